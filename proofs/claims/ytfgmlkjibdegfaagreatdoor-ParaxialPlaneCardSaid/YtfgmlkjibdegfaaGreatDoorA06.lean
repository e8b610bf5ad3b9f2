/- Contracts of package paraxial,and a verified evaluator. Part 6 of 28. No condition beside the row. -/
import Derived.WalkMore
import Derived.Outline
import Derived.Laws.Pointers
import Derived.Test.YtfgmlkjibdegfaaGreatDoorA03
import Derived.Test.YtfgmlkjibdegfaaGreatDoorA04
import Derived.Test.YtfgmlkjibdegfaaGreatDoorA05
set_option linter.unusedVariables false
set_option linter.unusedSimpArgs false
set_option maxRecDepth 100000
set_option maxHeartbeats 4000000
namespace Go.Mono
open Go.RowKit
section
theorem OwnF.lower {w:World} {base base':Nat} {v:Value} {n:Nat} {f:Nat->Int} (h:OwnF w base v n f) (hb:base'<=base):OwnF w base' v n f:=by
 obtain⟨hl,h|⟨g,cap,cur,hv,hb',hh,hr⟩⟩:=h
 ·exact⟨hl,.inl h⟩
 ·exact⟨hl,.inr ⟨g,cap,cur,hv,Yak hb hb',hh,hr⟩⟩
theorem Zea {P:Program} {w:World} {o:Oper} {a:Act} {K:Act->World->Prop} {Q:Exit->Act->World->Prop} (s x:Operand) (t:TypeId) (ho:o.op=.call {callee:=.builtin .append,args:=#[s,x],argTypes:=#[t,t]})
  (h1:P.underlying t=some (.slice 3)) (h2:(P.info? 3).map (λi=>(i.zero,i.size,i.bytes))=some (some (.int .i64 0),1,8))
  (base:Nat) (v:Value) (n:Nat) (f:Nat->Int) (hs:a.eval s=v) (hown:OwnF w base v n f) (B:Nat) (y:Int) (hx:a.eval x=.slice (some ⟨B,0,none⟩) 1 1) (hb:Box w B 3 #[.int .i64 y]) (hn:n<=1000000) (hbase:base<=w.heap.size)
  (h:∀v' w',OwnF w' base v' (n+1) (λi=>if i<n then f i else y)->w.grownBy w' v.ownBlock->K (a.put o.dst v') w'):o.wp P a w K Q:=by
 obtain⟨i,hi,hz,hs1,hb1⟩:=info_parts h2;refine wp_append_own w s x t ho base 3 i (.int .i64 0) 1 8 h1 hi hz hs1 hb1 rfl Zd v n _ hs hown ⟨B,0,none⟩ 1 1 [.int .i64 y] hx rfl ?_ (by simp[Value.oneCell']) (by simp[maxLen];omega) Zo hbase ?_
 ·intro j u hj
  match j,hj with
  | 0, hj =>
    have:=hb.cell 0;simp at hj;subst hj;simpa[Addr.add]using this
  | j+1,hj=>simp at hj
 ·intro v' w' h3 h4 _
  refine h v' w' ?_ h4;have e:(List.range n).map (λi=>Value.int .i64 (f i))++[.int .i64 y]=(List.range (n+1)).map λi=>.int .i64 (if i<n then f i else y):=by
   rw[Ydo,List.map_append];congr 1
   ·exact Yfy λi hi=>by rw[if_pos (Yeu.1 hi)]
   ·simp
  unfold OwnF;rw[<-e];exact h3
section
variable {P:Program} {ops:Array Oper} {Q:Exit->Act->World->Prop} {md:Region.Mode} {S:World->Prop}
theorem Zb4 (B:Nat) (T:TypeId) (i:Nat) {o:Oper} (hi:ops[i]? = some o) (hg:o.guard=none) (hd:o.dst=none) {ty:TypeId} {x y:Operand} (ho:o.op=.store ty x y) (off:Nat) (cells cs new:Array Value) {a:Act} {fuel:Nat} {listed:Array Bool} {w:World}
  (hr:Region.ready md ops listed=[i]) (hS:∀w i u,S w->S (w.setCell ⟨B,i,none⟩ u)) (hx:a.eval x=.pointer (some ⟨B,off,none⟩)) (hy:a.eval y=.agg cells)
  (hb:Box w B T cs) (hs:S w) (hi2:(P.info? ty).map (·.size)=some cells.size) (hoff:off+cells.size<=cs.size) (h1:cells.all (·.oneCell')=true)
  (hn:cs.toList.take off++cells.toList++cs.toList.drop (off+cells.size)=new.toList)
  (h:∀w',KeepBut B w.heap.size w w'->Box w' B T new->S w'->wpAnyH P md ops Q S fuel (listed.setIfInBounds i true) a w'):wpAnyH P md ops Q S (fuel+1) listed a w:=by
 refine wpAnyH_all hr Zs λj hj=>?_;obtain rfl:j=i:=by simpa using hj
 unfold wpOp;rw[hi];have hw:Region.wanted o (yielded ops a.tmps)=true:=by simp[Region.wanted,hg]
 simp only[hw,if_true];left
 have hb2:=Box.setCells cells.toList off w cs hb (by simpa using hoff);have hb3:Box (w.setCells B off cells.toList) B T new:=by simpa[hn]using hb2
 have hs2:=Zbr hS cells.toList off w hs;refine wp_store_mid ty x y ho B off cells hx hy (hb.there off cells.size hoff) hi2 h1 ?_;rw[hd];exact⟨hs2,h _ ((KeepBut.refl _ _).setCells _ _ _) hb3 hs2⟩
end
end
end Go.Mono
namespace Go.Proofs.W
open Go.RowKit Go.Mono
theorem Zoq (p q:Option Addr) (n m c1 c2:Nat) (f g:Nat->Int) (w:World) (h1:SlF w (.slice p n c1) n f) (h2:SlF w (.slice q m c2) m g) :
  Calls Tryz.prog 219 #[.slice p n c1,.slice q m c2] w λe w'=>e=.returned (.bool (decide (cmpV f n g m<0)))∧∃k,w'=w.drewN k:=by
 obtain⟨hc1,hn1,hx1⟩:=h1.opens;obtain⟨hc2,hn2,hx2⟩:=h2.opens;clear h1 h2;by_cases hnm:n=m
 ·subst hnm
  go_enter Tryz.func219,Tryz.ntmps219
  go_wp2
  go_loopw [5] (λa wr=>∃k:Nat,k<=n∧a=.int .i64 ((k:Int)-1)∧cmpDown f g k=cmpDown f g n∧∃j,wr=w.drewN j) (λa _=>(intOf a+1).toNat)
  case atStart=>exact⟨n,Yab _,rfl,rfl,0,rfl⟩
  case round=>
   obtain⟨k,hk,rfl,ht,j,rfl⟩:=hrel;have HT:=Yah ht;clear ht;by_cases h0:0<k
   ·obtain⟨b,off,rfl,hb,hcell⟩:=hx1 Zo
    obtain⟨b2,off2,rfl,hb2,hcell2⟩:=hx2 Zo;have a1:=hcell (k-1) Zo;have a2:=hcell2 (k-1) Zo;clear hcell hcell2 hx1 hx2;obtain⟨k,rfl⟩:∃j,k=j+1:=⟨k-1,Zo⟩
    simp only[Ybf]at a1 a2;rw[show((k+1:Nat):Int)-1=(k:Int) by omega];have HE:=Zhv f g (k+1) Zo;have HN:=Zhw f g (k+1) Zo;simp only[Ybf]at HE HN;replace HE:=Yah HE;replace HN:=Yah HN;by_cases hfg:f k=g k
    ·have hq:(f k != g k)=false:=by simpa using hfg
     have HF:=Yah hfg;clear hfg;go_wp2
     go_quiet (fail)
     go_wp2
     go_roundw
     case rel=>exact⟨k,Zo,rfl,by rw[<-HT.out,HE.out HF.out],_,rfl⟩
     case measure=>simp[intOf]
    ·have hq:(f k != g k)=true:=by simpa using hfg
     have HF:=Yah hfg;clear hfg;go_wp2
     go_quiet (fail)
     go_wp2
     go_quiet (fail)
     go_wp2
     go_ret
     exact⟨by rw[cmpV,if_pos rfl,<-HT.out,HN.out HF.out,show decide (f k-g k<0)=decide (f k<g k) from by rw[decide_eq_decide];omega];rfl,_,by rw[Ydc,Ydc]⟩
   ·obtain rfl:k=0:=by omega
    go_wp2
    go_ret
    exact⟨by rw[cmpV,if_pos rfl,<-HT.out];rfl,_,rfl⟩
 ·have hnm':((n:Int) != (m:Int))=true:=by simp;omega
  go_enter Tryz.func219,Tryz.ntmps219
  go_wp2
  go_ret
  refine⟨by rw[cmpV,if_neg hnm,show decide ((n:Int)-m<0)=decide (n<m) from by rw[decide_eq_decide];omega];rfl,0,rfl⟩
theorem Ze0 (p q:Option Addr) (n m c1 c2:Nat) (f g:Nat->Int) (w:World) (h1:SlF w (.slice p n c1) n f) (h2:SlF w (.slice q m c2) m g) (d1:Digs f n) (d2:Digs g m) :
  Calls Tryz.prog 219 #[.slice p n c1,.slice q m c2] w λe w'=>e=.returned (.bool (decide (vf f n<vf g m)))∧∃k,w'=w.drewN k:=by
 refine(Zoq p q n m c1 c2 f g w h1 h2).mono ?_;rintro e w' ⟨rfl,hk⟩;exact⟨by simp only[(Zjl d1 d2).1],hk⟩
theorem Zfl (p:Option Addr) (n c i:Nat) (f:Nat->Int) (w:World) (h:SlF w (.slice p n c) n f) :
  Calls Tryz.prog 213 #[.slice p n c,.int .i64 (i:Int)] w λe w'=>e=.returned (.int .i64 (xt f n i))∧w'=w:=by
 obtain⟨hc,hn,hx⟩:=h.opens;clear h;by_cases hin:i<n
 ·obtain⟨b,off,rfl,hb,hcell⟩:=hx Zo
  have a1:=hcell i hin;have hi':(i:Int)<n:=Zo;rw[Zol hin];clear hcell hx;go_enter Tryz.func213,Tryz.ntmps213
  go_wp2
  go_ret
  exact⟨rfl,rfl⟩
 ·have hi':¬(i:Int)<n:=by omega
  rw[Ztp Zo];clear hx;go_enter Tryz.func213,Tryz.ntmps213
  go_wp2
  go_ret
  exact⟨rfl,rfl⟩
end Go.Proofs.W
namespace Go.Mono
open Go.RowKit
section
structure Fa where
 i:Nat
 d:Tmp
 T:TypeId
 zs:Array Value
def setL:List (Fa×Option Nat)->Array Bool->Array Bool
 | [],l=>l
 | q :: r, l => match q.2 with
   | some _=>setL r (l.setIfInBounds q.1.i true)
   | none=>setL r l
def setA:List (Fa×Option Nat)->Act->Act
 | [],a=>a
 | q :: r, a => match q.2 with
   | some B=>setA r (a.put (some q.1.d) (.pointer (some ⟨B,0,none⟩)))
   | none=>setA r a
def cnt:List (Fa×Option Nat)->Nat
 | []=>0
 | q :: r => (match q.2 with
   | some _=>1
   | none=>0)+cnt r
def pend:List (Fa×Option Nat)->List Nat
 | []=>[]
 | q :: r => match q.2 with
   | some _=>pend r
   | none=>q.1.i::pend r
def okA (N:Nat) (w:World) (qs:List (Fa×Option Nat)):Prop:=
 (∀q∈qs,∀B,q.2=some B->N<=B∧Box w B q.1.T q.1.zs)∧qs.Pairwise λx y=>∀B,x.2=some B->y.2≠some B
def norm (q:Fa×Option Nat):Fa×Option Nat:=(q.1,q.2.map λ_=>0)
def allPats:List Fa->List (List (Fa×Option Nat))
 | []=>[[]]
 | f::r=>(allPats r).flatMap λqs=>[(f,none)::qs,(f,some 0)::qs]
theorem Zg1:∀qs:List (Fa×Option Nat),qs.map norm∈allPats (qs.map (·.1))
 | []=>by simp[allPats]
 | (f, o) :: r => by
   simp only[Ybz,allPats,List.mem_flatMap];refine⟨_,Zg1 r,?_⟩;cases o<;>simp[norm]
theorem Zdu:∀(qs:List (Fa×Option Nat)) (l:Array Bool),setL (qs.map norm) l=setL qs l
 | [],_=>rfl
 | (f,none)::r,l=>Zdu r l
 | (f,some _)::r,l=>Zdu r _
theorem Ze1:∀qs:List (Fa×Option Nat),pend (qs.map norm)=pend qs
 | []=>rfl
 | (f,none)::r=>congrArg (f.i::·) (Ze1 r)
 | (f,some _)::r=>Ze1 r
theorem Ztr (l:Array Bool) (i j:Nat):(l.setIfInBounds i true).setIfInBounds j true=(l.setIfInBounds j true).setIfInBounds i true:=by
 by_cases h:i=j
 ·subst h;rfl
 ·exact Array.setIfInBounds_comm _ _ h
theorem Ze2 (i:Nat):∀(qs:List (Fa×Option Nat)) (l:Array Bool),setL qs (l.setIfInBounds i true)=(setL qs l).setIfInBounds i true
 | [],_=>rfl
 | (f,none)::r,l=>Ze2 i r l
 | (f, some _) :: r, l => by
   show setL r ((l.setIfInBounds i true).setIfInBounds f.i true)=(setL r (l.setIfInBounds f.i true)).setIfInBounds i true;rw[Ztr,Ze2 i r]
theorem Ze3 (d:Tmp) (v:Value):∀(qs:List (Fa×Option Nat)) (a:Act),(∀q∈qs,q.1.d≠d)->setA qs (a.put (some d) v)=(setA qs a).put (some d) v
 | [],_,_=>rfl
 | (f,none)::r,a,h=>Ze3 d v r a λq hq=>h q (Ybs _ hq)
 | (f, some B) :: r, a, h => by
   show setA r ((a.put (some d) v).put (some f.d) _)=(setA r (a.put (some f.d) _)).put (some d) v;rw[Act.put_comm a v _ (by
    intro e he;cases he;intro hh;cases hh;exact h (f,some B) (Ycl ..) rfl),Ze3 d v r _ λq hq=>h q (Ybs _ hq)]
theorem Zgd:∀(p q:List (Fa×Option Nat)) (l:Array Bool),setL (p++q) l=setL q (setL p l)
 | [],_,_=>rfl
 | (f,none)::r,q,l=>Zgd r q l
 | (f,some _)::r,q,l=>Zgd r q _
theorem Zge:∀(p q:List (Fa×Option Nat)) (a:Act),setA (p++q) a=setA q (setA p a)
 | [],_,_=>rfl
 | (f,none)::r,q,a=>Zge r q a
 | (f,some _)::r,q,a=>Zge r q _
theorem Zi6:∀p q:List (Fa×Option Nat),cnt (p++q)=cnt p+cnt q
 | [],q=>by simp[cnt]
 | (f,o)::r,q=>by simp only[Ydi,cnt,Zi6 r q,Ybj]
theorem Zg2:∀p:List (Fa×Option Nat),cnt p<=p.length
 | []=>Yab _
 | (f,none)::r=>by have:=Zg2 r;simp only[cnt,Ybm];omega
 | (f,some _)::r=>by have:=Zg2 r;simp only[cnt,Ybm];omega
theorem Zdd {j:Nat}:∀qs:List (Fa×Option Nat),j∈pend qs->∃p f r,qs=p++(f,none)::r∧f.i=j
 | [],h=>by cases h
 | (f, none) :: r, h => by
   rcases Ycp.1 h with h|h
   ·exact⟨[],f,r,rfl,h.symm⟩
   ·obtain⟨p,g,s,rfl,hg⟩:=Zdd r h
    exact⟨(f,none)::p,g,s,rfl,hg⟩
 | (f, some B) :: r, h => by
   obtain⟨p,g,s,rfl,hg⟩:=Zdd r h;exact⟨(f,some B)::p,g,s,rfl,hg⟩
theorem Zur:∀(p:List (Fa×Option Nat)) (f:Fa) (r:List (Fa×Option Nat)),cnt (p++(f,none)::r)<(p++(f,none)::r).length:=λp f r=>by
 have h1:=Zg2 p;have h2:=Zg2 r;simp only[Zi6,cnt,Yay,Ybm];omega
theorem okA.below {N:Nat} {w w':World} {qs:List (Fa×Option Nat)} (h:okA N w qs) (hb:Below w.heap.size w w'):okA N w' qs:=
 ⟨λq hq B hB=>⟨(h.1 q hq B hB).1,(h.1 q hq B hB).2.below hb⟩,h.2⟩
theorem okA.fresh {N:Nat} {w:World} {p r:List (Fa×Option Nat)} {f:Fa} (h:okA N w (p++(f,none)::r)) (hN:N<=w.heap.size) :
  okA N (w.alloc (.cells f.zs f.T)) (p++(f,some w.heap.size)::r):=by
 have lt:∀q,q∈p∨q∈r->q.2≠some w.heap.size:=λq hq he=>by
  have hq':q∈p++(f,none)::r:=by rcases hq with hq|hq<;>simp[hq]
  exact Yfw _ (h.1 q hq' _ he).2.lt
 constructor
 ·intro q hq B hB
  rw[Ycn,Ycp]at hq;rcases hq with hq|rfl|hq
  ·have:=h.1 q (by simp[hq]) B hB
   exact⟨this.1,this.2.alloc _⟩
  ·cases hB
   exact⟨hN,Box.new _ _ _⟩
  ·have:=h.1 q (by simp[hq]) B hB
   exact⟨this.1,this.2.alloc _⟩
 ·have h2:=h.2
  rw[List.pairwise_append,List.pairwise_cons]at h2 ⊢;refine⟨h2.1,⟨λq hq B hB=>?_,h2.2.1.2⟩,λx hx y hy=>?_⟩
  ·cases hB
   exact lt q (.inr hq)
  ·rcases Ycp.1 hy with rfl|hy
   ·intro B hB hh
    cases hh;exact lt x (.inl hx) hB
   ·exact h2.2.2 x hx y (Ybs _ hy)
section
variable {P:Program} {ops:Array Oper} {Q:Exit->Act->World->Prop} {md:Region.Mode} {S:World->Prop}
structure FaOk (P:Program) (ops:Array Oper) (f:Fa):Prop where
 op:∃o,ops[f.i]? = some o∧o.guard=none∧o.op=.alloc f.T∧o.dst=some f.d
 run:∀w,(Instr.alloc f.T true (.tuple #[])).run P w=.ok (.pointer (some ⟨w.heap.size,0,none⟩)) (w.alloc (.cells f.zs f.T))
def FaAll (P:Program) (ops:Array Oper) (ps:List Fa):Prop:=(∀f∈ps,FaOk P ops f)∧(ps.map (·.d)).Nodup
def Fl (P:Program) (md:Region.Mode) (ops:Array Oper) (Q:Exit->Act->World->Prop) (S:World->Prop) (N:Nat) (ps:List Fa) (F:Nat) (listed:Array Bool) (a:Act) (V:World):Prop:=
 ∀qs w,qs.map (·.1)=ps->Below V.heap.size V w->S w->okA N w qs->wpAnyH P md ops Q S (F-cnt qs) (setL qs listed) (setA qs a) w
def blind (ops:Array Oper) (ps:List Fa) (o:Oper):Bool:=ps.all λf=>!(o.looksAt ops).contains f.d
theorem Ze4 (hs:Region.noSelect ops=true) {i:Nat} {o:Oper} (hi:ops[i]? = some o):∀(qs:List (Fa×Option Nat)) (a:Act),blind ops (qs.map (·.1)) o=true->
  execOp (setA qs a).eval o=execOp a.eval o∧Region.wanted o (yielded ops (setA qs a).tmps)=Region.wanted o (yielded ops a.tmps)
 | [],_,_=>⟨rfl,rfl⟩
 | (f, none) :: r, a, h => Ze4 hs hi r a (by
   simp only[blind,Ybz,List.all_cons,Yam]at h ⊢;exact h.2)
 | (f, some B) :: r, a, h => by
   simp only[blind,Ybz,List.all_cons,Yam]at h;have ih:=Ze4 hs hi r (a.put (some f.d) (.pointer (some ⟨B,0,none⟩))) h.2;have hd:∀d,some f.d=some d->d ∉ o.looksAt ops:=λd hd=>by
    cases hd;simpa using h.1
   exact⟨ih.1.trans (execOp_put o (Region.noSelect_spec hs i o · · hi) a _ _ hd),ih.2.trans (wanted_put o a _ _ hd)⟩
def shapeAt (md:Region.Mode) (ops:Array Oper) (ps:List Fa) (listed:Array Bool) (i:Nat):Bool:=
 (allPats ps).all λqs=>(Region.ready md ops (setL qs listed)).contains i&&(Region.ready md ops (setL qs listed)).all λj=>j==i || (pend qs).contains j
def shapeEnd (md:Region.Mode) (ops:Array Oper) (ps:List Fa) (listed:Array Bool):Bool:=
 (allPats ps).all λqs=>(pend qs).isEmpty || ((!(Region.ready md ops (setL qs listed)).isEmpty)&&(Region.ready md ops (setL qs listed)).all λj=>(pend qs).contains j)
def freeAt (md:Region.Mode) (ops:Array Oper) (ps:List Fa) (listed:Array Bool) (i:Nat):Bool:=
 (allPats ps).all λqs=>(Region.ready md ops (setL qs listed)).contains i&&Region.free md ops (setL qs listed) i
theorem Fl.alloc {ps:List Fa} {k:Nat} {listed:Array Bool} {a:Act} {w:World} (hfa:FaAll P ops ps) {p:List (Fa×Option Nat)} {f:Fa} {r:List (Fa×Option Nat)} (hq:(p++(f,none)::r).map (·.1)=ps)
  (h:wpAnyH P md ops Q S k (setL (p++(f,some w.heap.size)::r) listed) (setA (p++(f,some w.heap.size)::r) a) (w.alloc (.cells f.zs f.T)))
  (hS:S (w.alloc (.cells f.zs f.T))) :
  wpOp P ops Q f.i (λa' w'=>S w'∧wpAnyH P md ops Q S k ((setL (p++(f,none)::r) listed).setIfInBounds f.i true) a' w') (setA (p++(f,none)::r) a) w:=by
 have hmem:f∈ps:=by rw[<-hq];simp
 obtain⟨⟨o,ho,hg,hop,hd⟩,hrun⟩:=hfa.1 f hmem;unfold wpOp;simp only[ho];have hw:Region.wanted o (yielded ops (setA (p++(f,none)::r) a).tmps)=true:=by simp[Region.wanted,hg]
 rw[if_pos hw];left
 unfold Oper.wp execOp;simp only[hop,Yar,hrun,Yag,Yau,Oper.upon_value,hd];refine⟨hS,?_⟩;have hnd:=hfa.2;rw[<-hq]at hnd;simp only[List.map_append,Ybz,List.nodup_append,List.nodup_cons]at hnd;have hr:∀q∈r,q.1.d≠f.d:=λq hq' he=>hnd.2.1.1 (by
  rw[<-he];exact Yed (Yed hq'))
 have e1:(setL (p++(f,none)::r) listed).setIfInBounds f.i true=setL (p++(f,some w.heap.size)::r) listed:=by
  rw[Zgd,Zgd];show(setL r (setL p listed)).setIfInBounds f.i true=setL r ((setL p listed).setIfInBounds f.i true);rw[Ze2]
 have e2:(setA (p++(f,none)::r) a).put (some f.d) (.pointer (some ⟨w.heap.size,0,none⟩))=setA (p++(f,some w.heap.size)::r) a:=by
  rw[Zge,Zge];show(setA r (setA p a)).put (some f.d) _=setA r ((setA p a).put (some f.d) _);rw[Ze3 _ _ r _ hr]
 rw[e1,e2];exact h
theorem Fl.start {F:Nat} {listed:Array Bool} {a:Act} {V:World} (ps:List Fa) (h:Fl P md ops Q S V.heap.size ps F listed a V) (hS:S V:=by assumption):wpAnyH P md ops Q S F listed a V:=by
 have hl:∀ps:List Fa,(setL (ps.map λf=>(f,none)) listed=listed∧setA (ps.map λf=>(f,none)) a=a∧cnt (ps.map λf=>(f,none))=0):=by
  intro ps;induction ps with
  | nil=>exact⟨rfl,rfl,rfl⟩
  | cons f r ih=>exact⟨ih.1,ih.2.1,by simp only[Ybz,cnt,ih.2.2]⟩
 have:=h (ps.map λf=>(f,none)) V (by rw[List.map_map];exact List.map_id _) (Yae _ _) hS ⟨λq hq B hB=>(by
  obtain⟨f,_,rfl⟩:=Ydl.1 hq;cases hB),(by
  rw[List.pairwise_map];exact List.pairwise_of_forall λ_ _ B hB=>nomatch hB)⟩
 rw[(hl ps).1,(hl ps).2.1,(hl ps).2.2]at this;exact this
theorem Zrd {ps:List Fa} {g:List (Fa×Option Nat)->Bool} (h:(allPats ps).all g=true) {qs:List (Fa×Option Nat)} (hq:qs.map (·.1)=ps):g (qs.map norm)=true:=by
 have:=Zg1 qs;rw[hq]at this;exact Ybn.1 h _ this
theorem Fl.call (i:Nat) (d:Tmp) {o:Oper} {f:FuncId} {args:Array Value} {R:World->Ending->World->Prop} {N F:Nat} {ps:List Fa} {listed:Array Bool} {a:Act} {V:World}
  (hC:∀w,Below V.heap.size V w->Calls P f args w (R w))
  (h:∀w,Below V.heap.size V w->S w->∀e w',R w e w'->match e with
   | .returned v=>Below w.heap.size w w'∧Fl P md ops Q S N ps F (listed.setIfInBounds i true) (a.put (some d) v) w'
   | _=>False)
  (hfa:FaAll P ops ps:=by assumption) (hSt:∀w w',S w->Below w.heap.size w w'->S w':=by first|exact(λw w' h k=>Za3 (Zaa (Yai h) k))|exact(λw w' h k=>KeepBut.S (KeepBut.call (Yai h) k))|exact(λw w' h k=>Zaa h k)) (hN:N<=V.heap.size:=by assumption)
  (ho:ops[i]? = some o:=by rfl) (hd:o.dst=some d:=by rfl) (hs:Region.noSelect ops=true:=by as_aux_lemma=>kernel_rfl)
  (hsh:shapeAt md ops ps listed i=true:=by as_aux_lemma=>kernel_rfl) (hbl:blind ops ps o=true:=by as_aux_lemma=>kernel_rfl) (hnd:(ps.map (·.d)).contains d=false:=by as_aux_lemma=>kernel_rfl) (hF:Nat.ble ps.length F=true:=by rfl)
  (hw:Region.wanted o (yielded ops a.tmps)=true:=by as_aux_lemma=>kernel_rfl)
  (hx:∀w,(execOp a.eval o).run P w=.ok (.enter f args) w:=by as_aux_lemma=>(intro _;kernel_rfl)):Fl P md ops Q S N ps (F+1) listed a V:=by
 have hF':=Yaa hF;have main:∀n qs w,qs.length-cnt qs=n->qs.map (·.1)=ps->Below V.heap.size V w->S w->okA N w qs->wpAnyH P md ops Q S (F+1-cnt qs) (setL qs listed) (setA qs a) w:=by
  intro n;induction n with
  | zero=>?_
  | succ n ih=>?_
  all_goals
   intro qs w hn hq hV hS hok;have hlen:qs.length=ps.length:=by rw[<-hq,Ybt]
   have hc:=Zg2 qs;have hsp:=Zrd hsh hq;simp only[Zdu,Ze1,Yam,Ybn,Ybo,beq_iff_eq,List.contains_iff_mem]at hsp;rw[show F+1-cnt qs=(F-cnt qs)+1 by omega];refine⟨λh0=>(by rw[h0]at hsp;exact absurd hsp.1 Zs),λj hj=>?_⟩;rcases hsp.2 j hj with rfl|hp
   ·have hb:=Ze4 hs ho qs a (by rw[hq];exact hbl)
    unfold wpOp;simp only[ho];rw[if_pos (hb.2.trans hw)];left
    unfold Oper.wp;rw[hb.1,hx w,Oper.upon_enter];refine(hC w hV).mono ?_;intro e w' hR;have:=h w hV hS e w' hR;cases e with
    | returned v =>
      have hS':=hSt w w' hS this.1;have k:=this.2 qs w' hq (Yae _ _) hS' (hok.below this.1);rw[Ze2,Ze3 d v qs a (by
       intro q hq' he;have:d∈ps.map (·.d):=by
        rw[<-hq,<-he];exact Yed (Yed hq')
       simp[this]at hnd)]at k
      rw[hd];exact⟨hS',k⟩
    | _=>exact this.elim
   ·obtain⟨p,g,r,rfl,rfl⟩:=Zdd qs hp
    have hlt:=Zur p g r;first
     | (exfalso;omega)
     | refine Fl.alloc hfa hq ?_ (hSt _ _ hS ((Yae _ _).alloc (Yab _) _))
       have hcn:cnt (p++(g,some w.heap.size)::r)=cnt (p++(g,none)::r)+1:=by simp only[Zi6,cnt];omega
       have hl2:(p++(g,some w.heap.size)::r).length=(p++(g,none)::r).length:=Zs;have:=ih (p++(g,some w.heap.size)::r) (w.alloc (.cells g.zs g.T)) Zo (by rw[<-hq];simp) (Zad hV _) (hSt _ _ hS ((Yae _ _).alloc (Yab _) _)) (hok.fresh (Yak hN hV.size));rw[hcn]at this;rw[show F-cnt (p++(g,none)::r)=F+1-(cnt (p++(g,none)::r)+1) by omega];exact this
 exact λqs w=>main _ qs w rfl
theorem Fl.take (i:Nat) (d:Tmp) {o:Oper} {v:Value} {N F:Nat} {ps:List Fa} {listed:Array Bool} {a a':Act} {V:World}
  (h:Fl P md ops Q S N ps F (listed.setIfInBounds i true) a' V)
  (ho:ops[i]? = some o:=by rfl) (hd:o.dst=some d:=by rfl) (hs:Region.noSelect ops=true:=by as_aux_lemma=>kernel_rfl)
  (hfr:freeAt md ops ps listed i=true:=by as_aux_lemma=>kernel_rfl) (hbl:blind ops ps o=true:=by as_aux_lemma=>kernel_rfl) (hnd:(ps.map (·.d)).contains d=false:=by as_aux_lemma=>kernel_rfl) (hF:Nat.ble ps.length F=true:=by rfl)
  (hw:Region.wanted o (yielded ops a.tmps)=true:=by as_aux_lemma=>kernel_rfl)
  (hv:∀w,S w->(execOp a.eval o).run P w=.ok (.value v) w:=by(intro w hSw;(try dsimp only at hSw);go_simp;all_goals with_reducible rfl))
  (hQ:∀c a w,Q (.panic c) (a.put (some d) v) w->Q (.panic c) a w:=by exact(λ_ _ _ h=>h))
  (ha:a.put (some d) v=a':=by(simp only[Act.put,Zsi,Zs0,Zss];rfl)):Fl P md ops Q S N ps (F+1) listed a V:=by
 subst ha;intro qs w hq hV hS hok;have hF':=Yaa hF;have hlen:qs.length=ps.length:=by rw[<-hq,Ybt]
 have hc:=Zg2 qs;have hsp:=Zrd hfr hq;simp only[Zdu,Yam]at hsp;have hb:=Ze4 hs ho qs a (by rw[hq];exact hbl);have k:=h qs w hq hV hS hok;rw[Ze2,Ze3 d v qs a (by
  intro q hq' he;have:d∈ps.map (·.d):=by
   rw[<-hq,<-he];exact Yed (Yed hq')
  simp[this]at hnd)]at k
 rw[show F+1-cnt qs=(F-cnt qs)+1 by omega];refine wpAnyH_take ho hs hsp.2 hsp.1 (by rw[hd];exact hQ) (Or.inl ⟨hb.2.trans hw,λw' hS'=>?_⟩) hS (by rw[hd];exact k);rw[hb.1];exact hv w' hS'
theorem Fl.close {N F:Nat} {ps:List Fa} {listed:Array Bool} {a:Act} {V:World}
  (h:∀qs w,qs.map (·.1)=ps->pend qs=[]->Below V.heap.size V w->S w->okA N w qs->wpAnyH P md ops Q S (F-cnt qs) (setL qs listed) (setA qs a) w)
  (hfa:FaAll P ops ps) (hSt:∀w w',S w->Below w.heap.size w w'->S w') (hN:N<=V.heap.size)
  (hsh:shapeEnd md ops ps listed=true) (hF:Nat.ble ps.length F=true):Fl P md ops Q S N ps F listed a V:=by
 have hF':=Yaa hF;have main:∀n qs w,qs.length-cnt qs=n->qs.map (·.1)=ps->Below V.heap.size V w->S w->okA N w qs->wpAnyH P md ops Q S (F-cnt qs) (setL qs listed) (setA qs a) w:=by
  intro n;induction n with
  | zero=>?_
  | succ n ih=>?_
  all_goals
   intro qs w hn hq hV hS hok;by_cases hp0:pend qs=[]
   ·exact h qs w hq hp0 hV hS hok
   have hlen:qs.length=ps.length:=by rw[<-hq,Ybt]
   have hc:=Zg2 qs;have hsp:=Zrd hsh hq;simp only[Zdu,Ze1,Ybo,Yam,Ybn,List.contains_iff_mem,List.isEmpty_iff,hp0,false_or,Ydz,List.isEmpty_eq_false_iff]at hsp;obtain⟨j0,hj0⟩:=List.exists_mem_of_ne_nil _ hp0;obtain⟨p0,g0,r0,rfl,_⟩:=Zdd qs hj0;have hlt:=Zur p0 g0 r0;rw[show F-cnt (p0++(g0,none)::r0)=(F-cnt (p0++(g0,none)::r0)-1)+1 by omega];refine⟨λh0=>absurd h0 hsp.1,λj hj=>?_⟩;obtain⟨p,g,r,he,rfl⟩:=Zdd _ (hsp.2 j hj);first
    | (exfalso;omega)
    | rw [he] at hq hok hn hc hlt ⊢
      refine Fl.alloc hfa hq ?_ (hSt _ _ hS ((Yae _ _).alloc (Yab _) _));have hcn:cnt (p++(g,some w.heap.size)::r)=cnt (p++(g,none)::r)+1:=by simp only[Zi6,cnt];omega
      have hl2:(p++(g,some w.heap.size)::r).length=(p++(g,none)::r).length:=Zs;have:=ih (p++(g,some w.heap.size)::r) (w.alloc (.cells g.zs g.T)) Zo (by rw[<-hq];simp) (Zad hV _) (hSt _ _ hS ((Yae _ _).alloc (Yab _) _)) (hok.fresh (Yak hN hV.size));rw[hcn]at this;rw[show F-cnt (p++(g,none)::r)-1=F-(cnt (p++(g,none)::r)+1) by omega];exact this
 exact λqs w=>main _ qs w rfl
end
end
section
section
variable {P:Program} {ops:Array Oper} {Q:Exit->Act->World->Prop} {md:Region.Mode} {S:World->Prop}
theorem FaOk.of {i:Nat} {d:Tmp} {T:TypeId} {zs:Array Value} (run:∀w,(Instr.alloc T true (.tuple #[])).run P w=.ok (.pointer (some ⟨w.heap.size,0,none⟩)) (w.alloc (.cells zs T)))
  (op:∃o,ops[i]? = some o∧o.guard=none∧o.op=.alloc T∧o.dst=some d:=by exact⟨_,rfl,rfl,rfl,rfl⟩):FaOk P ops ⟨i,d,T,zs⟩:=⟨op,run⟩
theorem FaAll.nil:FaAll P ops []:=⟨λ_ h=>(nomatch h),List.nodup_nil⟩
theorem FaAll.cons {f:Fa} {ps:List Fa} (h:FaOk P ops f) (k:FaAll P ops ps) (hn:(ps.map (·.d)).contains f.d=false:=by rfl):FaAll P ops (f::ps):=
 ⟨λg hg=>(Ycp.1 hg).elim (λe=>e▸h) (λhg=>k.1 g hg),(by
  rw[Ybz,List.nodup_cons];exact⟨λhm=>(by simp[hm]at hn),k.2⟩)⟩
theorem Fl.open {F:Nat} {listed:Array Bool} {a:Act} {V:World} (ps:List Fa) (hfa:FaAll P ops ps) (h:FaAll P ops ps->Fl P md ops Q S V.heap.size ps F listed a V) (hS:S V:=by assumption):wpAnyH P md ops Q S F listed a V:=
 Fl.start ps (h hfa) hS
theorem Fl.pt {N F:Nat} {ps:List Fa} {listed:Array Bool} {a a':Act} {V:World} (h:Fl P md ops Q S N ps F listed a' V) (ha:a=a':=by(simp only[Act.put,Zsi,Zs0,Zss];rfl)):Fl P md ops Q S N ps F listed a V:=by
 subst ha;exact h
section
variable {N F:Nat} {listed:Array Bool} {a:Act} {V:World} {i1 i2 i3 i4:Nat} {d1 d2 d3 d4:Tmp} {T1 T2 T3 T4:TypeId} {z1 z2 z3 z4:Array Value}
theorem Fl.close1 (h:∀B1 w,Below V.heap.size V w->S w->N<=B1->Box w B1 T1 z1->wpAnyH P md ops Q S F (listed.setIfInBounds i1 true) (a.put (some d1) (.pointer (some ⟨B1,0,none⟩))) w)
  (hfa:FaAll P ops [⟨i1,d1,T1,z1⟩]:=by assumption) (hSt:∀w w',S w->Below w.heap.size w w'->S w':=by first|exact(λw w' h k=>Za3 (Zaa (Yai h) k))|exact(λw w' h k=>KeepBut.S (KeepBut.call (Yai h) k))|exact(λw w' h k=>Zaa h k)) (hN:N<=V.heap.size:=by assumption)
  (hsh:shapeEnd md ops [⟨i1,d1,T1,z1⟩] listed=true:=by as_aux_lemma=>kernel_rfl):Fl P md ops Q S N [⟨i1,d1,T1,z1⟩] (F+1) listed a V:=by
 refine Fl.close (λqs w hq hp hV hS hok=>?_) hfa hSt hN hsh (Nat.ble_eq_true_of_le Zs);match qs,hq with
 | [(_, o1)], hq =>
   cases hq;cases o1 with
   | none=>cases hp
   | some B1 =>
     have b1:=hok.1 _ (Ycl ..) _ rfl;exact h B1 w hV hS b1.1 b1.2
end
end
end
end Go.Mono
namespace Go.Proofs.W
open Go.RowKit Go.Mono
theorem Zdw {w w1 w2:World} (h:Below w.heap.size w w1) (k:Below w1.heap.size w1 w2):Below w.heap.size w w2:=h.trans (k.mono h.size)
theorem Zw0 (p:Option Addr) (n c1:Nat) (f:Nat->Int) (d:Int) (w w0:World) (h1:SlF w0 (.slice p n c1) n f) (hx:Below w0.heap.size w0 w)
  (d1:Digs f n) (hn:n<=1000000) (d0:0<=d) (d1':d<1000000000) :
  Calls Tryz.prog 189 #[.slice p n c1,.int .i64 d] w λe w'=>∃r h,e=.returned (.slice (some ⟨r,0,none⟩) (n+1) (n+1))∧w.heap.size<=r∧Below w.heap.size w w'∧
   RowF w' r (n+1) h∧(∀j,j<n+1->0<=h j)∧(∀j,j<n+1->h j<1000000000)∧vf h (n+1)=vf f n*d:=by
 refine(Zwz p n c1 f d w (h1.ext (.of_below hx)) d1.lo d1.hi hn d0 d1').mono ?_;rintro e w' ⟨rfl,hb,h,hr,h0,h1,hv⟩;exact⟨_,h,rfl,Yab _,hb,hr,h0,h1,hv⟩
theorem Zpr (p q:Option Addr) (n m c1 c2:Nat) (f g:Nat->Int) (w:World) (h1:SlF w (.slice p n c1) n f) (h2:SlF w (.slice q (m+2) c2) (m+2) g) (d1:Digs f n) (d2:Digs g (m+2))
  (hn:n<=1000000) (hle:vf g (m+2)<=vf f n) :
  Calls Tryz.prog 162 #[.slice p n c1,.slice q (m+2) c2] w λe w'=>∃p1 k1 c1 p2 k2 c2,e=.returned (.tuple #[.slice p1 k1 c1,.slice p2 k2 c2])∧Sz n w' (.slice p1 k1 c1) (vf f n/vf g (m+2))∧Sz (m+2) w' (.slice p2 k2 c2) (vf f n%vf g (m+2))∧Below w.heap.size w w':=by
 have hc:=Zjm n (m+2) w w (Ext.refl _) p q n (m+2) c1 c2 _ _ ⟨n,f,h1,d1,rfl,Yab _⟩ ⟨m+2,g,h2,d2,rfl,Yab _⟩;have hmn:=d2.len_le d1 hle;obtain⟨_,_,hx2⟩:=h2.opens;obtain⟨b,off,rfl,hb2,hcell⟩:=hx2 Zo;have a1:=hcell (m+1) Zo;have t0:=d2.lo (m+1) Zo;have t1:=d2.hi (m+1) Zo;have t2:=d2.top Zo;rw[show m+2-1=m+1 by omega]at t2;have t3:0<g (m+1):=Zo;have t4:¬g (m+1)+1=0:=Zo;obtain⟨F0,F1,F2⟩:=Zpo t3 t1;clear hcell hx2 t2;go_enter Tryz.func162,Tryz.ntmps162
 go_wp2_with (go_at_call 145;refine hc.mono ?_;rintro e w' ⟨c,⟨rfl,k,rfl⟩,hc1,hc2⟩;have hc0:¬c<0:=λh=>by have:=hc1.1 h;omega)
 clear hc t0 t1 t3 t4 a1;have x0:Below w.heap.size w (w.drewN k):=below_drewN (Yae _ _) k;generalize w.drewN k=W at x0 ⊢;replace x0:=x0.drew;generalize hF:1000000000/(g (m+1)+1)=F at F0 F1 F2 ⊢;clear hF;have i1:(0:Int)<=(m:Int)+2:=Zo;have i2:(m:Int)+2<=((m+2+1:Nat):Int):=Zo;have i3:((m:Int)+2).toNat=m+2:=Zo;have i4:(m:Int)+2<=(m:Int)+2+1:=Zo;go_region_held3 (λw'=>Below w.heap.size w w') (first|assumption|exact x0|exact Zdw ‹Below w.heap.size w _› ‹_›) (first
  | (go_at_call 189;(with_reducible refine(Zw0 p n c1 f F _ w h1 ‹_› d1 hn Zo F1).mono ?_);rintro e w1 ⟨r,hu,rfl,hr1,hb1,hru,u0,u1,uv⟩)
  | (go_at_call 189;(with_reducible refine(Zw0 _ (m+2) c2 g F _ w h2 ‹_› d2 Zo Zo F1).mono ?_);rintro e w2 ⟨s,hv,rfl,hs1,hb2,hrv,v0,v1,vv⟩))
 obtain⟨Q,rfl⟩:∃Q,n=Q+(m+1):=⟨n-(m+1),Zo⟩
 have hQ0:0<Q:=Zo;have hst:=Zsr rfl d1 d2 F0;obtain⟨V1,V2⟩:=Zxk (m:=m) (v:=hv) (G:=vf g (m+2)*F) v0 v1 vv (by
  have a2:=d2.ge Zo;rw[show m+2-1=m+1 by omega]at a2;have:=mle (show 1<=F from F0) d2.nonneg;have:F*vf g (m+2)=vf g (m+2)*F:=Ydh _ _;omega) (Zpp (m:=m+1) d2.hi F0 F2)
 have hsr:r<w1.heap.size:=hru.lt;have hwr:w.heap.size<=r:=Yak x0.size hr1;have hss:s<w2.heap.size:=hrv.lt;have ru2:=hru.below hb2;have hB2:Below w.heap.size w w2:=by assumption
 clear hle d1 d2 h1 h2 F2 hb1 hb2 i1 i2 i3 i4 x0 vv hru;go_wp2_with (at_make;refine Za5 _ rfl _ _ 131 rfl Tryz.underlying131 Zbz _ _ Q rfl rfl Zo Zo Zo ?_;intro w3 r3 b3;have s3:=b3.size;have L3:=r3.lt)
 have ru3:=ru2.below b3;have rv3:=hrv.below b3;have hts:w.heap.size<=w2.heap.size:=hB2.size;have hB3:=Zdw hB2 b3;generalize w2.heap.size=t at r3 hss hts L3 hB2 ⊢;have hrs:r<s:=Zo;clear b3 s3 ru2 hrv;have HO:=OverInv.start (m:=m) (Q:=Q) (R:=Q+(m+1)+1) (A:=vf f (Q+(m+1))*F) (g:=hv) (M:=vf g (m+2)*F) Zo u0 u1 uv hst V1;clear u0 u1 uv hst;have hVp:=Zb7 (f:=hv) (k:=m+2) λi hi=>v1 i Zo;go_loopw [12] (λa wr=>∃i:Nat,i<=Q∧a=.int .i64 ((i:Int)-1)∧Below w.heap.size w wr∧∃h q,RowF wr r (Q+(m+1)+1) h∧RowF wr s (m+2+1) hv∧RowF wr t Q q∧OverInv m Q (Q+(m+1)+1) (vf f (Q+(m+1))*F) hv i h q) (λa _=>(intOf a+1).toNat)
 case atStart=>exact⟨Q,Yab _,rfl,hB3,hu,_,ru3,rv3,r3,HO⟩
 case round=>
  clear ru3 rv3 r3 HO;obtain⟨i,hi,rfl,hB,h,q,ru,rv,rq,HO⟩:=hrel;by_cases hlt:0<i
  ·obtain⟨j,rfl⟩:∃j,i=j+1:=⟨i-1,Zo⟩
   rw[show((j+1:Nat):Int)-1=(j:Int) by omega];have a1:=ru.cell (j+(m+2)) Zo;have a2:=ru.cell (j+(m+1)) Zo;have a3:=ru.cell (j+m) Zo;have a4:=rv.cell (m+1) Zo;have a5:=rv.cell m Zo;have E:=Est.mk' (m:=m) (g:=hv) (u:=win h j) (λi hi=>v0 i Zo) (λi hi=>v1 i Zo) (λi hi=>HO.lo _ Zo) (λi hi=>HO.hi _ Zo) V2 (HO.U_lt Zo);have e1:=E.u10;have e2:=E.u11;have e3:=E.u20;have e4:=E.u2_le;have e5:=E.v10;have e6:=E.v11;have e7:=E.u00;have e8:=E.u01;have e9:=E.v20;have e10:=E.v21;simp only[win]at e1 e2 e3 e4 e7 e8;have n1:((j:Int)+((m:Int)+2)).toNat=j+(m+2):=Zo;have n2:((j:Int)+((m:Int)+2)-1).toNat=j+(m+1):=Zo;have n3:((m:Int)+2-1).toNat=m+1:=Zo;have n4:((m:Int)+2-2).toNat=m:=Zo;have n5:((j:Int)+((m:Int)+2)-2).toNat=j+m:=Zo;have l1:(j:Int)+((m:Int)+2)<((Q+(m+1)+1:Nat):Int):=Zo;have l2:(j:Int)+((m:Int)+2)-1<((Q+(m+1)+1:Nat):Int):=Zo;have l3:(j:Int)+((m:Int)+2)-2<((Q+(m+1)+1:Nat):Int):=Zo;have l4:(0:Int)<=(j:Int)+((m:Int)+2)-1:=Zo;have l5:(0:Int)<=(j:Int)+((m:Int)+2)-2:=Zo;clear hc0 hc1 hc2 F0 F1 hQ0 hr1 hs1 hsr hB2 hB3;go_wp2
   go_step3
   go_wp2
   go_quiet (fail)
   go_wp2
   go_quiet (fail)
   go_wp2
   go_step3
   have hI:=E.init;have hr1:(h (j+(m+2))*1000000000+h (j+(m+1)))%hv (m+1)<1000000000:=by have:=Ybu (h (j+(m+2))*1000000000+h (j+(m+1))) e5;omega
   go_wp2_with fail
   go_loopw [14,15] (λa b W=>∃d rest,a=.int .i64 d∧b=.int .i64 rest∧EstInv (vf hv (m+2)) (vf (win h j) (m+3)) (hv (m+1)) (h (j+(m+2))*1000000000+h (j+(m+1))) d rest∧rest<1000000000∧∃k,W=wr.drewN k) (λa _ _=>(intOf a).toNat)
   case atStart=>exact⟨_,_,rfl,rfl,hI,hr1,by first|exact⟨_,rfl⟩|exact⟨_,Ydc _ _ _⟩⟩
   case round=>
    clear hI hr1;obtain⟨d,rest,rfl,rfl,hI,hrest,k',rfl⟩:=hrel;have d0:=hI.d0;have d1:=hI.d1;have r0:=hI.r0;have p1:0<=d*hv m:=Ycg d0 e9;have p2:d*hv m<=1999999998000000001:=by have:=mle (show d<=1999999999 by omega) e9;omega
    by_cases hge:1000000000<=d
    ·have HS:=E.step hI (.inl hge)
     by_cases hb:1000000000<=rest+hv (m+1)
     ·obtain⟨hD1,hD2⟩:=E.brk HS hb
      have hDlt:=E.done HS hD1 hD2;have hD:=HS;clear HS hD2;go_wp2_with fail
      go_quiet (fail)
      have hDbig:=hD.big;have hD0:=hD.d0;have l6:j+(m+2)+1-j=m+2+1:=Zo;have l7:(0:Int)<=(j:Int)+((m:Int)+2)+1:=Zo;have l8:((j:Int)+((m:Int)+2)+1).toNat=j+(m+2)+1:=Zo;have l9:(j:Int)+((m:Int)+2)+1<=((Q+(m+1)+1:Nat):Int):=Zo;have l10:(j:Int)<=(j:Int)+((m:Int)+2)+1:=Zo;have cq:=rq.cell j Zo;have cf:=rq.frozen j;have HOlo:=HO.lo;have HOhi:=HO.hi;have VW0:0<vf hv (m+2):=E.V_pos;replace hDbig:=Yah hDbig;replace hDlt:=Yah hDlt;clear hD hI;go_wp2_with (go_at_call 190;refine(Zif r j (m+2) (Q+(m+1)+1) _ s _ h hv (d-1) _ (ru.drewN _) ((rv.drewN _).le (m+2) Zo) Zo Zo Zo HOlo HOhi (λi hi=>v0 i Zo) (λi hi=>v1 i Zo) hD0 hD1).mono ?_;intro e w' hpost;obtain⟨bb,h',rfl,ru1,lo1,hi1,ho1,hw1,hO1⟩:=hpost;have rq1:=hO1.row (rq.drewN _) (Zo);have rv1:=hO1.row (rv.drewN _) (Zo);have cq1:=rq1.cell j (Zo);have cf1:=rq1.frozen j;replace hw1:=Yah hw1;replace ho1:=Yah ho1;cases bb)
      ·rw[Yei]
       go_wp2
       go_roundw
       case rel=>
        have W0:=Zar (f:=win h' j) (k:=m+2+1) λi hi=>lo1 _ Zo;have W1:=Zb7 (f:=win h' j) (k:=m+2+1) λi hi=>hi1 _ Zo;have hw:=hw1.out;simp only[Ybq,if_false,Yec,Yda]at hw;obtain⟨P0,P1,P2⟩:=Zco (n:=m+2) (U:=vf (win h j) (m+3)) (d:=d-1) (W:=vf (win h' j) (m+3)) (o:=0) (t:=0) VW0 (Yap hVp) hDbig.out hDlt.out (.inl rfl) (by rw[Yec,Yda,<-hw];exact W0) (by rw[Yec,Yda,<-hw];exact W1) (λ_=>hw) (λh=>Zo) W0 W1;rw[Int.sub_zero]at P2;obtain⟨S0,S1,S2⟩:=HO.step Zo Zo (Yap hVp) lo1 hi1 ho1.out rfl P0 P1 P2;exact⟨j,Zo,rfl,(hO1.below (below_drewN hB _) hwr).setCell (p:=⟨t,j,none⟩) Zo _,h',_,ru1.other _ _ (by show r≠t;omega),rv1.other _ _ (by show s≠t;omega),rq1.set j _,S2⟩
       case measure=>simp[intOf]
      ·go_wp2_with (go_at_call 191;refine(Zig r j (m+2) (Q+(m+1)+1) _ s _ h' hv _ ru1 (rv1.le (m+2) Zo) Zo Zo Zo lo1 hi1 (λi hi=>v0 i Zo) (λi hi=>v1 i Zo)).mono ?_;rintro e w2 ⟨o,h2,rfl,ru2,lo2,hi2,ho2,hw2,hO2⟩;have rq2:=hO2.row rq1 (Zo);have rv2:=hO2.row rv1 (Zo);have cq2:=rq2.cell j (Zo);have cf2:=rq2.frozen j;replace hw2:=Yah hw2;replace ho2:=Yah ho2)
       rw[Yei];go_wp2
       go_roundw
       case rel=>
        have U0:=Zar (f:=win h' j) (k:=m+2+1) λi hi=>lo1 _ Zo;have U1:=Zb7 (f:=win h' j) (k:=m+2+1) λi hi=>hi1 _ Zo;have W0:=Zar (f:=win h2 j) (k:=m+2+1) λi hi=>lo2 _ Zo;have W1:=Zb7 (f:=win h2 j) (k:=m+2+1) λi hi=>hi2 _ Zo;have hw:=hw1.out;simp only[if_true]at hw;have hx:=hw2.out;rw[hw]at hx;obtain⟨P0,P1,P2⟩:=Zco (n:=m+2) (U:=vf (win h j) (m+3)) (d:=d-1) (W:=vf (win h2 j) (m+3)) (o:=o) (t:=1) VW0 (Yap hVp) hDbig.out hDlt.out (.inr rfl) (by rw[<-hw];exact U0) (by rw[<-hw];exact U1) (λh=>Zo) (λ_=>by rw[Yga]at hx;exact hx) W0 W1;obtain⟨S0,S1,S2⟩:=HO.step Zo Zo (Yap hVp) lo2 hi2 (λk hk=>(ho2.out k hk).trans (ho1.out k hk)) rfl P0 P1 P2;exact⟨j,Zo,rfl,(hO2.below (hO1.below (below_drewN hB _) hwr) hwr).setCell (p:=⟨t,j,none⟩) Zo _,h2,_,ru2.other _ _ (by show r≠t;omega),rv2.other _ _ (by show s≠t;omega),rq2.set j _,S2⟩
       case measure=>simp[intOf]
     ·go_wp2_with fail
      go_quiet (fail)
      go_wp2_with fail
      go_roundw
      case rel=>exact⟨_,_,rfl,rfl,HS,Zo,_,by first|rfl|rw[Ydc]⟩
      case measure=>have:=HS.d0;simp[intOf];omega
    ·have hg:d<1000000000:=by omega
     have hgb:decide ((1000000000:Int)<=d)=false:=by simp;omega
     by_cases hgt:rest*1000000000+h (j+m)<d*hv m
     ·have HS:=E.step hI (.inr hgt)
      by_cases hb:1000000000<=rest+hv (m+1)
      ·obtain⟨hD1,hD2⟩:=E.brk HS hb
       have hDlt:=E.done HS hD1 hD2;have hD:=HS;clear HS hD2;go_wp2_with fail
       go_quiet (fail)
       have hDbig:=hD.big;have hD0:=hD.d0;have l6:j+(m+2)+1-j=m+2+1:=Zo;have l7:(0:Int)<=(j:Int)+((m:Int)+2)+1:=Zo;have l8:((j:Int)+((m:Int)+2)+1).toNat=j+(m+2)+1:=Zo;have l9:(j:Int)+((m:Int)+2)+1<=((Q+(m+1)+1:Nat):Int):=Zo;have l10:(j:Int)<=(j:Int)+((m:Int)+2)+1:=Zo;have cq:=rq.cell j Zo;have cf:=rq.frozen j;have HOlo:=HO.lo;have HOhi:=HO.hi;have VW0:0<vf hv (m+2):=E.V_pos;replace hDbig:=Yah hDbig;replace hDlt:=Yah hDlt;clear hD hI;go_wp2_with (go_at_call 190;refine(Zif r j (m+2) (Q+(m+1)+1) _ s _ h hv (d-1) _ (ru.drewN _) ((rv.drewN _).le (m+2) Zo) Zo Zo Zo HOlo HOhi (λi hi=>v0 i Zo) (λi hi=>v1 i Zo) hD0 hD1).mono ?_;intro e w' hpost;obtain⟨bb,h',rfl,ru1,lo1,hi1,ho1,hw1,hO1⟩:=hpost;have rq1:=hO1.row (rq.drewN _) (Zo);have rv1:=hO1.row (rv.drewN _) (Zo);have cq1:=rq1.cell j (Zo);have cf1:=rq1.frozen j;replace hw1:=Yah hw1;replace ho1:=Yah ho1;cases bb)
       ·rw[Yei]
        go_wp2
        go_roundw
        case rel=>
         have W0:=Zar (f:=win h' j) (k:=m+2+1) λi hi=>lo1 _ Zo;have W1:=Zb7 (f:=win h' j) (k:=m+2+1) λi hi=>hi1 _ Zo;have hw:=hw1.out;simp only[Ybq,if_false,Yec,Yda]at hw;obtain⟨P0,P1,P2⟩:=Zco (n:=m+2) (U:=vf (win h j) (m+3)) (d:=d-1) (W:=vf (win h' j) (m+3)) (o:=0) (t:=0) VW0 (Yap hVp) hDbig.out hDlt.out (.inl rfl) (by rw[Yec,Yda,<-hw];exact W0) (by rw[Yec,Yda,<-hw];exact W1) (λ_=>hw) (λh=>Zo) W0 W1;rw[Int.sub_zero]at P2;obtain⟨S0,S1,S2⟩:=HO.step Zo Zo (Yap hVp) lo1 hi1 ho1.out rfl P0 P1 P2;exact⟨j,Zo,rfl,(hO1.below (below_drewN hB _) hwr).setCell (p:=⟨t,j,none⟩) Zo _,h',_,ru1.other _ _ (by show r≠t;omega),rv1.other _ _ (by show s≠t;omega),rq1.set j _,S2⟩
        case measure=>simp[intOf]
       ·go_wp2_with (go_at_call 191;refine(Zig r j (m+2) (Q+(m+1)+1) _ s _ h' hv _ ru1 (rv1.le (m+2) Zo) Zo Zo Zo lo1 hi1 (λi hi=>v0 i Zo) (λi hi=>v1 i Zo)).mono ?_;rintro e w2 ⟨o,h2,rfl,ru2,lo2,hi2,ho2,hw2,hO2⟩;have rq2:=hO2.row rq1 (Zo);have rv2:=hO2.row rv1 (Zo);have cq2:=rq2.cell j (Zo);have cf2:=rq2.frozen j;replace hw2:=Yah hw2;replace ho2:=Yah ho2)
        rw[Yei];go_wp2
        go_roundw
        case rel=>
         have U0:=Zar (f:=win h' j) (k:=m+2+1) λi hi=>lo1 _ Zo;have U1:=Zb7 (f:=win h' j) (k:=m+2+1) λi hi=>hi1 _ Zo;have W0:=Zar (f:=win h2 j) (k:=m+2+1) λi hi=>lo2 _ Zo;have W1:=Zb7 (f:=win h2 j) (k:=m+2+1) λi hi=>hi2 _ Zo;have hw:=hw1.out;simp only[if_true]at hw;have hx:=hw2.out;rw[hw]at hx;obtain⟨P0,P1,P2⟩:=Zco (n:=m+2) (U:=vf (win h j) (m+3)) (d:=d-1) (W:=vf (win h2 j) (m+3)) (o:=o) (t:=1) VW0 (Yap hVp) hDbig.out hDlt.out (.inr rfl) (by rw[<-hw];exact U0) (by rw[<-hw];exact U1) (λh=>Zo) (λ_=>by rw[Yga]at hx;exact hx) W0 W1;obtain⟨S0,S1,S2⟩:=HO.step Zo Zo (Yap hVp) lo2 hi2 (λk hk=>(ho2.out k hk).trans (ho1.out k hk)) rfl P0 P1 P2;exact⟨j,Zo,rfl,(hO2.below (hO1.below (below_drewN hB _) hwr) hwr).setCell (p:=⟨t,j,none⟩) Zo _,h2,_,ru2.other _ _ (by show r≠t;omega),rv2.other _ _ (by show s≠t;omega),rq2.set j _,S2⟩
        case measure=>simp[intOf]
      ·go_wp2_with fail
       go_quiet (fail)
       go_wp2_with fail
       go_roundw
       case rel=>exact⟨_,_,rfl,rfl,HS,Zo,_,by first|rfl|rw[Ydc]⟩
       case measure=>have:=HS.d0;simp[intOf];omega
     ·have hD:=hI
      have hD1:=hg;have hDlt:=E.done hI hg (by show d*hv m<=rest*1000000000+h (j+m);omega);have hgc:decide (rest*1000000000+h (j+m)<d*hv m)=false:=by simp;omega
      go_wp2_with fail
      go_quiet (fail)
      have hDbig:=hD.big;have hD0:=hD.d0;have l6:j+(m+2)+1-j=m+2+1:=Zo;have l7:(0:Int)<=(j:Int)+((m:Int)+2)+1:=Zo;have l8:((j:Int)+((m:Int)+2)+1).toNat=j+(m+2)+1:=Zo;have l9:(j:Int)+((m:Int)+2)+1<=((Q+(m+1)+1:Nat):Int):=Zo;have l10:(j:Int)<=(j:Int)+((m:Int)+2)+1:=Zo;have cq:=rq.cell j Zo;have cf:=rq.frozen j;have HOlo:=HO.lo;have HOhi:=HO.hi;have VW0:0<vf hv (m+2):=E.V_pos;replace hDbig:=Yah hDbig;replace hDlt:=Yah hDlt;clear hD hI;go_wp2_with (go_at_call 190;refine(Zif r j (m+2) (Q+(m+1)+1) _ s _ h hv (d) _ (ru.drewN _) ((rv.drewN _).le (m+2) Zo) Zo Zo Zo HOlo HOhi (λi hi=>v0 i Zo) (λi hi=>v1 i Zo) hD0 hD1).mono ?_;intro e w' hpost;obtain⟨bb,h',rfl,ru1,lo1,hi1,ho1,hw1,hO1⟩:=hpost;have rq1:=hO1.row (rq.drewN _) (Zo);have rv1:=hO1.row (rv.drewN _) (Zo);have cq1:=rq1.cell j (Zo);have cf1:=rq1.frozen j;replace hw1:=Yah hw1;replace ho1:=Yah ho1;cases bb)
      ·rw[Yei]
       go_wp2
       go_roundw
       case rel=>
        have W0:=Zar (f:=win h' j) (k:=m+2+1) λi hi=>lo1 _ Zo;have W1:=Zb7 (f:=win h' j) (k:=m+2+1) λi hi=>hi1 _ Zo;have hw:=hw1.out;simp only[Ybq,if_false,Yec,Yda]at hw;obtain⟨P0,P1,P2⟩:=Zco (n:=m+2) (U:=vf (win h j) (m+3)) (d:=d) (W:=vf (win h' j) (m+3)) (o:=0) (t:=0) VW0 (Yap hVp) hDbig.out hDlt.out (.inl rfl) (by rw[Yec,Yda,<-hw];exact W0) (by rw[Yec,Yda,<-hw];exact W1) (λ_=>hw) (λh=>Zo) W0 W1;rw[Int.sub_zero]at P2;obtain⟨S0,S1,S2⟩:=HO.step Zo Zo (Yap hVp) lo1 hi1 ho1.out rfl P0 P1 P2;exact⟨j,Zo,rfl,(hO1.below (below_drewN hB _) hwr).setCell (p:=⟨t,j,none⟩) Zo _,h',_,ru1.other _ _ (by show r≠t;omega),rv1.other _ _ (by show s≠t;omega),rq1.set j _,S2⟩
       case measure=>simp[intOf]
      ·go_wp2_with (go_at_call 191;refine(Zig r j (m+2) (Q+(m+1)+1) _ s _ h' hv _ ru1 (rv1.le (m+2) Zo) Zo Zo Zo lo1 hi1 (λi hi=>v0 i Zo) (λi hi=>v1 i Zo)).mono ?_;rintro e w2 ⟨o,h2,rfl,ru2,lo2,hi2,ho2,hw2,hO2⟩;have rq2:=hO2.row rq1 (Zo);have rv2:=hO2.row rv1 (Zo);have cq2:=rq2.cell j (Zo);have cf2:=rq2.frozen j;replace hw2:=Yah hw2;replace ho2:=Yah ho2)
       rw[Yei];go_wp2
       go_roundw
       case rel=>
        have U0:=Zar (f:=win h' j) (k:=m+2+1) λi hi=>lo1 _ Zo;have U1:=Zb7 (f:=win h' j) (k:=m+2+1) λi hi=>hi1 _ Zo;have W0:=Zar (f:=win h2 j) (k:=m+2+1) λi hi=>lo2 _ Zo;have W1:=Zb7 (f:=win h2 j) (k:=m+2+1) λi hi=>hi2 _ Zo;have hw:=hw1.out;simp only[if_true]at hw;have hx:=hw2.out;rw[hw]at hx;obtain⟨P0,P1,P2⟩:=Zco (n:=m+2) (U:=vf (win h j) (m+3)) (d:=d) (W:=vf (win h2 j) (m+3)) (o:=o) (t:=1) VW0 (Yap hVp) hDbig.out hDlt.out (.inr rfl) (by rw[<-hw];exact U0) (by rw[<-hw];exact U1) (λh=>Zo) (λ_=>by rw[Yga]at hx;exact hx) W0 W1;obtain⟨S0,S1,S2⟩:=HO.step Zo Zo (Yap hVp) lo2 hi2 (λk hk=>(ho2.out k hk).trans (ho1.out k hk)) rfl P0 P1 P2;exact⟨j,Zo,rfl,(hO2.below (hO1.below (below_drewN hB _) hwr) hwr).setCell (p:=⟨t,j,none⟩) Zo _,h2,_,ru2.other _ _ (by show r≠t;omega),rv2.other _ _ (by show s≠t;omega),rq2.set j _,S2⟩
       case measure=>simp[intOf]
  ·obtain rfl:i=0:=by omega
   obtain⟨A1,A2,A3⟩:=HO.done Zo;rw[V1]at A1 A3;obtain⟨G1,G2⟩:=Znv F0 A1 A2 A3;have s1:=ru.slice Zo (m+2) Zo (Q+(m+1)+1) Zo;obtain⟨k1,k2⟩:=Zb2 (f:=h) (k:=m+2) (λi hi=>HO.lo i Zo) (λi hi=>HO.hi i Zo);have k3:=Za7 h (m+2);obtain⟨k4,k5⟩:=Zb2 (f:=q) (k:=Q) (λi hi=>HO.q0 i Zo) (λi hi=>HO.q1 i Zo);have k6:=Za7 q Q;have i1:(0:Int)<=(m:Int)+2:=Zo;have i2:(m:Int)+2<=((Q+(m+1)+1:Nat):Int):=Zo;have i3:((m:Int)+2).toNat=m+2:=Zo;have Z:Sz (m+2) wr (.slice (some ⟨r,0,none⟩) (trimN h (m+2)) (Q+(m+1)+1)) (vf h (m+2)):=⟨_,h,s1.take _ k3,k1,k2,k3⟩
   have HP:=Zpl (m+2) wr wr (Ext.refl _) _ _ _ _ F Z Zo F0 F1;replace G1:=Yah G1;replace G2:=Yah G2;replace k5:=Yah k5;clear hc1 hc2 A1 A2 A3 k2 V1 HO V2;go_wp2_with (first
    | (go_at_call 161;(with_reducible refine(Zcj (some ⟨r,0,none⟩) (m+2) _ h _ s1).mono ?_);rintro e w4 ⟨rfl,rfl⟩)
    | (go_at_call 188;refine HP.mono ?_;rintro e w5 ⟨p1,k7,c3,rfl,hz,hb5⟩;have rq5:=rq.below hb5;have s5:=rq5.slice Zo Q (Yab _) Q (Yab _);have hB5:=Zdw hB hb5)
    | (go_at_call 161;(with_reducible refine(Zcj (some ⟨t,0,none⟩) Q _ q _ s5).mono ?_);rintro e w4 ⟨rfl,rfl⟩))
   go_ret2
   exact⟨_,_,_,_,_,_,rfl,⟨_,q,s5.take _ k6,k4,k5.out.trans G1.out,Zo⟩,(by rw[<-G2.out];exact hz),hB5⟩
end Go.Proofs.W
namespace Go.Mono
open Go.RowKit
theorem Zbe {P:Program} {ops:Array Oper} {rest:List Oper} {op:Oper} {a:Act} {w:World} {Q:Exit->Act->World->Prop} (hw:Region.wanted op (yielded ops a.tmps)=true) (ty:TypeId) (x:Operand) (ho:op.op=.load ty x)
  (b o:Nat) (hx:a.eval x=.pointer (some ⟨b,o,none⟩)) (cs:List Value) (d:TypeDesc) (hc:w.rangeAt b o cs)
  (hu:P.underlying ty=some d) (hd:d.isRow=true) (hi:(P.info? ty).map (·.size)=some cs.length)
  (h:wpList P ops Q rest (a.put op.dst (.agg cs.toArray)) w):wpList P ops Q (op::rest) a w:=
 wpList_step λK hK=>by
  simp only[hw,if_true];exact wp_load_mid ty x ho b o hx cs d hc hu hd hi (hK _ _ h)
theorem Box.resultsT {P:Program} {w:World} {B:Nat} {T:TypeId} {cs:Array Value} (b:Box w B T cs) {fn:Func} {p p1:Tmp} {ty:TypeId} (h:fn.results = #[.cell p ty,.tmp p1]) (tmps:Array Value) (d:TypeDesc)
  (ht:tmps.getD p undef=.pointer (some ⟨B,0,none⟩)) (hu:P.underlying ty=some d) (hd:d.isRow=true) (hi:(P.info? ty).map (·.size)=some cs.size):(Go.results fn tmps).run P w=.ok (.tuple #[.agg cs,tmps.getD p1 undef]) w:=by
 have hp':tmps[p]?.getD undef=.pointer (some ⟨B,0,none⟩):=by simpa using ht
 have hld:=run_loadVar_row (P:=P) w B T ty cs (0,0) d b.blk hu (by cases d<;>simp_all [TypeDesc.isRow]) hi;simp[Go.results,h,hp',asAddr,hld]
end Go.Mono
