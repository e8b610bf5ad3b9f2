/- Contracts of package paraxial,and a verified evaluator. Part 4 of 26. No condition beside the row. -/
import Derived.Test.YtpfpiecljfimjaaGreatDoorA02
import Derived.Test.YtpfpiecljfimjaaGreatDoorA03
set_option linter.unusedVariables false
set_option linter.unusedSimpArgs false
set_option maxRecDepth 100000
set_option maxHeartbeats 4000000
namespace Go.Proofs.W
open Go.RowKit Go.Mono
theorem Ztr (m1:Nat) (w wf:World) (hx:Ext wf w) (p q:Option Addr) (n c1 c2:Nat) (N M:Int) (h1:Sz m1 wf (.slice p n c1) N) (h2:Sz 1 wf (.slice q 1 c2) M) (hM:0<M) (hle:M<=N) (hm1:m1<=1000000) :
  Calls Tryz.prog 166 #[.slice p n c1,.slice q 1 c2] w λe w'=>∃p1 k1 c1 p2 k2 c2,e=.returned (.tuple #[.slice p1 k1 c1,.slice p2 k2 c2])∧Sz m1 w' (.slice p1 k1 c1) (N/M)∧Sz 1 w' (.slice p2 k2 c2) (N%M)∧Below w.heap.size w w':=by
 have hc:=Zj3 m1 1 w wf hx p q n 1 c1 c2 N M h1 h2;obtain⟨n',g,s2,d2,hv2,l2,rfl⟩:=(h2.ext hx).sl;obtain⟨_,_,hx2⟩:=s2.opens;obtain⟨b,off,rfl,hb2,hcell⟩:=hx2 Zo;have a1:=hcell 0 Zo;rw[Yce]at a1;have eM:g 0=M:=by rw[<-hv2];simp[vf,pw]
 rw[eM]at a1;have M1:M<1000000000:=by rw[<-eM];exact d2.hi 0 Zo
 have h1':=h1.ext hx;clear hcell hx2 h1 h2 s2 d2 hv2 eM hx;go_enter Tryz.func166,Tryz.ntmps166
 go_wp2_with (go_at_call 132;refine hc.mono ?_;rintro e w' ⟨c,⟨rfl,k,rfl⟩,hc1,hc2⟩;have hc0:¬c<0:=λh=>by have:=hc1.1 h;omega)
 have hp:=Zp7 m1 (w.drewN k) w ((Ext.refl w).below (below_drewN (Yae _ _) k)) p n c1 N M h1' hm1 hM M1;go_wp2_with (go_at_call 199;refine hp.mono ?_;rintro e w1 ⟨p1,k1,c3,rfl,hs1,hb1⟩)
 have hB:Below w.heap.size w w1:=(below_drewN (Yae _ _) k).trans hb1
 have hr0 : RowF (w1.alloc (.cells #[.int .i64 (N % M)] 3)) w1.heap.size 1 (λ_ => N % M) := ⟨#[.int .i64 (N % M)], by show (w1.heap.push _)[w1.heap.size]? = _; simp, Zs, λi hi => by obtain rfl : i = 0 := by omega
                                                                                                                                                                                      simp⟩
 have hs2:=hr0.slice Zo 1 (Yab _) 1 (Yab _);have r0:=Ycc N (show M≠0 by omega);have r1:=Ybu N hM;obtain⟨q1,q2⟩:=Zb2 (f:=λ_=>N%M) (k:=1) (λ_ _=>r0) (λ_ _=>Zo);have q3:=Za3 (λ_=>N%M) 1;have q4:vf (λ_=>N%M) 1=N%M:=by simp[vf,pw]
 have q5:=Yah (q2.trans q4);clear q2 q4;go_wp2_with (go_at_call 200;refine(Zck _ _ _ _ _ hs2).mono ?_;rintro e w2 ⟨rfl,rfl⟩)
 go_ret2
 exact⟨_,_,_,_,_,_,rfl,hs1.ext ((Ext.refl _).alloc _),⟨_,_,hs2.take _ q3,q1,q5.out,q3⟩,hB.alloc hB.size _⟩
end Go.Proofs.W
namespace Go.Mono
open Go.RowKit
section
section
variable {F:Fence} {n:Nat} {P:Program} {ops:Array Oper} {rest:List Oper} {o:Oper} {a:Act} {w:World} {Q:Exit->Act->World->Prop}
theorem Zks (hg:o.guard=none) (T:TypeId) (ho:o.op=.alloc T) (zs:Array Value)
  (hrun:∀w,(Instr.alloc T true (.tuple #[])).run P w=.ok (.pointer (some ⟨w.heap.size,0,none⟩)) (w.alloc (.cells zs T)))
  (h:∀W B,w.heap.size<=B->Below w.heap.size w W->Box W B T zs->wpListIn F n P ops Q rest (a.put o.dst (.pointer (some ⟨B,0,none⟩))) W):wpListIn F n P ops Q (o::rest) a w:=by
 refine wpListIn_plain hg λK hK=>?_;unfold Oper.wpIn;refine⟨by simp[Oper.about,ho],?_⟩;rw[Oper.semAt_plain F _ _ (by rw[ho];intro c hc';cases hc')];unfold execOp;simp only[ho,Yar,hrun,Yag,Yau];exact hK _ _ (h _ _ (Yab _) ((Yae _ _).alloc (Yab _) _) (Box.new _ _ _))
theorem Zfm (hg:o.guard=none) (ty:TypeId) (x:Operand) (ho:o.op=.load ty x)
  (b off:Nat) (hx:a.eval x=.pointer (some ⟨b,off,none⟩)) (cs:List Value) (d:TypeDesc) (hc:w.rangeAt b off cs)
  (hu:P.underlying ty=some d) (hd:d.isRow=true) (hi:(P.info? ty).map (·.size)=some cs.length)
  (h:wpListIn F n P ops Q rest (a.put o.dst (.agg cs.toArray)) w):wpListIn F n P ops Q (o::rest) a w:=by
 refine wpListIn_plain hg λK hK=>?_;unfold Oper.wpIn;refine⟨by simp[Oper.about,ho],?_⟩;rw[Oper.semAt_plain F _ _ (by rw[ho];intro c hc';cases hc')];unfold execOp;simp only[ho,hx,Yar,run_loadAt_mid w b off ty cs d hc hu hd hi,Yag,Yau];exact hK _ _ h
theorem Zev (hg:o.guard=none) (ty:TypeId) (x y:Operand) (ho:o.op=.store ty x y) (B off:Nat) (T:TypeId) (old cells new:Array Value) (hx:a.eval x=.pointer (some ⟨B,off,none⟩)) (hy:a.eval y=.agg cells)
  (hb:Box w B T old) (hi:(P.info? ty).map (·.size)=some cells.size) (hold:off+cells.size<=old.size) (h1:cells.all (·.oneCell')=true)
  (hn:old.toList.take off++cells.toList++old.toList.drop (off+cells.size)=new.toList)
  (h:∀W,KeepBut B w.heap.size w W->KeepsOthers w W->Box W B T new->wpListIn F n P ops Q rest (a.put o.dst undef) W):wpListIn F n P ops Q (o::rest) a w:=by
 refine wpListIn_plain hg λK hK=>?_;unfold Oper.wpIn;refine⟨by simp[Oper.about,ho],?_⟩;rw[Oper.semAt_plain F _ _ (by rw[ho];intro c hc';cases hc')];unfold execOp;simp only[ho,hx,hy,Yar,run_storeAt_mid w B off ty cells (hb.there off cells.size hold) hi h1,Yag,Yau];refine hK _ _ (h _ ((KeepBut.refl _ _).setCells _ _ _) (Zbp (S:=λV=>KeepsOthers w V) (B:=B) (λV i u hV=>hV.trans (.setCell _ _ _)) _ _ _ (.refl _)) ?_);have:=Box.setCells cells.toList off w old hb (by simpa using hold);simpa[hn]using this
end
theorem Zaf {old cells:Array Value} (h:old.size=cells.size):old.toList.take 0++cells.toList++old.toList.drop (0+cells.size)=cells.toList:=by
 simp[<-h]
end
section
structure Fa where
 i:Nat
 d:Tmp
 T:TypeId
 zs:Array Value
def setL:List (Fa×Option Nat)->Array Bool->Array Bool
 | [],l=>l
 | q :: r, l => match q.2 with
   | some _=>setL r (l.setIfInBounds q.1.i true)
   | none=>setL r l
def setA:List (Fa×Option Nat)->Act->Act
 | [],a=>a
 | q :: r, a => match q.2 with
   | some B=>setA r (a.put (some q.1.d) (.pointer (some ⟨B,0,none⟩)))
   | none=>setA r a
def cnt:List (Fa×Option Nat)->Nat
 | []=>0
 | q :: r => (match q.2 with
   | some _=>1
   | none=>0)+cnt r
def pend:List (Fa×Option Nat)->List Nat
 | []=>[]
 | q :: r => match q.2 with
   | some _=>pend r
   | none=>q.1.i::pend r
def okA (N:Nat) (w:World) (qs:List (Fa×Option Nat)):Prop:=
 (∀q∈qs,∀B,q.2=some B->N<=B∧Box w B q.1.T q.1.zs)∧qs.Pairwise λx y=>∀B,x.2=some B->y.2≠some B
def norm (q:Fa×Option Nat):Fa×Option Nat:=(q.1,q.2.map λ_=>0)
def allPats:List Fa->List (List (Fa×Option Nat))
 | []=>[[]]
 | f::r=>(allPats r).flatMap λqs=>[(f,none)::qs,(f,some 0)::qs]
theorem Zg3:∀qs:List (Fa×Option Nat),qs.map norm∈allPats (qs.map (·.1))
 | []=>by simp[allPats]
 | (f, o) :: r => by
   simp only[Ybz,allPats,List.mem_flatMap];refine⟨_,Zg3 r,?_⟩;cases o<;>simp[norm]
theorem Zdp:∀(qs:List (Fa×Option Nat)) (l:Array Bool),setL (qs.map norm) l=setL qs l
 | [],_=>rfl
 | (f,none)::r,l=>Zdp r l
 | (f,some _)::r,l=>Zdp r _
theorem Zey:∀qs:List (Fa×Option Nat),pend (qs.map norm)=pend qs
 | []=>rfl
 | (f,none)::r=>congrArg (f.i::·) (Zey r)
 | (f,some _)::r=>Zey r
theorem Zul (l:Array Bool) (i j:Nat):(l.setIfInBounds i true).setIfInBounds j true=(l.setIfInBounds j true).setIfInBounds i true:=by
 by_cases h:i=j
 ·subst h;rfl
 ·exact Array.setIfInBounds_comm _ _ h
theorem Zez (i:Nat):∀(qs:List (Fa×Option Nat)) (l:Array Bool),setL qs (l.setIfInBounds i true)=(setL qs l).setIfInBounds i true
 | [],_=>rfl
 | (f,none)::r,l=>Zez i r l
 | (f, some _) :: r, l => by
   show setL r ((l.setIfInBounds i true).setIfInBounds f.i true)=(setL r (l.setIfInBounds f.i true)).setIfInBounds i true;rw[Zul,Zez i r]
theorem Ze0 (d:Tmp) (v:Value):∀(qs:List (Fa×Option Nat)) (a:Act),(∀q∈qs,q.1.d≠d)->setA qs (a.put (some d) v)=(setA qs a).put (some d) v
 | [],_,_=>rfl
 | (f,none)::r,a,h=>Ze0 d v r a λq hq=>h q (Ybs _ hq)
 | (f, some B) :: r, a, h => by
   show setA r ((a.put (some d) v).put (some f.d) _)=(setA r (a.put (some f.d) _)).put (some d) v;rw[Act.put_comm a v _ (by
    intro e he;cases he;intro hh;cases hh;exact h (f,some B) (Ycl ..) rfl),Ze0 d v r _ λq hq=>h q (Ybs _ hq)]
theorem Zgf:∀(p q:List (Fa×Option Nat)) (l:Array Bool),setL (p++q) l=setL q (setL p l)
 | [],_,_=>rfl
 | (f,none)::r,q,l=>Zgf r q l
 | (f,some _)::r,q,l=>Zgf r q _
theorem Zgg:∀(p q:List (Fa×Option Nat)) (a:Act),setA (p++q) a=setA q (setA p a)
 | [],_,_=>rfl
 | (f,none)::r,q,a=>Zgg r q a
 | (f,some _)::r,q,a=>Zgg r q _
theorem Zjc:∀p q:List (Fa×Option Nat),cnt (p++q)=cnt p+cnt q
 | [],q=>by simp[cnt]
 | (f,o)::r,q=>by simp only[Ydi,cnt,Zjc r q,Ybj]
theorem Zg4:∀p:List (Fa×Option Nat),cnt p<=p.length
 | []=>Yab _
 | (f,none)::r=>by have:=Zg4 r;simp only[cnt,Ybm];omega
 | (f,some _)::r=>by have:=Zg4 r;simp only[cnt,Ybm];omega
theorem Zdb {j:Nat}:∀qs:List (Fa×Option Nat),j∈pend qs->∃p f r,qs=p++(f,none)::r∧f.i=j
 | [],h=>by cases h
 | (f, none) :: r, h => by
   rcases Ycp.1 h with h|h
   ·exact⟨[],f,r,rfl,h.symm⟩
   ·obtain⟨p,g,s,rfl,hg⟩:=Zdb r h
    exact⟨(f,none)::p,g,s,rfl,hg⟩
 | (f, some B) :: r, h => by
   obtain⟨p,g,s,rfl,hg⟩:=Zdb r h;exact⟨(f,some B)::p,g,s,rfl,hg⟩
theorem Zvj:∀(p:List (Fa×Option Nat)) (f:Fa) (r:List (Fa×Option Nat)),cnt (p++(f,none)::r)<(p++(f,none)::r).length:=λp f r=>by
 have h1:=Zg4 p;have h2:=Zg4 r;simp only[Zjc,cnt,Yay,Ybm];omega
theorem okA.below {N:Nat} {w w':World} {qs:List (Fa×Option Nat)} (h:okA N w qs) (hb:Below w.heap.size w w'):okA N w' qs:=
 ⟨λq hq B hB=>⟨(h.1 q hq B hB).1,(h.1 q hq B hB).2.below hb⟩,h.2⟩
theorem okA.fresh {N:Nat} {w:World} {p r:List (Fa×Option Nat)} {f:Fa} (h:okA N w (p++(f,none)::r)) (hN:N<=w.heap.size) :
  okA N (w.alloc (.cells f.zs f.T)) (p++(f,some w.heap.size)::r):=by
 have lt:∀q,q∈p∨q∈r->q.2≠some w.heap.size:=λq hq he=>by
  have hq':q∈p++(f,none)::r:=by rcases hq with hq|hq<;>simp[hq]
  exact Yfw _ (h.1 q hq' _ he).2.lt
 constructor
 ·intro q hq B hB
  rw[Ycn,Ycp]at hq;rcases hq with hq|rfl|hq
  ·have:=h.1 q (by simp[hq]) B hB
   exact⟨this.1,this.2.alloc _⟩
  ·cases hB
   exact⟨hN,Box.new _ _ _⟩
  ·have:=h.1 q (by simp[hq]) B hB
   exact⟨this.1,this.2.alloc _⟩
 ·have h2:=h.2
  rw[List.pairwise_append,List.pairwise_cons]at h2 ⊢;refine⟨h2.1,⟨λq hq B hB=>?_,h2.2.1.2⟩,λx hx y hy=>?_⟩
  ·cases hB
   exact lt q (.inr hq)
  ·rcases Ycp.1 hy with rfl|hy
   ·intro B hB hh
    cases hh;exact lt x (.inl hx) hB
   ·exact h2.2.2 x hx y (Ybs _ hy)
section
variable {P:Program} {ops:Array Oper} {Q:Exit->Act->World->Prop} {md:Region.Mode} {S:World->Prop}
structure FaOk (P:Program) (ops:Array Oper) (f:Fa):Prop where
 op:∃o,ops[f.i]? = some o∧o.guard=none∧o.op=.alloc f.T∧o.dst=some f.d
 run:∀w,(Instr.alloc f.T true (.tuple #[])).run P w=.ok (.pointer (some ⟨w.heap.size,0,none⟩)) (w.alloc (.cells f.zs f.T))
def FaAll (P:Program) (ops:Array Oper) (ps:List Fa):Prop:=(∀f∈ps,FaOk P ops f)∧(ps.map (·.d)).Nodup
def Fl (P:Program) (md:Region.Mode) (ops:Array Oper) (Q:Exit->Act->World->Prop) (S:World->Prop) (N:Nat) (ps:List Fa) (F:Nat) (listed:Array Bool) (a:Act) (V:World):Prop:=
 ∀qs w,qs.map (·.1)=ps->Below V.heap.size V w->S w->okA N w qs->wpAnyH P md ops Q S (F-cnt qs) (setL qs listed) (setA qs a) w
def blind (ops:Array Oper) (ps:List Fa) (o:Oper):Bool:=ps.all λf=>!(o.looksAt ops).contains f.d
theorem Ze1 (hs:Region.noSelect ops=true) {i:Nat} {o:Oper} (hi:ops[i]? = some o):∀(qs:List (Fa×Option Nat)) (a:Act),blind ops (qs.map (·.1)) o=true->
  execOp (setA qs a).eval o=execOp a.eval o∧Region.wanted o (yielded ops (setA qs a).tmps)=Region.wanted o (yielded ops a.tmps)
 | [],_,_=>⟨rfl,rfl⟩
 | (f, none) :: r, a, h => Ze1 hs hi r a (by
   simp only[blind,Ybz,List.all_cons,Yam]at h ⊢;exact h.2)
 | (f, some B) :: r, a, h => by
   simp only[blind,Ybz,List.all_cons,Yam]at h;have ih:=Ze1 hs hi r (a.put (some f.d) (.pointer (some ⟨B,0,none⟩))) h.2;have hd:∀d,some f.d=some d->d ∉ o.looksAt ops:=λd hd=>by
    cases hd;simpa using h.1
   exact⟨ih.1.trans (execOp_put o (Region.noSelect_spec hs i o · · hi) a _ _ hd),ih.2.trans (wanted_put o a _ _ hd)⟩
def shapeAt (md:Region.Mode) (ops:Array Oper) (ps:List Fa) (listed:Array Bool) (i:Nat):Bool:=
 (allPats ps).all λqs=>(Region.ready md ops (setL qs listed)).contains i&&(Region.ready md ops (setL qs listed)).all λj=>j==i || (pend qs).contains j
def shapeEnd (md:Region.Mode) (ops:Array Oper) (ps:List Fa) (listed:Array Bool):Bool:=
 (allPats ps).all λqs=>(pend qs).isEmpty || ((!(Region.ready md ops (setL qs listed)).isEmpty)&&(Region.ready md ops (setL qs listed)).all λj=>(pend qs).contains j)
def freeAt (md:Region.Mode) (ops:Array Oper) (ps:List Fa) (listed:Array Bool) (i:Nat):Bool:=
 (allPats ps).all λqs=>(Region.ready md ops (setL qs listed)).contains i&&Region.free md ops (setL qs listed) i
theorem Fl.alloc {ps:List Fa} {k:Nat} {listed:Array Bool} {a:Act} {w:World} (hfa:FaAll P ops ps) {p:List (Fa×Option Nat)} {f:Fa} {r:List (Fa×Option Nat)} (hq:(p++(f,none)::r).map (·.1)=ps)
  (h:wpAnyH P md ops Q S k (setL (p++(f,some w.heap.size)::r) listed) (setA (p++(f,some w.heap.size)::r) a) (w.alloc (.cells f.zs f.T)))
  (hS:S (w.alloc (.cells f.zs f.T))) :
  wpOp P ops Q f.i (λa' w'=>S w'∧wpAnyH P md ops Q S k ((setL (p++(f,none)::r) listed).setIfInBounds f.i true) a' w') (setA (p++(f,none)::r) a) w:=by
 have hmem:f∈ps:=by rw[<-hq];simp
 obtain⟨⟨o,ho,hg,hop,hd⟩,hrun⟩:=hfa.1 f hmem;unfold wpOp;simp only[ho];have hw:Region.wanted o (yielded ops (setA (p++(f,none)::r) a).tmps)=true:=by simp[Region.wanted,hg]
 rw[if_pos hw];left
 unfold Oper.wp execOp;simp only[hop,Yar,hrun,Yag,Yau,Oper.upon_value,hd];refine⟨hS,?_⟩;have hnd:=hfa.2;rw[<-hq]at hnd;simp only[List.map_append,Ybz,List.nodup_append,List.nodup_cons]at hnd;have hr:∀q∈r,q.1.d≠f.d:=λq hq' he=>hnd.2.1.1 (by
  rw[<-he];exact Yed (Yed hq'))
 have e1:(setL (p++(f,none)::r) listed).setIfInBounds f.i true=setL (p++(f,some w.heap.size)::r) listed:=by
  rw[Zgf,Zgf];show(setL r (setL p listed)).setIfInBounds f.i true=setL r ((setL p listed).setIfInBounds f.i true);rw[Zez]
 have e2:(setA (p++(f,none)::r) a).put (some f.d) (.pointer (some ⟨w.heap.size,0,none⟩))=setA (p++(f,some w.heap.size)::r) a:=by
  rw[Zgg,Zgg];show(setA r (setA p a)).put (some f.d) _=setA r ((setA p a).put (some f.d) _);rw[Ze0 _ _ r _ hr]
 rw[e1,e2];exact h
theorem Fl.start {F:Nat} {listed:Array Bool} {a:Act} {V:World} (ps:List Fa) (h:Fl P md ops Q S V.heap.size ps F listed a V) (hS:S V:=by assumption):wpAnyH P md ops Q S F listed a V:=by
 have hl:∀ps:List Fa,(setL (ps.map λf=>(f,none)) listed=listed∧setA (ps.map λf=>(f,none)) a=a∧cnt (ps.map λf=>(f,none))=0):=by
  intro ps;induction ps with
  | nil=>exact⟨rfl,rfl,rfl⟩
  | cons f r ih=>exact⟨ih.1,ih.2.1,by simp only[Ybz,cnt,ih.2.2]⟩
 have:=h (ps.map λf=>(f,none)) V (by rw[List.map_map];exact List.map_id _) (Yae _ _) hS ⟨λq hq B hB=>(by
  obtain⟨f,_,rfl⟩:=Ydl.1 hq;cases hB),(by
  rw[List.pairwise_map];exact List.pairwise_of_forall λ_ _ B hB=>nomatch hB)⟩
 rw[(hl ps).1,(hl ps).2.1,(hl ps).2.2]at this;exact this
theorem Zry {ps:List Fa} {g:List (Fa×Option Nat)->Bool} (h:(allPats ps).all g=true) {qs:List (Fa×Option Nat)} (hq:qs.map (·.1)=ps):g (qs.map norm)=true:=by
 have:=Zg3 qs;rw[hq]at this;exact Ybn.1 h _ this
theorem Fl.call (i:Nat) (d:Tmp) {o:Oper} {f:FuncId} {args:Array Value} {R:World->Ending->World->Prop} {N F:Nat} {ps:List Fa} {listed:Array Bool} {a:Act} {V:World}
  (hC:∀w,Below V.heap.size V w->Calls P f args w (R w))
  (h:∀w,Below V.heap.size V w->S w->∀e w',R w e w'->match e with
   | .returned v=>Below w.heap.size w w'∧Fl P md ops Q S N ps F (listed.setIfInBounds i true) (a.put (some d) v) w'
   | _=>False)
  (hfa:FaAll P ops ps:=by assumption) (hSt:∀w w',S w->Below w.heap.size w w'->S w':=by first|exact(λw w' h k=>Za1 (Zaa (Yai h) k))|exact(λw w' h k=>KeepBut.S (KeepBut.call (Yai h) k))|exact(λw w' h k=>Zaa h k)) (hN:N<=V.heap.size:=by assumption)
  (ho:ops[i]? = some o:=by rfl) (hd:o.dst=some d:=by rfl) (hs:Region.noSelect ops=true:=by as_aux_lemma=>kernel_rfl)
  (hsh:shapeAt md ops ps listed i=true:=by as_aux_lemma=>kernel_rfl) (hbl:blind ops ps o=true:=by as_aux_lemma=>kernel_rfl) (hnd:(ps.map (·.d)).contains d=false:=by as_aux_lemma=>kernel_rfl) (hF:Nat.ble ps.length F=true:=by rfl)
  (hw:Region.wanted o (yielded ops a.tmps)=true:=by as_aux_lemma=>kernel_rfl)
  (hx:∀w,(execOp a.eval o).run P w=.ok (.enter f args) w:=by as_aux_lemma=>(intro _;kernel_rfl)):Fl P md ops Q S N ps (F+1) listed a V:=by
 have hF':=Yaa hF;have main:∀n qs w,qs.length-cnt qs=n->qs.map (·.1)=ps->Below V.heap.size V w->S w->okA N w qs->wpAnyH P md ops Q S (F+1-cnt qs) (setL qs listed) (setA qs a) w:=by
  intro n;induction n with
  | zero=>?_
  | succ n ih=>?_
  all_goals
   intro qs w hn hq hV hS hok;have hlen:qs.length=ps.length:=by rw[<-hq,Ybt]
   have hc:=Zg4 qs;have hsp:=Zry hsh hq;simp only[Zdp,Zey,Yam,Ybn,Ybo,beq_iff_eq,List.contains_iff_mem]at hsp;rw[show F+1-cnt qs=(F-cnt qs)+1 by omega];refine⟨λh0=>(by rw[h0]at hsp;exact absurd hsp.1 Zs),λj hj=>?_⟩;rcases hsp.2 j hj with rfl|hp
   ·have hb:=Ze1 hs ho qs a (by rw[hq];exact hbl)
    unfold wpOp;simp only[ho];rw[if_pos (hb.2.trans hw)];left
    unfold Oper.wp;rw[hb.1,hx w,Oper.upon_enter];refine(hC w hV).mono ?_;intro e w' hR;have:=h w hV hS e w' hR;cases e with
    | returned v =>
      have hS':=hSt w w' hS this.1;have k:=this.2 qs w' hq (Yae _ _) hS' (hok.below this.1);rw[Zez,Ze0 d v qs a (by
       intro q hq' he;have:d∈ps.map (·.d):=by
        rw[<-hq,<-he];exact Yed (Yed hq')
       simp[this]at hnd)]at k
      rw[hd];exact⟨hS',k⟩
    | _=>exact this.elim
   ·obtain⟨p,g,r,rfl,rfl⟩:=Zdb qs hp
    have hlt:=Zvj p g r;first
     | (exfalso;omega)
     | refine Fl.alloc hfa hq ?_ (hSt _ _ hS ((Yae _ _).alloc (Yab _) _))
       have hcn:cnt (p++(g,some w.heap.size)::r)=cnt (p++(g,none)::r)+1:=by simp only[Zjc,cnt];omega
       have hl2:(p++(g,some w.heap.size)::r).length=(p++(g,none)::r).length:=Zs;have:=ih (p++(g,some w.heap.size)::r) (w.alloc (.cells g.zs g.T)) Zo (by rw[<-hq];simp) (Zad hV _) (hSt _ _ hS ((Yae _ _).alloc (Yab _) _)) (hok.fresh (Yak hN hV.size));rw[hcn]at this;rw[show F-cnt (p++(g,none)::r)=F+1-(cnt (p++(g,none)::r)+1) by omega];exact this
 exact λqs w=>main _ qs w rfl
theorem Fl.take (i:Nat) (d:Tmp) {o:Oper} {v:Value} {N F:Nat} {ps:List Fa} {listed:Array Bool} {a a':Act} {V:World}
  (h:Fl P md ops Q S N ps F (listed.setIfInBounds i true) a' V)
  (ho:ops[i]? = some o:=by rfl) (hd:o.dst=some d:=by rfl) (hs:Region.noSelect ops=true:=by as_aux_lemma=>kernel_rfl)
  (hfr:freeAt md ops ps listed i=true:=by as_aux_lemma=>kernel_rfl) (hbl:blind ops ps o=true:=by as_aux_lemma=>kernel_rfl) (hnd:(ps.map (·.d)).contains d=false:=by as_aux_lemma=>kernel_rfl) (hF:Nat.ble ps.length F=true:=by rfl)
  (hw:Region.wanted o (yielded ops a.tmps)=true:=by as_aux_lemma=>kernel_rfl)
  (hv:∀w,S w->(execOp a.eval o).run P w=.ok (.value v) w:=by(intro w hSw;(try dsimp only at hSw);go_simp;all_goals with_reducible rfl))
  (hQ:∀c a w,Q (.panic c) (a.put (some d) v) w->Q (.panic c) a w:=by exact(λ_ _ _ h=>h))
  (ha:a.put (some d) v=a':=by(simp only[Act.put,Zsi,Zs0,Zss];rfl)):Fl P md ops Q S N ps (F+1) listed a V:=by
 subst ha;intro qs w hq hV hS hok;have hF':=Yaa hF;have hlen:qs.length=ps.length:=by rw[<-hq,Ybt]
 have hc:=Zg4 qs;have hsp:=Zry hfr hq;simp only[Zdp,Yam]at hsp;have hb:=Ze1 hs ho qs a (by rw[hq];exact hbl);have k:=h qs w hq hV hS hok;rw[Zez,Ze0 d v qs a (by
  intro q hq' he;have:d∈ps.map (·.d):=by
   rw[<-hq,<-he];exact Yed (Yed hq')
  simp[this]at hnd)]at k
 rw[show F+1-cnt qs=(F-cnt qs)+1 by omega];refine wpAnyH_take ho hs hsp.2 hsp.1 (by rw[hd];exact hQ) (Or.inl ⟨hb.2.trans hw,λw' hS'=>?_⟩) hS (by rw[hd];exact k);rw[hb.1];exact hv w' hS'
theorem Fl.close {N F:Nat} {ps:List Fa} {listed:Array Bool} {a:Act} {V:World}
  (h:∀qs w,qs.map (·.1)=ps->pend qs=[]->Below V.heap.size V w->S w->okA N w qs->wpAnyH P md ops Q S (F-cnt qs) (setL qs listed) (setA qs a) w)
  (hfa:FaAll P ops ps) (hSt:∀w w',S w->Below w.heap.size w w'->S w') (hN:N<=V.heap.size)
  (hsh:shapeEnd md ops ps listed=true) (hF:Nat.ble ps.length F=true):Fl P md ops Q S N ps F listed a V:=by
 have hF':=Yaa hF;have main:∀n qs w,qs.length-cnt qs=n->qs.map (·.1)=ps->Below V.heap.size V w->S w->okA N w qs->wpAnyH P md ops Q S (F-cnt qs) (setL qs listed) (setA qs a) w:=by
  intro n;induction n with
  | zero=>?_
  | succ n ih=>?_
  all_goals
   intro qs w hn hq hV hS hok;by_cases hp0:pend qs=[]
   ·exact h qs w hq hp0 hV hS hok
   have hlen:qs.length=ps.length:=by rw[<-hq,Ybt]
   have hc:=Zg4 qs;have hsp:=Zry hsh hq;simp only[Zdp,Zey,Ybo,Yam,Ybn,List.contains_iff_mem,List.isEmpty_iff,hp0,false_or,Ydz,List.isEmpty_eq_false_iff]at hsp;obtain⟨j0,hj0⟩:=List.exists_mem_of_ne_nil _ hp0;obtain⟨p0,g0,r0,rfl,_⟩:=Zdb qs hj0;have hlt:=Zvj p0 g0 r0;rw[show F-cnt (p0++(g0,none)::r0)=(F-cnt (p0++(g0,none)::r0)-1)+1 by omega];refine⟨λh0=>absurd h0 hsp.1,λj hj=>?_⟩;obtain⟨p,g,r,he,rfl⟩:=Zdb _ (hsp.2 j hj);first
    | (exfalso;omega)
    | rw [he] at hq hok hn hc hlt ⊢
      refine Fl.alloc hfa hq ?_ (hSt _ _ hS ((Yae _ _).alloc (Yab _) _));have hcn:cnt (p++(g,some w.heap.size)::r)=cnt (p++(g,none)::r)+1:=by simp only[Zjc,cnt];omega
      have hl2:(p++(g,some w.heap.size)::r).length=(p++(g,none)::r).length:=Zs;have:=ih (p++(g,some w.heap.size)::r) (w.alloc (.cells g.zs g.T)) Zo (by rw[<-hq];simp) (Zad hV _) (hSt _ _ hS ((Yae _ _).alloc (Yab _) _)) (hok.fresh (Yak hN hV.size));rw[hcn]at this;rw[show F-cnt (p++(g,none)::r)-1=F-(cnt (p++(g,none)::r)+1) by omega];exact this
 exact λqs w=>main _ qs w rfl
end
end
section
section
variable {P:Program} {ops:Array Oper} {Q:Exit->Act->World->Prop} {md:Region.Mode} {S:World->Prop}
theorem FaOk.of {i:Nat} {d:Tmp} {T:TypeId} {zs:Array Value} (run:∀w,(Instr.alloc T true (.tuple #[])).run P w=.ok (.pointer (some ⟨w.heap.size,0,none⟩)) (w.alloc (.cells zs T)))
  (op:∃o,ops[i]? = some o∧o.guard=none∧o.op=.alloc T∧o.dst=some d:=by exact⟨_,rfl,rfl,rfl,rfl⟩):FaOk P ops ⟨i,d,T,zs⟩:=⟨op,run⟩
theorem FaAll.nil:FaAll P ops []:=⟨λ_ h=>(nomatch h),List.nodup_nil⟩
theorem FaAll.cons {f:Fa} {ps:List Fa} (h:FaOk P ops f) (k:FaAll P ops ps) (hn:(ps.map (·.d)).contains f.d=false:=by rfl):FaAll P ops (f::ps):=
 ⟨λg hg=>(Ycp.1 hg).elim (λe=>e▸h) (λhg=>k.1 g hg),(by
  rw[Ybz,List.nodup_cons];exact⟨λhm=>(by simp[hm]at hn),k.2⟩)⟩
theorem Fl.open {F:Nat} {listed:Array Bool} {a:Act} {V:World} (ps:List Fa) (hfa:FaAll P ops ps) (h:FaAll P ops ps->Fl P md ops Q S V.heap.size ps F listed a V) (hS:S V:=by assumption):wpAnyH P md ops Q S F listed a V:=
 Fl.start ps (h hfa) hS
theorem Fl.pt {N F:Nat} {ps:List Fa} {listed:Array Bool} {a a':Act} {V:World} (h:Fl P md ops Q S N ps F listed a' V) (ha:a=a':=by(simp only[Act.put,Zsi,Zs0,Zss];rfl)):Fl P md ops Q S N ps F listed a V:=by
 subst ha;exact h
section
variable {N F:Nat} {listed:Array Bool} {a:Act} {V:World} {i1 i2 i3 i4:Nat} {d1 d2 d3 d4:Tmp} {T1 T2 T3 T4:TypeId} {z1 z2 z3 z4:Array Value}
theorem Fl.close1 (h:∀B1 w,Below V.heap.size V w->S w->N<=B1->Box w B1 T1 z1->wpAnyH P md ops Q S F (listed.setIfInBounds i1 true) (a.put (some d1) (.pointer (some ⟨B1,0,none⟩))) w)
  (hfa:FaAll P ops [⟨i1,d1,T1,z1⟩]:=by assumption) (hSt:∀w w',S w->Below w.heap.size w w'->S w':=by first|exact(λw w' h k=>Za1 (Zaa (Yai h) k))|exact(λw w' h k=>KeepBut.S (KeepBut.call (Yai h) k))|exact(λw w' h k=>Zaa h k)) (hN:N<=V.heap.size:=by assumption)
  (hsh:shapeEnd md ops [⟨i1,d1,T1,z1⟩] listed=true:=by as_aux_lemma=>kernel_rfl):Fl P md ops Q S N [⟨i1,d1,T1,z1⟩] (F+1) listed a V:=by
 refine Fl.close (λqs w hq hp hV hS hok=>?_) hfa hSt hN hsh (Nat.ble_eq_true_of_le Zs);match qs,hq with
 | [(_, o1)], hq =>
   cases hq;cases o1 with
   | none=>cases hp
   | some B1 =>
     have b1:=hok.1 _ (Ycl ..) _ rfl;exact h B1 w hV hS b1.1 b1.2
end
end
end
section
theorem OwnF.lower {w:World} {base base':Nat} {v:Value} {n:Nat} {f:Nat->Int} (h:OwnF w base v n f) (hb:base'<=base):OwnF w base' v n f:=by
 obtain⟨hl,h|⟨g,cap,cur,hv,hb',hh,hr⟩⟩:=h
 ·exact⟨hl,.inl h⟩
 ·exact⟨hl,.inr ⟨g,cap,cur,hv,Yak hb hb',hh,hr⟩⟩
theorem Zd9 {P:Program} {w:World} {o:Oper} {a:Act} {K:Act->World->Prop} {Q:Exit->Act->World->Prop} (s x:Operand) (t:TypeId) (ho:o.op=.call {callee:=.builtin .append,args:=#[s,x],argTypes:=#[t,t]})
  (h1:P.underlying t=some (.slice 3)) (h2:(P.info? 3).map (λi=>(i.zero,i.size,i.bytes))=some (some (.int .i64 0),1,8))
  (base:Nat) (v:Value) (n:Nat) (f:Nat->Int) (hs:a.eval s=v) (hown:OwnF w base v n f) (B:Nat) (y:Int) (hx:a.eval x=.slice (some ⟨B,0,none⟩) 1 1) (hb:Box w B 3 #[.int .i64 y]) (hn:n<=1000000) (hbase:base<=w.heap.size)
  (h:∀v' w',OwnF w' base v' (n+1) (λi=>if i<n then f i else y)->w.grownBy w' v.ownBlock->K (a.put o.dst v') w'):o.wp P a w K Q:=by
 obtain⟨i,hi,hz,hs1,hb1⟩:=info_parts h2;refine wp_append_own w s x t ho base 3 i (.int .i64 0) 1 8 h1 hi hz hs1 hb1 rfl Zd v n _ hs hown ⟨B,0,none⟩ 1 1 [.int .i64 y] hx rfl ?_ (by simp[Value.oneCell']) (by simp[maxLen];omega) Zo hbase ?_
 ·intro j u hj
  match j,hj with
  | 0, hj =>
    have:=hb.cell 0;simp at hj;subst hj;simpa[Addr.add]using this
  | j+1,hj=>simp at hj
 ·intro v' w' h3 h4 _
  refine h v' w' ?_ h4;have e:(List.range n).map (λi=>Value.int .i64 (f i))++[.int .i64 y]=(List.range (n+1)).map λi=>.int .i64 (if i<n then f i else y):=by
   rw[Ydo,List.map_append];congr 1
   ·exact Yfy λi hi=>by rw[if_pos (Yeu.1 hi)]
   ·simp
  unfold OwnF;rw[<-e];exact h3
section
variable {P:Program} {ops:Array Oper} {Q:Exit->Act->World->Prop} {md:Region.Mode} {S:World->Prop}
theorem Zb6 (B:Nat) (T:TypeId) (i:Nat) {o:Oper} (hi:ops[i]? = some o) (hg:o.guard=none) (hd:o.dst=none) {ty:TypeId} {x y:Operand} (ho:o.op=.store ty x y) (off:Nat) (cells cs new:Array Value) {a:Act} {fuel:Nat} {listed:Array Bool} {w:World}
  (hr:Region.ready md ops listed=[i]) (hS:∀w i u,S w->S (w.setCell ⟨B,i,none⟩ u)) (hx:a.eval x=.pointer (some ⟨B,off,none⟩)) (hy:a.eval y=.agg cells)
  (hb:Box w B T cs) (hs:S w) (hi2:(P.info? ty).map (·.size)=some cells.size) (hoff:off+cells.size<=cs.size) (h1:cells.all (·.oneCell')=true)
  (hn:cs.toList.take off++cells.toList++cs.toList.drop (off+cells.size)=new.toList)
  (h:∀w',KeepBut B w.heap.size w w'->Box w' B T new->S w'->wpAnyH P md ops Q S fuel (listed.setIfInBounds i true) a w'):wpAnyH P md ops Q S (fuel+1) listed a w:=by
 refine wpAnyH_all hr Zs λj hj=>?_;obtain rfl:j=i:=by simpa using hj
 unfold wpOp;rw[hi];have hw:Region.wanted o (yielded ops a.tmps)=true:=by simp[Region.wanted,hg]
 simp only[hw,if_true];left
 have hb2:=Box.setCells cells.toList off w cs hb (by simpa using hoff);have hb3:Box (w.setCells B off cells.toList) B T new:=by simpa[hn]using hb2
 have hs2:=Zbp hS cells.toList off w hs;refine wp_store_mid ty x y ho B off cells hx hy (hb.there off cells.size hoff) hi2 h1 ?_;rw[hd];exact⟨hs2,h _ ((KeepBut.refl _ _).setCells _ _ _) hb3 hs2⟩
end
end
end Go.Mono
namespace Go.Proofs.W
open Go.RowKit Go.Mono
theorem Zpc (p q:Option Addr) (n m c1 c2:Nat) (f g:Nat->Int) (w:World) (h1:SlF w (.slice p n c1) n f) (h2:SlF w (.slice q m c2) m g) :
  Calls Tryz.prog 213 #[.slice p n c1,.slice q m c2] w λe w'=>e=.returned (.bool (decide (cmpV f n g m<0)))∧∃k,w'=w.drewN k:=by
 obtain⟨hc1,hn1,hx1⟩:=h1.opens;obtain⟨hc2,hn2,hx2⟩:=h2.opens;clear h1 h2;by_cases hnm:n=m
 ·subst hnm
  go_enter Tryz.func213,Tryz.ntmps213
  go_wp2
  go_loopw [5] (λa wr=>∃k:Nat,k<=n∧a=.int .i64 ((k:Int)-1)∧cmpDown f g k=cmpDown f g n∧∃j,wr=w.drewN j) (λa _=>(intOf a+1).toNat)
  case atStart=>exact⟨n,Yab _,rfl,rfl,0,rfl⟩
  case round=>
   obtain⟨k,hk,rfl,ht,j,rfl⟩:=hrel;have HT:=Yah ht;clear ht;by_cases h0:0<k
   ·obtain⟨b,off,rfl,hb,hcell⟩:=hx1 Zo
    obtain⟨b2,off2,rfl,hb2,hcell2⟩:=hx2 Zo;have a1:=hcell (k-1) Zo;have a2:=hcell2 (k-1) Zo;clear hcell hcell2 hx1 hx2;obtain⟨k,rfl⟩:∃j,k=j+1:=⟨k-1,Zo⟩
    simp only[Ybf]at a1 a2;rw[show((k+1:Nat):Int)-1=(k:Int) by omega];have HE:=Zh2 f g (k+1) Zo;have HN:=Zh3 f g (k+1) Zo;simp only[Ybf]at HE HN;replace HE:=Yah HE;replace HN:=Yah HN;by_cases hfg:f k=g k
    ·have hq:(f k != g k)=false:=by simpa using hfg
     have HF:=Yah hfg;clear hfg;go_wp2
     go_quiet (fail)
     go_wp2
     go_roundw
     case rel=>exact⟨k,Zo,rfl,by rw[<-HT.out,HE.out HF.out],_,rfl⟩
     case measure=>simp[intOf]
    ·have hq:(f k != g k)=true:=by simpa using hfg
     have HF:=Yah hfg;clear hfg;go_wp2
     go_quiet (fail)
     go_wp2
     go_quiet (fail)
     go_wp2
     go_ret
     exact⟨by rw[cmpV,if_pos rfl,<-HT.out,HN.out HF.out,show decide (f k-g k<0)=decide (f k<g k) from by rw[decide_eq_decide];omega];rfl,_,by rw[Ydc,Ydc]⟩
   ·obtain rfl:k=0:=by omega
    go_wp2
    go_ret
    exact⟨by rw[cmpV,if_pos rfl,<-HT.out];rfl,_,rfl⟩
 ·have hnm':((n:Int) != (m:Int))=true:=by simp;omega
  go_enter Tryz.func213,Tryz.ntmps213
  go_wp2
  go_ret
  refine⟨by rw[cmpV,if_neg hnm,show decide ((n:Int)-m<0)=decide (n<m) from by rw[decide_eq_decide];omega];rfl,0,rfl⟩
theorem Ze3 (p q:Option Addr) (n m c1 c2:Nat) (f g:Nat->Int) (w:World) (h1:SlF w (.slice p n c1) n f) (h2:SlF w (.slice q m c2) m g) (d1:Digs f n) (d2:Digs g m) :
  Calls Tryz.prog 213 #[.slice p n c1,.slice q m c2] w λe w'=>e=.returned (.bool (decide (vf f n<vf g m)))∧∃k,w'=w.drewN k:=by
 refine(Zpc p q n m c1 c2 f g w h1 h2).mono ?_;rintro e w' ⟨rfl,hk⟩;exact⟨by simp only[(Zj2 d1 d2).1],hk⟩
theorem Zfn (p:Option Addr) (n c i:Nat) (f:Nat->Int) (w:World) (h:SlF w (.slice p n c) n f) :
  Calls Tryz.prog 207 #[.slice p n c,.int .i64 (i:Int)] w λe w'=>e=.returned (.int .i64 (xt f n i))∧w'=w:=by
 obtain⟨hc,hn,hx⟩:=h.opens;clear h;by_cases hin:i<n
 ·obtain⟨b,off,rfl,hb,hcell⟩:=hx Zo
  have a1:=hcell i hin;have hi':(i:Int)<n:=Zo;rw[Zo7 hin];clear hcell hx;go_enter Tryz.func207,Tryz.ntmps207
  go_wp2
  go_ret
  exact⟨rfl,rfl⟩
 ·have hi':¬(i:Int)<n:=by omega
  rw[Zum Zo];clear hx;go_enter Tryz.func207,Tryz.ntmps207
  go_wp2
  go_ret
  exact⟨rfl,rfl⟩
end Go.Proofs.W
