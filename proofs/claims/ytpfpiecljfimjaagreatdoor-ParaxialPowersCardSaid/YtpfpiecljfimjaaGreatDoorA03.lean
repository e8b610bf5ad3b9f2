/- Contracts of package paraxial,and a verified evaluator. Part 3 of 26. No condition beside the row. -/
import Derived.RangeFuncNested
import Derived.RangeFuncBound
import Derived.RangeFuncCalls
import Derived.RangeFuncLeaves
import Derived.Shelf.Abstract
import Derived.Shelf.RegionOpen
import Derived.WalkKit
import Derived.OwnWalkIn
import Derived.TacticsInMore
import Derived.LoopNIn
import Derived.LoopIn
import Derived.Deep.MidRow
import Derived.Laws.Rows
import Derived.Laws.ResultCell
import Derived.Test.YtpfpiecljfimjaaGreatDoorA01
import Derived.Test.YtpfpiecljfimjaaGreatDoorA02
set_option linter.unusedVariables false
set_option linter.unusedSimpArgs false
set_option maxRecDepth 100000
set_option maxHeartbeats 4000000
namespace Go.Mono
open Go.RowKit
theorem OwnF.low {w:World} {base:Nat} {v:Value} {n:Nat} {f:Nat->Int} (h:OwnF w base v n f):∀k,v.ownBlock=some k->base<=k:=by
 obtain⟨hl,⟨rfl,_⟩|⟨g,cap,cur,rfl,hb,_⟩⟩:=h
 ·intro k hk;simp[Value.ownBlock]at hk
 ·intro k hk;simp only[Value.ownBlock,Ybp]at hk;omega
theorem OwnF.below {w w':World} {base:Nat} {v:Value} {n:Nat} {f:Nat->Int} (h:OwnF w base v n f) (hB:Below w.heap.size w w'):OwnF w' base v n f:=by
 obtain⟨hl,h|⟨g,cap,cur,hv,hb,hh,hr⟩⟩:=h
 ·exact⟨hl,.inl h⟩
 ·exact⟨hl,.inr ⟨g,cap,cur,hv,hb,(hB.block g (Zam hh)).trans hh,hr⟩⟩
theorem OwnF.set {w:World} {base:Nat} {v:Value} {n:Nat} {f:Nat->Int} (h:OwnF w base v n f) (a:Addr) (u:Value) (ha:a.block<base):OwnF (w.setCell a u) base v n f:=by
 obtain⟨hl,h|⟨g,cap,cur,hv,hb,hh,hr⟩⟩:=h
 ·exact⟨hl,.inl h⟩
 ·exact⟨hl,.inr ⟨g,cap,cur,hv,hb,(Ydx w a u g Zo).trans hh,hr⟩⟩
theorem Box.low {w w':World} {B N:Nat} {T:TypeId} {cs:Array Value} (h:Box w B T cs) (hb:Below N w w') (hB:B<N):Box w' B T cs:=⟨(hb.block B hB).trans h.blk⟩
theorem Zir (w:World) (x y:Int) (h:x=y):SlF (w.alloc (.cells #[.int .i64 x] 3)) (.slice (some ⟨w.heap.size,0,none⟩) 1 1) 1 (λ_=>y):=by
 subst h;refine .inr ⟨_,_,_,#[.int .i64 x],(0,0),rfl,Zo,Zo,(Box.new w 3 #[.int .i64 x]).blk,λi hi=>?_⟩;obtain rfl:i=0:=Zo;rfl
structure OfInv (z r:Int) (k:Nat) (f:Nat->Int):Prop where
 lo:∀i,i<k->0<=f i
 hi:∀i,i<k->f i<1000000000
 val:vf f k+pw k*r.natAbs=z.natAbs
 top:r=0->0<k->f (k-1)≠0
theorem OfInv.start (z:Int):OfInv z z 0 (λ_=>0):=⟨λi hi=>Zo,λi hi=>Zo,by simp[vf,pw],λ_ h=>Zo⟩
theorem OfInv.small {z r:Int} {k:Nat} {f:Nat->Int} (h:OfInv z r k f) (h1 : -9223372036854775808<=z) (h2:z<=9223372036854775807) (h0:r≠0):k<=2:=by
 have hv:=Zaq h.lo;have hval:=h.val;have hp:=Za8 k;by_cases hk:k<=2
 ·exact hk
 ·have h3:=Zbs (i:=3) (k:=k) Zo
  have e3:pw 3=1000000000000000000000000000:=Zd;have:pw k*1<=pw k*r.natAbs:=Ycr Zo Zo;omega
theorem OfInv.bound {z r:Int} {k:Nat} {f:Nat->Int} (h:OfInv z r k f) (h1 : -9223372036854775808<=z) (h2:z<=9223372036854775807):r.natAbs<=9223372036854775808:=by
 have hv:=Zaq h.lo;have hval:=h.val;have hp:=Za8 k;have:1*(r.natAbs:Int)<=pw k*r.natAbs:=Yaw Zo Zo;omega
theorem OfInv.step {z r:Int} {k:Nat} {f:Nat->Int} (h:OfInv z r k f) (h0:r≠0):OfInv z (r.tdiv 1000000000) (k+1) (λi=>if i<k then f i else((r.tmod 1000000000).natAbs:Int)):=by
 have hm:((r.tmod 1000000000).natAbs:Int)=r.natAbs%1000000000:=by rw[Ydy];rfl
 have hd:((r.tdiv 1000000000).natAbs:Int)=r.natAbs/1000000000:=by rw[Yfg];rfl
 refine⟨?_,?_,?_,?_⟩
 ·intro i hi
  by_cases hk:i<k
  ·rw[if_pos hk];exact h.lo i hk
  ·rw[if_neg hk];omega
 ·intro i hi
  by_cases hk:i<k
  ·rw[if_pos hk];exact h.hi i hk
  ·rw[if_neg hk];omega
 ·rw[Zaj,Za5,if_neg (Yfw k),Zbi (g:=f) (λi hi=>if_pos hi),<-h.val,hm,hd]
  have e:(r.natAbs:Int)=r.natAbs%1000000000+1000000000*(r.natAbs/1000000000):=(Int.emod_add_mul_ediv _ _).symm;generalize hA:((r.natAbs:Int)%1000000000)=A at e;generalize hB:((r.natAbs:Int)/1000000000)=C at e;rw[e];grind
 ·intro hz _
  simp only[Ybf,Yfw,if_false];have:((r.tdiv 1000000000).natAbs:Int)=0:=by rw[hz];rfl
  omega
def IterAll (F:Fence) (n:Nat) (P:Program) (g:Nat) (fi lb:Array Value) (m:Nat) (encs:Nat->Array Value) (Kp:World->Prop):Prop:=
 ∀(l:Nat) (J:Nat->World->Prop) (W:World),(∀i V,J i V->Kp V)->(∀i V V',J i V->Below V.heap.size V V'->J i V')->
   (∀i V,J i V->i<m->YieldAt F (n-1) P l (encs i) V λe V'=>e=.returned (.bool true)∧J (i+1) V')->
   J 0 W->CallsIn F n P g (fi++#[.func (.yield l) #[] #[]]++lb) W λe V=>(∃v,e=.returned v)∧J m V
theorem Zci {W W':World} (h:Below W.heap.size W W'):KeepsOthers W W':=
 ⟨h.size,λk _ hk _=>(h.block k (Zam hk)).trans hk⟩
theorem Zkr {w W:World} (h:Below w.heap.size w W) {l:Nat} (hl:w.heap.size<=l) (o:Obj):Below w.heap.size w (W.putObj l o):=
 h.grown (grownBy_putObj' W l o) h.size (λk e=>by cases e;exact hl)
theorem Zhv {F:Fence} {n:Nat} {P:Program} {g:Operand} {ps:Array Tmp} {assign body:Code} {Q:Exit->Act->World->Prop} {a:Act} {w:World}
  (hro:F.round=none) (h1:1<=n) {gf:Nat} {fi lb:Array Value} (hg:a.eval g=.func (.func gf) fi lb) (hFg:F.fn gf)
  (eg:∀args w,(callFunc gf args).run P w=.ok (.enter gf args) w)
  {m:Nat} {encs:Nat->Array Value} {Kp:World->Prop} (hit:IterAll F (n-1) P gf fi lb m encs Kp) (hps:∀i,(encs i).size=ps.size)
  (I:Nat->World->Prop) (hI:OwnFrom w.heap.size I) (hK:∀i V,I i V->Kp V) (hIB:∀i V V',I i V->Below V.heap.size V V'->I i V') (h0:I 0 w) 
  (hround:∀(l i:Nat) (W:World),I i W->i<m->w.heap.size<=l->w.heap.size<=W.heap.size->
   assign.wpIn (F.inRound l) (n-1-1) P (Exit.then (λx W1=>KeepsOthers W W1∧∀W2,W1.grownBy W2 (some l)->(∃o:Obj,W1.heap[l]? = some o∧o.isCells=false)->
    body.wpIn (F.inRound l) (n-1-1) P (λe _ W'=>e=.normal∧KeepsOthers W2 W'∧I (i+1) W') x W2) (λ_ _ _=>False))
    {tmps:=(ps.zip (encs i)).foldl (λt (p,v)=>t.setIfInBounds p v) a.tmps,defers:=[]} W)
  (hdone:∀(D:Nat) (W:World),w.heap.size<=D->I m W->W.heap[D]? = some (.deferred (some []))->Q .normal {a with defers:={target:=.collected D,args:=#[]}::a.defers} W) :
  (Code.rangeFunc g ps assign body).wpIn F n P Q a w:=by
 refine wpIn_rangeFunc λfn hfn=>?_;rw[hro];obtain⟨rec,hrec⟩:∃rec:LoopState->Loop,rec=λst=>{state:=st,pending:=none,fn,tmps:=a.tmps,params:=ps,assign,body,defers:=w.heap.size}:=⟨_,rfl⟩
 obtain⟨W1,hW1⟩:∃W1,(w.alloc (.deferred (some []))).alloc (.loop (rec .ready))=W1:=⟨_,rfl⟩
 have hL1:W1.heap[w.heap.size+1]? = some (.loop (rec .ready)):=by
  rw[<-hW1];have:=World.alloc_heap_new (w.alloc (.deferred (some []))) (.loop (rec .ready));rwa [Yav]at this
 have hK1:W1.heap[w.heap.size]? = some (.deferred (some [])):=by
  rw[<-hW1];exact(Below.heap_alloc _ _ _ Zs).trans (World.alloc_heap_new w _)
 have hI1:I 0 W1:=by rw[<-hW1];exact hI.alloc _ (hI.alloc _ h0)
 refine⟨w.heap.size+1,[{target:=.collected w.heap.size,args:=#[]}],W1,{target:=.fn (.func gf) lb,args:=fi++#[.func (.yield (w.heap.size+1)) #[] #[]]},W1,gf,
  fi++#[.func (.yield (w.heap.size+1)) #[] #[]]++lb,W1,?_,?_,?_,?_,λ_=>h1,?_⟩
 ·rw[<-hW1,hrec];exact run_enterLoop_outer _ _ _ _ _
 ·simp only[resolve,hg]
  simp[go_sem]
 ·intro f' hf';simp[Target.leads]at hf';subst hf';exact hFg
 ·simp[invoke,go_sem,eg]
 ·refine(hit (w.heap.size+1)
   (λi W=>I i W∧W.heap[w.heap.size+1]? = some (.loop (rec .ready))∧W.heap[w.heap.size]? = some (.deferred (some []))) W1
   (λi V h=>hK i V h.1)
   (λi V V' h hb=>⟨hIB i V V' h.1 hb,(hb.block _ (Zam h.2.1)).trans h.2.1,(hb.block _ (Zam h.2.2)).trans h.2.2⟩)
   ?_ ⟨hI1,hL1,hK1⟩).mono ?_
  ·rintro i W ⟨hi,hl,hk⟩ hlen
   have hlt:w.heap.size+1<W.heap.size:=Zam hl;have hy:=run_yield (P:=P) (args:=encs i) hl (by rw[hrec];exact hps i);rw[hrec]at hy;refine⟨fn,_,assign,body,hy,roundIn_of_wpIn hfn (wpIn_mono (hround _ i W hi hlen Zo Zo) ?_)⟩;rintro e x W0 hx;cases e with
   | normal=>?_
   | _=>exact hx
   obtain⟨hk0,hx⟩:=hx;replace hl:=hk0.same _ _ hl rfl;replace hk:=hk0.same _ _ hk rfl;replace hlt:w.heap.size+1<W0.heap.size:=Zam hl;clear hi hy hk0;refine⟨_,run_beginRound hl (by rw[hrec]),?_⟩;have hl2:(W0.putObj (w.heap.size+1) (.loop {rec .ready with state:=.busy})).heap[w.heap.size+1]? = some (.loop {rec .ready with state:=.busy}):=World.putObj_heap_same hlt;have hk2:(W0.putObj (w.heap.size+1) (.loop {rec .ready with state:=.busy})).heap[w.heap.size]? = some (.deferred (some [])):=(World.putObj_heap_other Zo).trans hk;refine wpIn_mono (hx _ (grownBy_putObj' _ _ _) ⟨_,hl,rfl⟩) ?_;rintro e a3 W3 ⟨rfl,hk3,hi3⟩;have hl3:=hk3.same _ _ hl2 rfl;have he:=run_endRound (P:=P) none hl3;have h4:(rec LoopState.ready).pending=none:=by rw[hrec]
   refine⟨_,_,he,?_,hI.putObj _ hi3 Zo hl3 rfl,?_,(World.putObj_heap_other Zo).trans (hk3.same _ _ hk2 rfl)⟩
   ·rfl
   ·rw[World.putObj_heap_same (Zam hl3)]
    rw[hrec];rfl
  ·rintro e W2 ⟨⟨v,rfl⟩,hi,hl,hk⟩
   have he:=run_endLoop (P:=P) hl (by rw[hrec];simp);refine⟨_,_,he,?_⟩;rw[hrec];exact hdone _ _ (Yab _) (hI.putObj _ hi Zo hl rfl) ((World.putObj_heap_other Zo).trans hk)
theorem Box.grown {w w':World} {B:Nat} {T:TypeId} {cs:Array Value} (b:Box w B T cs) {row:Option Nat} (hg:w.grownBy w' row) (hr:∀r,row=some r->∃o:Obj,w.heap[r]? = some o∧o.isCells=false):Box w' B T cs:=by
 obtain⟨_,_,_,_,hb⟩:=hg;refine⟨(hb B b.lt λe=>?_).trans b.blk⟩;obtain⟨o,ho,hc⟩:=hr B e.symm;rw[b.blk]at ho;cases ho;cases hc
section
section
variable {P:Program} {ops:Array Oper} {Q:Exit->Act->World->Prop} {md:Region.Mode} {S:World->Prop}
theorem Zh1 {B:Nat} {T:TypeId} {a:Act} {w:World} {cs:Array Value} {K:Act->World->Prop} (i:Nat) {o:Oper} (hi:ops[i]? = some o) (hg:o.guard=none) (hd:o.dst=none) {ty:TypeId} {x y:Operand} (ho:o.op=.store ty x y)
  (off:Nat) (v:Value) (hx:a.eval x=.pointer (some ⟨B,off,none⟩)) (hy:a.eval y=v)
  (hrun:∀w:World,(w.cell? ⟨B,off,none⟩).isSome=true->w.frozen? ⟨B,off,none⟩=false->(Instr.storeAt ty (.pointer (some ⟨B,off,none⟩)) v).run P w=.ok () (w.setCell ⟨B,off,none⟩ v))
  (hb:Box w B T cs) (hoff:off<cs.size) (hK:K a (w.setCell ⟨B,off,none⟩ v)):wpOp P ops Q i K a w:=by
 unfold wpOp;rw[hi];have hw:Region.wanted o (yielded ops a.tmps)=true:=by simp[Region.wanted,hg]
 simp only[hw,if_true];left
 have hc:(w.cell? ⟨B,off,none⟩).isSome=true:=by rw[hb.cell];simp[hoff]
 unfold Oper.wp execOp;simp only[ho,hx,hy,Yar,hrun w hc (hb.frozen off),Yag,Yau];show K (a.put o.dst undef) _;rw[hd];exact hK
theorem Zbl (B:Nat) (T:TypeId) (i:Nat) {o:Oper} (hi:ops[i]? = some o) (hg:o.guard=none) (hd:o.dst=none) {ty:TypeId} {x y:Operand} (ho:o.op=.store ty x y) (off:Nat) (v:Value) (cs new:Array Value) {a:Act} {fuel:Nat} {listed:Array Bool} {w:World}
  (hr:Region.ready md ops listed=[i]) (hS:∀w i u,S w->S (w.setCell ⟨B,i,none⟩ u)) (hx:a.eval x=.pointer (some ⟨B,off,none⟩)) (hy:a.eval y=v)
  (hrun:∀w:World,(w.cell? ⟨B,off,none⟩).isSome=true->w.frozen? ⟨B,off,none⟩=false->(Instr.storeAt ty (.pointer (some ⟨B,off,none⟩)) v).run P w=.ok () (w.setCell ⟨B,off,none⟩ v))
  (hb:Box w B T cs) (hs:S w) (hoff:off<cs.size) (hnew:cs.setIfInBounds off v=new)
  (h:∀w',Box w' B T new->S w'->wpAnyH P md ops Q S fuel (listed.setIfInBounds i true) a w'):wpAnyH P md ops Q S (fuel+1) listed a w:=by
 refine wpAnyH_all hr Zs λj hj=>?_;obtain rfl:j=i:=by simpa using hj
 exact Zh1 j hi hg hd ho off v hx hy hrun hb hoff ⟨hS _ _ _ hs,h _ (hnew▸hb.set off v) (hS _ _ _ hs)⟩
end
end
end Go.Mono
namespace Go.Proofs.W
open Go.RowKit Go.Mono
theorem Zgo (p:Option Addr) (n c1:Nat) (f:Nat->Int) (w:World) (h1:SlF w (.slice p n c1) n f) (hn:n<=1000000) :
  Calls Tryz.prog 176 #[.slice p n c1] w λe w'=>∃v,e=.returned v∧OwnF w' w.heap.size v n f∧Below w.heap.size w w':=by
 have hq:∀(w:World),(binOp .eql 170 (.slice p n c1) (.slice none 0 0)).run Tryz.prog w=.ok (.bool p.isNone) w:=λw=>Lib.run_eql_slice_nil w _ _ p n c1 0 0 Tryz.underlying170;cases p with
 | none =>
   obtain⟨rfl,rfl⟩:n=0∧c1=0:=by
    rcases h1 with ⟨h,rfl⟩|⟨b,off,cap,cs,fr,h,_⟩
    ·simp at h;exact⟨rfl,h⟩
    ·simp at h
   go_enter Tryz.func176,Tryz.ntmps176
   go_wp2
   go_ret
   exact⟨_,rfl,OwnF.nil _ _ _,Yae _ _⟩
 | some a =>
   have ho:OwnF (w.alloc (.cells #[] 3)) w.heap.size (.slice (some ⟨w.heap.size,0,none⟩) 0 0) 0 (λ_=>0):=World.ownsRow_lit w #[] 0 (Yab _) Zd rfl;have hx:Below w.heap.size w (w.alloc (.cells #[] 3)):=(Yae _ _).alloc (Yab _) _;have hs:=h1.ext (.of_below hx);clear h1;go_enter Tryz.func176,Tryz.ntmps176
   go_wp2_with (at_builtin;refine Za9 _ rfl _ _ 170 rfl Tryz.underlying170 Zby w.heap.size _ 0 (λ_=>0) rfl ho _ n c1 f rfl hs Zo Zs ?_;intro v' w1 ho' hg)
   go_ret
   refine⟨_,rfl,?_,hx.grown hg Zs (by rintro k ⟨⟩;exact Yab _)⟩;have:=ho'.congr (f':=f) (λi _=>Zs);rwa [Yba]at this
theorem Zp8 (p q:Option Addr) (n m c1 c2:Nat) (f g:Nat->Int) (w:World) (h1:SlF w (.slice p n c1) n f) (h2:SlF w (.slice q m c2) m g)
  (f0:∀i,i<n->0<=f i) (f1:∀i,i<n->f i<1000000000) (g0:∀i,i<m->0<=g i) (g1:∀i,i<m->g i<1000000000) (hmn:m<=n) (hn:n<=1000000) (hle:vf g m<=vf f n) :
  Calls Tryz.prog 205 #[.slice p n c1,.slice q m c2] w λe w'=>∃p k c h,e=.returned (.slice p k c)∧SlF w' (.slice p k c) k h∧Digs h k∧vf h k=vf f n-vf g m∧k<=n∧Below w.heap.size w w':=by
 obtain⟨hc2,hn2,hx2⟩:=h2.opens;clear h2;by_cases h0:n=0
 ·subst h0
  obtain rfl:m=0:=Zo;go_enter Tryz.func205,Tryz.ntmps205
  go_wp2_with (go_at_call 176;refine(Zgo _ _ _ f _ h1 Zo).mono ?_;rintro e w' ⟨v,rfl,ho,hb⟩)
  obtain⟨p2,c3,rfl⟩:=ho.shape;have hs:=ho.sl Zo;go_wp2_with fail
  go_loopw [13] (λa wr=>a=.int .i64 0∧wr=w') (λ_ _=>0)
  case atStart=>exact⟨rfl,rfl⟩
  case round=>
   obtain⟨rfl,rfl⟩:=hrel;go_wp2
   go_loopw [28] (λa wr'=>a=.int .i64 0∧wr'=wr) (λ_ _=>0)
   case atStart=>exact⟨rfl,rfl⟩
   case round=>
    obtain⟨rfl,rfl⟩:=hrel;go_wp2_with (go_at_call 200;refine(Zck _ _ _ f _ hs).mono ?_;rintro e w' ⟨rfl,rfl⟩)
    go_ret
    exact⟨p2,0,c3,f,rfl,hs,⟨λi hi=>Zo,λi hi=>Zo,λhi=>Zo⟩,by simp[vf],Yab _,hb⟩
 ·go_enter Tryz.func205,Tryz.ntmps205
  go_wp2_with (go_at_call 176;refine(Zgo _ _ _ f _ h1 Zo).mono ?_;rintro e w' ⟨v,rfl,ho,hb⟩)
  rcases ho.open with ⟨_,h⟩|⟨r,cap,rfl,hB,hcap,hr⟩
  ·exact absurd h h0
  clear ho h1;have HP:=MinusInv.start hmn f0 f1 g0 g1;have hS:0<=vf f n-vf g m:=Zo;go_wp2_with fail
  go_loopw [13] (λa wr=>∃k:Nat,k<=m∧a=.int .i64 k∧Below w.heap.size w wr∧RowF wr r n (λj=>f j-(if j<k then g j else 0))) (λa _=>m-(intOf a).toNat)
  case atStart=>exact⟨0,Yat _,rfl,hb,hr.congr λi _=>Zs⟩
  case round=>
   clear hb hr;obtain⟨k,hk,rfl,hb,hr⟩:=hrel;by_cases hlt:k<m
   ·obtain⟨b,off,rfl,hbs,hcell⟩:=hx2 Zo
    have a1:=(hb.cell (p:=⟨b,off+k,none⟩) hbs).trans (hcell k hlt);have a2:=hr.cell k Zo;rw[if_neg Zo,Int.sub_zero]at a2;have a3:=hr.frozen k;have d1:=f0 k Zo;have d2:=f1 k Zo;have d3:=g0 k hlt;have d4:=g1 k hlt;clear hcell hx2 f0 f1 g0 g1 HP;go_wp2
    go_roundw
    case rel=>
     refine⟨k+1,Zo,by go_num,hb.setCell (p:=⟨r,k,none⟩) hB _,(hr.set k _).congr λi hi=>?_⟩;by_cases e:i=k
     ·subst e;simp
     ·rw[if_neg e];simp only[show i<k+1↔i<k by omega]
    case measure=>simp[intOf];omega
   ·obtain rfl:k=m:=by omega
    clear hlt hk hx2;clear f0 f1 g0 g1;go_wp2
    go_loopw [28] (λa wr=>∃i:Nat,i<=n∧a=.int .i64 i∧Below w.heap.size w wr∧∃h,RowF wr r n h∧MinusInv n (vf f n-vf g k) i h) (λa _=>n-(intOf a).toNat)
    case atStart=>exact⟨0,Yat _,rfl,hb,_,hr,HP⟩
    case round=>
     clear hb hr HP;obtain⟨i,hi,rfl,hb,h,hr,HP⟩:=hrel;by_cases hlt:i<n
     ·obtain⟨q1,q2,q3⟩:=HP.bd hlt
      have a2:=hr.cell i Zo;have a3:=hr.frozen i;by_cases hge:h i<0
      ·have hl:=HP.last hS hlt hge
       obtain⟨q4,q5⟩:=q3 hl;have a4:=hr.cell (i+1) Zo;have a5:=hr.frozen (i+1);have r1:=hr.set i (h i+1000000000);have a6:=r1.cell (i+1) Zo;have a7:=r1.frozen (i+1);simp only[show ¬i+1=i by omega,if_false]at a6;clear q3;go_wp2
       go_roundw
       case rel=>exact⟨i+1,Zo,by go_num,(hb.setCell (p:=⟨r,i,none⟩) hB _).setCell (p:=⟨r,i+1,none⟩) hB _,_,r1.set (i+1) (h (i+1)-1),HP.carry hl hge⟩
       case measure=>simp[intOf];omega
      ·have hge':0<=h i:=by omega
       clear q3;go_wp2
       go_roundw
       case rel=>exact⟨i+1,Zo,by go_num,hb,_,hr,HP.plain hlt hge'⟩
       case measure=>simp[intOf];omega
     ·obtain rfl:i=n:=by omega
      clear hlt hi;have hs:=hr.slice Zo i (Yab _) cap hcap;obtain⟨c1',c2'⟩:=HP.done;have hle:=Za3 h i;replace c2':=Yah c2';go_wp2_with (go_at_call 200;refine(Zck _ _ _ h _ hs).mono ?_;rintro e w' ⟨rfl,rfl⟩)
      go_ret
      exact⟨_,_,_,h,rfl,hs.take _ hle,c1',c2'.out,hle,hb⟩
theorem Zm5 (m1 m2:Nat) (w wf:World) (hx:Ext wf w) (p q:Option Addr) (n m c1 c2:Nat) (N M:Int) (h1:Sz m1 wf (.slice p n c1) N) (h2:Sz m2 wf (.slice q m c2) M) (hm1:m1<=1000000) (hle:M<=N) :
  Calls Tryz.prog 205 #[.slice p n c1,.slice q m c2] w λe w'=>∃p k c,e=.returned (.slice p k c)∧Sz m1 w' (.slice p k c) (N-M)∧Below w.heap.size w w':=by
 obtain⟨n,f,s1,d1,rfl,l1,rfl⟩:=(h1.ext hx).sl;obtain⟨m,g,s2,d2,rfl,l2,rfl⟩:=(h2.ext hx).sl;refine(Zp8 p q n m c1 c2 f g w s1 s2 d1.lo d1.hi d2.lo d2.hi (d2.len_le d1 hle) Zo hle).mono ?_;rintro e w' ⟨p,k,c,h,rfl,hs,hd,hv,hk,hb⟩;exact⟨_,_,_,rfl,⟨k,h,hs,hd,hv,Zo⟩,hb⟩
end Go.Proofs.W
namespace Go.Mono
def LessPost (r j n R:Nat) (h0 g:Nat->Int) (d:Int) (w:World) (e:Ending) (w':World):Prop:=∃(b:Bool) (h:Nat->Int),e=.returned (.bool b)∧RowF w' r R h∧
   (∀k,k<R->0<=h k)∧(∀k,k<R->h k<1000000000)∧(∀k,k<j∨j+n<k->h k=h0 k)∧vf (win h j) (n+1)=vf (win h0 j) (n+1)-d*vf g n+(if b then 1 else 0)*pw (n+1)∧OnlyRow r w w'
end Go.Mono
namespace Go.Proofs.W
open Go.RowKit Go.Mono
theorem Ztn (r j n R cap s c2:Nat) (h0 g:Nat->Int) (d:Int) (w:World) (hr0:RowF w r R h0) (hs:RowF w s n g) (hrs:s≠r) (hR:j+n<R) (hRb:R<=2000000)
  (lo:∀k,k<R->0<=h0 k) (hi:∀k,k<R->h0 k<1000000000) (g0:∀i,i<n->0<=g i) (g1:∀i,i<n->g i<1000000000) (d0:0<=d) (d1:d<1000000000) :
  Calls Tryz.prog 202 #[.slice (some ⟨r,j,none⟩) (n+1) cap,.slice (some ⟨s,0,none⟩) n c2,.int .i64 d] w (LessPost r j n R h0 g d w):=by
 go_enter Tryz.func202,Tryz.ntmps202
 go_wp2
 go_loopw [7,14] (λc a wr=>∃i:Nat,i<=n∧a=.int .i64 i∧OnlyRow r w wr∧∃h bo,c=.int .i64 bo∧RowF wr r R h∧LessInv R j n h0 g d i h bo) (λ_ a _=>n-(intOf a).toNat)
 case atStart=>exact⟨0,Yat _,rfl,OnlyRow.refl _ _,_,_,rfl,hr0,LessInv.start lo hi⟩
 case round=>
  clear hr0 lo hi;obtain⟨i,hin,rfl,ho,h,bo,rfl,hr,HT⟩:=hrel;by_cases hlt:i<n
  ·have a1:=(ho.row hs hrs).cell i hlt
   have gi0:=g0 i hlt;have gi1:=g1 i hlt;have a2:=hr.cell (j+i) Zo;have a3:=hr.frozen (j+i);have b0:=HT.b0;have b1:=HT.b1;have h0':=HT.lo (j+i) Zo;have h1':=HT.hi (j+i) Zo;obtain⟨d5,d6⟩:=Zgn gi0 gi1 d0 d1;have HS:=λ(t e:Int) (ht:0<=t) (ht2:t<=2) he e0 e1=>HT.step hlt gi0 gi1 d0 d1 (t:=t) (e:=e) ht ht2 he e0 e1;replace HS:=Yah HS;clear HT g0 g1;by_cases n1:h (j+i)-g i*d%1000000000-bo<0
   ·by_cases n2:h (j+i)-g i*d%1000000000-bo+1000000000<0
    ·go_wp2
     go_roundw
     case rel=>exact⟨i+1,Zo,by go_num,ho.set (j+i) _,_,_,rfl,hr.set (j+i) _,(by have:=HS.out 2 (h (j+i)-g i*d%1000000000-bo+1000000000+1000000000) Zo Zo Zo Zo (Zo);rwa [show g i*d/1000000000+2=g i*d/1000000000+1+1 by omega]at this)⟩
     case measure=>simp[intOf];omega
    ·go_wp2
     go_roundw
     case rel=>exact⟨i+1,Zo,by go_num,ho.set (j+i) _,_,_,rfl,hr.set (j+i) _,HS.out 1 (h (j+i)-g i*d%1000000000-bo+1000000000) Zo Zo Zo Zo Zo⟩
     case measure=>simp[intOf];omega
   ·go_wp2
    go_roundw
    case rel=>exact⟨i+1,Zo,by go_num,ho.set (j+i) _,_,_,rfl,hr.set (j+i) _,(by have:=HS.out 0 (h (j+i)-g i*d%1000000000-bo) Zo Zo Zo Zo (Zo);rwa [Yda]at this)⟩
    case measure=>simp[intOf];omega
  ·obtain rfl:i=n:=by omega
   have a2:=hr.cell (j+i) Zo;have a3:=hr.frozen (j+i);have b0:=HT.b0;have b1:=HT.b1;have h0':=HT.lo (j+i) Zo;have h1':=HT.hi (j+i) Zo;have HS:=λ(t e:Int) ht he e0 e1=>HT.last (t:=t) (e:=e) ht he e0 e1;replace HS:=Yah HS;have r1:=hr.set (j+i) (h (j+i)-bo);have a4:=r1.cell (j+i) Zo;have a5:=r1.frozen (j+i);simp only[if_true]at a4;clear HT g0 g1 hlt hin hs;by_cases n1:h (j+i)-bo<0
   ·go_wp2
    go_ret
    have r2:=r1.set (j+i) (h (j+i)-bo+1000000000);obtain⟨q1,q2,q3,q4⟩:=HS.out 1 (h (j+i)-bo+1000000000) (.inr rfl) Zo Zo Zo;refine⟨true,_,rfl,r2.congr λk hk=>?_,q2,q3,q4,q1,(ho.set _ _).set _ _⟩;by_cases e:k=j+i
    ·rw[if_pos e,if_pos e]
    ·rw[if_neg e,if_neg e,if_neg e]
   ·go_wp2
    go_ret
    obtain⟨q1,q2,q3,q4⟩:=HS.out 0 (h (j+i)-bo) (.inl rfl) Zo Zo Zo;exact⟨false,_,rfl,r1,q2,q3,q4,q1,ho.set _ _⟩
theorem Zto (r j n R cap s c2:Nat) (h0 g:Nat->Int) (w:World) (hr0:RowF w r R h0) (hs:RowF w s n g) (hrs:s≠r) (hR:j+n<R) (hRb:R<=2000000)
  (lo:∀k,k<R->0<=h0 k) (hi:∀k,k<R->h0 k<1000000000) (g0:∀i,i<n->0<=g i) (g1:∀i,i<n->g i<1000000000) :
  Calls Tryz.prog 203 #[.slice (some ⟨r,j,none⟩) (n+1) cap,.slice (some ⟨s,0,none⟩) n c2] w λe w'=>∃(o:Int) (h:Nat->Int),e=.returned (.tuple #[])∧RowF w' r R h∧
   (∀k,k<R->0<=h k)∧(∀k,k<R->h k<1000000000)∧(∀k,k<j∨j+n<k->h k=h0 k)∧vf (win h j) (n+1)=vf (win h0 j) (n+1)+vf g n-o*pw (n+1)∧OnlyRow r w w':=by
 go_enter Tryz.func203,Tryz.ntmps203
 go_wp2
 go_loopw [4,10] (λc a wr=>∃i:Nat,i<=n∧a=.int .i64 i∧OnlyRow r w wr∧∃h bo,c=.int .i64 bo∧RowF wr r R h∧MoreInv R j n h0 g i h bo) (λ_ a _=>n-(intOf a).toNat)
 case atStart=>exact⟨0,Yat _,rfl,OnlyRow.refl _ _,_,_,rfl,hr0,MoreInv.start lo hi⟩
 case round=>
  clear hr0 lo hi;obtain⟨i,hin,rfl,ho,h,bo,rfl,hr,HT⟩:=hrel;have b0:=HT.c0;have b1:=HT.c1;by_cases hlt:i<n
  ·have a1:=(ho.row hs hrs).cell i hlt
   have gi0:=g0 i hlt;have gi1:=g1 i hlt;have a2:=hr.cell (j+i) Zo;have a3:=hr.frozen (j+i);have h0':=HT.lo (j+i) Zo;have h1':=HT.hi (j+i) Zo;clear g0 g1;go_wp2
   go_roundw
   case rel=>exact⟨i+1,Zo,by go_num,ho.set (j+i) _,_,_,rfl,hr.set (j+i) _,HT.step hlt hR gi0 gi1⟩
   case measure=>simp[intOf];omega
  ·obtain rfl:i=n:=by omega
   have a2:=hr.cell (j+i) Zo;have a3:=hr.frozen (j+i);have h0':=HT.lo (j+i) Zo;have h1':=HT.hi (j+i) Zo;obtain⟨o,q1,q2,q3,q4⟩:=HT.last hR;replace q1:=Yah q1;replace q4:=Yah q4;clear HT g0 g1 hlt hin hs;go_wp2
   go_end0
   exact⟨o,_,rfl,hr.set _ _,q2,q3,q4.out,q1.out,ho.set _ _⟩
end Go.Proofs.W
namespace Go.Mono
theorem Ztp (h:Nat->Int) (j k:Nat):vf (win h j) (k+1)=h j+1000000000*vf (win h (j+1)) k:=by
 induction k with
 | zero=>simp[vf,win,pw]
 | succ k ih =>
   rw[Zaj,ih,Zaj (win h (j+1)) k,Za5];simp only[win];rw[show j+1+k=j+(k+1) by omega];grind
theorem Zp9 {h h':Nat->Int} {j k R:Nat} (hR:j+k<=R) (ho:∀i,i<j∨j+k<=i->h' i=h i):vf h' R=vf h R+pw j*(vf (win h' j) k-vf (win h j) k):=by
 obtain⟨m,rfl⟩:=Yfe hR;rw[Zcj h',Zcj h,Zfu,Zcj h' j k,Zcj h j k];rw[Zbi (f:=h') (g:=h) (k:=j) (λi hi=>ho i Zo)];rw[Zbi (f:=λi=>h' (j+k+i)) (g:=λi=>h (j+k+i)) (k:=m) (λi _=>ho _ Zo)];grind
structure OverInv (m Q R:Nat) (A:Int) (g:Nat->Int) (j:Nat) (h q:Nat->Int):Prop where
 lo:∀k,k<R->0<=h k
 hi:∀k,k<R->h k<1000000000
 zero:∀k,j+(m+2)<=k->k<R->h k=0
 lt:vf (win h j) (m+2)<vf g (m+2)
 q0:∀k,k<Q->0<=q k
 q1:∀k,k<Q->q k<1000000000
 qz:∀k,k<j->q k=0
 val:vf h R+vf g (m+2)*vf q Q=A
theorem OverInv.start {m Q R:Nat} {A M:Int} {g h:Nat->Int} (hR:R=Q+(m+2)) (lo:∀k,k<R->0<=h k) (hi:∀k,k<R->h k<1000000000) (hA:vf h R=A) (hlt:A<M*pw Q) (hM:vf g (m+2)=M) :
  OverInv m Q R A g Q h (λ_=>0):=by
 refine⟨lo,hi,λk h1 h2=>Zo,?_,λ_ _=>Zs,λ_ _=>Zs,λ_ _=>rfl,by rw[Zdk (f:=λ_=>0) λ_ _=>rfl,hA];simp⟩;subst hR;rw[Zcj]at hA;have hA':vf h Q+pw Q*vf (win h Q) (m+2)=A:=hA;clear hA;have h1:=Zaq (f:=h) (k:=Q) λi hi=>lo i Zo;rw[hM];rcases Ycz (vf (win h Q) (m+2)) M with h2|h2
 ·exact h2
 ·have:=mle h2 (Yap (Za8 Q))
  have:pw Q*vf (win h Q) (m+2)=vf (win h Q) (m+2)*pw Q:=Ydh _ _;omega
theorem OverInv.U_lt {m Q R:Nat} {A:Int} {g:Nat->Int} {j:Nat} {h q:Nat->Int} (H:OverInv m Q R A g (j+1) h q) (hj:j<R):vf (win h j) (m+3)<vf g (m+2)*1000000000:=by
 rw[Ztp];have:=H.lt;have:=H.hi j hj;omega
theorem OverInv.step {m Q R:Nat} {A:Int} {g:Nat->Int} {j:Nat} {h q h':Nat->Int} {d W:Int} (H:OverInv m Q R A g (j+1) h q) (hR:R=Q+(m+2)) (hj:j<Q)
  (hV:vf g (m+2)<=pw (m+2)) (lo:∀k,k<R->0<=h' k) (hi:∀k,k<R->h' k<1000000000) (ho:∀k,k<j∨j+(m+2)<k->h' k=h k)
  (hW:vf (win h' j) (m+3)=W) (W0:0<=W) (W1:W<vf g (m+2)) (hU:vf (win h j) (m+3)=d*vf g (m+2)+W) :
  0<=d∧d<1000000000∧OverInv m Q R A g j h' (λk=>if k=j then d else q k):=by
 have hlt:=H.U_lt Zo;have hU0:=Zaq (f:=win h j) (k:=m+3) λi hi=>H.lo _ Zo;have hV0:0<vf g (m+2):=Zo;have d0:0<=d:=by
  rcases Ycz d 0 with h1|h1
  ·have:=mle (show d<=-1 by omega) (Yap hV0);omega
  ·exact h1
 have d1:d<1000000000:=by
  rcases Ycz d 1000000000 with h1|h1
  ·exact h1
  ·have:=mle h1 (Yap hV0);omega
 refine⟨d0,d1,lo,hi,λk h1 h2=>?_,?_,λk hk=>?_,λk hk=>?_,λk hk=>?_,?_⟩
 ·rcases Ydu (j+(m+2)) k with h3|h3
  ·rw[ho k (.inr h3)];exact H.zero k Zo h2
  ·obtain rfl:k=j+(m+2):=by omega
   rw[Zaj]at hW;have a0:=lo _ h2;have a1:=Zaq (f:=win h' j) (k:=m+2) λi hi=>lo _ Zo;rcases Ycz 0 (h' (j+(m+2))) with h4|h4
   ·have:=mle (show 1<=win h' j (m+2) from h4) (Yap (Za8 (m+2)))
    omega
   ·omega
 ·have e:vf (win h' j) (m+2)=W-win h' j (m+2)*pw (m+2):=by rw[Zaj]at hW;omega
  have a0:0<=win h' j (m+2)*pw (m+2):=Ycg (lo _ Zo) (Yap (Za8 _));omega
 ·show 0<=if k=j then _ else _
  split
  ·exact d0
  ·exact H.q0 k hk
 ·show(if k=j then _ else _)<_
  split
  ·exact d1
  ·exact H.q1 k hk
 ·show(if k=j then _ else _)=_
  rw[if_neg Zo];exact H.qz k Zo
 ·have hv:=H.val
  rw[Zp9 (h:=h) (h':=h') (j:=j) (k:=m+3) (R:=R) Zo (λi hi=>ho i Zo),Zc5,if_pos hj,H.qz j Zo,hW,hU];generalize vf g (m+2)=V at hv ⊢;grind
theorem OverInv.done {m Q R:Nat} {A:Int} {g:Nat->Int} {h q:Nat->Int} (H:OverInv m Q R A g 0 h q) (hR:R=Q+(m+2)) :
  A=vf g (m+2)*vf q Q+vf h (m+2)∧0<=vf h (m+2)∧vf h (m+2)<vf g (m+2):=by
 have hv:=H.val;have hl:=H.lt;have e1:vf (win h 0) (m+2)=vf h (m+2):=Zbi λi _=>by simp[win]
 rw[e1]at hl;have e2:vf h R=vf h (m+2):=by
  rw[hR,Yfb,Zcj,Zdk (f:=λj=>h (m+2+j)) (λi hi=>H.zero _ Zo Zo)];simp
 rw[e2]at hv;exact⟨Zo,Zaq λi hi=>H.lo i Zo,hl⟩
theorem Zoh {N M f q r:Int} (hf:0<f) (h:N*f=M*f*q+r) (r0:0<=r) (r1:r<M*f):q=N/M∧r/f=N%M:=by
 have e:r=(N-M*q)*f:=by grind
 have h0:0<=N-M*q:=by
  rcases Ycz (N-M*q) 0 with h1|h1
  ·have:=mle (show N-M*q<=-1 by omega) (Yap hf);omega
  ·exact h1
 have h1:N-M*q<M:=by
  rcases Ycz (N-M*q) M with h1|h1
  ·exact h1
  ·have:=mle h1 (Yap hf);omega
 have hM:0<M:=Zo;have hq:q=N/M:=((Int.ediv_eq_iff_of_pos hM).2 ⟨by rw[Ydh];omega,by rw[Ydh];omega⟩).symm;refine⟨hq,?_⟩;rw[e,Int.mul_ediv_cancel _ Zo];have:=Ycf N M;rw[<-hq]at this;omega
theorem Zqa {b1:Int} (h0:0<b1) (h1:b1<1000000000):0<1000000000/(b1+1)∧1000000000/(b1+1)<1000000000∧(b1+1)*(1000000000/(b1+1))<=1000000000:=by
 have e:=Ycf 1000000000 (b1+1);have r0:=Ycc 1000000000 (show b1+1≠0 by omega);have r1:=Ybu 1000000000 (show 0<b1+1 by omega);have q0:0<=1000000000/(b1+1):=Ydq Zo Zo;generalize 1000000000/(b1+1)=q at *;refine⟨?_,?_,Zo⟩
 ·rcases Ycz 0 q with h|h
  ·exact h
  ·obtain rfl:q=0:=by omega
   omega
 ·have:=mle (show 2<=b1+1 by omega) q0
  omega
theorem Zqb {g:Nat->Int} {m:Nat} (g1:∀i,i<m+1->g i<1000000000) {f:Int} (f0:0<f) (hf:(g m+1)*f<=1000000000):vf g (m+1)*f<pw (m+1):=by
 rw[Zaj,Za5];have h1:=Zc3 (f:=g) (k:=m) λi hi=>g1 i Zo;have h2:(vf g m+g m*pw m+1)*f<=((g m+1)*pw m)*f:=mle (by grind) (Yap f0);have h3:((g m+1)*f)*pw m<=1000000000*pw m:=mle hf (Yap (Za8 m));have h4:((g m+1)*pw m)*f=((g m+1)*f)*pw m:=by grind
 have h5:(vf g m+g m*pw m+1)*f=(vf g m+g m*pw m)*f+f:=by grind
 omega
theorem Zy4 {m:Nat} {v:Nat->Int} {G:Int} (v0:∀i,i<m+2+1->0<=v i) (v1:∀i,i<m+2+1->v i<1000000000) (hv:vf v (m+2+1)=G) (hlo:pw (m+1)<=G) (hhi:G<pw (m+2)) :
  vf v (m+2)=G∧v (m+1)≠0:=by
 have a1:=Zaq (f:=v) (k:=m+2) λi hi=>v0 i Zo;have a2:=v0 (m+2) Zo;rw[Zaj]at hv;have e:v (m+2)=0:=by
  rcases Ycz 0 (v (m+2)) with h|h
  ·have:=mle (show 1<=v (m+2) from h) (Yap (Za8 (m+2)));omega
  ·omega
 rw[e,Yec,Yda]at hv;refine⟨hv,λh=>?_⟩;rw[Zaj,h]at hv;have a3:=Zc3 (f:=v) (k:=m+1) λi hi=>v1 i Zo;omega
theorem Ztq {n m Q:Nat} {f g:Nat->Int} {F:Int} (hQ:n=Q+(m+1)) (d1:Digs f n) (d2:Digs g (m+2)) (F0:0<F):vf f n*F<vf g (m+2)*F*pw Q:=by
 have a1:=d1.lt;have a2:=d2.ge Zo;rw[show m+2-1=m+1 by omega]at a2;rw[hQ,Zfu]at a1;rw[<-hQ]at a1;have a3:=mle a2 (Yap (Za8 Q));have a4:pw (m+1)*pw Q=pw Q*pw (m+1):=Ydh _ _;have a5:(vf f n+1)*F<=(vf g (m+2)*pw Q)*F:=mle Zo (Yap F0);have a6:(vf g (m+2)*pw Q)*F=vf g (m+2)*F*pw Q:=by grind
 have a7:(vf f n+1)*F=vf f n*F+F:=by grind
 omega
section
open Go.RowKit
def AfterC (S:World->Prop) (X:Value->World->Prop):Ending->World->Prop
 | .returned v,w=>S w∧(S w->X v w)
 | _,_=>False
section
variable {P:Program} {ops:Array Oper} {Q:Exit->Act->World->Prop} {md:Region.Mode} {S:World->Prop}
theorem tkf (i:Nat) (d:Option Tmp) {oi:Oper} {v:Value} {fuel:Nat} {listed:Array Bool} {a a':Act} {w:World}
  (h:wpAnyH P md ops Q S fuel (listed.setIfInBounds i true) a' w) (hi:ops[i]? = some oi:=by rfl)
  (hs:Region.noSelect ops=true:=by as_aux_lemma=>kernel_rfl) (hf:Region.free md ops listed i=true:=by as_aux_lemma=>kernel_rfl) (hr:(Region.ready md ops listed).contains i=true:=by as_aux_lemma=>kernel_rfl) (hd:oi.dst=d:=by rfl)
  (hw:Region.wanted oi (yielded ops a.tmps)=true:=by as_aux_lemma=>kernel_rfl) (hv:∀w,S w->(execOp a.eval oi).run P w=.ok (.value v) w:=by(intro w hSw;(try dsimp only at hSw);go_simp;all_goals with_reducible rfl))
  (hQ:∀c a w,Q (.panic c) (a.put d v) w->Q (.panic c) a w:=by exact(λ_ _ _ h=>h)) (hS:S w:=by assumption)
  (ha:a.put d v=a':=by(simp only[Act.put,Zsi,Zs0,Zss];rfl)):wpAnyH P md ops Q S (fuel+1) listed a w:=by
 subst ha;exact Zeh i d hi hs hf hr hd hQ hw hv hS h
theorem tlf (i:Nat) (d:Option Tmp) {oi:Oper} (hi:ops[i]? = some oi) (v:Value) {fuel:Nat} {listed:Array Bool} {a a':Act} {w:World}
  (hv:∀w,S w->(execOp a.eval oi).run P w=.ok (.value v) w) (h:wpAnyH P md ops Q S fuel (listed.setIfInBounds i true) a' w)
  (hs:Region.noSelect ops=true:=by as_aux_lemma=>kernel_rfl) (hf:Region.free md ops listed i=true:=by as_aux_lemma=>kernel_rfl) (hr:(Region.ready md ops listed).contains i=true:=by as_aux_lemma=>kernel_rfl) (hd:oi.dst=d:=by rfl)
  (hw:Region.wanted oi (yielded ops a.tmps)=true:=by as_aux_lemma=>kernel_rfl)
  (hQ:∀c a w,Q (.panic c) (a.put d v) w->Q (.panic c) a w:=by exact(λ_ _ _ h=>h)) (hS:S w:=by assumption)
  (ha:a.put d v=a':=by(simp only[Act.put,Zsi,Zs0,Zss];rfl)):wpAnyH P md ops Q S (fuel+1) listed a w:=by
 subst ha;exact Zeh i d hi hs hf hr hd hQ hw hv hS h
theorem tsf (i:Nat) (d:Option Tmp) {oi:Oper} {fuel:Nat} {listed:Array Bool} {a a':Act} {w:World}
  (h:wpAnyH P md ops Q S fuel (listed.setIfInBounds i true) a' w) (hi:ops[i]? = some oi:=by rfl)
  (hs:Region.noSelect ops=true:=by as_aux_lemma=>kernel_rfl) (hf:Region.free md ops listed i=true:=by as_aux_lemma=>kernel_rfl) (hr:(Region.ready md ops listed).contains i=true:=by as_aux_lemma=>kernel_rfl) (hd:oi.dst=d:=by rfl)
  (hw:Region.wanted oi (yielded ops a.tmps)=false:=by as_aux_lemma=>kernel_rfl)
  (hQ:∀c a w,Q (.panic c) (a.put d undef) w->Q (.panic c) a w:=by exact(λ_ _ _ h=>h)) (hS:S w:=by assumption)
  (ha:a.put d undef=a':=by(simp only[Act.put,Zsi,Zs0,Zss];rfl)):wpAnyH P md ops Q S (fuel+1) listed a w:=by
 subst ha;exact Zj0 i d hi hs hf hr hd hQ hw hS h
theorem stc (i:Nat) (d:Option Tmp) {o:Oper} {f:FuncId} {args:Array Value} {R:Ending->World->Prop} {fuel:Nat} {listed:Array Bool} {a:Act} {w:World} (hC:Calls P f args w R)
  (h:∀e w',R e w'->AfterC S (λv w'=>wpAnyH P md ops Q S fuel (listed.setIfInBounds i true) (a.put d v) w') e w')
  (ho:ops[i]? = some o:=by rfl) (hd:o.dst=d:=by rfl) (hr:Region.ready md ops listed=[i]:=by as_aux_lemma=>kernel_rfl) (hw:Region.wanted o (yielded ops a.tmps)=true:=by as_aux_lemma=>kernel_rfl)
  (hx:(execOp a.eval o).run P w=.ok (.enter f args) w:=by as_aux_lemma=>kernel_rfl):wpAnyH P md ops Q S (fuel+1) listed a w:=by
 subst hd;refine st i (λK hK=>?_) ho hr;rw[if_pos hw];unfold Oper.wp;rw[hx,Oper.upon_enter];refine hC.mono ?_;intro e w' hR;have:=h e w' hR;cases e with
 | returned v=>exact hK.out _ _ this.1 this.2
 | _=>exact this.elim
theorem arma (d:Option Tmp) {K':Act->World->Prop} {fuel:Nat} {listed:Array Bool} (hK:Shut (∀a w,S w->(S w->wpAnyH P md ops Q S fuel listed a w)->K' a w)) {o:Oper} {a:Act} {w:World} (v:Value) (V:World) (hS:S V)
  (h:S V->wpAnyH P md ops Q S fuel listed (a.put d v) V) (hd:o.dst=d:=by rfl) (hw:Region.wanted o (yielded ops a.tmps)=true:=by as_aux_lemma=>kernel_rfl)
  (hx:(execOp a.eval o).run P w=.ok (.value v) V:=by as_aux_lemma=>kernel_rfl):if Region.wanted o (yielded ops a.tmps)=true then Oper.wp P o a w K' Q else K' (a.put o.dst undef) w:=by
 subst hd;rw[if_pos hw];unfold Oper.wp;rw[hx,Oper.upon_value];exact hK.out _ _ hS h
theorem sta (i:Nat) (d:Option Tmp) {o:Oper} {fuel:Nat} {listed:Array Bool} {a:Act} {w:World} (v:Value) (V:World) (hS:S V)
  (h:S V->wpAnyH P md ops Q S fuel (listed.setIfInBounds i true) (a.put d v) V)
  (ho:ops[i]? = some o:=by rfl) (hd:o.dst=d:=by rfl) (hr:Region.ready md ops listed=[i]:=by as_aux_lemma=>kernel_rfl) (hw:Region.wanted o (yielded ops a.tmps)=true:=by as_aux_lemma=>kernel_rfl)
  (hx:(execOp a.eval o).run P w=.ok (.value v) V:=by as_aux_lemma=>kernel_rfl):wpAnyH P md ops Q S (fuel+1) listed a w:=
 st i (λK hK=>arma d hK v V hS h hd hw hx) ho hr
theorem fork2 (i j:Nat) {oi oj:Oper} {fuel:Nat} {listed:Array Bool} {a:Act} {w:World}
  (h1:∀K':Act->World->Prop,Shut (∀a w,S w->(S w->wpAnyH P md ops Q S fuel (listed.setIfInBounds i true) a w)->K' a w)->if Region.wanted oi (yielded ops a.tmps)=true then Oper.wp P oi a w K' Q else K' (a.put oi.dst undef) w)
  (h2:∀K':Act->World->Prop,Shut (∀a w,S w->(S w->wpAnyH P md ops Q S fuel (listed.setIfInBounds j true) a w)->K' a w)->if Region.wanted oj (yielded ops a.tmps)=true then Oper.wp P oj a w K' Q else K' (a.put oj.dst undef) w)
  (ho1:ops[i]? = some oi:=by rfl) (ho2:ops[j]? = some oj:=by rfl) (hr:Region.ready md ops listed=[i,j]:=by as_aux_lemma=>kernel_rfl):wpAnyH P md ops Q S (fuel+1) listed a w:=
 wpAnyH_ready hr Zs (Yal ho1 h1 (Yal ho2 h2 Yas))
theorem pt {fuel:Nat} {listed:Array Bool} {a a':Act} {w:World} (h:wpAnyH P md ops Q S fuel listed a' w) (ha:a=a':=by(simp only[Act.put,Zsi,Zs0,Zss];rfl)):wpAnyH P md ops Q S fuel listed a w:=by
 subst ha;exact h
end
end
section
open Go.RowKit
theorem Box.range {w:World} {B:Nat} {T:TypeId} {cs:Array Value} (b:Box w B T cs):w.rangeAt B 0 cs.toList:=λj v hv=>by
 rw[Yba,b.cell,<-Yaq];exact hv
theorem Box.there {w:World} {B:Nat} {T:TypeId} {cs:Array Value} (b:Box w B T cs) (o n:Nat) (hn:o+n<=cs.size):w.there B o n:=λj hj=>by
 refine⟨?_,b.frozen _⟩;rw[b.cell];simp;omega
theorem Box.setCells {B:Nat} {T:TypeId}:∀(vs:List Value) (o:Nat) (w:World) (cs:Array Value),Box w B T cs->o+vs.length<=cs.size->
  Box (w.setCells B o vs) B T (cs.toList.take o++vs++cs.toList.drop (o+vs.length)).toArray
 | [],o,w,cs,h,_=>by simpa[World.setCells]using h
 | v :: r, o, w, cs, h, hn => by
   rw[World.setCells];have hn':o+(r.length+1)<=cs.size:=by simpa using hn
   have:=Box.setCells r (o+1) _ _ (h.set o v) (by simp;omega);refine cast (congrArg _ ?_) this;apply congrArg;apply List.ext_getElem?;intro i;simp only[List.getElem?_append,Yay,Ycq,Yfs,Array.toList_setIfInBounds,List.length_set,Ybm,Yaz,Ycv,Yeh,List.getElem?_set];by_cases h1:i<o
   ·simp[show i<min (o+1) cs.size by omega,show i<min o cs.size by omega,show i<min (o+1) cs.size+r.length by omega,show i<min o cs.size+(r.length+1) by omega,show i<o+1 by omega,h1,show ¬o=i by omega]
   ·by_cases h2 : i = o
    ·subst h2
     simp[show i<min (i+1) cs.size by omega,show ¬i<min i cs.size by omega,show i<min (i+1) cs.size+r.length by omega,show i<min i cs.size+(r.length+1) by omega,show i<cs.size by omega,show min i cs.size=i by omega]
    ·by_cases h3:i<o+1+r.length
     ·have e1:i-min (o+1) cs.size=i-(o+1):=by omega
      have e2:i-min o cs.size=(i-(o+1))+1:=Zo;simp[show ¬i<min (o+1) cs.size by omega,show ¬i<min o cs.size by omega,show i<min (o+1) cs.size+r.length by omega,show i<min o cs.size+(r.length+1) by omega,e1,e2]
     ·have e1:o+1+r.length+(i-(min (o+1) cs.size+r.length))=i:=by omega
      have e2:o+(r.length+1)+(i-(min o cs.size+(r.length+1)))=i:=Zo;simp[show ¬i<min (o+1) cs.size+r.length by omega,show ¬i<min o cs.size+(r.length+1) by omega,e1,e2,show ¬o=i by omega]
theorem KeepBut.setCells {R N:Nat} {W:World}:∀(vs:List Value) (o:Nat) (w:World),KeepBut R N W w->KeepBut R N W (w.setCells R o vs)
 | [],_,_,h=>h
 | v :: r, o, w, h => by
   rw[World.setCells];exact KeepBut.setCells r (o+1) _ (h.set o v)
section
variable {P:Program} {ops:Array Oper} {rest:List Oper} {o:Oper} {a:Act} {w:World} {Q:Exit->Act->World->Prop}
theorem Zan (hg:o.guard=none) (T:TypeId) (ho:o.op=.alloc T) (zs:Array Value)
  (hrun:∀w,(Instr.alloc T true (.tuple #[])).run P w=.ok (.pointer (some ⟨w.heap.size,0,none⟩)) (w.alloc (.cells zs T)))
  (h:∀W B,w.heap.size<=B->Below w.heap.size w W->Box W B T zs->wpList P ops Q rest (a.put o.dst (.pointer (some ⟨B,0,none⟩))) W):wpList P ops Q (o::rest) a w:=by
 refine wpList_plain hg λK hK=>?_;unfold Oper.wp execOp;simp only[ho,Yar,hrun,Yag,Yau];exact hK _ _ (h _ _ (Yab _) ((Yae _ _).alloc (Yab _) _) (Box.new _ _ _))
theorem Zap (hg:o.guard=none) (t:TypeId) (parts:Array (Nat×Operand)) (ho:o.op=.build t parts) (cells:Array Value)
  (hc:P.built t (parts.map λ(i,x)=>(i,a.eval x)).toList=some cells) (h:wpList P ops Q rest (a.put o.dst (.agg cells)) w):wpList P ops Q (o::rest) a w:=
 wpList_build hg t parts ho (by rw[hc];rfl) (by rw[hc];exact h)
theorem Zac (hg:o.guard=none) (ty:TypeId) (x:Operand) (ho:o.op=.load ty x) (B:Nat) (hx:a.eval x=.pointer (some ⟨B,0,none⟩)) (T:TypeId) (cells:Array Value) (hb:Box w B T cells)
  (d:TypeDesc) (hu:P.underlying ty=some d) (hd:d.isRow=true) (hi:(P.info? ty).map (·.size)=some cells.size)
  (h:wpList P ops Q rest (a.put o.dst (.agg cells)) w):wpList P ops Q (o::rest) a w:=
 wpList_load_mid hg ty x ho B 0 hx cells.toList d hb.range hu hd (by simpa using hi) (by simpa using h)
theorem Zab (hg:o.guard=none) (ty:TypeId) (x y:Operand) (ho:o.op=.store ty x y) (B off:Nat) (T:TypeId) (old cells new:Array Value) (hx:a.eval x=.pointer (some ⟨B,off,none⟩)) (hy:a.eval y=.agg cells)
  (hb:Box w B T old) (hi:(P.info? ty).map (·.size)=some cells.size) (hold:off+cells.size<=old.size) (h1:cells.all (·.oneCell')=true)
  (hn:old.toList.take off++cells.toList++old.toList.drop (off+cells.size)=new.toList)
  (h:∀W,KeepBut B w.heap.size w W->Box W B T new->wpList P ops Q rest (a.put o.dst undef) W):wpList P ops Q (o::rest) a w:=by
 refine wpList_store_mid hg ty x y ho B off cells hx hy (hb.there off cells.size hold) hi h1 (h _ ((KeepBut.refl _ _).setCells _ _ _) ?_);have:=Box.setCells cells.toList off w old hb (by simpa using hold);simpa[hn]using this
end
section
variable {P:Program} {ops:Array Oper} {rest:List Oper} {a:Act} {w:World} {Q:Exit->Act->World->Prop} {T0 T1 T2:TypeId} {c0 c1 c2:Array Value}
theorem Zdl (h:∀W,Below w.heap.size w W->w.heap.size+1<=W.heap.size->Box W w.heap.size T0 c0->wpList P ops Q rest a W):wpList P ops Q rest a (w.alloc (.cells c0 T0)):=
 h _ ((Yae _ _).alloc (Yab _) _) Zs (Box.new _ _ _)
theorem Zbm (h:∀W,Below w.heap.size w W->w.heap.size+2<=W.heap.size->Box W w.heap.size T0 c0->Box W (w.heap.size+1) T1 c1->wpList P ops Q rest a W):wpList P ops Q rest a ((w.alloc (.cells c0 T0)).alloc (.cells c1 T1)):=by
 refine h _ (((Yae _ _).alloc (Yab _) _).alloc Zs _) Zs ((Box.new _ _ _).alloc _) ?_;have:=Box.new (w.alloc (.cells c0 T0)) T1 c1;rwa [Yav]at this
end
theorem Box.results {P:Program} {w:World} {B:Nat} {T:TypeId} {cs:Array Value} (b:Box w B T cs) {fn:Func} {p:Tmp} {ty:TypeId} (h:fn.results = #[.cell p ty]) (tmps:Array Value) (d:TypeDesc)
  (ht:tmps.getD p undef=.pointer (some ⟨B,0,none⟩)) (hu:P.underlying ty=some d) (hd:d.isRow=true) (hi:(P.info? ty).map (·.size)=some cs.size):(results fn tmps).run P w=.ok (.agg cs) w:=by
 refine results_cell_row h tmps w B T cs (0,0) d ht b.blk hu ?_ hi;cases d<;>simp_all [TypeDesc.isRow]
theorem Zbp {S:World->Prop} {B:Nat} (hS:∀w i u,S w->S (w.setCell ⟨B,i,none⟩ u)):∀(vs:List Value) (o:Nat) (w:World),S w->S (w.setCells B o vs)
 | [],_,_,h=>h
 | v :: r, o, w, h => by
   rw[World.setCells];exact Zbp hS r (o+1) _ (hS _ _ _ h)
section
variable {P:Program} {ops:Array Oper} {Q:Exit->Act->World->Prop} {md:Region.Mode} {S:World->Prop}
theorem Zin (B:Nat) (T:TypeId) (i:Nat) {o:Oper} (hi:ops[i]? = some o) (hg:o.guard=none) (hd:o.dst=none) {ty:TypeId} {x y:Operand} (ho:o.op=.store ty x y) (off:Nat) (cells cs new:Array Value) {a:Act} {fuel:Nat} {listed:Array Bool} {w:World}
  (hr:Region.ready md ops listed=[i]) (hS:∀w i u,S w->S (w.setCell ⟨B,i,none⟩ u)) (hx:a.eval x=.pointer (some ⟨B,off,none⟩)) (hy:a.eval y=.agg cells)
  (hb:Box w B T cs) (hs:S w) (hi2:(P.info? ty).map (·.size)=some cells.size) (hoff:off+cells.size<=cs.size) (h1:cells.all (·.oneCell')=true)
  (hn:cs.toList.take off++cells.toList++cs.toList.drop (off+cells.size)=new.toList)
  (h:∀w',Box w' B T new->S w'->wpAnyH P md ops Q S fuel (listed.setIfInBounds i true) a w'):wpAnyH P md ops Q S (fuel+1) listed a w:=by
 refine wpAnyH_all hr Zs λj hj=>?_;obtain rfl:j=i:=by simpa using hj
 unfold wpOp;rw[hi];have hw:Region.wanted o (yielded ops a.tmps)=true:=by simp[Region.wanted,hg]
 simp only[hw,if_true];left
 have hb2:=Box.setCells cells.toList off w cs hb (by simpa using hoff);have hb3:Box (w.setCells B off cells.toList) B T new:=by simpa[hn]using hb2
 have hs2:=Zbp hS cells.toList off w hs;refine wp_store_mid ty x y ho B off cells hx hy (hb.there off cells.size hoff) hi2 h1 ?_;rw[hd];exact⟨hs2,h _ hb3 hs2⟩
end
theorem Zai {P:Program} {S:World->Prop} {oi:Oper} {a:Act} (ty:TypeId) (x:Operand) (ho:oi.op=.load ty x) (b o:Nat) (hx:a.eval x=.pointer (some ⟨b,o,none⟩)) (cells:Array Value) (hc:∀w,S w->w.rangeAt b o cells.toList)
  (d:TypeDesc) (hu:P.underlying ty=some d) (hd:d.isRow=true) (hi:(P.info? ty).map (·.size)=some cells.size):∀w,S w->(execOp a.eval oi).run P w=.ok (.value (.agg cells)) w:=λw hS=>by
 unfold execOp;simp only[ho,hx,Yar,run_loadAt_mid w b o ty cells.toList d (hc w hS) hu hd (by simpa using hi),Yag,Yau]
end
theorem Zj2 {f g:Nat->Int} {n m:Nat} (hf:Digs f n) (hg:Digs g m):(cmpV f n g m<0↔vf f n<vf g m)∧(cmpV f n g m=0↔vf f n=vf g m):=by
 unfold cmpV;by_cases h:n=m
 ·subst h
  rw[if_pos rfl];exact Zj1 hf.lo hf.hi hg.lo hg.hi (cmpDown f g) rfl λk=>rfl
 ·rw[if_neg h]
  rcases Nat.lt_or_gt_of_ne h with h1|h1
  ·have a1:=hf.lt
   have a2:=hg.ge Zo;have a3:=Zbs (i:=n) (k:=m-1) Zo;omega
  ·have a1:=hg.lt
   have a2:=hf.ge Zo;have a3:=Zbs (i:=m) (k:=n-1) Zo;omega
end Go.Mono
namespace Go.Proofs.W
open Go.RowKit Go.Mono
theorem Zj3 (m1 m2:Nat) (w wf:World) (hx:Ext wf w) (p q:Option Addr) (n m c1 c2:Nat) (N M:Int) (h1:Sz m1 wf (.slice p n c1) N) (h2:Sz m2 wf (.slice q m c2) M) :
  Calls Tryz.prog 132 #[.slice p n c1,.slice q m c2] w λe w'=>∃c:Int,(e=.returned (.int .i64 c)∧∃k,w'=w.drewN k)∧(c<0↔N<M)∧(c=0↔N=M):=by
 obtain⟨n,f,s1,d1,rfl,l1,rfl⟩:=(h1.ext hx).sl;obtain⟨m,g,s2,d2,rfl,l2,rfl⟩:=(h2.ext hx).sl;refine(Zvv p q n m c1 c2 f g w s1 s2 d1.lo d1.hi d2.lo d2.hi).mono ?_;intro e w' h;exact⟨_,h,Zj2 d1 d2⟩
theorem Zqc (m1 m2:Nat) (w wf:World) (hx:Ext wf w) (p q:Option Addr) (n m c1 c2:Nat) (N M:Int) (h1:Sz m1 wf (.slice p n c1) N) (h2:Sz m2 wf (.slice q m c2) M) (hlt:N<M) :
  Calls Tryz.prog 166 #[.slice p n c1,.slice q m c2] w λe w'=>e=.returned (.tuple #[.slice none 0 0,.slice p n c1])∧∃k,w'=w.drewN k:=by
 have hc:=Zj3 m1 m2 w wf hx p q n m c1 c2 N M h1 h2;clear h1 h2;go_enter Tryz.func166,Tryz.ntmps166
 go_wp2_with (go_at_call 132;refine hc.mono ?_;rintro e w' ⟨c,⟨rfl,k,rfl⟩,hc1,hc2⟩;have hc0:c<0:=hc1.2 hlt;clear hc1 hc2)
 go_ret2
 exact⟨rfl,_,rfl⟩
end Go.Proofs.W
