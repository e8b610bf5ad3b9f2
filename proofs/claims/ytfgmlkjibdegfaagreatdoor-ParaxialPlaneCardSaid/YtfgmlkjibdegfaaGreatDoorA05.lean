/- Contracts of package paraxial,and a verified evaluator. Part 5 of 28. No condition beside the row. -/
import Derived.Deep.MidRow
import Derived.Laws.Rows
import Derived.Laws.ResultCell
import Derived.Test.YtfgmlkjibdegfaaGreatDoorA01
import Derived.Test.YtfgmlkjibdegfaaGreatDoorA03
import Derived.Test.YtfgmlkjibdegfaaGreatDoorA04
set_option linter.unusedVariables false
set_option linter.unusedSimpArgs false
set_option maxRecDepth 100000
set_option maxHeartbeats 4000000
namespace Go.Mono
open Go.RowKit
section
def AfterC (S:World->Prop) (X:Value->World->Prop):Ending->World->Prop
 | .returned v,w=>S w∧(S w->X v w)
 | _,_=>False
section
variable {P:Program} {ops:Array Oper} {Q:Exit->Act->World->Prop} {md:Region.Mode} {S:World->Prop}
theorem tkf (i:Nat) (d:Option Tmp) {oi:Oper} {v:Value} {fuel:Nat} {listed:Array Bool} {a a':Act} {w:World}
  (h:wpAnyH P md ops Q S fuel (listed.setIfInBounds i true) a' w) (hi:ops[i]? = some oi:=by rfl)
  (hs:Region.noSelect ops=true:=by as_aux_lemma=>kernel_rfl) (hf:Region.free md ops listed i=true:=by as_aux_lemma=>kernel_rfl) (hr:(Region.ready md ops listed).contains i=true:=by as_aux_lemma=>kernel_rfl) (hd:oi.dst=d:=by rfl)
  (hw:Region.wanted oi (yielded ops a.tmps)=true:=by as_aux_lemma=>kernel_rfl) (hv:∀w,S w->(execOp a.eval oi).run P w=.ok (.value v) w:=by(intro w hSw;(try dsimp only at hSw);go_simp;all_goals with_reducible rfl))
  (hQ:∀c a w,Q (.panic c) (a.put d v) w->Q (.panic c) a w:=by exact(λ_ _ _ h=>h)) (hS:S w:=by assumption)
  (ha:a.put d v=a':=by(simp only[Act.put,Zsi,Zs0,Zss];rfl)):wpAnyH P md ops Q S (fuel+1) listed a w:=by
 subst ha;exact Zei i d hi hs hf hr hd hQ hw hv hS h
theorem tlf (i:Nat) (d:Option Tmp) {oi:Oper} (hi:ops[i]? = some oi) (v:Value) {fuel:Nat} {listed:Array Bool} {a a':Act} {w:World}
  (hv:∀w,S w->(execOp a.eval oi).run P w=.ok (.value v) w) (h:wpAnyH P md ops Q S fuel (listed.setIfInBounds i true) a' w)
  (hs:Region.noSelect ops=true:=by as_aux_lemma=>kernel_rfl) (hf:Region.free md ops listed i=true:=by as_aux_lemma=>kernel_rfl) (hr:(Region.ready md ops listed).contains i=true:=by as_aux_lemma=>kernel_rfl) (hd:oi.dst=d:=by rfl)
  (hw:Region.wanted oi (yielded ops a.tmps)=true:=by as_aux_lemma=>kernel_rfl)
  (hQ:∀c a w,Q (.panic c) (a.put d v) w->Q (.panic c) a w:=by exact(λ_ _ _ h=>h)) (hS:S w:=by assumption)
  (ha:a.put d v=a':=by(simp only[Act.put,Zsi,Zs0,Zss];rfl)):wpAnyH P md ops Q S (fuel+1) listed a w:=by
 subst ha;exact Zei i d hi hs hf hr hd hQ hw hv hS h
theorem tsf (i:Nat) (d:Option Tmp) {oi:Oper} {fuel:Nat} {listed:Array Bool} {a a':Act} {w:World}
  (h:wpAnyH P md ops Q S fuel (listed.setIfInBounds i true) a' w) (hi:ops[i]? = some oi:=by rfl)
  (hs:Region.noSelect ops=true:=by as_aux_lemma=>kernel_rfl) (hf:Region.free md ops listed i=true:=by as_aux_lemma=>kernel_rfl) (hr:(Region.ready md ops listed).contains i=true:=by as_aux_lemma=>kernel_rfl) (hd:oi.dst=d:=by rfl)
  (hw:Region.wanted oi (yielded ops a.tmps)=false:=by as_aux_lemma=>kernel_rfl)
  (hQ:∀c a w,Q (.panic c) (a.put d undef) w->Q (.panic c) a w:=by exact(λ_ _ _ h=>h)) (hS:S w:=by assumption)
  (ha:a.put d undef=a':=by(simp only[Act.put,Zsi,Zs0,Zss];rfl)):wpAnyH P md ops Q S (fuel+1) listed a w:=by
 subst ha;exact Zjj i d hi hs hf hr hd hQ hw hS h
theorem stc (i:Nat) (d:Option Tmp) {o:Oper} {f:FuncId} {args:Array Value} {R:Ending->World->Prop} {fuel:Nat} {listed:Array Bool} {a:Act} {w:World} (hC:Calls P f args w R)
  (h:∀e w',R e w'->AfterC S (λv w'=>wpAnyH P md ops Q S fuel (listed.setIfInBounds i true) (a.put d v) w') e w')
  (ho:ops[i]? = some o:=by rfl) (hd:o.dst=d:=by rfl) (hr:Region.ready md ops listed=[i]:=by as_aux_lemma=>kernel_rfl) (hw:Region.wanted o (yielded ops a.tmps)=true:=by as_aux_lemma=>kernel_rfl)
  (hx:(execOp a.eval o).run P w=.ok (.enter f args) w:=by as_aux_lemma=>kernel_rfl):wpAnyH P md ops Q S (fuel+1) listed a w:=by
 subst hd;refine st i (λK hK=>?_) ho hr;rw[if_pos hw];unfold Oper.wp;rw[hx,Oper.upon_enter];refine hC.mono ?_;intro e w' hR;have:=h e w' hR;cases e with
 | returned v=>exact hK.out _ _ this.1 this.2
 | _=>exact this.elim
theorem arma (d:Option Tmp) {K':Act->World->Prop} {fuel:Nat} {listed:Array Bool} (hK:Shut (∀a w,S w->(S w->wpAnyH P md ops Q S fuel listed a w)->K' a w)) {o:Oper} {a:Act} {w:World} (v:Value) (V:World) (hS:S V)
  (h:S V->wpAnyH P md ops Q S fuel listed (a.put d v) V) (hd:o.dst=d:=by rfl) (hw:Region.wanted o (yielded ops a.tmps)=true:=by as_aux_lemma=>kernel_rfl)
  (hx:(execOp a.eval o).run P w=.ok (.value v) V:=by as_aux_lemma=>kernel_rfl):if Region.wanted o (yielded ops a.tmps)=true then Oper.wp P o a w K' Q else K' (a.put o.dst undef) w:=by
 subst hd;rw[if_pos hw];unfold Oper.wp;rw[hx,Oper.upon_value];exact hK.out _ _ hS h
theorem sta (i:Nat) (d:Option Tmp) {o:Oper} {fuel:Nat} {listed:Array Bool} {a:Act} {w:World} (v:Value) (V:World) (hS:S V)
  (h:S V->wpAnyH P md ops Q S fuel (listed.setIfInBounds i true) (a.put d v) V)
  (ho:ops[i]? = some o:=by rfl) (hd:o.dst=d:=by rfl) (hr:Region.ready md ops listed=[i]:=by as_aux_lemma=>kernel_rfl) (hw:Region.wanted o (yielded ops a.tmps)=true:=by as_aux_lemma=>kernel_rfl)
  (hx:(execOp a.eval o).run P w=.ok (.value v) V:=by as_aux_lemma=>kernel_rfl):wpAnyH P md ops Q S (fuel+1) listed a w:=
 st i (λK hK=>arma d hK v V hS h hd hw hx) ho hr
theorem fork2 (i j:Nat) {oi oj:Oper} {fuel:Nat} {listed:Array Bool} {a:Act} {w:World}
  (h1:∀K':Act->World->Prop,Shut (∀a w,S w->(S w->wpAnyH P md ops Q S fuel (listed.setIfInBounds i true) a w)->K' a w)->if Region.wanted oi (yielded ops a.tmps)=true then Oper.wp P oi a w K' Q else K' (a.put oi.dst undef) w)
  (h2:∀K':Act->World->Prop,Shut (∀a w,S w->(S w->wpAnyH P md ops Q S fuel (listed.setIfInBounds j true) a w)->K' a w)->if Region.wanted oj (yielded ops a.tmps)=true then Oper.wp P oj a w K' Q else K' (a.put oj.dst undef) w)
  (ho1:ops[i]? = some oi:=by rfl) (ho2:ops[j]? = some oj:=by rfl) (hr:Region.ready md ops listed=[i,j]:=by as_aux_lemma=>kernel_rfl):wpAnyH P md ops Q S (fuel+1) listed a w:=
 wpAnyH_ready hr Zs (Yal ho1 h1 (Yal ho2 h2 Yas))
theorem pt {fuel:Nat} {listed:Array Bool} {a a':Act} {w:World} (h:wpAnyH P md ops Q S fuel listed a' w) (ha:a=a':=by(simp only[Act.put,Zsi,Zs0,Zss];rfl)):wpAnyH P md ops Q S fuel listed a w:=by
 subst ha;exact h
end
end
structure KeepNew (base:Nat) (V V':World):Prop where
 size:V.heap.size<=V'.heap.size
 cells:∀(k:Nat) cs T fr,base<=k->V.heap[k]? = some (.cells cs T fr)->V'.heap[k]? = some (.cells cs T fr)
theorem KeepNew.refl (base:Nat) (V:World):KeepNew base V V:=⟨Yab _,λ_ _ _ _ _ h=>h⟩
theorem KeepNew.mono {base base':Nat} {V V':World} (h:KeepNew base V V') (hb:base<=base'):KeepNew base' V V':=⟨h.size,λk cs T fr hk hh=>h.cells k cs T fr Zo hh⟩
theorem KeepNew.trans {base:Nat} {a b c:World} (h:KeepNew base a b) (k:KeepNew base b c):KeepNew base a c:=⟨Yak h.size k.size,λi cs T fr hi hh=>k.cells i cs T fr hi (h.cells i cs T fr hi hh)⟩
theorem KeepNew.of_below {base:Nat} {V V':World} (h:Below V.heap.size V V'):KeepNew base V V':=⟨h.size,λk _ _ _ _ hh=>(h.block k (Zao hh)).trans hh⟩
theorem KeepNew.box {base:Nat} {V V':World} (h:KeepNew base V V') {B:Nat} {T:TypeId} {cs:Array Value} (b:Box V B T cs) (hB:base<=B):Box V' B T cs:=⟨h.cells B cs T _ hB b.blk⟩
theorem KeepNew.grown {base:Nat} {V V':World} {row:Option Nat} (hg:V.grownBy V' row) (hr:∀r,row=some r->∃o:Obj,V.heap[r]? = some o∧o.isCells=false):KeepNew base V V':=by
 obtain⟨_,_,_,hs,hb⟩:=hg;refine⟨hs,λk cs T fr _ hh=>(hb k (Zao hh) λe=>?_).trans hh⟩;obtain⟨o,ho,hc⟩:=hr k e.symm;rw[hh]at ho;cases ho;cases hc
section
theorem Box.range {w:World} {B:Nat} {T:TypeId} {cs:Array Value} (b:Box w B T cs):w.rangeAt B 0 cs.toList:=λj v hv=>by
 rw[Yba,b.cell,<-Yaq];exact hv
theorem Box.there {w:World} {B:Nat} {T:TypeId} {cs:Array Value} (b:Box w B T cs) (o n:Nat) (hn:o+n<=cs.size):w.there B o n:=λj hj=>by
 refine⟨?_,b.frozen _⟩;rw[b.cell];simp;omega
theorem Box.setCells {B:Nat} {T:TypeId}:∀(vs:List Value) (o:Nat) (w:World) (cs:Array Value),Box w B T cs->o+vs.length<=cs.size->
  Box (w.setCells B o vs) B T (cs.toList.take o++vs++cs.toList.drop (o+vs.length)).toArray
 | [],o,w,cs,h,_=>by simpa[World.setCells]using h
 | v :: r, o, w, cs, h, hn => by
   rw[World.setCells];have hn':o+(r.length+1)<=cs.size:=by simpa using hn
   have:=Box.setCells r (o+1) _ _ (h.set o v) (by simp;omega);refine cast (congrArg _ ?_) this;apply congrArg;apply List.ext_getElem?;intro i;simp only[List.getElem?_append,Yay,Ycq,Yfs,Array.toList_setIfInBounds,List.length_set,Ybm,Yaz,Ycv,Yeh,List.getElem?_set];by_cases h1:i<o
   ·simp[show i<min (o+1) cs.size by omega,show i<min o cs.size by omega,show i<min (o+1) cs.size+r.length by omega,show i<min o cs.size+(r.length+1) by omega,show i<o+1 by omega,h1,show ¬o=i by omega]
   ·by_cases h2 : i = o
    ·subst h2
     simp[show i<min (i+1) cs.size by omega,show ¬i<min i cs.size by omega,show i<min (i+1) cs.size+r.length by omega,show i<min i cs.size+(r.length+1) by omega,show i<cs.size by omega,show min i cs.size=i by omega]
    ·by_cases h3:i<o+1+r.length
     ·have e1:i-min (o+1) cs.size=i-(o+1):=by omega
      have e2:i-min o cs.size=(i-(o+1))+1:=Zo;simp[show ¬i<min (o+1) cs.size by omega,show ¬i<min o cs.size by omega,show i<min (o+1) cs.size+r.length by omega,show i<min o cs.size+(r.length+1) by omega,e1,e2]
     ·have e1:o+1+r.length+(i-(min (o+1) cs.size+r.length))=i:=by omega
      have e2:o+(r.length+1)+(i-(min o cs.size+(r.length+1)))=i:=Zo;simp[show ¬i<min (o+1) cs.size+r.length by omega,show ¬i<min o cs.size+(r.length+1) by omega,e1,e2,show ¬o=i by omega]
theorem KeepBut.setCells {R N:Nat} {W:World}:∀(vs:List Value) (o:Nat) (w:World),KeepBut R N W w->KeepBut R N W (w.setCells R o vs)
 | [],_,_,h=>h
 | v :: r, o, w, h => by
   rw[World.setCells];exact KeepBut.setCells r (o+1) _ (h.set o v)
section
variable {P:Program} {ops:Array Oper} {rest:List Oper} {o:Oper} {a:Act} {w:World} {Q:Exit->Act->World->Prop}
theorem Zaq (hg:o.guard=none) (T:TypeId) (ho:o.op=.alloc T) (zs:Array Value)
  (hrun:∀w,(Instr.alloc T true (.tuple #[])).run P w=.ok (.pointer (some ⟨w.heap.size,0,none⟩)) (w.alloc (.cells zs T)))
  (h:∀W B,w.heap.size<=B->Below w.heap.size w W->Box W B T zs->wpList P ops Q rest (a.put o.dst (.pointer (some ⟨B,0,none⟩))) W):wpList P ops Q (o::rest) a w:=by
 refine wpList_plain hg λK hK=>?_;unfold Oper.wp execOp;simp only[ho,Yar,hrun,Yag,Yau];exact hK _ _ (h _ _ (Yab _) ((Yae _ _).alloc (Yab _) _) (Box.new _ _ _))
theorem Zak (hg:o.guard=none) (t:TypeId) (parts:Array (Nat×Operand)) (ho:o.op=.build t parts) (cells:Array Value)
  (hc:P.built t (parts.map λ(i,x)=>(i,a.eval x)).toList=some cells) (h:wpList P ops Q rest (a.put o.dst (.agg cells)) w):wpList P ops Q (o::rest) a w:=
 wpList_build hg t parts ho (by rw[hc];rfl) (by rw[hc];exact h)
theorem Zac (hg:o.guard=none) (ty:TypeId) (x:Operand) (ho:o.op=.load ty x) (B:Nat) (hx:a.eval x=.pointer (some ⟨B,0,none⟩)) (T:TypeId) (cells:Array Value) (hb:Box w B T cells)
  (d:TypeDesc) (hu:P.underlying ty=some d) (hd:d.isRow=true) (hi:(P.info? ty).map (·.size)=some cells.size)
  (h:wpList P ops Q rest (a.put o.dst (.agg cells)) w):wpList P ops Q (o::rest) a w:=
 wpList_load_mid hg ty x ho B 0 hx cells.toList d hb.range hu hd (by simpa using hi) (by simpa using h)
theorem Zab (hg:o.guard=none) (ty:TypeId) (x y:Operand) (ho:o.op=.store ty x y) (B off:Nat) (T:TypeId) (old cells new:Array Value) (hx:a.eval x=.pointer (some ⟨B,off,none⟩)) (hy:a.eval y=.agg cells)
  (hb:Box w B T old) (hi:(P.info? ty).map (·.size)=some cells.size) (hold:off+cells.size<=old.size) (h1:cells.all (·.oneCell')=true)
  (hn:old.toList.take off++cells.toList++old.toList.drop (off+cells.size)=new.toList)
  (h:∀W,KeepBut B w.heap.size w W->Box W B T new->wpList P ops Q rest (a.put o.dst undef) W):wpList P ops Q (o::rest) a w:=by
 refine wpList_store_mid hg ty x y ho B off cells hx hy (hb.there off cells.size hold) hi h1 (h _ ((KeepBut.refl _ _).setCells _ _ _) ?_);have:=Box.setCells cells.toList off w old hb (by simpa using hold);simpa[hn]using this
end
section
variable {P:Program} {ops:Array Oper} {rest:List Oper} {a:Act} {w:World} {Q:Exit->Act->World->Prop} {T0 T1 T2:TypeId} {c0 c1 c2:Array Value}
theorem Zct (h:∀W,Below w.heap.size w W->w.heap.size+1<=W.heap.size->Box W w.heap.size T0 c0->wpList P ops Q rest a W):wpList P ops Q rest a (w.alloc (.cells c0 T0)):=
 h _ ((Yae _ _).alloc (Yab _) _) Zs (Box.new _ _ _)
theorem Zb8 (h:∀W,Below w.heap.size w W->w.heap.size+2<=W.heap.size->Box W w.heap.size T0 c0->Box W (w.heap.size+1) T1 c1->wpList P ops Q rest a W):wpList P ops Q rest a ((w.alloc (.cells c0 T0)).alloc (.cells c1 T1)):=by
 refine h _ (((Yae _ _).alloc (Yab _) _).alloc Zs _) Zs ((Box.new _ _ _).alloc _) ?_;have:=Box.new (w.alloc (.cells c0 T0)) T1 c1;rwa [Yav]at this
end
theorem Box.results {P:Program} {w:World} {B:Nat} {T:TypeId} {cs:Array Value} (b:Box w B T cs) {fn:Func} {p:Tmp} {ty:TypeId} (h:fn.results = #[.cell p ty]) (tmps:Array Value) (d:TypeDesc)
  (ht:tmps.getD p undef=.pointer (some ⟨B,0,none⟩)) (hu:P.underlying ty=some d) (hd:d.isRow=true) (hi:(P.info? ty).map (·.size)=some cs.size):(results fn tmps).run P w=.ok (.agg cs) w:=by
 refine results_cell_row h tmps w B T cs (0,0) d ht b.blk hu ?_ hi;cases d<;>simp_all [TypeDesc.isRow]
theorem Zbr {S:World->Prop} {B:Nat} (hS:∀w i u,S w->S (w.setCell ⟨B,i,none⟩ u)):∀(vs:List Value) (o:Nat) (w:World),S w->S (w.setCells B o vs)
 | [],_,_,h=>h
 | v :: r, o, w, h => by
   rw[World.setCells];exact Zbr hS r (o+1) _ (hS _ _ _ h)
section
variable {P:Program} {ops:Array Oper} {Q:Exit->Act->World->Prop} {md:Region.Mode} {S:World->Prop}
theorem Zid (B:Nat) (T:TypeId) (i:Nat) {o:Oper} (hi:ops[i]? = some o) (hg:o.guard=none) (hd:o.dst=none) {ty:TypeId} {x y:Operand} (ho:o.op=.store ty x y) (off:Nat) (cells cs new:Array Value) {a:Act} {fuel:Nat} {listed:Array Bool} {w:World}
  (hr:Region.ready md ops listed=[i]) (hS:∀w i u,S w->S (w.setCell ⟨B,i,none⟩ u)) (hx:a.eval x=.pointer (some ⟨B,off,none⟩)) (hy:a.eval y=.agg cells)
  (hb:Box w B T cs) (hs:S w) (hi2:(P.info? ty).map (·.size)=some cells.size) (hoff:off+cells.size<=cs.size) (h1:cells.all (·.oneCell')=true)
  (hn:cs.toList.take off++cells.toList++cs.toList.drop (off+cells.size)=new.toList)
  (h:∀w',Box w' B T new->S w'->wpAnyH P md ops Q S fuel (listed.setIfInBounds i true) a w'):wpAnyH P md ops Q S (fuel+1) listed a w:=by
 refine wpAnyH_all hr Zs λj hj=>?_;obtain rfl:j=i:=by simpa using hj
 unfold wpOp;rw[hi];have hw:Region.wanted o (yielded ops a.tmps)=true:=by simp[Region.wanted,hg]
 simp only[hw,if_true];left
 have hb2:=Box.setCells cells.toList off w cs hb (by simpa using hoff);have hb3:Box (w.setCells B off cells.toList) B T new:=by simpa[hn]using hb2
 have hs2:=Zbr hS cells.toList off w hs;refine wp_store_mid ty x y ho B off cells hx hy (hb.there off cells.size hoff) hi2 h1 ?_;rw[hd];exact⟨hs2,h _ hb3 hs2⟩
end
theorem Zaj {P:Program} {S:World->Prop} {oi:Oper} {a:Act} (ty:TypeId) (x:Operand) (ho:oi.op=.load ty x) (b o:Nat) (hx:a.eval x=.pointer (some ⟨b,o,none⟩)) (cells:Array Value) (hc:∀w,S w->w.rangeAt b o cells.toList)
  (d:TypeDesc) (hu:P.underlying ty=some d) (hd:d.isRow=true) (hi:(P.info? ty).map (·.size)=some cells.size):∀w,S w->(execOp a.eval oi).run P w=.ok (.value (.agg cells)) w:=λw hS=>by
 unfold execOp;simp only[ho,hx,Yar,run_loadAt_mid w b o ty cells.toList d (hc w hS) hu hd (by simpa using hi),Yag,Yau]
end
theorem Zjl {f g:Nat->Int} {n m:Nat} (hf:Digs f n) (hg:Digs g m):(cmpV f n g m<0↔vf f n<vf g m)∧(cmpV f n g m=0↔vf f n=vf g m):=by
 unfold cmpV;by_cases h:n=m
 ·subst h
  rw[if_pos rfl];exact Zjk hf.lo hf.hi hg.lo hg.hi (cmpDown f g) rfl λk=>rfl
 ·rw[if_neg h]
  rcases Nat.lt_or_gt_of_ne h with h1|h1
  ·have a1:=hf.lt
   have a2:=hg.ge Zo;have a3:=Zbt (i:=n) (k:=m-1) Zo;omega
  ·have a1:=hg.lt
   have a2:=hf.ge Zo;have a3:=Zbt (i:=m) (k:=n-1) Zo;omega
end Go.Mono
namespace Go.Proofs.W
open Go.RowKit Go.Mono
theorem Zjm (m1 m2:Nat) (w wf:World) (hx:Ext wf w) (p q:Option Addr) (n m c1 c2:Nat) (N M:Int) (h1:Sz m1 wf (.slice p n c1) N) (h2:Sz m2 wf (.slice q m c2) M) :
  Calls Tryz.prog 145 #[.slice p n c1,.slice q m c2] w λe w'=>∃c:Int,(e=.returned (.int .i64 c)∧∃k,w'=w.drewN k)∧(c<0↔N<M)∧(c=0↔N=M):=by
 obtain⟨n,f,s1,d1,rfl,l1,rfl⟩:=(h1.ext hx).sl;obtain⟨m,g,s2,d2,rfl,l2,rfl⟩:=(h2.ext hx).sl;refine(Zu1 p q n m c1 c2 f g w s1 s2 d1.lo d1.hi d2.lo d2.hi).mono ?_;intro e w' h;exact⟨_,h,Zjl d1 d2⟩
theorem Zpq (m1 m2:Nat) (w wf:World) (hx:Ext wf w) (p q:Option Addr) (n m c1 c2:Nat) (N M:Int) (h1:Sz m1 wf (.slice p n c1) N) (h2:Sz m2 wf (.slice q m c2) M) (hlt:N<M) :
  Calls Tryz.prog 162 #[.slice p n c1,.slice q m c2] w λe w'=>e=.returned (.tuple #[.slice none 0 0,.slice p n c1])∧∃k,w'=w.drewN k:=by
 have hc:=Zjm m1 m2 w wf hx p q n m c1 c2 N M h1 h2;clear h1 h2;go_enter Tryz.func162,Tryz.ntmps162
 go_wp2_with (go_at_call 145;refine hc.mono ?_;rintro e w' ⟨c,⟨rfl,k,rfl⟩,hc1,hc2⟩;have hc0:c<0:=hc1.2 hlt;clear hc1 hc2)
 go_ret2
 exact⟨rfl,_,rfl⟩
theorem Zst (m1:Nat) (w wf:World) (hx:Ext wf w) (p q:Option Addr) (n c1 c2:Nat) (N M:Int) (h1:Sz m1 wf (.slice p n c1) N) (h2:Sz 1 wf (.slice q 1 c2) M) (hM:0<M) (hle:M<=N) (hm1:m1<=1000000) :
  Calls Tryz.prog 162 #[.slice p n c1,.slice q 1 c2] w λe w'=>∃p1 k1 c1 p2 k2 c2,e=.returned (.tuple #[.slice p1 k1 c1,.slice p2 k2 c2])∧Sz m1 w' (.slice p1 k1 c1) (N/M)∧Sz 1 w' (.slice p2 k2 c2) (N%M)∧Below w.heap.size w w':=by
 have hc:=Zjm m1 1 w wf hx p q n 1 c1 c2 N M h1 h2;obtain⟨n',g,s2,d2,hv2,l2,rfl⟩:=(h2.ext hx).sl;obtain⟨_,_,hx2⟩:=s2.opens;obtain⟨b,off,rfl,hb2,hcell⟩:=hx2 Zo;have a1:=hcell 0 Zo;rw[Yce]at a1;have eM:g 0=M:=by rw[<-hv2];simp[vf,pw]
 rw[eM]at a1;have M1:M<1000000000:=by rw[<-eM];exact d2.hi 0 Zo
 have h1':=h1.ext hx;clear hcell hx2 h1 h2 s2 d2 hv2 eM hx;go_enter Tryz.func162,Tryz.ntmps162
 go_wp2_with (go_at_call 145;refine hc.mono ?_;rintro e w' ⟨c,⟨rfl,k,rfl⟩,hc1,hc2⟩;have hc0:¬c<0:=λh=>by have:=hc1.1 h;omega)
 have hp:=Zpl m1 (w.drewN k) w ((Ext.refl w).below (below_drewN (Yae _ _) k)) p n c1 N M h1' hm1 hM M1;go_wp2_with (go_at_call 188;refine hp.mono ?_;rintro e w1 ⟨p1,k1,c3,rfl,hs1,hb1⟩)
 have hB:Below w.heap.size w w1:=(below_drewN (Yae _ _) k).trans hb1
 have hr0 : RowF (w1.alloc (.cells #[.int .i64 (N % M)] 3)) w1.heap.size 1 (λ_ => N % M) := ⟨#[.int .i64 (N % M)], by show (w1.heap.push _)[w1.heap.size]? = _; simp, Zs, λi hi => by obtain rfl : i = 0 := by omega
                                                                                                                                                                                      simp⟩
 have hs2:=hr0.slice Zo 1 (Yab _) 1 (Yab _);have r0:=Ycc N (show M≠0 by omega);have r1:=Ybu N hM;obtain⟨q1,q2⟩:=Zb2 (f:=λ_=>N%M) (k:=1) (λ_ _=>r0) (λ_ _=>Zo);have q3:=Za7 (λ_=>N%M) 1;have q4:vf (λ_=>N%M) 1=N%M:=by simp[vf,pw]
 have q5:=Yah (q2.trans q4);clear q2 q4;go_wp2_with (go_at_call 161;refine(Zcj _ _ _ _ _ hs2).mono ?_;rintro e w2 ⟨rfl,rfl⟩)
 go_ret2
 exact⟨_,_,_,_,_,_,rfl,hs1.ext ((Ext.refl _).alloc _),⟨_,_,hs2.take _ q3,q1,q5.out,q3⟩,hB.alloc hB.size _⟩
end Go.Proofs.W
namespace Go.Mono
open Go.RowKit
section
section
variable {F:Fence} {n:Nat} {P:Program} {ops:Array Oper} {rest:List Oper} {o:Oper} {a:Act} {w:World} {Q:Exit->Act->World->Prop}
theorem Zka (hg:o.guard=none) (T:TypeId) (ho:o.op=.alloc T) (zs:Array Value)
  (hrun:∀w,(Instr.alloc T true (.tuple #[])).run P w=.ok (.pointer (some ⟨w.heap.size,0,none⟩)) (w.alloc (.cells zs T)))
  (h:∀W B,w.heap.size<=B->Below w.heap.size w W->Box W B T zs->wpListIn F n P ops Q rest (a.put o.dst (.pointer (some ⟨B,0,none⟩))) W):wpListIn F n P ops Q (o::rest) a w:=by
 refine wpListIn_plain hg λK hK=>?_;unfold Oper.wpIn;refine⟨by simp[Oper.about,ho],?_⟩;rw[Oper.semAt_plain F _ _ (by rw[ho];intro c hc';cases hc')];unfold execOp;simp only[ho,Yar,hrun,Yag,Yau];exact hK _ _ (h _ _ (Yab _) ((Yae _ _).alloc (Yab _) _) (Box.new _ _ _))
theorem Zfj (hg:o.guard=none) (ty:TypeId) (x:Operand) (ho:o.op=.load ty x)
  (b off:Nat) (hx:a.eval x=.pointer (some ⟨b,off,none⟩)) (cs:List Value) (d:TypeDesc) (hc:w.rangeAt b off cs)
  (hu:P.underlying ty=some d) (hd:d.isRow=true) (hi:(P.info? ty).map (·.size)=some cs.length)
  (h:wpListIn F n P ops Q rest (a.put o.dst (.agg cs.toArray)) w):wpListIn F n P ops Q (o::rest) a w:=by
 refine wpListIn_plain hg λK hK=>?_;unfold Oper.wpIn;refine⟨by simp[Oper.about,ho],?_⟩;rw[Oper.semAt_plain F _ _ (by rw[ho];intro c hc';cases hc')];unfold execOp;simp only[ho,hx,Yar,run_loadAt_mid w b off ty cs d hc hu hd hi,Yag,Yau];exact hK _ _ h
theorem Zex (hg:o.guard=none) (ty:TypeId) (x y:Operand) (ho:o.op=.store ty x y) (B off:Nat) (T:TypeId) (old cells new:Array Value) (hx:a.eval x=.pointer (some ⟨B,off,none⟩)) (hy:a.eval y=.agg cells)
  (hb:Box w B T old) (hi:(P.info? ty).map (·.size)=some cells.size) (hold:off+cells.size<=old.size) (h1:cells.all (·.oneCell')=true)
  (hn:old.toList.take off++cells.toList++old.toList.drop (off+cells.size)=new.toList)
  (h:∀W,KeepBut B w.heap.size w W->KeepsOthers w W->Box W B T new->wpListIn F n P ops Q rest (a.put o.dst undef) W):wpListIn F n P ops Q (o::rest) a w:=by
 refine wpListIn_plain hg λK hK=>?_;unfold Oper.wpIn;refine⟨by simp[Oper.about,ho],?_⟩;rw[Oper.semAt_plain F _ _ (by rw[ho];intro c hc';cases hc')];unfold execOp;simp only[ho,hx,hy,Yar,run_storeAt_mid w B off ty cells (hb.there off cells.size hold) hi h1,Yag,Yau];refine hK _ _ (h _ ((KeepBut.refl _ _).setCells _ _ _) (Zbr (S:=λV=>KeepsOthers w V) (B:=B) (λV i u hV=>hV.trans (.setCell _ _ _)) _ _ _ (.refl _)) ?_);have:=Box.setCells cells.toList off w old hb (by simpa using hold);simpa[hn]using this
end
theorem Zah {old cells:Array Value} (h:old.size=cells.size):old.toList.take 0++cells.toList++old.toList.drop (0+cells.size)=cells.toList:=by
 simp[<-h]
end
end Go.Mono
