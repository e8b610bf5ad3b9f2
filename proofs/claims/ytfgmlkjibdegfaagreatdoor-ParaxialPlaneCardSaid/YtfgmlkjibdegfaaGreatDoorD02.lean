/- The drafted optics of chapter 13: what it is and that it is valid. Part 2 of 19. No condition beside the row. -/
import Derived.Test.YtfgmlkjibdegfaaGreatDoorA04
import Derived.Test.YtfgmlkjibdegfaaGreatDoorA05
import Derived.Test.YtfgmlkjibdegfaaGreatDoorA06
import Derived.Test.YtfgmlkjibdegfaaGreatDoorA25
set_option linter.unusedVariables false
set_option linter.unusedSimpArgs false
set_option maxRecDepth 100000
set_option maxHeartbeats 4000000
namespace Go.Mono
open Go.RowKit
section
section
variable {P:Program} {ops:Array Oper} {Q:Exit->Act->World->Prop} {md:Region.Mode} {S:World->Prop}
theorem join_at {α:Type} {fuel fuel':Nat} {listed listed':Array Bool} {a:Act} {w:World} (puts:α->Act->Act) (wd:α->World) (G:α->Prop)
  (h1:∀x,G x->wpAnyH P md ops Q S fuel' listed' (puts x a) (wd x))
  (h2:Hid (∀x,G x->wpAnyH P md ops Q S fuel' listed' (puts x a) (wd x))->wpAnyH P md ops Q S fuel listed a w):wpAnyH P md ops Q S fuel listed a w:=h2 h1
theorem meet {fuel:Nat} {listed listed':Array Bool} {a a':Act} {w:World} (h:wpAnyH P md ops Q S fuel listed' a' w) (hl:listed=listed':=by rfl)
  (ha:a=a':=by(simp only[Act.put,Zsi,Zs0,Zss];try rfl)):wpAnyH P md ops Q S fuel listed a w:=by
 subst ha;subst hl;exact h
theorem sto (i:Nat) {o:Oper} {fuel:Nat} {listed:Array Bool} {a:Act} {w:World} (ty:TypeId) (x y:Operand) (B off:Nat) (T:TypeId) (old cells new:Array Value)
  (ho:ops[i]? = some o) (hop:o.op=.store ty x y) (hx:a.eval x=.pointer (some ⟨B,off,none⟩)) (hy:a.eval y=.agg cells)
  (hb:Box w B T old) (hi:(P.info? ty).map (·.size)=some cells.size) (hold:off+cells.size<=old.size) (h1:cells.all (·.oneCell')=true)
  (hn:old.toList.take off++cells.toList++old.toList.drop (off+cells.size)=new.toList)
  (h:∀W,KeepBut B w.heap.size w W->Box W B T new->S W∧wpAnyH P md ops Q S fuel (listed.setIfInBounds i true) (a.put o.dst undef) W)
  (hr:Region.ready md ops listed=[i]:=by as_aux_lemma=>kernel_rfl) (hw:Region.wanted o (yielded ops a.tmps)=true:=by as_aux_lemma=>kernel_rfl):wpAnyH P md ops Q S (fuel+1) listed a w:=by
 refine st i (λK hK=>?_) ho hr;rw[if_pos hw];have hz:=h _ ((KeepBut.refl _ _).setCells cells.toList off _) (by
  have:=Box.setCells cells.toList off w old hb (by simpa using hold);simpa[hn]using this)
 exact wp_store_mid ty x y hop B off cells hx hy (hb.there off cells.size hold) hi h1 (hK.out _ _ hz.1 λ_=>hz.2)
end
end
section
section
variable {P:Program} {ops:Array Oper} {Q:Exit->Act->World->Prop} {md:Region.Mode} {S S':World->Prop}
theorem Zhi (hS:∀w,S' w->S w):∀(fuel:Nat) (listed:Array Bool) (a:Act) (w:World),wpAnyH P md ops Q S' fuel listed a w->wpAnyH P md ops Q S fuel listed a w
 | 0,_,_,_,h=>h
 | fuel+1,listed,a,w,h=>⟨h.1,λi hi=>wpOp_mono (λa' w' hk=>⟨hS _ hk.1,Zhi hS fuel _ _ _ hk.2⟩) (h.2 i hi)⟩
theorem Fl.more {N F:Nat} {ps:List Fa} {listed:Array Bool} {a:Act} {V:World} (S':World->Prop) (hS:∀w,S' w->S w) (hB:∀w,Below V.heap.size V w->S w->S' w) (h:Fl P md ops Q S' N ps F listed a V):Fl P md ops Q S N ps F listed a V:=
 λqs w hq hV hw hok=>Zhi hS _ _ _ _ (h qs w hq hV (hB w hV hw) hok)
end
end
theorem Zag {P:Program} {ops:Array Oper} {Q:Exit->Act->World->Prop} {o:Oper} {rest:List Oper} {a:Act} {w:World} (hg:o.guard=none) (ty:TypeId) (x y:Operand) (ho:o.op=.store ty x y) (B off:Nat) (T:TypeId) (old new:Array Value) (v:Value) (hx:a.eval x=.pointer (some ⟨B,off,none⟩)) (hy:a.eval y=v)
  (hrun:∀w:World,(w.cell? ⟨B,off,none⟩).isSome=true->w.frozen? ⟨B,off,none⟩=false->(Instr.storeAt ty (.pointer (some ⟨B,off,none⟩)) v).run P w=.ok () (w.setCell ⟨B,off,none⟩ v))
  (hb:Box w B T old) (hoff:off<old.size) (hn:old.setIfInBounds off v=new)
  (h:∀W,KeepBut B w.heap.size w W->Box W B T new->wpList P ops Q rest (a.put o.dst undef) W):wpList P ops Q (o::rest) a w:=by
 refine wpList_plain hg λK hK=>?_;have hc:(w.cell? ⟨B,off,none⟩).isSome=true:=by rw[hb.cell];simp[hoff]
 unfold Oper.wp execOp;simp only[ho,hx,hy,Yar,hrun w hc (hb.frozen off),Yag,Yau];exact hK _ _ (h _ ((KeepBut.refl _ _).set off v) (hn▸hb.set off v))
end Go.Mono
namespace Go.Proofs.W
open Go.RowKit Go.Mono
theorem Zuf {v1 v2:Value} {a b:Rat} (w:World) (h1:QtV 600 w v1 a) (h2:QtV 600 w v2 b) (hb0:0<b) (hf:Fits (a/b)) :
  Calls Tryz.prog 99 #[v1,v2] w λe w'=>∃C,e=.returned (.tuple #[.agg C,.int .i64 0])∧QtV 600 w' (.agg C) (a/b)∧Below w.heap.size w w':=by
 have hr1:=λ(X:World) (hX:Ext w X)=>Zb1 X (h1.ext hX);have hr2:=λ(X:World) (hX:Ext w X)=>Zb1 X (h2.ext hX);have hpr1:=λ(X:World) (hX:Ext w X)=>h1.ext hX;have hpr2:=λ(X:World) (hX:Ext w X)=>h2.ext hX;obtain⟨s1,p1,n1,c1,t1,q1,m1,d1,rfl,x1,x2⟩:=h1;obtain⟨s2,p2,n2,c2,t2,q2,m2,d2,rfl,y1,y2⟩:=h2;have hbn:0<b.num:=by
  have k1:=Rat.num_nonneg.2 (Rat.le_of_lt hb0);have k2:b.num≠0:=λh=>by rw[Rat.num_eq_zero.1 h]at hb0;exact absurd hb0 Zd
  omega
 have hn2:=y1.len.2.2.1 Zo;have hn2':((n2:Int)==0)=false:=by simp;omega
 have hden:(0:Int)<(a.den:Int)*b.num:=Int.mul_pos (by have:=a.den_pos;omega) hbn;have hab:Rat.divInt (a.num*b.den) ((a.den:Int)*b.num)=a/b:=by
  rw[<-Rat.divInt_mul_divInt,Yds,Yew];congr 1
  rw[Rat.inv_def]
 clear hpr1 hpr2;go_enter Tryz.func99,Tryz.ntmps99
 go_wp2_with fail
 refine Zby λW hB hs b0 b1 bO=>?_;refine(hr1 W (.of_below hB)).mono ?_;rintro e W2 ⟨rfl,hb⟩;replace b0:=b0.below hb;replace b1:=b1.below hb;replace bO:=bO.below hb;replace hB:=Zaa hB hb;have cb0:=b0.cell;have lb0:=b0.lt;have fb0:=b0.frozen;have cb1:=b1.cell;have lb1:=b1.lt;have fb1:=b1.frozen;clear hb hr1 hs;go_wp2_with fail
 refine(hr2 W2 (.of_below hB)).mono ?_;rintro e W3 ⟨rfl,hb⟩;replace b0:=b0.below hb;replace b1:=b1.below hb;replace bO:=bO.below hb;replace hB:=Zaa hB hb;clear cb0 lb0 fb0 cb1 lb1 fb1;have cb0:=b0.cell;have lb0:=b0.lt;have fb0:=b0.frozen;have cb1:=b1.cell;have lb1:=b1.lt;have fb1:=b1.frozen;clear hb hr2;go_wp2_with fail
 refine wp_region_held_drew (S:=λw'=>(∀b o,b<W3.heap.size->b≠(w.heap.size+1+1)->w'.cell? ⟨b,o,none⟩=W3.cell? ⟨b,o,none⟩)∧KeepBut (w.heap.size+1+1) W3.heap.size W3 w') Zx (KeepBut.S (KeepBut.refl _ _).drew) (λhHeld=>?_);have hBel:Below W3.heap.size W3 W3.drew:=(Yae _ _).drew;refine tk 0 (some 21) ?_;refine tl 1 (some 22) rfl (.agg #[.bool s1,.slice p1 n1 c1]) (Zaj 52 _ rfl w.heap.size 0 rfl  #[.bool s1,.slice p1 n1 c1] (λw h=>(h.2.box b0 b0.lt Zo).part 0 #[.bool s1,.slice p1 n1 c1] rfl) _ Tryz.underlying52 rfl Zae) ?_;refine tk 2 (some 23) ?_;refine tl 3 (some 24) rfl (.agg #[.bool t2,.slice q2 m2 d2]) (Zaj 52 _ rfl (w.heap.size+1) 2 rfl  #[.bool t2,.slice q2 m2 d2] (λw h=>(h.2.box b1 b1.lt Zo).part 2 #[.bool t2,.slice q2 m2 d2] rfl) _ Tryz.underlying52 rfl Zae) ?_;refine tk 5 (some 26) ?_;refine tl 6 (some 27) rfl (.agg #[.bool t1,.slice q1 m1 d1]) (Zaj 52 _ rfl w.heap.size 2 rfl  #[.bool t1,.slice q1 m1 d1] (λw h=>(h.2.box b0 b0.lt Zo).part 2 #[.bool t1,.slice q1 m1 d1] rfl) _ Tryz.underlying52 rfl Zae) ?_;refine tk 7 (some 28) ?_;refine tl 8 (some 29) rfl (.agg #[.bool s2,.slice p2 n2 c2]) (Zaj 52 _ rfl (w.heap.size+1) 0 rfl  #[.bool s2,.slice p2 n2 c2] (λw h=>(h.2.box b1 b1.lt Zo).part 0 #[.bool s2,.slice p2 n2 c2] rfl) _ Tryz.underlying52 rfl Zae) ?_;refine Mono.stc 4 (some 25) (Zcw _ (x1.ext ((Ext.of_below hB).trans (.of_below hBel))) (y2.ext ((Ext.of_below hB).trans (.of_below hBel))) Zd Zd) (λe Wn4 hR=>?_);obtain⟨V4,rfl,R4,hb4⟩:=hR;replace hBel:=Zaa hBel hb4;refine⟨(KeepBut.S (hHeld.2.call hb4)),λhHeld=>Mono.pt ?_⟩;refine Mono.stc 9 (some 30) (Zcw _ (x2.ext ((Ext.of_below hB).trans (.of_below hBel))) (y1.ext ((Ext.of_below hB).trans (.of_below hBel))) Zd Zd) (λe Wn9 hR=>?_);obtain⟨V9,rfl,R9,hb9⟩:=hR;replace hBel:=Zaa hBel hb9;replace R4:=R4.ext (.of_below hb9);refine⟨(KeepBut.S (hHeld.2.call hb9)),λhHeld=>Mono.pt ?_⟩;refine Mono.stc 10 (some 31) (Zc3 _ R4 R9 hden Zd) (λe Wn10 hR=>?_);obtain⟨V10,rfl,R10,hb10⟩:=hR;rw[hab]at R10;replace hBel:=Zaa hBel hb10;replace R4:=R4.ext (.of_below hb10);replace R9:=R9.ext (.of_below hb10);refine⟨(KeepBut.S (hHeld.2.call hb10)),λhHeld=>Mono.pt ?_⟩;refine Mono.stc 11 (some 32) (Zg4 _ (R10.tight hf.1 hf.2)) (λe Wn11 hR=>?_);obtain⟨rfl,hb9⟩:=hR;have h9:=(R10.tight hf.1 hf.2).below hb9;obtain⟨C,rfl,zC,oC⟩:=h9.cells;replace hBel:=Zaa hBel hb9;replace R4:=R4.ext (.of_below hb9);replace R9:=R9.ext (.of_below hb9);replace R10:=R10.ext (.of_below hb9);refine⟨(KeepBut.S (hHeld.2.call hb9)),λhHeld=>Mono.pt ?_⟩;refine tk 12 (some 33) ?_;refine tk 13 (some 34) ?_;refine Zdi (w.heap.size+1+1) 54 14 rfl rfl rfl rfl 0 C _ C Zx (λw' i u hS=>KeepBut.S (hS.2.set i u)) rfl rfl (bO.below hBel) hHeld (by rw[zC];exact Zan) (Ybl (by rw[zC];rfl)) oC (Zah (by rw[zC];rfl)) (λWs hks bs hHeld=>?_);refine tk 15 (some 5) ?_;refine wpAnyH_done Zx ?_ _;have xS:=hks.ext (bO.below hBel) Zd;go_wp2
 refine bodyPost_ret (bs.resultsT rfl _ _ rfl Tryz.underlying54 rfl (by rw[zC];exact Zan)) rfl ?_;exact⟨_,rfl,h9.ext xS,hHeld.2.below hB Zo hB.size⟩
end Go.Proofs.W
namespace Go.Mono
def nwt (a x:Nat):Nat:=(x+a/x)/2
theorem Zug {a x:Nat} (hx:0<x) (h:x<=nwt a x):x*x<=a:=by
 unfold nwt at h;have h1:x<=a/x:=by omega
 exact Nat.le_trans (Nat.mul_le_mul_right x h1) (Nat.div_mul_le_self a x)
theorem Zwc (x q:Nat):4*(x*q)<=(x+q)*(x+q):=by
 have key:∀a b:Nat,a<=b->4*(a*b)<=(a+b)*(a+b):=λa b h=>by
  obtain⟨d,rfl⟩:=Nat.le.dest h;have e:(a+(a+d))*(a+(a+d))=4*(a*(a+d))+d*d:=by
   simp only[Nat.mul_add,Nat.add_mul];have:=Nat.mul_comm a d;omega
  rw[e];exact Nat.le_add_right _ _
 rcases Nat.le_total x q with h|h
 ·exact key x q h
 ·have:=key q x h
  rw[Nat.mul_comm x q,Nat.add_comm x q];exact this
theorem Zk8 {a x:Nat} (hx:0<x):a<(nwt a x+1)*(nwt a x+1):=by
 have h1:a<x*(a/x+1):=by
  have:=Nat.lt_mul_div_succ a hx;simpa[Nat.mul_comm]using this
 have h2:x+(a/x+1)<=2*(nwt a x+1):=by unfold nwt;omega
 have h3:=Zwc x (a/x+1);have h4:=Nat.mul_le_mul h2 h2;have h5:2*(nwt a x+1)*(2*(nwt a x+1))=4*((nwt a x+1)*(nwt a x+1)):=by
  rw[Nat.mul_mul_mul_comm]
 omega
theorem Zwd {a x:Nat} (hx:0<x) (ha:0<a):0<nwt a x:=by
 have h:=Zk8 (a:=a) hx;rcases Nat.eq_zero_or_pos (nwt a x) with e|e
 ·exfalso
  have h1:x=1:=by
   unfold nwt at e;generalize a/x=q at e;omega
  subst h1;unfold nwt at e;rw[Nat.div_one]at e;omega
 ·exact e
end Go.Mono
