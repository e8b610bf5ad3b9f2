/- Contracts of package paraxial,and a verified evaluator. Part 10 of 26. No condition beside the row. -/
import Derived.Test.YtpfpiecljfimjaaGreatDoorA08
import Derived.Test.YtpfpiecljfimjaaGreatDoorA09
set_option linter.unusedVariables false
set_option linter.unusedSimpArgs false
set_option maxRecDepth 100000
set_option maxHeartbeats 4000000
namespace Go.Mono
open Go.RowKit
theorem LgV.zero {m:Nat} {w:World} {v:Value} (h:LgV m w v 0):∃p c,v=.agg #[.bool false,.slice p 0 c]:=by
 obtain⟨p,n,c,f,rfl,h1,h2,h3,h4⟩:=h;have:¬0<n:=λh=>by have:=h2.pos.2 h;simp at h3;omega
 obtain rfl:n=0:=Zo;exact⟨p,c,rfl⟩
theorem LgV.nz {m:Nat} {w:World} {v:Value} {z:Int} (h:LgV m w v z) (hz:z≠0):∃p n c,v=.agg #[.bool (decide (z<0)),.slice p n c]∧0<n:=by
 obtain⟨p,n,c,f,rfl,h1,h2,h3,h4⟩:=h;exact⟨p,n,c,rfl,h2.pos.1 Zo⟩
theorem LgV.parts {m:Nat} {w:World} {v:Value} {z:Int} (h:LgV m w v z):∃s p n c,v=.agg #[.bool s,.slice p n c]:=by
 obtain⟨p,n,c,f,rfl,h1,h2,h3,h4⟩:=h;exact⟨_,p,n,c,rfl⟩
end Go.Mono
namespace Go.Proofs.W
open Go.RowKit Go.Mono
theorem Zgh (w:World) (T0 T1 T2:TypeId) (c0 c1 c2:Array Value):Box (((w.alloc (.cells c0 T0)).alloc (.cells c1 T1)).alloc (.cells c2 T2)) (w.heap.size+1+1) T2 c2:=by
 have b:=Box.new ((w.alloc (.cells c0 T0)).alloc (.cells c1 T1)) T2 c2;simp only[Yav]at b;exact b
theorem Zcp (w:World) (a b c:Obj):Below w.heap.size w (((w.alloc a).alloc b).alloc c):=Zad (Zad (Zad (Yae _ _) _) _) _
theorem Zmj {m1 m2:Nat} {v1 v2:Value} {y:Int} (w:World) (h1:LgV m1 w v1 0) (h2:LgV m2 w v2 y) :
  Calls Tryz.prog 173 #[v1,v2] w λe w'=>∃v,e=.returned v∧LgV m2 w' v y∧Below w.heap.size w w':=by
 obtain⟨p,c,rfl⟩:=h1.zero;obtain⟨s,q,m,c',rfl⟩:=h2.parts;go_enter Tryz.func173,Tryz.ntmps173
 go_wp2_with fail
 exact bodyPost_ret ((Zgh w _ _ _ _ _ _).results rfl _ _ rfl Tryz.underlying49 rfl Zae) rfl ⟨_,rfl,h2.below (Zcp w _ _ _),Zcp w _ _ _⟩
theorem Zmk {m1 m2:Nat} {v1 v2:Value} {z:Int} (w:World) (h1:LgV m1 w v1 z) (h2:LgV m2 w v2 0) (hz:z≠0) :
  Calls Tryz.prog 173 #[v1,v2] w λe w'=>∃v,e=.returned v∧LgV m1 w' v z∧Below w.heap.size w w':=by
 obtain⟨p,c,rfl⟩:=h2.zero;obtain⟨q,n,c',rfl,hn⟩:=h1.nz hz;have hn':((n:Int)==0)=false:=by simp;omega
 generalize decide (z<0)=s at *;go_enter Tryz.func173,Tryz.ntmps173
 go_wp2_with fail
 exact bodyPost_ret ((Zgh w _ _ _ _ _ _).results rfl _ _ rfl Tryz.underlying49 rfl Zae) rfl ⟨_,rfl,h1.below (Zcp w _ _ _),Zcp w _ _ _⟩
theorem Zml {m1 m2:Nat} {v1 v2:Value} {z y:Int} (w:World) (h1:LgV m1 w v1 z) (h2:LgV m2 w v2 y) (hz:z≠0) (hy:y≠0) (hs:¬decide (z<0)=decide (y<0)) (hm1:m1<=100000) (hm2:m2<=100000) :
  Calls Tryz.prog 173 #[v1,v2] w λe w'=>∃v,e=.returned v∧LgV (max m1 m2) w' v (z+y)∧Below w.heap.size w w':=by
 have hmi:=λ(W:World) (hW:Below w.heap.size w W)=>Zfo W (h2.below hW) hm2;have hsg:¬(z<0↔y<0):=by simpa using hs
 have hd:=λ(W:World) (v:Value) (hW:Below w.heap.size w W) (h:LgV m2 W v (-y))=>Zmi W (h1.below hW) h hz Zo (by rw[decide_eq_decide];omega) hm1 hm2;obtain⟨p,n,c,rfl,hn0⟩:=h1.nz hz;obtain⟨q,m,c',rfl,hm0⟩:=h2.nz hy;have hn0':((n:Int)==0)=false:=by simp;omega
 have hm0':((m:Int)==0)=false:=by simp;omega
 have hst:(decide (z<0) != decide (y<0))=true:=by simpa using hs
 clear hs;generalize decide (z<0)=s at *;generalize decide (y<0)=t at *;have hst2:(!s==t)=true:=by cases s<;>cases t<;>simp_all
 go_enter Tryz.func173,Tryz.ntmps173
 go_wp2_with fail
 refine Zfv λW hB hs b0 b1 b2=>?_;refine wp_region_held_drew (S:=λw'=>KeepBut (w.heap.size+1+1) W.heap.size W w') Zx (KeepBut.refl _ _).drew (λhHeld=>?_);generalize hX:W.drew=X0 at *;have r0:∀X,KeepBut (w.heap.size+1+1) W.heap.size W X->X.rangeAt w.heap.size 0 (#[.bool s,.slice p n c]:Array Value).toList:=λX h=>(h.box b0 b0.lt Zo).range;have r1:∀X,KeepBut (w.heap.size+1+1) W.heap.size W X->X.rangeAt (w.heap.size+1) 0 (#[.bool t,.slice q m c']:Array Value).toList:=λX h=>(h.box b1 b1.lt Zo).range;refine tl 0 (some 24) rfl (.agg #[.bool s,.slice p n c]) (Zai 49 _ rfl w.heap.size 0 rfl #[.bool s,.slice p n c] r0 _ Tryz.underlying49 rfl Zae) ?_;refine tl 1 (some 25) rfl (.agg #[.bool t,.slice q m c']) (Zai 49 _ rfl (w.heap.size+1) 0 rfl #[.bool t,.slice q m c'] r1 _ Tryz.underlying49 rfl Zae) ?_;have hBX:Below w.heap.size w X0:=by rw[<-hX];exact hB.drew
 have b2X:Box X0 (w.heap.size+1+1) 49 #[.bool false,.slice none 0 0]:=by rw[<-hX];exact b2.drew
 refine Mono.stc 2 (some 26) (hmi X0 hBX) (λe X1 hR=>?_);obtain⟨v',rfl,hl1,hb1⟩:=hR;refine⟨(hHeld.call hb1),λhHeld=>Mono.pt ?_⟩;have hBX1:=Zaa hBX hb1;refine Mono.stc 3 (some 27) (hd X1 v' hBX1 hl1) (λe X2 hR=>?_);obtain⟨v2,rfl,hl2,hb2⟩:=hR;refine⟨(hHeld.call hb2),λhHeld=>Mono.pt ?_⟩;have hBX2:=Zaa hBX1 hb2;have b2Y:=(b2X.below hb1).below hb2;obtain⟨C,rfl,hCs,hCo⟩:=hl2.cells;have hiC:(Tryz.prog.info? 49).map (·.size)=some C.size:=by rw[hCs];exact Zae
 have hn2:(#[.bool false,.slice none 0 0]:Array Value).size=C.size:=by rw[hCs];rfl
 refine Zb6 (w.heap.size+1+1) 49 4 rfl rfl rfl rfl 0 C #[.bool false,.slice none 0 0] C Zx (λw i u h=>h.set i u) Zx Zx b2Y hHeld hiC (by rw[hCs];exact Yaa rfl) hCo (Zaf hn2) (λY hk b4 hHeld=>?_);refine wpAnyH_done Zx ?_ _;have hlg:=hl2.ext (hk.ext b2Y Zd);have hb3:=hk.below hBX2 Zo hBX2.size;clear r0 r1 b2X hX hBX hmi hd hl1 hb1 hBX1 hl2 hb2 b2Y hk hHeld b0 b1 b2 hB h1 h2;go_wp2
 refine bodyPost_ret (b4.results rfl _ _ rfl Tryz.underlying49 rfl hiC) rfl ⟨_,rfl,?_,hb3⟩;rw[show z+y=z - -y by omega];exact hlg
theorem Zn1 {m1 m2:Nat} {v1 v2:Value} {z y:Int} (w:World) (h1:LgV m1 w v1 z) (h2:LgV m2 w v2 y) (hm1:m1<=100000) (hm2:m2<=100000) :
  Calls Tryz.prog 173 #[v1,v2] w λe w'=>∃v,e=.returned v∧LgV (max m1 m2+1) w' v (z+y)∧Below w.heap.size w w':=by
 by_cases hz:z=0
 ·subst hz
  refine(Zmj w h1 h2).mono ?_;rintro e w' ⟨v,rfl,hl,hb⟩;exact⟨v,rfl,by rw[Int.zero_add];exact hl.mono Zo,hb⟩
 ·by_cases hy : y = 0
  ·subst hy
   refine(Zmk w h1 h2 hz).mono ?_;rintro e w' ⟨v,rfl,hl,hb⟩;exact⟨v,rfl,by rw[Yda];exact hl.mono Zo,hb⟩
  ·by_cases hs:decide (z<0)=decide (y<0)
   ·exact Zpe w h1 h2 hz hy hs hm1 hm2
   ·refine(Zml w h1 h2 hz hy hs hm1 hm2).mono ?_
    rintro e w' ⟨v,rfl,hl,hb⟩;exact⟨v,rfl,hl.mono Zo,hb⟩
theorem Zf4 (a b s:Rat) (f:Nat) (u v:Value) (w:World) (ha:QV w u a) (hb:QV w v b) (hf:Fits s) (h:f=135∧a+b=s∨f=136∧a-b=s∨f=134∧a*b=s∨f=103∧a/b=s∧b.num≠0) :
  Calls Tryz.prog 102 #[u,v,.func (.func f) #[] #[]] w λe w'=>∃r,e=.returned (.tuple #[r,.int .i64 0])∧QV w' r s∧Below w.heap.size w w':=by
 rcases h with ⟨rfl,hE⟩|⟨rfl,hE⟩|⟨rfl,hE⟩|⟨rfl,hE,h0⟩
 all_goals
  obtain⟨hf1,hf2⟩:=hf;have ha':=ha;have hb':=hb;obtain⟨p1,k1,c1,q1,l1,d1,rfl,x1,x2⟩:=ha;obtain⟨p2,k2,c2,q2,l2,d2,rfl,y1,y2⟩:=hb;go_enter Tryz.func102,Tryz.ntmps102
  go_wp2_with fail
  refine Zqi λW hB hs b0 b1 b2 b3=>?_;replace ha':=ha'.ext (.of_below hB);replace hb':=hb'.ext (.of_below hB);refine(Zqj a b _ _ _ _ p1 q1 p2 q2 k1 c1 l1 d1 k2 c2 l2 d2 _ _ b3 ha' hb').mono ?_;rintro e W1 ⟨rfl,hb1⟩;replace hB:=Zaa hB hb1;replace ha':=ha'.ext (.of_below hb1);replace hb':=hb'.ext (.of_below hb1);replace b0:=b0.below hb1;try clear cb0 lb0 fb0
  have cb0:=b0.cell;have lb0:=b0.lt;have fb0:=b0.frozen;replace b1:=b1.below hb1;try clear cb1 lb1 fb1
  have cb1:=b1.cell;have lb1:=b1.lt;have fb1:=b1.frozen;replace b2:=b2.below hb1;try clear cb2 lb2 fb2
  have cb2:=b2.cell;have lb2:=b2.lt;have fb2:=b2.frozen;have xW:=Ext.of_below hB;have n0:w.heap.size≠w.heap.size+1+1:=Zo;have n1:w.heap.size+1≠w.heap.size+1+1:=Zo;have K0:=KeepBut.refl (w.heap.size+1+1) W1;go_wp2_with fail
  have ra:RatV 600 W1 (.agg #[.bool (decide (a.num<0)),.slice p1 k1 c1,.slice q1 l1 d1]) a:=⟨_,_,_,_,_,_,_,rfl,Sg.self _,x1.ext xW,x2.ext xW⟩
  have rb:RatV 600 W1 (.agg #[.bool (decide (b.num<0)),.slice p2 k2 c2,.slice q2 l2 d2]) b:=⟨_,_,_,_,_,_,_,rfl,Sg.self _,y1.ext xW,y2.ext xW⟩
  have bR:=b2;clear ha' hb' x1 x2 y1 y2 xW hb1 hs;go_region_held3 (λw'=>(∀b o,b<W1.heap.size->b≠(w.heap.size+1+1)->w'.cell? ⟨b,o,none⟩=W1.cell? ⟨b,o,none⟩)∧KeepBut (w.heap.size+1+1) W1.heap.size W1 w') ((refine KeepBut.S ?_;first|exact K0.drew|(repeat' (first|exact Yai ‹_› | exact KeepBut.call (Yai ‹_›) ‹_› | refine KeepBut.set ?_ _ _|refine KeepBut.alloc ?_ _)))) (first|(go_at_call 130;(with_reducible refine(Zip (decide (a.num<0)) false p1 q1 k1 c1 l1 d1 _).mono ?_);rintro e W5 ⟨rfl,hb5⟩;(first|replace bR:=bR.below hb5|replace bR:=bR.drew.below hb5);have cbR:=bR.cell;have fbR:=bR.frozen)|(go_at_call 130;(with_reducible refine(Zip (decide (b.num<0)) false p2 q2 k2 c2 l2 d2 _).mono ?_);rintro e W5 ⟨rfl,hb5⟩;(first|replace bR:=bR.below hb5|replace bR:=bR.drew.below hb5);have cbR:=bR.cell;have fbR:=bR.frozen)|(go_at_call 135;(with_reducible refine(Zqh 600 a b _ _ _ W1 (KeepBut.ext (Yai ‹_›) b2 Zd) ra rb Zo).mono ?_);rintro e W6 ⟨r,rfl,hR6,hb6⟩;rw[hE]at hR6;obtain⟨s6,p6,k6,c6,q6,l6,d6,rfl,g6,z6,y6⟩:=hR6;replace bR:=bR.below hb6)|(go_at_call 136;(with_reducible refine(Ztv 600 a b _ _ _ W1 (KeepBut.ext (Yai ‹_›) b2 Zd) ra rb Zo).mono ?_);rintro e W6 ⟨r,rfl,hR6,hb6⟩;rw[hE]at hR6;obtain⟨s6,p6,k6,c6,q6,l6,d6,rfl,g6,z6,y6⟩:=hR6;replace bR:=bR.below hb6)|(go_at_call 134;(with_reducible refine(Zm8 600 a b _ _ _ W1 (KeepBut.ext (Yai ‹_›) b2 Zd) ra rb Zo).mono ?_);rintro e W6 ⟨r,rfl,hR6,hb6⟩;rw[hE]at hR6;obtain⟨s6,p6,k6,c6,q6,l6,d6,rfl,g6,z6,y6⟩:=hR6;replace bR:=bR.below hb6)|(go_at_call 103;(with_reducible refine(Zv0 600 a b _ _ _ W1 (KeepBut.ext (Yai ‹_›) b2 Zd) ra rb h0 Zo).mono ?_);rintro e W6 ⟨r,rfl,hR6,hb6⟩;rw[hE]at hR6;obtain⟨s6,p6,k6,c6,q6,l6,d6,rfl,g6,z6,y6⟩:=hR6;replace bR:=bR.below hb6)|(go_at_call 145;(with_reducible refine(Zlw 600 s6 p6 q6 k6 c6 l6 d6 _ _ _ (Ext.refl _) g6 (z6.tight hf1) (y6.tight hf2) Zo).mono ?_);rintro e W7 ⟨p7,k7,c7,q7,l7,d7,rfl,z7,y7,hb7⟩;replace bR:=bR.below hb7;have cbR:=bR.cell;have fbR:=bR.frozen))
  all_goals
   go_wp2
   have b3':=((((bR.set 0 (.bool (decide (s.num<0)))).set 1 (.slice p7 k7 c7)).set 2 (.bool false)).set 3 (.slice q7 l7 d7)).cell;have xE:Ext W7 _:=(((((Ext.refl W7).set bR Zd 0 (.bool (decide (s.num<0)))).set (bR.set 0 (.bool (decide (s.num<0)))) Zd 1 (.slice p7 k7 c7))).set ((bR.set 0 (.bool (decide (s.num<0)))).set 1 (.slice p7 k7 c7)) Zd 2 (.bool false)).set (((bR.set 0 (.bool (decide (s.num<0)))).set 1 (.slice p7 k7 c7)).set 2 (.bool false)) Zd 3 (.slice q7 l7 d7);refine bodyPost_ret (v:=.tuple #[.agg #[.bool (decide (s.num<0)),.slice p7 k7 c7,.bool false,.slice q7 l7 d7],.int .i64 0]) (by simp[results,Tryz.results102,go_sem,b3']) rfl ⟨_,rfl,⟨_,_,_,_,_,_,rfl,z7.ext xE,y7.ext xE⟩,?_⟩;exact KeepBut.below (Yai ‹_›) hB Zo hB.size
theorem Zty (a b:Rat) (u v:Value) (w:World) (ha:QV w u a) (hb:QV w v b) (hf:Fits (a+b)) :
  Calls Tryz.prog 102 #[u,v,.func (.func 135) #[] #[]] w λe w'=>∃r,e=.returned (.tuple #[r,.int .i64 0])∧QV w' r (a+b)∧Below w.heap.size w w':=
 Zf4 a b _ _ u v w ha hb hf (.inl ⟨rfl,rfl⟩)
theorem Zqk (a b:Rat) (u v:Value) (w:World) (ha:QV w u a) (hb:QV w v b) (hf:Fits (a-b)) :
  Calls Tryz.prog 102 #[u,v,.func (.func 136) #[] #[]] w λe w'=>∃r,e=.returned (.tuple #[r,.int .i64 0])∧QV w' r (a-b)∧Below w.heap.size w w':=
 Zf4 a b _ _ u v w ha hb hf (.inr (.inl ⟨rfl,rfl⟩))
theorem Zql (a b:Rat) (u v:Value) (w:World) (ha:QV w u a) (hb:QV w v b) (hf:Fits (a*b)) :
  Calls Tryz.prog 102 #[u,v,.func (.func 134) #[] #[]] w λe w'=>∃r,e=.returned (.tuple #[r,.int .i64 0])∧QV w' r (a*b)∧Below w.heap.size w w':=
 Zf4 a b _ _ u v w ha hb hf (.inr (.inr (.inl ⟨rfl,rfl⟩)))
theorem Ztz (a b:Rat) (u v:Value) (w:World) (ha:QV w u a) (hb:QV w v b) (h0:b.num≠0) (hf:Fits (a/b)) :
  Calls Tryz.prog 102 #[u,v,.func (.func 103) #[] #[]] w λe w'=>∃r,e=.returned (.tuple #[r,.int .i64 0])∧QV w' r (a/b)∧Below w.heap.size w w':=
 Zf4 a b _ _ u v w ha hb hf (.inr (.inr (.inr ⟨rfl,rfl,h0⟩)))

structure PInv (w wr:World) (R L:Nat) (d:Nat->Int) (A0 A1:Array Value):Prop where
 row:RowF wr R L d
 lo:∀j,j<L->0<=d j
 hi:∀j,j<L->d j<1000000000
 b0:Box wr w.heap.size 49 A0
 b1:Box wr (w.heap.size+1) 49 A1
 b2:Box wr (w.heap.size+1+1) 49 #[.bool false,.slice none 0 0]
 below:Below w.heap.size w wr
 above:w.heap.size+1+1+1<=R
theorem PInv.set {w wr:World} {R L:Nat} {d:Nat->Int} {A0 A1:Array Value} (h:PInv w wr R L d A0 A1) (j:Nat) (x:Int) (x0:0<=x) (x1:x<1000000000) :
  PInv w (wr.setCell ⟨R,j,none⟩ (.int .i64 x)) R L (λi=>if i=j then x else d i) A0 A1:=by
 have ha:=h.above;refine⟨h.row.set j x,λi hi=>?_,λi hi=>?_,h.b0.other _ _ (by show w.heap.size≠R;omega),h.b1.other _ _ (by show w.heap.size+1≠R;omega),h.b2.other _ _ (by show w.heap.size+1+1≠R;omega),Zag h.below Zo _ _,ha⟩
 ·split
  ·exact x0
  ·exact h.lo i hi
 ·split
  ·exact x1
  ·exact h.hi i hi
theorem PInv.drewN {w wr:World} {R L:Nat} {d:Nat->Int} {A0 A1:Array Value} (h:PInv w wr R L d A0 A1) (k:Nat):PInv w (wr.drewN k) R L d A0 A1:=
 ⟨h.row.drewN k,h.lo,h.hi,⟨h.b0.blk⟩,⟨h.b1.blk⟩,⟨h.b2.blk⟩,below_drewN h.below k,h.above⟩
theorem Zr3 {f g:Nat->Int} {n m i k:Nat} (d1:Digs f n) (d2:Digs g m) (hi:i<n) (hk:k<m):vf f i*vf g m+f i*pw i*vf g (k+1)<pw (n+m):=by
 have f0:=d1.lo i hi;have p0:=Za8 i;have hg:vf g (k+1)<=vf g m:=by
  obtain⟨e,rfl⟩:=Yfe (show k+1<=m by omega);rw[Zcj g (k+1) e];have h1:0<=vf (λj=>g (k+1+j)) e:=Zaq λj hj=>d2.lo _ Zo;have:=Ycg (Yap (Za8 (k+1))) h1;omega
 have h1:f i*pw i*vf g (k+1)<=f i*pw i*vf g m:=Ycr hg (Ycg f0 (Yap p0));have h2:vf f i*vf g m+f i*pw i*vf g m=vf f (i+1)*vf g m:=by rw[Zaj,Yel]
 have h3:vf f (i+1)<pw (i+1):=Zc3 λj hj=>d1.hi j Zo;have h4:vf g m<pw m:=d2.lt;have h5:0<=vf g m:=d2.nonneg;have h6:0<=vf f (i+1):=Zaq λj hj=>d1.lo j Zo;have h7:vf f (i+1)*vf g m<=pw (i+1)*vf g m:=Yaw (Yap h3) h5;have h8:pw (i+1)*vf g m<pw (i+1)*pw m:=Int.mul_lt_mul_of_pos_left h4 (Za8 _);have h9:=Zbs (show i+1+m<=n+m by omega);rw[Zfu]at h9;omega
theorem Zjh (s t:Bool) (p q:Option Addr) (n m c1 c2:Nat) (f g:Nat->Int) (w:World) (h1:SlF w (.slice p n c1) n f) (h2:SlF w (.slice q m c2) m g) (d1:Digs f n) (d2:Digs g m) (hn6:n<=100000) (hm6:m<=100000) :
  Calls Tryz.prog 142 #[.agg #[.bool s,.slice p n c1],.agg #[.bool t,.slice q m c2]] w λe w'=>∃p k c h,e=.returned (.agg #[.bool ((s != t)&&decide (0<vf f n*vf g m)),.slice p k c])∧SlF w' (.slice p k c) k h∧Digs h k∧vf h k=vf f n*vf g m∧k<=n+m∧Below w.heap.size w w':=by
 obtain⟨hc1,hn1,hx1⟩:=h1.opens;obtain⟨hc2,hn2,hx2⟩:=h2.opens;obtain⟨sg,hsg⟩:∃sg:Bool,((s != t)&&decide (0<vf f n*vf g m))=sg:=⟨_,rfl⟩
 rw[hsg];replace hsg:=Yah hsg;go_enter Tryz.func142,Tryz.ntmps142
 go_wp2_with (first
  | (at_make;refine Za0 _ rfl _ _ 47 rfl Tryz.underlying47 Zby _ _ (n+m) rfl rfl Zs Zs Zo ?_;intro W1 r1 hb1))
 have hR:((((w.alloc (.cells #[.bool s,.slice p n c1] 49)).alloc (.cells #[.bool t,.slice q m c2] 49)).alloc (.cells #[.bool false,.slice none 0 0] 49))).heap.size=w.heap.size+1+1+1:=Zs;rw[hR]at r1;have hB:=Zaa (Zcp w (.cells #[.bool s,.slice p n c1] 49) (.cells #[.bool t,.slice q m c2] 49) (.cells #[.bool false,.slice none 0 0] 49)) hb1;have hI0:PInv w W1 (w.heap.size+1+1+1) (n+m) (λ_=>0) #[.bool s,.slice p n c1] #[.bool t,.slice q m c2]:=by
  have b1:=Box.new (w.alloc (.cells #[.bool s,.slice p n c1] 49)) 49 #[.bool t,.slice q m c2];simp only[Yav]at b1;exact⟨r1,λ_ _=>Yek _,λ_ _=>Zd,(((Box.new _ _ _).alloc _).alloc _).below hb1,(b1.alloc _).below hb1,(Zgh w _ _ _ _ _ _).below hb1,hB,Yab _⟩
 clear hb1 hB hR r1;go_loopw [6] (λa wr=>∃(i:Nat) (d:Nat->Int),i<=n∧a=.int .i64 (i:Int)∧vf d (n+m)=vf f i*vf g m∧PInv w wr (w.heap.size+1+1+1) (n+m) d #[.bool s,.slice p n c1] #[.bool t,.slice q m c2]) (λa _=>(n-intOf a).toNat)
 case atStart=>exact⟨0,_,Yat _,rfl,by rw[Zdk (λi _=>rfl)];simp[vf],hI0⟩
 case round=>
  clear hI0;obtain⟨i,d,hi,rfl,hv,hI⟩:=hrel;replace hv:=Yah hv;have b0:=hI.b0;have b1:=hI.b1;have cb0:=b0.cell;have lb0:=b0.lt;have fb0:=b0.frozen;have cb1:=b1.cell;have lb1:=b1.lt;have fb1:=b1.frozen;by_cases hin:i<n
  ·have hin':(i:Int)<n:=by omega
   go_wp2
   clear cb0 lb0 fb0 cb1 lb1 fb1 b0 b1;go_loopw [7] (λa wr=>∃(k:Nat) (d:Nat->Int),k<=m∧a=.int .i64 (k:Int)∧vf d (n+m)=vf f i*vf g m+f i*pw i*vf g k∧PInv w wr (w.heap.size+1+1+1) (n+m) d #[.bool s,.slice p n c1] #[.bool t,.slice q m c2]) (λa _=>(m-intOf a).toNat)
   case atStart=>exact⟨0,d,Yat _,rfl,by rw[hv.out];simp[vf],hI⟩
   case round=>
    clear hI hv d;obtain⟨k,d,hk,rfl,hv,hI⟩:=hrel;replace hv:=Yah hv;have b0:=hI.b0;have b1:=hI.b1;have cb0:=b0.cell;have lb0:=b0.lt;have fb0:=b0.frozen;have cb1:=b1.cell;have lb1:=b1.lt;have fb1:=b1.frozen;by_cases hkm:k<m
    ·have hkm':(k:Int)<m:=by omega
     obtain⟨b,off,rfl,hb,hcell⟩:=hx1 Zo;obtain⟨b',off',rfl,hb',hcell'⟩:=hx2 Zo;have a1:=(hI.below.cell (p:=⟨b,off+i,none⟩) hb).trans (hcell i hin);have a2:=(hI.below.cell (p:=⟨b',off'+k,none⟩) hb').trans (hcell' k hkm);obtain⟨m0,m1⟩:=Zjf (d1.lo i hin) (d1.hi i hin) (d2.lo k hkm) (d2.hi k hkm);clear hcell hcell';go_wp2
     go_quiet (fail)
     go_wp2
     have hroom:=Zr3 d1 d2 hin hkm;have hv2:vf d (n+m)+f i*g k*pw (i+k)=vf f i*vf g m+f i*pw i*vf g (k+1):=by
      rw[hv.out,Zaj,Zfu];grind
     have hIq:=hI.drewN nq;obtain⟨V,hV⟩:∃V,vf f i*vf g m+f i*pw i*vf g (k+1)=V:=⟨_,rfl⟩
     rw[hV]at hroom hv2;replace hV:=Yah hV;generalize f i*g k=x0 at *;clear hv hI cb0 lb0 fb0 cb1 lb1 fb1 b0 b1 a1 a2;go_loopw [8,9] (λu v wr=>∃(x:Int) (j:Nat) (d:Nat->Int),0<=x∧x<=999999999*999999999∧u=.int .i64 x∧v=.int .i64 (j:Int)∧vf d (n+m)+x*pw j=V∧PInv w wr (w.heap.size+1+1+1) (n+m) d #[.bool s,.slice (some ⟨b,off,none⟩) n c1] #[.bool t,.slice (some ⟨b',off',none⟩) m c2]) (λ_ v _=>(n+m-intOf v).toNat)
     case atStart=>exact⟨x0,i+k,d,m0,m1,rfl,Zs,hv2,hIq⟩
     case round=>
      clear hIq hv2 d;obtain⟨x,j,d,hx0,hx9,rfl,rfl,hv,hI⟩:=hrel;by_cases hgo:0<x
      ·have hj:=Zo9 hI.lo hv hgo hroom
       have hpc:=Zrz d (n+m) j x hj;have a1:=hI.row.cell j hj;have a2:=hI.row.frozen j;have q1:=hI.lo j hj;have q2:=hI.hi j hj;have hst:=hI.set j ((x+d j)%1000000000) Zo Zo;have hj1:(j:Int)<(n:Int)+m:=Zo;generalize hdj:d j=y at *;clear hI;go_wp2
       go_roundw
       case rel=>
        refine⟨(x+y)/1000000000,j+1,_,Zo,Zo,by first|rfl|simp,Zs,?_,hst⟩;rw[<-hv];exact hpc
       case measure=>simp[intOf];omega
      ·obtain rfl:x=0:=by omega
       have hv3:vf d (n+m)=V:=by simpa using hv
       go_wp2
       go_roundw
       case rel=>exact⟨k+1,d,Zo,Zs,by rw[hv3,hV.out],hI⟩
       case measure=>simp[intOf];omega
    ·obtain rfl:k=m:=by omega
     have hv3:vf d (n+k)=vf f (i+1)*vf g k:=by rw[hv.out,Zaj,Yel]
     clear hv;go_wp2
     go_roundw
     case rel=>exact⟨i+1,d,Zo,Zs,hv3,hI⟩
     case measure=>simp[intOf];omega
  ·obtain rfl:i=n:=by omega
   have hmm:=λW1 hW1=>Zbo (s != t) (some ⟨w.heap.size+1+1+1,0,none⟩) (i+m) (i+m) d W1 ((hI.row.slice Zo (i+m) (Yab _) (i+m) (Yab _)).ext hW1) Zo hI.lo hI.hi;rw[hv.out,hsg.out]at hmm;have b2:=hI.b2;have hB:=hI.below;clear hx1 hx2;go_wp2_with fail
   refine(hmm wr (Ext.refl _)).mono ?_;rintro e W2 ⟨v',rfl,ho2,d3,e3,hb⟩;replace b2:=b2.below hb;have hB1:=Zaa hB hb;obtain⟨p',c',rfl⟩:=ho2.shape;have hsl:=ho2.sl (by have:=Za3 d (i+m);omega);clear hmm ho2 b0 b1 cb0 cb1 fb0 fb1 lb0 lb1 hI;go_wp2_with first|(refine Zab rfl 49 _ _ rfl (w.heap.size+1+1) 0 49 _ #[.bool sg,.slice p' (trimN d (i+m)) c'] #[.bool sg,.slice p' (trimN d (i+m)) c'] rfl rfl b2 Zae (Yaa rfl) (Zal _ _ _ _) (Zaf rfl) ?_;intro W3 hk b4)
   have hb2:=hk.below hB1 Zo hB1.size;refine bodyPost_ret (b4.results rfl _ _ rfl Tryz.underlying49 rfl Zae) rfl ⟨p',_,c',d,rfl,hsl.ext (hk.ext b2 Zd),d3,e3,Za3 d (i+m),hb2⟩
theorem Zxw (a b:Rat) (u v:Value) (w wf:World) (hx:Ext wf w) (ha:QV wf u a) (hb:QV wf v b) (hf:Fits (a+b)) :
  Calls Tryz.prog 90 #[u,v] w λe w'=>∃r,e=.returned (.tuple #[r,.int .i64 0])∧QV w' r (a+b)∧Below w.heap.size w w':=by
 replace ha:=ha.ext hx;replace hb:=hb.ext hx;clear hx;have ha':=ha;have hb':=hb;obtain⟨p1,k1,c1,q1,l1,d1,rfl,_,_⟩:=ha;obtain⟨p2,k2,c2,q2,l2,d2,rfl,_,_⟩:=hb;go_enter Tryz.func90,Tryz.ntmps90
 go_wp2_with fail
 refine Zbk λW hB hs b0 b1 b2=>?_;refine(Zty a b _ _ W (ha'.ext (.of_below hB)) (hb'.ext (.of_below hB)) hf).mono ?_;rintro e W1 ⟨r,rfl,⟨p7,k7,c7,q7,l7,d7,rfl,z7,y7⟩,hb7⟩;replace hB:=Zaa hB hb7;replace b2:=b2.below hb7;have cb2:=b2.cell;have lb2:=b2.lt;have fb2:=b2.frozen;go_wp2
 have b3':=((((b2.set 0 (.bool (decide ((a+b).num<0)))).set 1 (.slice p7 k7 c7)).set 2 (.bool false)).set 3 (.slice q7 l7 d7)).cell;have xE:Ext W1 _:=(((((Ext.refl W1).set b2 Zd 0 (.bool (decide ((a+b).num<0)))).set (b2.set 0 (.bool (decide ((a+b).num<0)))) Zd 1 (.slice p7 k7 c7))).set ((b2.set 0 (.bool (decide ((a+b).num<0)))).set 1 (.slice p7 k7 c7)) Zd 2 (.bool false)).set (((b2.set 0 (.bool (decide ((a+b).num<0)))).set 1 (.slice p7 k7 c7)).set 2 (.bool false)) Zd 3 (.slice q7 l7 d7);refine bodyPost_ret (v:=.tuple #[.agg #[.bool (decide ((a+b).num<0)),.slice p7 k7 c7,.bool false,.slice q7 l7 d7],.int .i64 0]) (by simp[results,Tryz.results90,go_sem,b3']) rfl ⟨_,rfl,⟨_,_,_,_,_,_,rfl,z7.ext xE,y7.ext xE⟩,?_⟩;exact Zag (Zag (Zag (Zag hB Zo _ _) Zo _ _) Zo _ _) Zo _ _
theorem Zqm (a b:Rat) (u v:Value) (w wf:World) (hx:Ext wf w) (ha:QV wf u a) (hb:QV wf v b) (hf:Fits (a-b)) :
  Calls Tryz.prog 91 #[u,v] w λe w'=>∃r,e=.returned (.tuple #[r,.int .i64 0])∧QV w' r (a-b)∧Below w.heap.size w w':=by
 replace ha:=ha.ext hx;replace hb:=hb.ext hx;clear hx;have ha':=ha;have hb':=hb;obtain⟨p1,k1,c1,q1,l1,d1,rfl,_,_⟩:=ha;obtain⟨p2,k2,c2,q2,l2,d2,rfl,_,_⟩:=hb;go_enter Tryz.func91,Tryz.ntmps91
 go_wp2_with fail
 refine Zbk λW hB hs b0 b1 b2=>?_;refine(Zqk a b _ _ W (ha'.ext (.of_below hB)) (hb'.ext (.of_below hB)) hf).mono ?_;rintro e W1 ⟨r,rfl,⟨p7,k7,c7,q7,l7,d7,rfl,z7,y7⟩,hb7⟩;replace hB:=Zaa hB hb7;replace b2:=b2.below hb7;have cb2:=b2.cell;have lb2:=b2.lt;have fb2:=b2.frozen;go_wp2
 have b3':=((((b2.set 0 (.bool (decide ((a-b).num<0)))).set 1 (.slice p7 k7 c7)).set 2 (.bool false)).set 3 (.slice q7 l7 d7)).cell;have xE:Ext W1 _:=(((((Ext.refl W1).set b2 Zd 0 (.bool (decide ((a-b).num<0)))).set (b2.set 0 (.bool (decide ((a-b).num<0)))) Zd 1 (.slice p7 k7 c7))).set ((b2.set 0 (.bool (decide ((a-b).num<0)))).set 1 (.slice p7 k7 c7)) Zd 2 (.bool false)).set (((b2.set 0 (.bool (decide ((a-b).num<0)))).set 1 (.slice p7 k7 c7)).set 2 (.bool false)) Zd 3 (.slice q7 l7 d7);refine bodyPost_ret (v:=.tuple #[.agg #[.bool (decide ((a-b).num<0)),.slice p7 k7 c7,.bool false,.slice q7 l7 d7],.int .i64 0]) (by simp[results,Tryz.results91,go_sem,b3']) rfl ⟨_,rfl,⟨_,_,_,_,_,_,rfl,z7.ext xE,y7.ext xE⟩,?_⟩;exact Zag (Zag (Zag (Zag hB Zo _ _) Zo _ _) Zo _ _) Zo _ _
theorem Zqn (a b:Rat) (u v:Value) (w wf:World) (hx:Ext wf w) (ha:QV wf u a) (hb:QV wf v b) (hf:Fits (a*b)) :
  Calls Tryz.prog 89 #[u,v] w λe w'=>∃r,e=.returned (.tuple #[r,.int .i64 0])∧QV w' r (a*b)∧Below w.heap.size w w':=by
 replace ha:=ha.ext hx;replace hb:=hb.ext hx;clear hx;have ha':=ha;have hb':=hb;obtain⟨p1,k1,c1,q1,l1,d1,rfl,_,_⟩:=ha;obtain⟨p2,k2,c2,q2,l2,d2,rfl,_,_⟩:=hb;go_enter Tryz.func89,Tryz.ntmps89
 go_wp2_with fail
 refine Zbk λW hB hs b0 b1 b2=>?_;refine(Zql a b _ _ W (ha'.ext (.of_below hB)) (hb'.ext (.of_below hB)) hf).mono ?_;rintro e W1 ⟨r,rfl,⟨p7,k7,c7,q7,l7,d7,rfl,z7,y7⟩,hb7⟩;replace hB:=Zaa hB hb7;replace b2:=b2.below hb7;have cb2:=b2.cell;have lb2:=b2.lt;have fb2:=b2.frozen;go_wp2
 have b3':=((((b2.set 0 (.bool (decide ((a*b).num<0)))).set 1 (.slice p7 k7 c7)).set 2 (.bool false)).set 3 (.slice q7 l7 d7)).cell;have xE:Ext W1 _:=(((((Ext.refl W1).set b2 Zd 0 (.bool (decide ((a*b).num<0)))).set (b2.set 0 (.bool (decide ((a*b).num<0)))) Zd 1 (.slice p7 k7 c7))).set ((b2.set 0 (.bool (decide ((a*b).num<0)))).set 1 (.slice p7 k7 c7)) Zd 2 (.bool false)).set (((b2.set 0 (.bool (decide ((a*b).num<0)))).set 1 (.slice p7 k7 c7)).set 2 (.bool false)) Zd 3 (.slice q7 l7 d7);refine bodyPost_ret (v:=.tuple #[.agg #[.bool (decide ((a*b).num<0)),.slice p7 k7 c7,.bool false,.slice q7 l7 d7],.int .i64 0]) (by simp[results,Tryz.results89,go_sem,b3']) rfl ⟨_,rfl,⟨_,_,_,_,_,_,rfl,z7.ext xE,y7.ext xE⟩,?_⟩;exact Zag (Zag (Zag (Zag hB Zo _ _) Zo _ _) Zo _ _) Zo _ _
theorem Zxx (a b:Rat) (u v:Value) (w wf:World) (hx:Ext wf w) (ha:QV wf u a) (hb:QV wf v b) (h0:b.num≠0) (hf:Fits (a/b)) :
  Calls Tryz.prog 63 #[u,v] w λe w'=>∃r,e=.returned (.tuple #[r,.int .i64 0])∧QV w' r (a/b)∧Below w.heap.size w w':=by
 replace ha:=ha.ext hx;replace hb:=hb.ext hx;clear hx;have ha':=ha;have hb':=hb;obtain⟨p1,k1,c1,q1,l1,d1,rfl,_,_⟩:=ha;obtain⟨p2,k2,c2,q2,l2,d2,rfl,y1,_⟩:=hb;have hk2:((k2:Int)==0)=false:=by
  have:=y1.len_pos.1 Zo;simp;omega
 clear y1;go_enter Tryz.func63,Tryz.ntmps63
 go_wp2_with fail
 refine Zqi λW hB hs b0 b1 b2 b3=>?_;replace ha':=ha'.ext (.of_below hB);replace hb':=hb'.ext (.of_below hB);refine(Zqj a b _ _ _ _ p1 q1 p2 q2 k1 c1 l1 d1 k2 c2 l2 d2 _ _ b3 ha' hb').mono ?_;rintro e W1 ⟨rfl,hb1⟩;replace hB:=Zaa hB hb1;replace ha':=ha'.ext (.of_below hb1);replace hb':=hb'.ext (.of_below hb1);replace b0:=b0.below hb1;try clear cb0 lb0 fb0
 have cb0:=b0.cell;have lb0:=b0.lt;have fb0:=b0.frozen;replace b1:=b1.below hb1;try clear cb1 lb1 fb1
 have cb1:=b1.cell;have lb1:=b1.lt;have fb1:=b1.frozen;replace b2:=b2.below hb1;try clear cb2 lb2 fb2
 have cb2:=b2.cell;have lb2:=b2.lt;have fb2:=b2.frozen;go_wp2_with fail
 refine(Ztz a b _ _ W1 ha' hb' h0 hf).mono ?_;rintro e W2 ⟨r,rfl,⟨p7,k7,c7,q7,l7,d7,rfl,z7,y7⟩,hb7⟩;replace hB:=Zaa hB hb7;replace b2:=b2.below hb7;clear cb2 lb2 fb2;have cb2:=b2.cell;have lb2:=b2.lt;have fb2:=b2.frozen;go_wp2
 have b3':=((((b2.set 0 (.bool (decide ((a/b).num<0)))).set 1 (.slice p7 k7 c7)).set 2 (.bool false)).set 3 (.slice q7 l7 d7)).cell;have xE:Ext W2 _:=(((((Ext.refl W2).set b2 Zd 0 (.bool (decide ((a/b).num<0)))).set (b2.set 0 (.bool (decide ((a/b).num<0)))) Zd 1 (.slice p7 k7 c7))).set ((b2.set 0 (.bool (decide ((a/b).num<0)))).set 1 (.slice p7 k7 c7)) Zd 2 (.bool false)).set (((b2.set 0 (.bool (decide ((a/b).num<0)))).set 1 (.slice p7 k7 c7)).set 2 (.bool false)) Zd 3 (.slice q7 l7 d7);refine bodyPost_ret (v:=.tuple #[.agg #[.bool (decide ((a/b).num<0)),.slice p7 k7 c7,.bool false,.slice q7 l7 d7],.int .i64 0]) (by simp[results,Tryz.results63,go_sem,b3']) rfl ⟨_,rfl,⟨_,_,_,_,_,_,rfl,z7.ext xE,y7.ext xE⟩,?_⟩;exact Zag (Zag (Zag (Zag hB Zo _ _) Zo _ _) Zo _ _) Zo _ _
theorem Zcu {m1 m2:Nat} {v1 v2:Value} {z y:Int} (w:World) (h1:LgV m1 w v1 z) (h2:LgV m2 w v2 y) (hm1:m1<=100000) (hm2:m2<=100000) :
  Calls Tryz.prog 142 #[v1,v2] w λe w'=>∃v,e=.returned v∧LgV (m1+m2) w' v (z*y)∧Below w.heap.size w w':=by
 obtain⟨p,n,c,f,rfl,s1,d1,e1,l1⟩:=h1;obtain⟨q,m,c',g,rfl,s2,d2,e2,l2⟩:=h2;refine(Zjh _ _ p q n m c c' f g w s1 s2 d1 d2 Zo Zo).mono ?_;rintro e w' ⟨p',k,c2,h,rfl,hsl,hd,hv,hk,hb⟩;rw[e1,e2]at hv ⊢;have habs:((z*y).natAbs:Int)=z.natAbs*y.natAbs:=by rw[Yde];norm_cast
 have hneg:((decide (z<0) != decide (y<0))&&decide (0<(z.natAbs:Int)*y.natAbs))=decide (z*y<0):=by
  rw[<-habs];rw[Ycx,Yam,bne_iff_ne,ne_eq,decide_eq_decide,decide_eq_true_eq,decide_eq_true_eq];rcases Yen z 0 with hz|rfl|hz
  ·rcases Yen y 0 with hy|rfl|hy
   ·have:=Int.mul_pos_of_neg_of_neg hz hy;omega
   ·simp
   ·have:=Int.mul_neg_of_neg_of_pos hz hy;omega
  ·simp
  ·rcases Yen y 0 with hy|rfl|hy
   ·have:=Int.mul_neg_of_pos_of_neg hz hy;omega
   ·simp
   ·have:=Int.mul_pos hz hy;omega
 rw[hneg];exact⟨_,rfl,⟨p',k,c2,h,rfl,hsl,hd,by rw[hv,habs],Zo⟩,hb⟩
theorem Zt0 (p q:Option Addr) (n m c1 c2:Nat) (f g:Nat->Int) (w:World) (h1:SlF w (.slice p n c1) n f) (h2:SlF w (.slice q m c2) m g) :
  Calls Tryz.prog 106 #[.slice p n c1,.slice q m c2] w λe w'=>∃r:Bool,e=.returned (.bool r)∧(r=true↔n=m∧∀i,i<n->f i=g i)∧∃k,w'=w.drewN k:=by
 obtain⟨hc1,hn1,hx1⟩:=h1.opens;obtain⟨hc2,hn2,hx2⟩:=h2.opens;clear h1 h2;by_cases hnm:n=m
 ·subst hnm
  go_enter Tryz.func106,Tryz.ntmps106
  go_wp2
  go_loopw [13] (λa wr=>∃k:Nat,k<=n∧a=.int .i64 (k:Int)∧(∀i,i<k->f i=g i)∧∃j,wr=w.drewN j) (λa _=>(n-intOf a).toNat)
  case atStart=>exact⟨0,Yat _,rfl,λi hi=>Zo,0,rfl⟩
  case round=>
   obtain⟨k,hk,rfl,ht,j,rfl⟩:=hrel;have HT:=Yah ht;clear ht;by_cases h0:k<n
   ·obtain⟨b,off,rfl,hb,hcell⟩:=hx1 Zo
    obtain⟨b2,off2,rfl,hb2,hcell2⟩:=hx2 Zo;have a1:=hcell k Zo;have a2:=hcell2 k Zo;clear hcell hcell2 hx1 hx2;have h0':(k:Int)<n:=Zo;by_cases hfg:f k=g k
    ·have hq:(f k != g k)=false:=by simpa using hfg
     have HF:=Yah hfg;clear hfg;go_wp2
     go_quiet (fail)
     go_wp2
     go_roundw
     case rel=>
      refine⟨k+1,Zo,Zs,λi hi=>?_,_,rfl⟩;by_cases h:i<k
      ·exact HT.out i h
      ·obtain rfl:i=k:=by omega
       exact HF.out
     case measure=>simp[intOf];omega
    ·have hq:(f k != g k)=true:=by simpa using hfg
     have HF:=Yah hfg;clear hfg;go_wp2
     go_quiet (fail)
     go_wp2
     go_ret
     exact⟨false,rfl,⟨Zs,λh=>absurd (h.2 k h0) HF.out⟩,_,by rw[Ydc]⟩
   ·obtain rfl:k=n:=by omega
    go_wp2
    go_ret
    refine⟨true,rfl,?_,_,rfl⟩;simp only[true_and];first|exact HT.out|exact⟨trivial,HT.out⟩|(simp;exact HT.out)
 ·have hq:((n:Int) != m)=true:=by simp;omega
  have HN:=Yah hnm;clear hnm;go_enter Tryz.func106,Tryz.ntmps106
  go_wp2
  go_ret
  exact⟨false,rfl,⟨Zs,λh=>absurd h.1 HN.out⟩,0,rfl⟩
theorem Zt1 (m1 m2:Nat) (p q:Option Addr) (n m c1 c2:Nat) (N M:Int) (w wf:World) (hx:Ext wf w) (h1:Sz m1 wf (.slice p n c1) N) (h2:Sz m2 wf (.slice q m c2) M) :
  Calls Tryz.prog 106 #[.slice p n c1,.slice q m c2] w λe w'=>e=.returned (.bool (decide (N=M)))∧Below w.heap.size w w':=by
 obtain⟨n',f,s1,d1,rfl,_,rfl⟩:=(h1.ext hx).sl;obtain⟨m',g,s2,d2,rfl,_,rfl⟩:=(h2.ext hx).sl;refine(Zt0 p q _ _ c1 c2 f g w s1 s2).mono ?_;rintro e w' ⟨r,rfl,hr,k,rfl⟩;refine⟨?_,below_drewN (Yae _ _) k⟩;have:r=decide (vf f n'=vf g m'):=by
  rw[Ycx,hr,decide_eq_true_iff];constructor
  ·rintro⟨rfl,h⟩;exact Zbi h
  ·intro h;exact d1.unique d2 h
 rw[this]
end Go.Proofs.W
