/- Contracts of package matrix,and a verified evaluator. Part 9 of 27. No condition beside the row. -/
import Derived.Test.YtgkmjekkefmejaaGreatDoorA01
import Derived.Test.YtgkmjekkefmejaaGreatDoorA08
set_option linter.unusedVariables false
set_option linter.unusedSimpArgs false
set_option maxRecDepth 100000
set_option maxHeartbeats 4000000
namespace Go.Proofs.W
open Go.RowKit Go.Mono
theorem Zlp (s:Bool) (p q:Option Addr) (n m c1 c2:Nat) (f g:Nat->Int) (w:World) (h1:SlF w (.slice p n c1) n f) (h2:SlF w (.slice q m c2) m g) (d1:Digs f n) (d2:Digs g m) (hn0:0<n) (hm0:0<m) (hn6:n<=100000) (hm6:m<=100000) :
  Calls Tryz.prog 259 #[.agg #[.bool s,.slice p n c1],.agg #[.bool s,.slice q m c2]] w λe w'=>∃p k c h,e=.returned (.agg #[.bool s,.slice p k c])∧SlF w' (.slice p k c) k h∧Digs h k∧vf h k=vf f n+vf g m∧k<=max n m+1∧Below w.heap.size w w':=by
 obtain⟨hc1,hn1,_⟩:=h1.opens;obtain⟨hc2,hn2,_⟩:=h2.opens;have hn0':((n:Int)==0)=false:=by simp;omega
 have hm0':((m:Int)==0)=false:=by simp;omega
 go_enter Tryz.func259,Tryz.ntmps259
 go_wp2
 refine Zfw λW hB hs b0 b1 b2=>?_;go_loopw [5,6,7] (λv x y wr=>∃(i:Nat) (c:Int) (h:Nat->Int),i<=max n m+1∧x=.int .i64 c∧y=.int .i64 (i:Int)∧OwnF wr (w.heap.size+1+1+1) v i h∧SumI (xt f n) (xt g m) i h c∧Box wr w.heap.size 45 #[.bool s,.slice p n c1]∧Box wr (w.heap.size+1) 45 #[.bool s,.slice q m c2]∧Box wr (w.heap.size+1+1) 45 #[.bool false,.slice none 0 0]∧Below w.heap.size w wr∧w.heap.size+1+1+1<=wr.heap.size) (λ_ _ y _=>(max n m+1-intOf y).toNat)
 case atStart=>exact⟨0,0,_,Yat _,rfl,rfl,OwnF.nil _ _ _,SumI.start _ _ (λ_=>0),b0,b1,b2,hB,hs⟩
 case round=>
  clear b0 b1 b2 hB hs;obtain⟨i,c,h,hi,rfl,rfl,ho,hI,b0,b1,b2,hB,hs⟩:=hrel;obtain⟨pv,cv,rfl⟩:=ho.shape;by_cases hgo:i<n∨i<m∨0<c
  ·have hlt:i<max n m+1:=by
    rcases hgo with h|h|h
    ·omega
    ·omega
    ·by_cases hin : i < n
     ·omega
     ·by_cases him:i<m
      ·omega
      ·have:=hI.len d1.hi d2.hi Zo Zo h
       omega
   have x0:=Zjw d1.lo i;have x1:=Zpy d1.hi i;have y0:=Zjw d2.lo i;have y1:=Zpy d2.hi i;have hat1:=λX (hX:Below w.heap.size w X)=>Zfm p n c1 i f X (h1.ext (.of_below hX));have hat2:=λX (hX:Below w.heap.size w X)=>Zfm q m c2 i g X (h2.ext (.of_below hX));have hnx:=hI.next x0 x1 y0 y1;have k0:=hI.c0;have k1:=hI.c1;generalize hX:xt f n=Xf at *;generalize hY:xt g m=Yf at *;generalize Xf i=x at *;generalize Yf i=y at *;have hways:((i:Int)<n)∨(¬(i:Int)<n∧(i:Int)<m)∨(¬(i:Int)<n∧¬(i:Int)<m∧0<c):=Zo;have cb0:=b0.cell;have lb0:=b0.lt;have fb0:=b0.frozen;have cb1:=b1.cell;have lb1:=b1.lt;have fb1:=b1.frozen;clear hgo;rcases hways with hw1|⟨hw1,hw2⟩|⟨hw1,hw2,hw3⟩
   all_goals
    go_wp2
    refine wp_region_held_drew (S:=λw'=>(∀i,w'.cell? ⟨w.heap.size,i,none⟩=(#[.bool s,.slice p n c1]:Array Value)[i]?)∧(∀i,w'.cell? ⟨w.heap.size+1,i,none⟩=(#[.bool s,.slice q m c2]:Array Value)[i]?)∧Below w.heap.size w w') Zx ⟨cb0,cb1,hB.drew⟩ (λhHeld=>?_);have hoX:=ho.below (Yae wr.heap.size wr).drew;have bX0:=b0.drew;have bX1:=b1.drew;have bX2:=b2.drew;have hsX:w.heap.size+1+1+1<=wr.drew.heap.size:=hs;generalize wr.drew=X0 at *;refine tk 0 (some 46) ?_;refine tk 1 (some 47) ?_;refine tk 2 (some 48) ?_;refine tk 4 (some 50) ?_;refine tk 5 (some 51) ?_;refine tk 6 (some 52) ?_;refine tk 9 (some 55) ?_;refine Mono.stc 3 (some 49) (hat1 X0 hHeld.2.2) (λe X1 hR=>?_);obtain⟨rfl,rfl⟩:=hR;refine⟨(hHeld),λhHeld=>Mono.pt ?_⟩;refine Mono.stc 7 (some 53) (hat2 X1 hHeld.2.2) (λe X2 hR=>?_);obtain⟨rfl,rfl⟩:=hR;refine⟨(hHeld),λhHeld=>Mono.pt ?_⟩;refine tk 8 (some 54) ?_;refine tk 10 (some 56) ?_;refine tk 11 (some 8) ?_;refine wpAnyH_done Zx ?_ _;have hB2:=hHeld.2.2;clear hHeld hat1 hat2 cb0 cb1 fb0 fb1 lb0 lb1 b0 b1 b2 ho hI;have e1:(x+y+c).tmod 1000000000=(x+y+c)%1000000000:=Ybr Zo;have e2:(x+y+c).tdiv 1000000000=(x+y+c)/1000000000:=Ybk Zo;rw[Zcr (z:=x+y) Zo Zo,Zcr (z:=x+y+c) Zo Zo];go_wp2_with (at_builtin;(refine Za9 _ rfl _ _ 43 rfl Tryz.underlying43 Zby (w.heap.size+1+1+1) (.slice pv i cv) i h rfl ?_ (some ⟨X2.heap.size,0,none⟩) 1 1 (λ_=>(x+y+c)%1000000000) rfl ?_ ?_ ?_ ?_);(exact(hoX.below (Zad (Yae _ _) _)));(exact(Zjb X2 _ _ rfl));omega;(simp;omega);(intro v' w1 ho' hg))
    obtain⟨p',c',rfl⟩:=ho'.shape;have hz:=((Yae (w.heap.size+1+1+1) X2).alloc hsX (.cells _ 3)).grown hg (by simp;omega) (λk hk=>hoX.low k hk);replace bX0:=bX0.low hz Zo;replace bX1:=bX1.low hz Zo;replace bX2:=bX2.low hz Zo;have hB3:=hB2.trans (hz.mono Zo);have hs3:=hz.size;clear hoX hB2 hg hz hB hs;go_wp2
    go_roundw
    case rel=>
     refine⟨i+1,_,_,hlt,rfl,Zs,ho'.congr (f':=λj=>if j=i then(x+y+c)%1000000000 else h j) (λj hj=>?_),?_,bX0,bX1,bX2,hB3,Zo⟩
     ·by_cases hji:j=i
      ·subst hji;simp
      ·rw[if_pos Zo,if_neg hji]
     ·exact hnx
    case measure=>simp[intOf];omega
  ·have hI0:SumI (xt f n) (xt g m) i h 0:=by
    have h0:=hI.c0;obtain rfl:c=0:=Zo;exact hI
   have hval:=hI0.done Zo Zo;have hc0:¬(0<c):=Zo;have hw1:¬(i:Int)<n:=Zo;have hw2:¬(i:Int)<m:=Zo;have cb0:=b0.cell;have lb0:=b0.lt;have fb0:=b0.frozen;have cb1:=b1.cell;have lb1:=b1.lt;have fb1:=b1.frozen;have hmm:=λW1 hW1=>Zbm s pv i cv h W1 ((ho.sl Zo).ext hW1) Zo hI.lo hI.hi;have hpos:decide (0<vf h i)=true:=decide_eq_true (by rw[hval];have:=d1.pos.2 hn0;have:=d2.nonneg;omega);rw[hpos,Bool.and_true]at hmm;have hli:i<=max n m+1:=hi;replace hval:=Yah hval;clear hgo hI hI0 ho;go_wp2_with fail
   refine(hmm wr (Ext.refl _)).mono ?_;rintro e W1 ⟨v',rfl,ho2,d3,e3,hb⟩;replace b2:=b2.below hb;have hB1:=Zaa hB hb;obtain⟨p',c',rfl⟩:=ho2.shape;have hsl:=ho2.sl (by have:=Za3 h i;omega);clear hmm ho2 b0 b1 cb0 cb1 fb0 fb1 lb0 lb1 hB;go_wp2_with first|(refine Zab rfl 45 _ _ rfl (w.heap.size+1+1) 0 45 _ #[.bool s,.slice p' (trimN h i) c'] #[.bool s,.slice p' (trimN h i) c'] rfl rfl b2 Zae (Yaa rfl) (Zal _ _ _ _) (Zag rfl) ?_;intro W2 hk b4)
   have hb2:=hk.below hB1 Zo hB1.size;refine bodyPost_ret (b4.results rfl _ _ rfl Tryz.underlying45 rfl Zae) rfl ⟨p',_,c',h,rfl,hsl.ext (hk.ext b2 Zd),d3,by rw[e3];exact hval.out,by have:=Za3 h i;omega,hb2⟩
theorem Zq6 (a b:Rat) (s1 t1 s2 t2:Bool) (p1 q1 p2 q2:Option Addr) (k1 c1 l1 d1 k2 c2 l2 d2 g:Nat) (w:World)
  (h:Box w g 47 #[.bool s1,.slice p1 k1 c1,.bool t1,.slice q1 l1 d1,.bool s2,.slice p2 k2 c2,.bool t2,.slice q2 l2 d2])
  (ha:QV w (.agg #[.bool s1,.slice p1 k1 c1,.bool t1,.slice q1 l1 d1]) a) (hb:QV w (.agg #[.bool s2,.slice p2 k2 c2,.bool t2,.slice q2 l2 d2]) b) :
  Calls Tryz.prog 56 #[.slice (some ⟨g,0,none⟩) 2 2] w λe w'=>e=.returned (.int .i64 0)∧Below w.heap.size w w':=by
 go_enter Tryz.func56,Tryz.ntmps56
 go_wp2
 go_loopw [8] (λx wr=>∃i:Nat,i<=2∧x=.int .i64 (i:Int)∧Below w.heap.size w wr) (λx _=>(2-intOf x).toNat)
 case atStart=>exact⟨0,Zo,rfl,Yae _ _⟩
 case round=>
  obtain⟨i,hi,rfl,hB⟩:=hrel;replace h:=h.below hB;have ch:=h.cell;have fh:=h.frozen;have lh:=h.lt;replace ha:=ha.ext (.of_below hB);replace hb:=hb.ext (.of_below hB);rcases(by omega:i=0∨i=1∨i=2) with rfl|rfl|rfl
  ·go_wp2_with (go_at_call 109;(with_reducible refine(Zem _ a _ _ ((Ext.refl wr).alloc _) ha).mono ?_);rintro e W4 ⟨rfl,hb4⟩)
   go_roundw
   case rel=>exact⟨1,Zo,Zs,Zaa (Zad hB _) hb4⟩
   case measure=>simp[intOf]
  ·go_wp2_with (go_at_call 109;(with_reducible refine(Zem _ b _ _ ((Ext.refl wr).alloc _) hb).mono ?_);rintro e W4 ⟨rfl,hb4⟩)
   go_roundw
   case rel=>exact⟨2,Zo,Zs,Zaa (Zad hB _) hb4⟩
   case measure=>simp[intOf]
  ·go_wp2
   go_ret
   exact⟨rfl,hB⟩
theorem Zrx (w:World):Sz 600 w (.slice none 0 0) 0:=⟨0,λ_=>0,.inl ⟨rfl,rfl⟩,⟨λi hi=>Zo,λi hi=>Zo,λh=>Zo⟩,rfl,Zo⟩
theorem Zry (w:World):Calls Tryz.prog 109 #[.agg #[.bool false,.slice none 0 0,.bool false,.slice none 0 0]] w λe w'=>e=.returned (.int .i64 40)∧Below w.heap.size w w':=by
 go_enter Tryz.func109,Tryz.ntmps109
 go_wp2_with fail
 refine Zb3 λW hB hs b0=>?_;have cb0:=b0.cell;have lb0:=b0.lt;have fb0:=b0.frozen;refine wp_region_held_drew (S:=λw'=>(∀b o,b<W.heap.size->w'.cell? ⟨b,o,none⟩=W.cell? ⟨b,o,none⟩)∧Below W.heap.size W w') Zk (Za2 (Yae _ _).drew) (λhHeld=>?_);refine tk 0 (some 3) ?_;refine tk 1 (some 4) ?_;refine Mono.st 2 ?_;intro K hK;go_simp
 (refine(Zc6 _ _ _ _ _ _ _ (Ext.refl _) (Zrx _) Zs).mono ?_;rintro e W4 ⟨rfl,hb4⟩)
 refine kp hK (Za2 (Zaa hHeld.2 hb4)) (λhHeld=>?_);clear hK K;refine tk 3 (some 6) ?_;refine tk 4 (some 7) ?_;refine tk 5 (some 8) ?_;refine tk 6 (some 9) ?_;refine Mono.st 7 ?_;intro K hK;go_simp
 (refine(Zc6 _ _ _ _ _ _ _ (Ext.refl _) (Zrx _) Zs).mono ?_;rintro e W5 ⟨rfl,hb5⟩)
 refine kp hK (Za2 (Zaa hHeld.2 hb5)) (λhHeld=>?_);clear hK K;refine tk 8 (some 11) ?_;refine tk 9 (some 12) ?_;refine tk 10 (some 13) ?_;refine tk 11 (some 14) ?_;refine tk 12 (some 15) ?_;refine tk 13 (some 16) ?_;refine tk 14 (some 17) ?_;refine tk 15 (some 18) ?_;refine tk 16 (some 19) ?_;refine tk 17 (some 20) ?_;refine tk 18 (some 21) ?_;refine tk 19 (some 22) ?_;refine tk 20 (some 23) ?_;refine tk 21 (some 24) ?_;refine tk 22 (some 25) ?_;refine ts 23 (some 26) ?_;refine ts 24 (some 27) ?_;refine ts 25 (some 28) ?_;refine ts 26 (some 29) ?_;refine ts 27 (some 30) ?_;refine ts 28 (some 31) ?_;refine ts 29 (some 32) ?_;refine ts 30 (some 33) ?_;refine ts 31 (some 34) ?_;refine ts 32 (some 35) ?_;refine ts 33 (some 36) ?_;refine tk 34 (some 37) ?_;refine wpAnyH_done Zk ?_ _;go_wp2
 go_ret
 exact⟨rfl,Zaa hB hHeld.2⟩
end Go.Proofs.W
