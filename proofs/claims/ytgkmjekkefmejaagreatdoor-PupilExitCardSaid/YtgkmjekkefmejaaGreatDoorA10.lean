/- Contracts of package matrix,and a verified evaluator. Part 10 of 27. No condition beside the row. -/
import Derived.Test.YtgkmjekkefmejaaGreatDoorA07
import Derived.Test.YtgkmjekkefmejaaGreatDoorA09
set_option linter.unusedVariables false
set_option linter.unusedSimpArgs false
set_option maxRecDepth 100000
set_option maxHeartbeats 4000000
namespace Go.Proofs.W
open Go.RowKit Go.Mono
theorem Zjz (s:Bool) (p q:Option Addr) (n m c1 c2:Nat) (f g:Nat->Int) (w:World) (h1:SlF w (.slice p n c1) n f) (h2:SlF w (.slice q m c2) m g) (d1:Digs f n) (d2:Digs g m) (hn0:0<n) (hm0:0<m) (hn6:n<=100000) (hge:vf g m<=vf f n) :
  Calls Tryz.prog 254 #[.agg #[.bool s,.slice p n c1],.agg #[.bool s,.slice q m c2]] w λe w'=>∃p k c h,e=.returned (.agg #[.bool (s&&decide (0<vf f n-vf g m)),.slice p k c])∧SlF w' (.slice p k c) k h∧Digs h k∧vf h k=vf f n-vf g m∧k<=n∧Below w.heap.size w w':=by
 obtain⟨hc1,hn1,hx1⟩:=h1.opens;obtain⟨hc2,hn2,_⟩:=h2.opens;have hmn:m<=n:=d2.len_le d1 hge;have hn0':((n:Int)==0)=false:=by simp;omega
 have hm0':((m:Int)==0)=false:=by simp;omega
 have hless:=λ(W:World) (hW:Below w.heap.size w W)=>Ze3 p q n m c1 c2 f g W (h1.ext (.of_below hW)) (h2.ext (.of_below hW)) d1 d2;rw[decide_eq_false Zo]at hless;obtain⟨sg,hsg⟩:∃sg:Bool,(s&&decide (0<vf f n-vf g m))=sg:=⟨_,rfl⟩
 rw[hsg];go_enter Tryz.func254,Tryz.ntmps254
 go_wp2_with fail
 refine Zbx λW hB hs b0 b1 b2=>?_;refine(hless W hB).mono ?_;rintro e Wl ⟨rfl,kl,rfl⟩;have hBl:=below_drewN hB kl;replace b0:Box (W.drewN kl) w.heap.size 45 #[.bool s,.slice p n c1]:=⟨b0.blk⟩
 replace b1:Box (W.drewN kl) (w.heap.size+1) 45 #[.bool s,.slice q m c2]:=⟨b1.blk⟩
 replace b2:Box (W.drewN kl) (w.heap.size+1+1) 45 #[.bool false,.slice none 0 0]:=⟨b2.blk⟩
 have hsl:w.heap.size+1+1+1<=(W.drewN kl).heap.size:=hs;clear hless hB hs;generalize W.drewN kl=V at *;go_wp2
 go_loopw [5,6,7] (λv x y wr=>∃(i:Nat) (c:Int) (h:Nat->Int),i<=n∧x=.int .i64 c∧y=.int .i64 (i:Int)∧OwnF wr (w.heap.size+1+1+1) v i h∧DifI f (xt g m) i h c∧Box wr w.heap.size 45 #[.bool s,.slice p n c1]∧Box wr (w.heap.size+1) 45 #[.bool s,.slice q m c2]∧Box wr (w.heap.size+1+1) 45 #[.bool false,.slice none 0 0]∧Below w.heap.size w wr∧w.heap.size+1+1+1<=wr.heap.size) (λ_ _ y _=>(n-intOf y).toNat)
 case atStart=>exact⟨0,0,_,Yat _,rfl,rfl,OwnF.nil _ _ _,DifI.start _ _ (λ_=>0),b0,b1,b2,hBl,hsl⟩
 case round=>
  clear b0 b1 b2 hBl hsl;obtain⟨i,c,h,hi,rfl,rfl,ho,hI,b0,b1,b2,hB,hs⟩:=hrel;obtain⟨pv,cv,rfl⟩:=ho.shape;by_cases hlt:i<n
  ·have hlt':(i:Int)<n:=by omega
   obtain⟨b,off,rfl,hb,hcell⟩:=hx1 hn0;have hci:=hcell i hlt;have x0:=d1.lo i hlt;have x1:=d1.hi i hlt;have y0:=Zjw d2.lo i;have y1:=Zpy d2.hi i;have hat2:=λX (hX:Below w.heap.size w X)=>Zfm q m c2 i g X (h2.ext (.of_below hX));have hbel:=λe=>hI.below x0 y1 e;have habo:=λe=>hI.above x1 y0 e;have k0:=hI.c0;have k1:=hI.c1;generalize hX:f i=x at *;generalize hY:xt g m i=y at *;have cb0:=b0.cell;have lb0:=b0.lt;have fb0:=b0.frozen;have cb1:=b1.cell;have lb1:=b1.lt;have fb1:=b1.frozen;have hck:∀w',Below w.heap.size w w'->w'.cell? ⟨b,off+i,none⟩=some (.int .i64 x):=λw' hw'=>(hw'.cell (p:=⟨b,off+i,none⟩) hb).trans hci;clear hcell hci hI;by_cases hneg:x-y-c<0
   all_goals
    go_wp2
    refine wp_region_held_drew (S:=λw'=>(∀i,w'.cell? ⟨w.heap.size,i,none⟩=(#[.bool s,.slice (some ⟨b,off,none⟩) n c1]:Array Value)[i]?)∧(∀i,w'.cell? ⟨w.heap.size+1,i,none⟩=(#[.bool s,.slice q m c2]:Array Value)[i]?)∧w'.cell? ⟨b,off+i,none⟩=some (.int .i64 x)∧Below w.heap.size w w') Zx ⟨cb0,cb1,hck _ hB.drew,hB.drew⟩ (λhHeld=>?_);have hoX:=ho.below (Yae wr.heap.size wr).drew;have bX0:=b0.drew;have bX1:=b1.drew;have bX2:=b2.drew;have hsX:w.heap.size+1+1+1<=wr.drew.heap.size:=hs;generalize wr.drew=X0 at *;refine tk 0 (some 45) ?_;refine tk 1 (some 46) ?_;refine tk 2 (some 47) ?_;refine tk 3 (some 48) ?_;refine tk 4 (some 49) ?_;refine tk 5 (some 50) ?_;refine tk 6 (some 51) ?_;refine tk 7 (some 52) ?_;refine tk 10 (some 55) ?_;refine Mono.stc 8 (some 53) (hat2 X0 hHeld.2.2.2) (λe X2 hR=>?_);obtain⟨rfl,rfl⟩:=hR;refine⟨(hHeld),λhHeld=>Mono.pt ?_⟩;refine tk 9 (some 54) ?_;refine tk 11 (some 56) ?_;refine tk 12 (some 8) ?_;refine wpAnyH_done Zx ?_ _;have hB2:=hHeld.2.2.2;clear hHeld hat2 cb0 cb1 fb0 fb1 lb0 lb1 b0 b1 b2 ho hck;rw[Zcr (z:=x-y) Zo Zo,Zcr (z:=x-y-c) Zo Zo];go_wp2_with (at_builtin;(refine Za9 _ rfl _ _ 43 rfl Tryz.underlying43 Zby (w.heap.size+1+1+1) (.slice pv i cv) i h rfl ?_ (some ⟨X2.heap.size,0,none⟩) 1 1 (λ_=>if x-y-c<0 then x-y-c+1000000000 else x-y-c) rfl ?_ ?_ ?_ ?_);(exact(hoX.below (Zad (Yae _ _) _)));(exact(Zjb X2 _ _ (by split<;>omega)));omega;(simp;omega);(intro v' w1 ho' hg))
    obtain⟨p',c',rfl⟩:=ho'.shape;have hz:=((Yae (w.heap.size+1+1+1) X2).alloc hsX (.cells _ 3)).grown hg (by simp;omega) (λk hk=>hoX.low k hk);replace bX0:=bX0.low hz Zo;replace bX1:=bX1.low hz Zo;replace bX2:=bX2.low hz Zo;have hB3:=hB2.trans (hz.mono Zo);have hs3:=hz.size;clear hoX hB2 hg hz hB hs;go_wp2
    go_roundw
    case rel=>
     refine⟨i+1,_,_,hlt,rfl,Zs,ho'.congr (f':=λj=>if j=i then(if x-y-c<0 then x-y-c+1000000000 else x-y-c) else h j) (λj hj=>?_),?_,bX0,bX1,bX2,hB3,Zo⟩
     ·by_cases hji:j=i
      ·subst hji;simp
      ·rw[if_pos Zo,if_neg hji]
     ·by_cases hq:x-y-c<0
      ·simp only[if_pos hq]
       first|(exfalso;omega)|exact hbel hq
      ·simp only[if_neg hq]
       first|(exfalso;omega)|exact habo Zo
    case measure=>simp[intOf];omega
  ·obtain rfl:i=n:=by omega
   have hval:=hI.done hmn hge;have hw1:¬(i:Int)<i:=Zo;have cb0:=b0.cell;have lb0:=b0.lt;have fb0:=b0.frozen;have cb1:=b1.cell;have lb1:=b1.lt;have fb1:=b1.frozen;have hmm:=λW1 hW1=>Zbm s pv i cv h W1 ((ho.sl Zo).ext hW1) Zo hI.lo hI.hi;rw[hval,hsg]at hmm;replace hval:=Yah hval;replace hsg:=Yah hsg;clear hI ho hx1;go_wp2_with fail
   refine(hmm wr (Ext.refl _)).mono ?_;rintro e W1 ⟨v',rfl,ho2,d3,e3,hb⟩;replace b2:=b2.below hb;have hB1:=Zaa hB hb;obtain⟨p',c',rfl⟩:=ho2.shape;have hsl:=ho2.sl (by have:=Za3 h i;omega);clear hmm ho2 b0 b1 cb0 cb1 fb0 fb1 lb0 lb1 hB;go_wp2_with first|(refine Zab rfl 45 _ _ rfl (w.heap.size+1+1) 0 45 _ #[.bool sg,.slice p' (trimN h i) c'] #[.bool sg,.slice p' (trimN h i) c'] rfl rfl b2 Zae (Yaa rfl) (Zal _ _ _ _) (Zag rfl) ?_;intro W2 hk b4)
   have hb2:=hk.below hB1 Zo hB1.size;refine bodyPost_ret (b4.results rfl _ _ rfl Tryz.underlying45 rfl Zae) rfl ⟨p',_,c',h,rfl,hsl.ext (hk.ext b2 Zd),d3,e3,Za3 h i,hb2⟩
theorem Zlq {m1 m2:Nat} {v1 v2:Value} {z y:Int} (w:World) (h1:LgV m1 w v1 z) (h2:LgV m2 w v2 y) (hz:z≠0) (hy:y≠0) (hs:decide (z<0)=decide (y<0)) (hge:y.natAbs<=z.natAbs) (hm1:m1<=100000) :
  Calls Tryz.prog 254 #[v1,v2] w λe w'=>∃v,e=.returned v∧LgV m1 w' v (z-y)∧Below w.heap.size w w':=by
 obtain⟨p,n,c,f,rfl,s1,d1,e1,l1⟩:=h1;obtain⟨q,m,c',g,rfl,s2,d2,e2,l2⟩:=h2;have hn0:0<n:=d1.pos.1 Zo;have hm0:0<m:=d2.pos.1 Zo;have hsg:(z<0↔y<0):=by simpa using hs
 rw[<-hs];refine(Zjz _ p q n m c c' f g w s1 s2 d1 d2 hn0 hm0 Zo Zo).mono ?_;rintro e w' ⟨p',k,c2,h,rfl,hsl,hd,hv,hk,hb⟩;rw[e1,e2]at hv ⊢;have hneg:(decide (z<0)&&decide (0<(z.natAbs:Int)-y.natAbs))=decide (z-y<0):=by
  rw[Ycx,Yam,decide_eq_true_eq,decide_eq_true_eq,decide_eq_true_eq];omega
 rw[hneg];exact⟨_,rfl,⟨p',k,c2,h,rfl,hsl,hd,Zo,Zo⟩,hb⟩
theorem Zsq {m1 m2:Nat} {v1 v2:Value} {z y:Int} (w:World) (h1:LgV m1 w v1 z) (h2:LgV m2 w v2 y) (hz:z≠0) (hy:y≠0) (hs:decide (z<0)=decide (y<0)) (hlt:z.natAbs<y.natAbs) (hm2:m2<=100000) :
  Calls Tryz.prog 254 #[v1,v2] w λe w'=>∃v,e=.returned v∧LgV m2 w' v (z-y)∧Below w.heap.size w w':=by
 have hd:=λ(W:World) (hW:Below w.heap.size w W)=>Zlq W (h2.below hW) (h1.below hW) hy hz hs.symm Zo hm2;have hmi:=λ(W:World) (v:Value) (h:LgV m2 W v (y-z))=>Zis W h hm2;obtain⟨p,n,c,f,rfl,s1,d1,e1,l1⟩:=h1;obtain⟨q,m,c',g,rfl,s2,d2,e2,l2⟩:=h2;have hn0:0<n:=d1.pos.1 Zo;have hm0:0<m:=d2.pos.1 Zo;have hn0':((n:Int)==0)=false:=by simp;omega
 have hm0':((m:Int)==0)=false:=by simp;omega
 have hless:=λ(W:World) (hW:Below w.heap.size w W)=>Ze3 p q n m c c' f g W (s1.ext (.of_below hW)) (s2.ext (.of_below hW)) d1 d2;rw[decide_eq_true Zo]at hless;rw[<-hs]at hd ⊢;clear hs;generalize decide (z<0)=s at *;go_enter Tryz.func254,Tryz.ntmps254
 go_wp2_with fail
 refine Zbx λW hB hs b0 b1 b2=>?_;refine(hless W hB).mono ?_;rintro e Wl ⟨rfl,kl,rfl⟩;have hBl:=below_drewN hB kl;replace b0:Box (W.drewN kl) w.heap.size 45 #[.bool s,.slice p n c]:=⟨b0.blk⟩
 replace b1:Box (W.drewN kl) (w.heap.size+1) 45 #[.bool s,.slice q m c']:=⟨b1.blk⟩
 replace b2:Box (W.drewN kl) (w.heap.size+1+1) 45 #[.bool false,.slice none 0 0]:=⟨b2.blk⟩
 have hsl:w.heap.size+1+1+1<=(W.drewN kl).heap.size:=hs;clear hless hB hs;generalize W.drewN kl=V at *;have cb0:=b0.cell;have lb0:=b0.lt;have fb0:=b0.frozen;have cb1:=b1.cell;have lb1:=b1.lt;have fb1:=b1.frozen;go_wp2_with fail
 refine(hd V hBl).mono ?_;rintro e W1 ⟨v',rfl,hl1,hb1⟩;replace b2:=b2.below hb1;have hB1:=Zaa hBl hb1;have hs1:=hb1.size;clear hd cb0 cb1 fb0 fb1 lb0 lb1 b0 b1;go_wp2_with fail
 refine(hmi W1 v' hl1).mono ?_;rintro e W2 ⟨v2,rfl,hl2,hb2⟩;replace b2:=b2.below hb2;have hB2:=Zaa hB1 hb2;obtain⟨C,rfl,hCs,hCo⟩:=hl2.cells;have hiC:(Tryz.prog.info? 45).map (·.size)=some C.size:=by rw[hCs];exact Zae
 clear hmi hl1 hb1 hb2 hB1;go_wp2_with first|(refine Zab rfl 45 _ _ rfl (w.heap.size+1+1) 0 45 _ C C rfl rfl b2 hiC (by rw[hCs];exact Yaa rfl) hCo (Zag (by rw[hCs];rfl)) ?_;intro W3 hk b4)
 have hb3:=hk.below hB2 Zo hB2.size;refine bodyPost_ret (b4.results rfl _ _ rfl Tryz.underlying45 rfl hiC) rfl ⟨_,rfl,?_,hb3⟩;rw[show z-y = -(y-z) by omega];exact hl2.ext (hk.ext b2 Zd)
theorem Zm5 {m1 m2:Nat} {v1 v2:Value} {z y:Int} (w:World) (h1:LgV m1 w v1 z) (h2:LgV m2 w v2 y) (hz:z≠0) (hy:y≠0) (hs:decide (z<0)=decide (y<0)) (hm1:m1<=100000) (hm2:m2<=100000) :
  Calls Tryz.prog 254 #[v1,v2] w λe w'=>∃v,e=.returned v∧LgV (max m1 m2) w' v (z-y)∧Below w.heap.size w w':=by
 by_cases h:y.natAbs<=z.natAbs
 ·refine(Zlq w h1 h2 hz hy hs h hm1).mono ?_
  rintro e w' ⟨v,rfl,hl,hb⟩;exact⟨v,rfl,hl.mono Zo,hb⟩
 ·refine(Zsq w h1 h2 hz hy hs Zo hm2).mono ?_
  rintro e w' ⟨v,rfl,hl,hb⟩;exact⟨v,rfl,hl.mono Zo,hb⟩
theorem Zp4 {m1 m2:Nat} {v1 v2:Value} {z y:Int} (w:World) (h1:LgV m1 w v1 z) (h2:LgV m2 w v2 y) (hz:z≠0) (hy:y≠0) (hs:decide (z<0)=decide (y<0)) (hm1:m1<=100000) (hm2:m2<=100000) :
  Calls Tryz.prog 259 #[v1,v2] w λe w'=>∃v,e=.returned v∧LgV (max m1 m2+1) w' v (z+y)∧Below w.heap.size w w':=by
 obtain⟨p,n,c,f,rfl,s1,d1,e1,l1⟩:=h1;obtain⟨q,m,c',g,rfl,s2,d2,e2,l2⟩:=h2;have hn0:0<n:=d1.pos.1 Zo;have hm0:0<m:=d2.pos.1 Zo;have hsg:(z<0↔y<0):=by simpa using hs
 rw[<-hs];refine(Zlp _ p q n m c c' f g w s1 s2 d1 d2 hn0 hm0 Zo Zo).mono ?_;rintro e w' ⟨p',k,c2,h,rfl,hsl,hd,hv,hk,hb⟩;rw[e1,e2]at hv;have hneg:decide (z<0)=decide (z+y<0):=by rw[decide_eq_decide];omega
 rw[hneg];exact⟨_,rfl,⟨p',k,c2,h,rfl,hsl,hd,Zo,Zo⟩,hb⟩
theorem Zf4 (a b s:Rat) (f:Nat) (u v:Value) (w:World) (ha:QV w u a) (hb:QV w v b) (hf:Fits s) (h:f=60∧a+b=s∨f=94∧a-b=s∨f=59∧a*b=s∨f=58∧a/b=s∧b.num≠0) :
  Calls Tryz.prog 57 #[u,v,.func (.func f) #[] #[]] w λe w'=>∃r,e=.returned (.tuple #[r,.int .i64 0])∧QV w' r s∧Below w.heap.size w w':=by
 rcases h with ⟨rfl,hE⟩|⟨rfl,hE⟩|⟨rfl,hE⟩|⟨rfl,hE,h0⟩
 all_goals
  obtain⟨hf1,hf2⟩:=hf;have ha':=ha;have hb':=hb;obtain⟨p1,k1,c1,q1,l1,d1,rfl,x1,x2⟩:=ha;obtain⟨p2,k2,c2,q2,l2,d2,rfl,y1,y2⟩:=hb;go_enter Tryz.func57,Tryz.ntmps57
  go_wp2_with fail
  refine Zq5 λW hB hs b0 b1 b2 b3=>?_;replace ha':=ha'.ext (.of_below hB);replace hb':=hb'.ext (.of_below hB);refine(Zq6 a b _ _ _ _ p1 q1 p2 q2 k1 c1 l1 d1 k2 c2 l2 d2 _ _ b3 ha' hb').mono ?_;rintro e W1 ⟨rfl,hb1⟩;replace hB:=Zaa hB hb1;replace ha':=ha'.ext (.of_below hb1);replace hb':=hb'.ext (.of_below hb1);replace b0:=b0.below hb1;try clear cb0 lb0 fb0
  have cb0:=b0.cell;have lb0:=b0.lt;have fb0:=b0.frozen;replace b1:=b1.below hb1;try clear cb1 lb1 fb1
  have cb1:=b1.cell;have lb1:=b1.lt;have fb1:=b1.frozen;replace b2:=b2.below hb1;try clear cb2 lb2 fb2
  have cb2:=b2.cell;have lb2:=b2.lt;have fb2:=b2.frozen;have xW:=Ext.of_below hB;have n0:w.heap.size≠w.heap.size+1+1:=Zo;have n1:w.heap.size+1≠w.heap.size+1+1:=Zo;have K0:=KeepBut.refl (w.heap.size+1+1) W1;go_wp2_with fail
  have ra:RatV 600 W1 (.agg #[.bool (decide (a.num<0)),.slice p1 k1 c1,.slice q1 l1 d1]) a:=⟨_,_,_,_,_,_,_,rfl,Sg.self _,x1.ext xW,x2.ext xW⟩
  have rb:RatV 600 W1 (.agg #[.bool (decide (b.num<0)),.slice p2 k2 c2,.slice q2 l2 d2]) b:=⟨_,_,_,_,_,_,_,rfl,Sg.self _,y1.ext xW,y2.ext xW⟩
  have bR:=b2;clear ha' hb' x1 x2 y1 y2 xW hb1 hs;go_region_held3 (λw'=>(∀b o,b<W1.heap.size->b≠(w.heap.size+1+1)->w'.cell? ⟨b,o,none⟩=W1.cell? ⟨b,o,none⟩)∧KeepBut (w.heap.size+1+1) W1.heap.size W1 w') ((refine KeepBut.S ?_;first|exact K0.drew|(repeat' (first|exact Yai ‹_› | exact KeepBut.call (Yai ‹_›) ‹_› | refine KeepBut.set ?_ _ _|refine KeepBut.alloc ?_ _)))) (first|(go_at_call 110;(with_reducible refine(Zi8 (decide (a.num<0)) false p1 q1 k1 c1 l1 d1 _).mono ?_);rintro e W5 ⟨rfl,hb5⟩;(first|replace bR:=bR.below hb5|replace bR:=bR.drew.below hb5);have cbR:=bR.cell;have fbR:=bR.frozen)|(go_at_call 110;(with_reducible refine(Zi8 (decide (b.num<0)) false p2 q2 k2 c2 l2 d2 _).mono ?_);rintro e W5 ⟨rfl,hb5⟩;(first|replace bR:=bR.below hb5|replace bR:=bR.drew.below hb5);have cbR:=bR.cell;have fbR:=bR.frozen)|(go_at_call 60;(with_reducible refine(Zq4 600 a b _ _ _ W1 (KeepBut.ext (Yai ‹_›) b2 Zd) ra rb Zo).mono ?_);rintro e W6 ⟨r,rfl,hR6,hb6⟩;rw[hE]at hR6;obtain⟨s6,p6,k6,c6,q6,l6,d6,rfl,g6,z6,y6⟩:=hR6;replace bR:=bR.below hb6)|(go_at_call 94;(with_reducible refine(Zup 600 a b _ _ _ W1 (KeepBut.ext (Yai ‹_›) b2 Zd) ra rb Zo).mono ?_);rintro e W6 ⟨r,rfl,hR6,hb6⟩;rw[hE]at hR6;obtain⟨s6,p6,k6,c6,q6,l6,d6,rfl,g6,z6,y6⟩:=hR6;replace bR:=bR.below hb6)|(go_at_call 59;(with_reducible refine(Znu 600 a b _ _ _ W1 (KeepBut.ext (Yai ‹_›) b2 Zd) ra rb Zo).mono ?_);rintro e W6 ⟨r,rfl,hR6,hb6⟩;rw[hE]at hR6;obtain⟨s6,p6,k6,c6,q6,l6,d6,rfl,g6,z6,y6⟩:=hR6;replace bR:=bR.below hb6)|(go_at_call 58;(with_reducible refine(Zw1 600 a b _ _ _ W1 (KeepBut.ext (Yai ‹_›) b2 Zd) ra rb h0 Zo).mono ?_);rintro e W6 ⟨r,rfl,hR6,hb6⟩;rw[hE]at hR6;obtain⟨s6,p6,k6,c6,q6,l6,d6,rfl,g6,z6,y6⟩:=hR6;replace bR:=bR.below hb6)|(go_at_call 111;(with_reducible refine(Zi9 600 s6 p6 q6 k6 c6 l6 d6 _ _ _ (Ext.refl _) g6 (z6.tight hf1) (y6.tight hf2) Zo).mono ?_);rintro e W7 ⟨p7,k7,c7,q7,l7,d7,rfl,z7,y7,hb7⟩;replace bR:=bR.below hb7;have cbR:=bR.cell;have fbR:=bR.frozen))
  all_goals
   go_wp2
   have b3':=((((bR.set 0 (.bool (decide (s.num<0)))).set 1 (.slice p7 k7 c7)).set 2 (.bool false)).set 3 (.slice q7 l7 d7)).cell;have xE:Ext W7 _:=(((((Ext.refl W7).set bR Zd 0 (.bool (decide (s.num<0)))).set (bR.set 0 (.bool (decide (s.num<0)))) Zd 1 (.slice p7 k7 c7))).set ((bR.set 0 (.bool (decide (s.num<0)))).set 1 (.slice p7 k7 c7)) Zd 2 (.bool false)).set (((bR.set 0 (.bool (decide (s.num<0)))).set 1 (.slice p7 k7 c7)).set 2 (.bool false)) Zd 3 (.slice q7 l7 d7);refine bodyPost_ret (v:=.tuple #[.agg #[.bool (decide (s.num<0)),.slice p7 k7 c7,.bool false,.slice q7 l7 d7],.int .i64 0]) (by simp[results,Tryz.results57,go_sem,b3']) rfl ⟨_,rfl,⟨_,_,_,_,_,_,rfl,z7.ext xE,y7.ext xE⟩,?_⟩;exact KeepBut.below (Yai ‹_›) hB Zo hB.size
theorem Zus (a b:Rat) (u v:Value) (w:World) (ha:QV w u a) (hb:QV w v b) (hf:Fits (a+b)) :
  Calls Tryz.prog 57 #[u,v,.func (.func 60) #[] #[]] w λe w'=>∃r,e=.returned (.tuple #[r,.int .i64 0])∧QV w' r (a+b)∧Below w.heap.size w w':=
 Zf4 a b _ _ u v w ha hb hf (.inl ⟨rfl,rfl⟩)
theorem Zq7 (a b:Rat) (u v:Value) (w:World) (ha:QV w u a) (hb:QV w v b) (hf:Fits (a-b)) :
  Calls Tryz.prog 57 #[u,v,.func (.func 94) #[] #[]] w λe w'=>∃r,e=.returned (.tuple #[r,.int .i64 0])∧QV w' r (a-b)∧Below w.heap.size w w':=
 Zf4 a b _ _ u v w ha hb hf (.inr (.inl ⟨rfl,rfl⟩))
theorem Zq8 (a b:Rat) (u v:Value) (w:World) (ha:QV w u a) (hb:QV w v b) (hf:Fits (a*b)) :
  Calls Tryz.prog 57 #[u,v,.func (.func 59) #[] #[]] w λe w'=>∃r,e=.returned (.tuple #[r,.int .i64 0])∧QV w' r (a*b)∧Below w.heap.size w w':=
 Zf4 a b _ _ u v w ha hb hf (.inr (.inr (.inl ⟨rfl,rfl⟩)))
theorem Zut (a b:Rat) (u v:Value) (w:World) (ha:QV w u a) (hb:QV w v b) (h0:b.num≠0) (hf:Fits (a/b)) :
  Calls Tryz.prog 57 #[u,v,.func (.func 58) #[] #[]] w λe w'=>∃r,e=.returned (.tuple #[r,.int .i64 0])∧QV w' r (a/b)∧Below w.heap.size w w':=
 Zf4 a b _ _ u v w ha hb hf (.inr (.inr (.inr ⟨rfl,rfl,h0⟩)))
end Go.Proofs.W
