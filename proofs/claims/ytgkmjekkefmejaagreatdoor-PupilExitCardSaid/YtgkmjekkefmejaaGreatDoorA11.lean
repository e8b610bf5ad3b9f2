/- Contracts of package matrix,and a verified evaluator. Part 11 of 27. No condition beside the row. -/
import Derived.Test.YtgkmjekkefmejaaGreatDoorA10
set_option linter.unusedVariables false
set_option linter.unusedSimpArgs false
set_option maxRecDepth 100000
set_option maxHeartbeats 4000000
namespace Go.Mono
open Go.RowKit
theorem LgV.zero {m:Nat} {w:World} {v:Value} (h:LgV m w v 0):∃p c,v=.agg #[.bool false,.slice p 0 c]:=by
 obtain⟨p,n,c,f,rfl,h1,h2,h3,h4⟩:=h;have:¬0<n:=λh=>by have:=h2.pos.2 h;simp at h3;omega
 obtain rfl:n=0:=Zo;exact⟨p,c,rfl⟩
theorem LgV.nz {m:Nat} {w:World} {v:Value} {z:Int} (h:LgV m w v z) (hz:z≠0):∃p n c,v=.agg #[.bool (decide (z<0)),.slice p n c]∧0<n:=by
 obtain⟨p,n,c,f,rfl,h1,h2,h3,h4⟩:=h;exact⟨p,n,c,rfl,h2.pos.1 Zo⟩
theorem LgV.parts {m:Nat} {w:World} {v:Value} {z:Int} (h:LgV m w v z):∃s p n c,v=.agg #[.bool s,.slice p n c]:=by
 obtain⟨p,n,c,f,rfl,h1,h2,h3,h4⟩:=h;exact⟨_,p,n,c,rfl⟩
end Go.Mono
namespace Go.Proofs.W
open Go.RowKit Go.Mono
theorem Zgh (w:World) (T0 T1 T2:TypeId) (c0 c1 c2:Array Value):Box (((w.alloc (.cells c0 T0)).alloc (.cells c1 T1)).alloc (.cells c2 T2)) (w.heap.size+1+1) T2 c2:=by
 have b:=Box.new ((w.alloc (.cells c0 T0)).alloc (.cells c1 T1)) T2 c2;simp only[Yav]at b;exact b
theorem Zcn (w:World) (a b c:Obj):Below w.heap.size w (((w.alloc a).alloc b).alloc c):=Zad (Zad (Zad (Yae _ _) _) _) _
theorem Zm6 {m1 m2:Nat} {v1 v2:Value} {y:Int} (w:World) (h1:LgV m1 w v1 0) (h2:LgV m2 w v2 y) :
  Calls Tryz.prog 259 #[v1,v2] w λe w'=>∃v,e=.returned v∧LgV m2 w' v y∧Below w.heap.size w w':=by
 obtain⟨p,c,rfl⟩:=h1.zero;obtain⟨s,q,m,c',rfl⟩:=h2.parts;go_enter Tryz.func259,Tryz.ntmps259
 go_wp2_with fail
 exact bodyPost_ret ((Zgh w _ _ _ _ _ _).results rfl _ _ rfl Tryz.underlying45 rfl Zae) rfl ⟨_,rfl,h2.below (Zcn w _ _ _),Zcn w _ _ _⟩
theorem Zm7 {m1 m2:Nat} {v1 v2:Value} {z:Int} (w:World) (h1:LgV m1 w v1 z) (h2:LgV m2 w v2 0) (hz:z≠0) :
  Calls Tryz.prog 259 #[v1,v2] w λe w'=>∃v,e=.returned v∧LgV m1 w' v z∧Below w.heap.size w w':=by
 obtain⟨p,c,rfl⟩:=h2.zero;obtain⟨q,n,c',rfl,hn⟩:=h1.nz hz;have hn':((n:Int)==0)=false:=by simp;omega
 generalize decide (z<0)=s at *;go_enter Tryz.func259,Tryz.ntmps259
 go_wp2_with fail
 exact bodyPost_ret ((Zgh w _ _ _ _ _ _).results rfl _ _ rfl Tryz.underlying45 rfl Zae) rfl ⟨_,rfl,h1.below (Zcn w _ _ _),Zcn w _ _ _⟩
theorem Zm8 {m1 m2:Nat} {v1 v2:Value} {z y:Int} (w:World) (h1:LgV m1 w v1 z) (h2:LgV m2 w v2 y) (hz:z≠0) (hy:y≠0) (hs:¬decide (z<0)=decide (y<0)) (hm1:m1<=100000) (hm2:m2<=100000) :
  Calls Tryz.prog 259 #[v1,v2] w λe w'=>∃v,e=.returned v∧LgV (max m1 m2) w' v (z+y)∧Below w.heap.size w w':=by
 have hmi:=λ(W:World) (hW:Below w.heap.size w W)=>Zis W (h2.below hW) hm2;have hsg:¬(z<0↔y<0):=by simpa using hs
 have hd:=λ(W:World) (v:Value) (hW:Below w.heap.size w W) (h:LgV m2 W v (-y))=>Zm5 W (h1.below hW) h hz Zo (by rw[decide_eq_decide];omega) hm1 hm2;obtain⟨p,n,c,rfl,hn0⟩:=h1.nz hz;obtain⟨q,m,c',rfl,hm0⟩:=h2.nz hy;have hn0':((n:Int)==0)=false:=by simp;omega
 have hm0':((m:Int)==0)=false:=by simp;omega
 have hst:(decide (z<0) != decide (y<0))=true:=by simpa using hs
 clear hs;generalize decide (z<0)=s at *;generalize decide (y<0)=t at *;have hst2:(!s==t)=true:=by cases s<;>cases t<;>simp_all
 go_enter Tryz.func259,Tryz.ntmps259
 go_wp2_with fail
 refine Zfw λW hB hs b0 b1 b2=>?_;refine wp_region_held_drew (S:=λw'=>KeepBut (w.heap.size+1+1) W.heap.size W w') Zx (KeepBut.refl _ _).drew (λhHeld=>?_);generalize hX:W.drew=X0 at *;have r0:∀X,KeepBut (w.heap.size+1+1) W.heap.size W X->X.rangeAt w.heap.size 0 (#[.bool s,.slice p n c]:Array Value).toList:=λX h=>(h.box b0 b0.lt Zo).range;have r1:∀X,KeepBut (w.heap.size+1+1) W.heap.size W X->X.rangeAt (w.heap.size+1) 0 (#[.bool t,.slice q m c']:Array Value).toList:=λX h=>(h.box b1 b1.lt Zo).range;refine tl 0 (some 24) rfl (.agg #[.bool s,.slice p n c]) (Zaj 45 _ rfl w.heap.size 0 rfl #[.bool s,.slice p n c] r0 _ Tryz.underlying45 rfl Zae) ?_;refine tl 1 (some 25) rfl (.agg #[.bool t,.slice q m c']) (Zaj 45 _ rfl (w.heap.size+1) 0 rfl #[.bool t,.slice q m c'] r1 _ Tryz.underlying45 rfl Zae) ?_;have hBX:Below w.heap.size w X0:=by rw[<-hX];exact hB.drew
 have b2X:Box X0 (w.heap.size+1+1) 45 #[.bool false,.slice none 0 0]:=by rw[<-hX];exact b2.drew
 refine Mono.stc 2 (some 26) (hmi X0 hBX) (λe X1 hR=>?_);obtain⟨v',rfl,hl1,hb1⟩:=hR;refine⟨(hHeld.call hb1),λhHeld=>Mono.pt ?_⟩;have hBX1:=Zaa hBX hb1;refine Mono.stc 3 (some 27) (hd X1 v' hBX1 hl1) (λe X2 hR=>?_);obtain⟨v2,rfl,hl2,hb2⟩:=hR;refine⟨(hHeld.call hb2),λhHeld=>Mono.pt ?_⟩;have hBX2:=Zaa hBX1 hb2;have b2Y:=(b2X.below hb1).below hb2;obtain⟨C,rfl,hCs,hCo⟩:=hl2.cells;have hiC:(Tryz.prog.info? 45).map (·.size)=some C.size:=by rw[hCs];exact Zae
 have hn2:(#[.bool false,.slice none 0 0]:Array Value).size=C.size:=by rw[hCs];rfl
 refine Zb8 (w.heap.size+1+1) 45 4 rfl rfl rfl rfl 0 C #[.bool false,.slice none 0 0] C Zx (λw i u h=>h.set i u) Zx Zx b2Y hHeld hiC (by rw[hCs];exact Yaa rfl) hCo (Zag hn2) (λY hk b4 hHeld=>?_);refine wpAnyH_done Zx ?_ _;have hlg:=hl2.ext (hk.ext b2Y Zd);have hb3:=hk.below hBX2 Zo hBX2.size;clear r0 r1 b2X hX hBX hmi hd hl1 hb1 hBX1 hl2 hb2 b2Y hk hHeld b0 b1 b2 hB h1 h2;go_wp2
 refine bodyPost_ret (b4.results rfl _ _ rfl Tryz.underlying45 rfl hiC) rfl ⟨_,rfl,?_,hb3⟩;rw[show z+y=z - -y by omega];exact hlg
theorem Zok {m1 m2:Nat} {v1 v2:Value} {z y:Int} (w:World) (h1:LgV m1 w v1 z) (h2:LgV m2 w v2 y) (hm1:m1<=100000) (hm2:m2<=100000) :
  Calls Tryz.prog 259 #[v1,v2] w λe w'=>∃v,e=.returned v∧LgV (max m1 m2+1) w' v (z+y)∧Below w.heap.size w w':=by
 by_cases hz:z=0
 ·subst hz
  refine(Zm6 w h1 h2).mono ?_;rintro e w' ⟨v,rfl,hl,hb⟩;exact⟨v,rfl,by rw[Int.zero_add];exact hl.mono Zo,hb⟩
 ·by_cases hy : y = 0
  ·subst hy
   refine(Zm7 w h1 h2 hz).mono ?_;rintro e w' ⟨v,rfl,hl,hb⟩;exact⟨v,rfl,by rw[Yda];exact hl.mono Zo,hb⟩
  ·by_cases hs:decide (z<0)=decide (y<0)
   ·exact Zp4 w h1 h2 hz hy hs hm1 hm2
   ·refine(Zm8 w h1 h2 hz hy hs hm1 hm2).mono ?_
    rintro e w' ⟨v,rfl,hl,hb⟩;exact⟨v,rfl,hl.mono Zo,hb⟩

structure PInv (w wr:World) (R L:Nat) (d:Nat->Int) (A0 A1:Array Value):Prop where
 row:RowF wr R L d
 lo:∀j,j<L->0<=d j
 hi:∀j,j<L->d j<1000000000
 b0:Box wr w.heap.size 45 A0
 b1:Box wr (w.heap.size+1) 45 A1
 b2:Box wr (w.heap.size+1+1) 45 #[.bool false,.slice none 0 0]
 below:Below w.heap.size w wr
 above:w.heap.size+1+1+1<=R
theorem PInv.set {w wr:World} {R L:Nat} {d:Nat->Int} {A0 A1:Array Value} (h:PInv w wr R L d A0 A1) (j:Nat) (x:Int) (x0:0<=x) (x1:x<1000000000) :
  PInv w (wr.setCell ⟨R,j,none⟩ (.int .i64 x)) R L (λi=>if i=j then x else d i) A0 A1:=by
 have ha:=h.above;refine⟨h.row.set j x,λi hi=>?_,λi hi=>?_,h.b0.other _ _ (by show w.heap.size≠R;omega),h.b1.other _ _ (by show w.heap.size+1≠R;omega),h.b2.other _ _ (by show w.heap.size+1+1≠R;omega),Zaf h.below Zo _ _,ha⟩
 ·split
  ·exact x0
  ·exact h.lo i hi
 ·split
  ·exact x1
  ·exact h.hi i hi
theorem PInv.drewN {w wr:World} {R L:Nat} {d:Nat->Int} {A0 A1:Array Value} (h:PInv w wr R L d A0 A1) (k:Nat):PInv w (wr.drewN k) R L d A0 A1:=
 ⟨h.row.drewN k,h.lo,h.hi,⟨h.b0.blk⟩,⟨h.b1.blk⟩,⟨h.b2.blk⟩,below_drewN h.below k,h.above⟩
theorem Zsr {f g:Nat->Int} {n m i k:Nat} (d1:Digs f n) (d2:Digs g m) (hi:i<n) (hk:k<m):vf f i*vf g m+f i*pw i*vf g (k+1)<pw (n+m):=by
 have f0:=d1.lo i hi;have p0:=Za7 i;have hg:vf g (k+1)<=vf g m:=by
  obtain⟨e,rfl⟩:=Yfe (show k+1<=m by omega);rw[Zci g (k+1) e];have h1:0<=vf (λj=>g (k+1+j)) e:=Zap λj hj=>d2.lo _ Zo;have:=Ycg (Yap (Za7 (k+1))) h1;omega
 have h1:f i*pw i*vf g (k+1)<=f i*pw i*vf g m:=Ycr hg (Ycg f0 (Yap p0));have h2:vf f i*vf g m+f i*pw i*vf g m=vf f (i+1)*vf g m:=by rw[Zah,Yel]
 have h3:vf f (i+1)<pw (i+1):=Zc3 λj hj=>d1.hi j Zo;have h4:vf g m<pw m:=d2.lt;have h5:0<=vf g m:=d2.nonneg;have h6:0<=vf f (i+1):=Zap λj hj=>d1.lo j Zo;have h7:vf f (i+1)*vf g m<=pw (i+1)*vf g m:=Yaw (Yap h3) h5;have h8:pw (i+1)*vf g m<pw (i+1)*pw m:=Int.mul_lt_mul_of_pos_left h4 (Za7 _);have h9:=Zbp (show i+1+m<=n+m by omega);rw[Zfv]at h9;omega
theorem Zj0 (s t:Bool) (p q:Option Addr) (n m c1 c2:Nat) (f g:Nat->Int) (w:World) (h1:SlF w (.slice p n c1) n f) (h2:SlF w (.slice q m c2) m g) (d1:Digs f n) (d2:Digs g m) (hn6:n<=100000) (hm6:m<=100000) :
  Calls Tryz.prog 285 #[.agg #[.bool s,.slice p n c1],.agg #[.bool t,.slice q m c2]] w λe w'=>∃p k c h,e=.returned (.agg #[.bool ((s != t)&&decide (0<vf f n*vf g m)),.slice p k c])∧SlF w' (.slice p k c) k h∧Digs h k∧vf h k=vf f n*vf g m∧k<=n+m∧Below w.heap.size w w':=by
 obtain⟨hc1,hn1,hx1⟩:=h1.opens;obtain⟨hc2,hn2,hx2⟩:=h2.opens;obtain⟨sg,hsg⟩:∃sg:Bool,((s != t)&&decide (0<vf f n*vf g m))=sg:=⟨_,rfl⟩
 rw[hsg];replace hsg:=Yah hsg;go_enter Tryz.func285,Tryz.ntmps285
 go_wp2_with (first
  | (at_make;refine Za1 _ rfl _ _ 43 rfl Tryz.underlying43 Zby _ _ (n+m) rfl rfl Zs Zs Zo ?_;intro W1 r1 hb1))
 have hR:((((w.alloc (.cells #[.bool s,.slice p n c1] 45)).alloc (.cells #[.bool t,.slice q m c2] 45)).alloc (.cells #[.bool false,.slice none 0 0] 45))).heap.size=w.heap.size+1+1+1:=Zs;rw[hR]at r1;have hB:=Zaa (Zcn w (.cells #[.bool s,.slice p n c1] 45) (.cells #[.bool t,.slice q m c2] 45) (.cells #[.bool false,.slice none 0 0] 45)) hb1;have hI0:PInv w W1 (w.heap.size+1+1+1) (n+m) (λ_=>0) #[.bool s,.slice p n c1] #[.bool t,.slice q m c2]:=by
  have b1:=Box.new (w.alloc (.cells #[.bool s,.slice p n c1] 45)) 45 #[.bool t,.slice q m c2];simp only[Yav]at b1;exact⟨r1,λ_ _=>Yek _,λ_ _=>Zd,(((Box.new _ _ _).alloc _).alloc _).below hb1,(b1.alloc _).below hb1,(Zgh w _ _ _ _ _ _).below hb1,hB,Yab _⟩
 clear hb1 hB hR r1;go_loopw [6] (λa wr=>∃(i:Nat) (d:Nat->Int),i<=n∧a=.int .i64 (i:Int)∧vf d (n+m)=vf f i*vf g m∧PInv w wr (w.heap.size+1+1+1) (n+m) d #[.bool s,.slice p n c1] #[.bool t,.slice q m c2]) (λa _=>(n-intOf a).toNat)
 case atStart=>exact⟨0,_,Yat _,rfl,by rw[Zdm (λi _=>rfl)];simp[vf],hI0⟩
 case round=>
  clear hI0;obtain⟨i,d,hi,rfl,hv,hI⟩:=hrel;replace hv:=Yah hv;have b0:=hI.b0;have b1:=hI.b1;have cb0:=b0.cell;have lb0:=b0.lt;have fb0:=b0.frozen;have cb1:=b1.cell;have lb1:=b1.lt;have fb1:=b1.frozen;by_cases hin:i<n
  ·have hin':(i:Int)<n:=by omega
   go_wp2
   clear cb0 lb0 fb0 cb1 lb1 fb1 b0 b1;go_loopw [7] (λa wr=>∃(k:Nat) (d:Nat->Int),k<=m∧a=.int .i64 (k:Int)∧vf d (n+m)=vf f i*vf g m+f i*pw i*vf g k∧PInv w wr (w.heap.size+1+1+1) (n+m) d #[.bool s,.slice p n c1] #[.bool t,.slice q m c2]) (λa _=>(m-intOf a).toNat)
   case atStart=>exact⟨0,d,Yat _,rfl,by rw[hv.out];simp[vf],hI⟩
   case round=>
    clear hI hv d;obtain⟨k,d,hk,rfl,hv,hI⟩:=hrel;replace hv:=Yah hv;have b0:=hI.b0;have b1:=hI.b1;have cb0:=b0.cell;have lb0:=b0.lt;have fb0:=b0.frozen;have cb1:=b1.cell;have lb1:=b1.lt;have fb1:=b1.frozen;by_cases hkm:k<m
    ·have hkm':(k:Int)<m:=by omega
     obtain⟨b,off,rfl,hb,hcell⟩:=hx1 Zo;obtain⟨b',off',rfl,hb',hcell'⟩:=hx2 Zo;have a1:=(hI.below.cell (p:=⟨b,off+i,none⟩) hb).trans (hcell i hin);have a2:=(hI.below.cell (p:=⟨b',off'+k,none⟩) hb').trans (hcell' k hkm);obtain⟨m0,m1⟩:=Zjy (d1.lo i hin) (d1.hi i hin) (d2.lo k hkm) (d2.hi k hkm);clear hcell hcell';go_wp2
     go_quiet (fail)
     go_wp2
     have hroom:=Zsr d1 d2 hin hkm;have hv2:vf d (n+m)+f i*g k*pw (i+k)=vf f i*vf g m+f i*pw i*vf g (k+1):=by
      rw[hv.out,Zah,Zfv];grind
     have hIq:=hI.drewN nq;obtain⟨V,hV⟩:∃V,vf f i*vf g m+f i*pw i*vf g (k+1)=V:=⟨_,rfl⟩
     rw[hV]at hroom hv2;replace hV:=Yah hV;generalize f i*g k=x0 at *;clear hv hI cb0 lb0 fb0 cb1 lb1 fb1 b0 b1 a1 a2;go_loopw [8,9] (λu v wr=>∃(x:Int) (j:Nat) (d:Nat->Int),0<=x∧x<=999999999*999999999∧u=.int .i64 x∧v=.int .i64 (j:Int)∧vf d (n+m)+x*pw j=V∧PInv w wr (w.heap.size+1+1+1) (n+m) d #[.bool s,.slice (some ⟨b,off,none⟩) n c1] #[.bool t,.slice (some ⟨b',off',none⟩) m c2]) (λ_ v _=>(n+m-intOf v).toNat)
     case atStart=>exact⟨x0,i+k,d,m0,m1,rfl,Zs,hv2,hIq⟩
     case round=>
      clear hIq hv2 d;obtain⟨x,j,d,hx0,hx9,rfl,rfl,hv,hI⟩:=hrel;by_cases hgo:0<x
      ·have hj:=Zpz hI.lo hv hgo hroom
       have hpc:=Zsn d (n+m) j x hj;have a1:=hI.row.cell j hj;have a2:=hI.row.frozen j;have q1:=hI.lo j hj;have q2:=hI.hi j hj;have hst:=hI.set j ((x+d j)%1000000000) Zo Zo;have hj1:(j:Int)<(n:Int)+m:=Zo;generalize hdj:d j=y at *;clear hI;go_wp2
       go_roundw
       case rel=>
        refine⟨(x+y)/1000000000,j+1,_,Zo,Zo,by first|rfl|simp,Zs,?_,hst⟩;rw[<-hv];exact hpc
       case measure=>simp[intOf];omega
      ·obtain rfl:x=0:=by omega
       have hv3:vf d (n+m)=V:=by simpa using hv
       go_wp2
       go_roundw
       case rel=>exact⟨k+1,d,Zo,Zs,by rw[hv3,hV.out],hI⟩
       case measure=>simp[intOf];omega
    ·obtain rfl:k=m:=by omega
     have hv3:vf d (n+k)=vf f (i+1)*vf g k:=by rw[hv.out,Zah,Yel]
     clear hv;go_wp2
     go_roundw
     case rel=>exact⟨i+1,d,Zo,Zs,hv3,hI⟩
     case measure=>simp[intOf];omega
  ·obtain rfl:i=n:=by omega
   have hmm:=λW1 hW1=>Zbm (s != t) (some ⟨w.heap.size+1+1+1,0,none⟩) (i+m) (i+m) d W1 ((hI.row.slice Zo (i+m) (Yab _) (i+m) (Yab _)).ext hW1) Zo hI.lo hI.hi;rw[hv.out,hsg.out]at hmm;have b2:=hI.b2;have hB:=hI.below;clear hx1 hx2;go_wp2_with fail
   refine(hmm wr (Ext.refl _)).mono ?_;rintro e W2 ⟨v',rfl,ho2,d3,e3,hb⟩;replace b2:=b2.below hb;have hB1:=Zaa hB hb;obtain⟨p',c',rfl⟩:=ho2.shape;have hsl:=ho2.sl (by have:=Za3 d (i+m);omega);clear hmm ho2 b0 b1 cb0 cb1 fb0 fb1 lb0 lb1 hI;go_wp2_with first|(refine Zab rfl 45 _ _ rfl (w.heap.size+1+1) 0 45 _ #[.bool sg,.slice p' (trimN d (i+m)) c'] #[.bool sg,.slice p' (trimN d (i+m)) c'] rfl rfl b2 Zae (Yaa rfl) (Zal _ _ _ _) (Zag rfl) ?_;intro W3 hk b4)
   have hb2:=hk.below hB1 Zo hB1.size;refine bodyPost_ret (b4.results rfl _ _ rfl Tryz.underlying45 rfl Zae) rfl ⟨p',_,c',d,rfl,hsl.ext (hk.ext b2 Zd),d3,e3,Za3 d (i+m),hb2⟩
theorem Zcs {m1 m2:Nat} {v1 v2:Value} {z y:Int} (w:World) (h1:LgV m1 w v1 z) (h2:LgV m2 w v2 y) (hm1:m1<=100000) (hm2:m2<=100000) :
  Calls Tryz.prog 285 #[v1,v2] w λe w'=>∃v,e=.returned v∧LgV (m1+m2) w' v (z*y)∧Below w.heap.size w w':=by
 obtain⟨p,n,c,f,rfl,s1,d1,e1,l1⟩:=h1;obtain⟨q,m,c',g,rfl,s2,d2,e2,l2⟩:=h2;refine(Zj0 _ _ p q n m c c' f g w s1 s2 d1 d2 Zo Zo).mono ?_;rintro e w' ⟨p',k,c2,h,rfl,hsl,hd,hv,hk,hb⟩;rw[e1,e2]at hv ⊢;have habs:((z*y).natAbs:Int)=z.natAbs*y.natAbs:=by rw[Yde];norm_cast
 have hneg:((decide (z<0) != decide (y<0))&&decide (0<(z.natAbs:Int)*y.natAbs))=decide (z*y<0):=by
  rw[<-habs];rw[Ycx,Yam,bne_iff_ne,ne_eq,decide_eq_decide,decide_eq_true_eq,decide_eq_true_eq];rcases Yen z 0 with hz|rfl|hz
  ·rcases Yen y 0 with hy|rfl|hy
   ·have:=Int.mul_pos_of_neg_of_neg hz hy;omega
   ·simp
   ·have:=Int.mul_neg_of_neg_of_pos hz hy;omega
  ·simp
  ·rcases Yen y 0 with hy|rfl|hy
   ·have:=Int.mul_neg_of_pos_of_neg hz hy;omega
   ·simp
   ·have:=Int.mul_pos hz hy;omega
 rw[hneg];exact⟨_,rfl,⟨p',k,c2,h,rfl,hsl,hd,by rw[hv,habs],Zo⟩,hb⟩
end Go.Proofs.W
namespace Go.Mono
open Go.RowKit
theorem Zg9 (x:Int):(x.tmod 1000000000<0->x.tmod 1000000000+1000000000=x%1000000000∧x.tdiv 1000000000-1=x/1000000000)∧(¬x.tmod 1000000000<0->x.tmod 1000000000=x%1000000000∧x.tdiv 1000000000=x/1000000000):=by
 by_cases h:0<=x
 ·rw[Ybr h,Ybk h]
  omega
 ·obtain⟨y,rfl⟩:∃y,x = -y:=⟨-x,Zo⟩
  rw[Int.neg_tmod,Int.neg_tdiv,Ybr Zo,Ybk Zo];omega
structure TInv (w0 wr:World) (base G n:Nat) (f:Nat->Int):Prop where
 row:RowF wr G n f
 lo:base<=G
 low:w0.heap.size<=base
 below:Below w0.heap.size w0 wr
 size:base<=wr.heap.size
theorem TInv.set {w0 wr:World} {base G n:Nat} {f:Nat->Int} (h:TInv w0 wr base G n f) (j:Nat) (x:Int):TInv w0 (wr.setCell ⟨G,j,none⟩ (.int .i64 x)) base G n (λi=>if i=j then x else f i):=
 ⟨h.row.set j x,h.lo,h.low,Zaf h.below (Yak h.low h.lo) _ _,by simp only[World.size_setCell];exact h.size⟩
theorem TInv.drew {w0 wr:World} {base G n:Nat} {f:Nat->Int} (h:TInv w0 wr base G n f):TInv w0 wr.drew base G n f:=⟨h.row.drewN 1,h.lo,h.low,h.below.drew,h.size⟩
theorem TInv.congr {w0 wr:World} {base G n:Nat} {f f':Nat->Int} (h:TInv w0 wr base G n f) (he:∀i,i<n->f i=f' i):TInv w0 wr base G n f':=⟨h.row.congr he,h.lo,h.low,h.below,h.size⟩
end Go.Mono
namespace Go.Proofs.W
open Go.RowKit Go.Mono
theorem Zp5 (base:Nat) (v:Value) (n:Nat) (f:Nat->Int) (q:Option Addr) (m c2:Nat) (g:Nat->Int) (w0 w:World) (ho:OwnF w base v n f) (hlow:w0.heap.size<=base) (hbase:base<=w.heap.size) (hB0:Below w0.heap.size w0 w) (h2:SlF w0 (.slice q (m+1) c2) (m+1) g) (d1:Digs f n) (d2:Digs g (m+1)) (hm6:m<=100000) (hlt:vf f n<vf g (m+1)*1000000000) :
  Calls Tryz.prog 281 #[v,.slice q (m+1) c2] w λe w'=>∃v' n' f' k,e=.returned (.tuple #[v',.int .i64 k])∧OwnF w' base v' n' f'∧Digs f' n'∧vf f' n'=vf f n%vf g (m+1)∧k=vf f n/vf g (m+1)∧Below w0.heap.size w0 w'∧base<=w'.heap.size:=by
 obtain⟨hc2,hn2,hx2⟩:=h2.opens;have hB1:0<vf g (m+1):=d2.pos.2 Zo;obtain⟨BB,hBB⟩:∃BB,vf g (m+1)=BB:=⟨_,rfl⟩
 obtain⟨RR,hRR⟩:∃RR,vf f n=RR:=⟨_,rfl⟩
 rw[hBB,hRR];rw[hBB,hRR]at hlt;rw[hBB]at hB1;replace hBB:=Yah hBB;go_enter Tryz.func281,Tryz.ntmps281
 go_wp2
 go_loopw [0,6] (λa b wr=>∃(n:Nat) (f:Nat->Int) (k:Int),OwnF wr base a n f∧b=.int .i64 k∧Digs f n∧vf f n+k*BB=RR∧0<=k∧Below w0.heap.size w0 wr∧base<=wr.heap.size) (λ_ b _=>(1000000000-intOf b).toNat)
 case atStart=>exact⟨n,f,0,ho,rfl,d1,by rw[hRR];simp,Yek _,hB0,hbase⟩
 case round=>
  clear ho d1 hRR hB0 hbase f n v;obtain⟨n,f,k,ho,rfl,d1,hv,hk0,hB0,hbase⟩:=hrel;obtain⟨p,c,rfl⟩:=ho.shape;have hf0:=d1.nonneg;have hk1:k*BB<1000000000*BB:=by rw[Ydh 1000000000];omega
  have hk9:k<1000000000:=Ygc hk1 Zo;have hnm:n<=m+2:=by
   by_cases hn:n<=m+2
   ·exact hn
   ·have h3:=d1.ge Zo
    have h4:=Zbp (show m+2<=n-1 by omega);have h5:=d2.lt;have h6:pw (m+2)=pw (m+1)*1000000000:=rfl;have h7:=Ycg hk0 (Yap hB1);rw[hBB.out]at h5;omega
  have hsl:=ho.sl Zo;have hless:=λ(W:World) (hW:Ext wr W)=>Ze3 p q n (m+1) c c2 f g W (hsl.ext hW) ((h2.ext (.of_below hB0)).ext hW) d1 d2;rw[hBB.out]at hless;by_cases hge:BB<=vf f n
  ·rw[decide_eq_false Zo]at hless
   have hnm1:m+1<=n:=d2.len_le d1 (by rw[hBB.out];exact hge);have hmn:m<n:=Zo;have hmul:=Ycg hk0 (Yap hB1);obtain⟨tk0,tk1⟩:=Zvi d1.lo d2 (by rw[hBB.out];exact hge) hnm hmn;have tk2:=Zso d1.lo d2 (by rw[hBB.out];omega) hnm hmn;have f0:=d1.lo m hmn;have f9:=d1.hi m hmn;have g0:=d2.lo m Zo;have g9:=d2.hi m Zo;have x0:=Zjw d1.lo (m+1);have x9:=Zpy d1.hi (m+1);rw[hBB.out]at tk1;obtain⟨b',off',rfl,hb',hcell'⟩:=hx2 Zo;have a2:=(hB0.cell (p:=⟨b',off'+m,none⟩) hb').trans (hcell' m Zo);obtain⟨G,cap,hp1,hGb,hcap,hrow⟩:∃g cap,Value.slice p n c=.slice (some ⟨g,0,none⟩) n cap∧base<=g∧n<=cap∧RowF wr g n f:=by
    rcases ho.open with ⟨_,h0⟩|h
    ·omega
    ·exact h
   obtain⟨rfl,rfl⟩:p=some ⟨G,0,none⟩∧c=cap:=by simpa using hp1
   have a1:=hrow.cell m hmn;have hgl:=hrow.lt;have hTI:TInv w0 wr base G n f:=⟨hrow,hGb,hlow,hB0,hbase⟩
   have hat1:=λ(W:World) (hW:Ext wr W)=>Zfm (some ⟨G,0,none⟩) n c (m+1) f W (hsl.ext hW);have hm1':(m:Int)<n:=Zo;have hm2':(m:Int)<m+1:=Zo;clear hcell' hp1 ho hsl;go_wp2_with fail
   refine(hless wr (Ext.refl _)).mono ?_;rintro e W1 ⟨rfl,kl,rfl⟩;replace hTI:TInv w0 (wr.drewN kl) base G n f:=⟨hrow.drewN kl,hGb,hlow,below_drewN hB0 _,hbase⟩
   have hx1:Ext wr (wr.drewN kl):=.of_below (below_drewN (Yae _ _) kl);replace a1:(wr.drewN kl).cell? ⟨G,m,none⟩=some (.int .i64 (f m)):=a1;replace a2:(wr.drewN kl).cell? ⟨b',off'+m,none⟩=some (.int .i64 (g m)):=a2;clear hless hrow hB0 hbase hgl;generalize wr.drewN kl=V at *;go_wp2
   refine wp_region_held_drew (S:=λw'=>w'.cell? ⟨G,m,none⟩=some (.int .i64 (f m))∧w'.cell? ⟨b',off'+m,none⟩=some (.int .i64 (g m))∧Ext wr w') Zx ⟨a1,a2,hx1.drew⟩ (λhHeld=>?_);have hTX:=hTI.drew;generalize V.drew=X0 at *;refine tk 0 (some 19) ?_;refine tk 1 (some 20) ?_;refine tk 2 (some 21) ?_;refine tk 5 (some 24) ?_;refine tk 6 (some 25) ?_;refine tk 7 (some 26) ?_;refine tk 8 (some 27) ?_;refine tk 10 (some 29) ?_;refine tk 11 (some 30) ?_;refine tk 12 (some 31) ?_;refine tk 13 (some 32) ?_;refine tk 14 (some 33) ?_;rw[show IntKind.i64.wrap ((m:Int)+1)=((m+1:Nat):Int) from by rw[Zcr Zo Zo];rfl,Zcr (z:=g m+1) Zo Zo];refine Mono.stc 3 (some 22) (hat1 X0 hHeld.2.2) (λe X1 hR=>?_);obtain⟨rfl,rfl⟩:=hR;refine⟨(hHeld),λhHeld=>Mono.pt ?_⟩;generalize xt f n (m+1)=x at *;generalize f m=y at *;generalize g m=t at *;refine tk 4 (some 23) ?_;refine tk 9 (some 28) ?_;rw[Zcr (z:=x*1000000000) Zo Zo,Zcr (z:=x*1000000000+y) Zo Zo];have ht0:(t+1==0)=false:=by simp;omega
   have ht1:t+1≠0:=Zo;refine tk 15 (some 34) ?_;have hH:0<=x*1000000000+y:=Zo;rw[Ybk hH,Zcr (z:=(x*1000000000+y)/(t+1)) Zo Zo];generalize (x*1000000000+y)/(t+1)=kk at *;refine tk 16 (some 8) ?_;refine wpAnyH_done Zx ?_ _;clear hHeld hat1 hTI a1 a2 hx1 ht0 ht1 hH x0 x9 f0 f9 g0 g9;obtain⟨K,hK,hK1,hK9,hKB⟩:∃K:Int,(K=if kk=0 then 1 else kk)∧1<=K∧K<1000000000∧K*BB<=vf f n:=by
    by_cases h:kk=0
    ·exact⟨1,by rw[if_pos h],Zo,Zo,Zo⟩
    ·exact⟨kk,by rw[if_neg h],Zo,Zo,tk1⟩
   replace hK:=Yah hK;replace hKB:=Yah hKB;have hkK:(k+K)*BB<=RR:=by
    have:=hKB.out;rw[Yel];omega
   have hkK9:k+K<1000000000:=Ygc (a:=BB) (by rw[Ydh 1000000000];omega) Zo;by_cases hkz:kk=0
   ·subst hkz
    have hKv:=hK.out;rw[if_pos rfl]at hKv;obtain rfl:K=1:=hKv;clear hK;go_wp2
    go_loopw [9,10] (λa b wr=>∃(i:Nat) (c:Int) (h:Nat->Int),i<=n∧a=.int .i64 c∧b=.int .i64 (i:Int)∧TakI f (xt g (m+1)) 1 i h c∧TInv w0 wr base G n (λj=>if j<i then h j else f j)) (λ_ b _=>(n-intOf b).toNat)
    case atStart=>exact⟨0,0,λ_=>0,Yat _,rfl,rfl,TakI.start _ _ _ _,hTX.congr λj _=>by rw[if_neg Zo]⟩
    case round=>
     clear hTX hHeld;obtain⟨i,c',h,hi,rfl,rfl,hT,hTI⟩:=hrel;have hrow:=hTI.row;by_cases hin:i<n
     ·have hin':(i:Int)<n:=by omega
      have x0:=d1.lo i hin;have x9:=d1.hi i hin;have y0:=Zjw d2.lo i;have y9:=Zpy d2.hi i;have hnx:=hT.next x0 x9 y0 y9 Zo hK9;obtain⟨q0,q9⟩:=Zjy y0 y9 (show 0<=1 by omega) hK9;have r0:=hT.c0;have r9:=hT.c1;have a1:=hrow.cell i hin;rw[if_neg (Yfw i)]at a1;have hat2:=λ(W:World) (hW:Below w0.heap.size w0 W)=>Zfm (some ⟨b',off',none⟩) (m+1) c2 i g W (h2.ext (.of_below hW));go_wp2
      refine wp_region_held_drew (S:=λw'=>w'.cell? ⟨G,i,none⟩=some (.int .i64 (f i))∧Below w0.heap.size w0 w') Zx ⟨a1,hTI.below.drew⟩ (λhHeld=>?_);have hTX:=hTI.drew;generalize wr.drew=X0 at *;refine tk 0 (some 46) ?_;refine tk 1 (some 47) ?_;refine tk 2 (some 48) ?_;refine tk 3 (some 49) ?_;refine tk 4 (some 50) ?_;refine tk 5 (some 51) ?_;refine tk 7 (some 53) ?_;refine tk 10 (some 56) ?_;refine Mono.stc 6 (some 52) (hat2 X0 hHeld.2) (λe X1 hR=>?_);obtain⟨rfl,rfl⟩:=hR;refine⟨(hHeld),λhHeld=>Mono.pt ?_⟩;generalize xt g (m+1) i=y at *;generalize hfi:f i=x at *;refine tk 8 (some 54) ?_;refine tk 9 (some 55) ?_;refine tk 11 (some 57) ?_;refine tk 12 (some 11) ?_;rw[Zcr (z:=y) Zo Zo,Zcr (z:=x-y) Zo Zo,Zcr (z:=x-y+c') Zo Zo];rw[Int.mul_one]at hnx;refine wpAnyH_done Zx ?_ _;have hHB:=hHeld.2;have e1 : -2000000000000000000<=x-y+c':=Zo;have e2:x-y+c'<=1000000000:=Zo;clear hHeld hat2 q0 q9 hT hTI a1 hrow;generalize x-y+c'=e at *;obtain⟨p1,p2⟩:=Zg9 e;have hmm:(e.tmod 1000000000).natAbs<1000000000:=by rw[Ydy];exact Nat.mod_lt _ Zd
      have t1 : -1000000000<e.tmod 1000000000:=Zo;have t2:e.tmod 1000000000<1000000000:=Zo;have hw:wrap64 (e.tdiv 1000000000)=e.tdiv 1000000000:=by
       have:=Yfg e 1000000000;unfold wrap64;omega
      have a3:=hTX.row.cell i hin;have a4:=hTX.row.frozen i;have hst:=hTX.set i (e%1000000000);replace p1:=Yah p1;replace p2:=Yah p2;by_cases hneg:e.tmod 1000000000<0
      ·obtain⟨z1,z2⟩:=p1.out hneg
       go_wp2
       go_roundw
       case rel=>
        refine⟨i+1,e/1000000000,_,Zo,by first|rfl|rw[z2],Zs,hnx,?_⟩;try rw[z1]
        exact hst.congr λj hj=>by
         by_cases hji:j=i
         ·subst hji;simp
         ·simp only[if_neg hji]
          by_cases hlt:j<i
          ·rw[if_pos hlt,if_pos Zo]
          ·rw[if_neg hlt,if_neg Zo]
       case measure=>simp[intOf];omega
      ·obtain⟨z1,z2⟩:=p2.out hneg
       go_wp2
       go_roundw
       case rel=>
        refine⟨i+1,e/1000000000,_,Zo,by first|rfl|rw[z2],Zs,hnx,?_⟩;try rw[z1]
        exact hst.congr λj hj=>by
         by_cases hji:j=i
         ·subst hji;simp
         ·simp only[if_neg hji]
          by_cases hlt:j<i
          ·rw[if_pos hlt,if_pos Zo]
          ·rw[if_neg hlt,if_neg Zo]
       case measure=>simp[intOf];omega
     ·obtain rfl:i=n:=by omega
      have hval:=hT.done (m:=m+1) hnm1 (by rw[hBB.out];exact hKB.out);rw[hBB.out]at hval;have hsl2:SlF wr (.slice (some ⟨G,0,none⟩) i c) i h:=SlF.congr (hrow.slice Zo i (Yab _) c hcap) (λj hj=>if_pos hj);have hmm:=λW1 hW1=>Zbm false (some ⟨G,0,none⟩) i c h W1 (hsl2.ext hW1) Zo hT.lo hT.hi;have hBw:=hTI.below;have hsz:=hTI.size;replace hval:=Yah hval;clear hT hrow hsl2 hx2;go_wp2_with fail
      refine(hmm wr (Ext.refl _)).mono ?_;rintro e W2 ⟨v',rfl,ho2,d3,e3,hb⟩;have hBw2:=Zaa hBw hb;have hsz2:=hb.size;obtain⟨p',c'',rfl⟩:=ho2.shape;have hf0:∀w:World,(Instr.field 45 (.agg #[.bool false,.slice p' (trimN h i) c'']) 1).run Tryz.prog w=.ok (.slice p' (trimN h i) c'') w:=λ_=>Zk;clear hmm hTI hBw;go_wp2
      go_roundw
      case rel=>
       refine⟨trimN h i,h,k+1,ho2.lower Zo,rfl,d3,?_,Zo,hBw2,Zo⟩;rw[e3,hval.out,Yel];omega
      case measure=>simp[intOf];omega
   ·have hKv:=hK.out
    rw[if_neg hkz]at hKv;obtain rfl:K=kk:=hKv;have hkz':(K==0)=false:=by simpa using hkz
    clear hK;go_wp2
    go_loopw [9,10] (λa b wr=>∃(i:Nat) (c:Int) (h:Nat->Int),i<=n∧a=.int .i64 c∧b=.int .i64 (i:Int)∧TakI f (xt g (m+1)) K i h c∧TInv w0 wr base G n (λj=>if j<i then h j else f j)) (λ_ b _=>(n-intOf b).toNat)
    case atStart=>exact⟨0,0,λ_=>0,Yat _,rfl,rfl,TakI.start _ _ _ _,hTX.congr λj _=>by rw[if_neg Zo]⟩
    case round=>
     clear hTX hHeld;obtain⟨i,c',h,hi,rfl,rfl,hT,hTI⟩:=hrel;have hrow:=hTI.row;by_cases hin:i<n
     ·have hin':(i:Int)<n:=by omega
      have x0:=d1.lo i hin;have x9:=d1.hi i hin;have y0:=Zjw d2.lo i;have y9:=Zpy d2.hi i;have hnx:=hT.next x0 x9 y0 y9 Zo hK9;obtain⟨q0,q9⟩:=Zjy y0 y9 (show 0<=K by omega) hK9;have r0:=hT.c0;have r9:=hT.c1;have a1:=hrow.cell i hin;rw[if_neg (Yfw i)]at a1;have hat2:=λ(W:World) (hW:Below w0.heap.size w0 W)=>Zfm (some ⟨b',off',none⟩) (m+1) c2 i g W (h2.ext (.of_below hW));go_wp2
      refine wp_region_held_drew (S:=λw'=>w'.cell? ⟨G,i,none⟩=some (.int .i64 (f i))∧Below w0.heap.size w0 w') Zx ⟨a1,hTI.below.drew⟩ (λhHeld=>?_);have hTX:=hTI.drew;generalize wr.drew=X0 at *;refine tk 0 (some 46) ?_;refine tk 1 (some 47) ?_;refine tk 2 (some 48) ?_;refine tk 3 (some 49) ?_;refine tk 4 (some 50) ?_;refine tk 5 (some 51) ?_;refine tk 7 (some 53) ?_;refine tk 10 (some 56) ?_;refine Mono.stc 6 (some 52) (hat2 X0 hHeld.2) (λe X1 hR=>?_);obtain⟨rfl,rfl⟩:=hR;refine⟨(hHeld),λhHeld=>Mono.pt ?_⟩;generalize xt g (m+1) i=y at *;generalize hfi:f i=x at *;refine tk 8 (some 54) ?_;refine tk 9 (some 55) ?_;refine tk 11 (some 57) ?_;refine tk 12 (some 11) ?_;rw[Zcr (z:=y*K) Zo Zo,Zcr (z:=x-y*K) Zo Zo,Zcr (z:=x-y*K+c') Zo Zo];refine wpAnyH_done Zx ?_ _;have hHB:=hHeld.2;have e1 : -2000000000000000000<=x-y*K+c':=Zo;have e2:x-y*K+c'<=1000000000:=Zo;clear hHeld hat2 q0 q9 hT hTI a1 hrow;generalize x-y*K+c'=e at *;obtain⟨p1,p2⟩:=Zg9 e;have hmm:(e.tmod 1000000000).natAbs<1000000000:=by rw[Ydy];exact Nat.mod_lt _ Zd
      have t1 : -1000000000<e.tmod 1000000000:=Zo;have t2:e.tmod 1000000000<1000000000:=Zo;have hw:wrap64 (e.tdiv 1000000000)=e.tdiv 1000000000:=by
       have:=Yfg e 1000000000;unfold wrap64;omega
      have a3:=hTX.row.cell i hin;have a4:=hTX.row.frozen i;have hst:=hTX.set i (e%1000000000);replace p1:=Yah p1;replace p2:=Yah p2;by_cases hneg:e.tmod 1000000000<0
      ·obtain⟨z1,z2⟩:=p1.out hneg
       go_wp2
       go_roundw
       case rel=>
        refine⟨i+1,e/1000000000,_,Zo,by first|rfl|rw[z2],Zs,hnx,?_⟩;try rw[z1]
        exact hst.congr λj hj=>by
         by_cases hji:j=i
         ·subst hji;simp
         ·simp only[if_neg hji]
          by_cases hlt:j<i
          ·rw[if_pos hlt,if_pos Zo]
          ·rw[if_neg hlt,if_neg Zo]
       case measure=>simp[intOf];omega
      ·obtain⟨z1,z2⟩:=p2.out hneg
       go_wp2
       go_roundw
       case rel=>
        refine⟨i+1,e/1000000000,_,Zo,by first|rfl|rw[z2],Zs,hnx,?_⟩;try rw[z1]
        exact hst.congr λj hj=>by
         by_cases hji:j=i
         ·subst hji;simp
         ·simp only[if_neg hji]
          by_cases hlt:j<i
          ·rw[if_pos hlt,if_pos Zo]
          ·rw[if_neg hlt,if_neg Zo]
       case measure=>simp[intOf];omega
     ·obtain rfl:i=n:=by omega
      have hval:=hT.done (m:=m+1) hnm1 (by rw[hBB.out];exact hKB.out);rw[hBB.out]at hval;have hsl2:SlF wr (.slice (some ⟨G,0,none⟩) i c) i h:=SlF.congr (hrow.slice Zo i (Yab _) c hcap) (λj hj=>if_pos hj);have hmm:=λW1 hW1=>Zbm false (some ⟨G,0,none⟩) i c h W1 (hsl2.ext hW1) Zo hT.lo hT.hi;have hBw:=hTI.below;have hsz:=hTI.size;replace hval:=Yah hval;clear hT hrow hsl2 hx2;go_wp2_with fail
      refine(hmm wr (Ext.refl _)).mono ?_;rintro e W2 ⟨v',rfl,ho2,d3,e3,hb⟩;have hBw2:=Zaa hBw hb;have hsz2:=hb.size;obtain⟨p',c'',rfl⟩:=ho2.shape;have hf0:∀w:World,(Instr.field 45 (.agg #[.bool false,.slice p' (trimN h i) c'']) 1).run Tryz.prog w=.ok (.slice p' (trimN h i) c'') w:=λ_=>Zk;clear hmm hTI hBw;go_wp2
      go_roundw
      case rel=>
       refine⟨trimN h i,h,k+K,ho2.lower Zo,rfl,d3,?_,Zo,hBw2,Zo⟩;rw[e3,hval.out,Yel];omega
      case measure=>simp[intOf];omega
  ·rw[decide_eq_true Zo]at hless
   have hdiv:vf f n=RR%BB∧k=RR/BB:=by
    rw[<-hv,Int.add_mul_ediv_right _ _ Zo,Int.ediv_eq_zero_of_lt hf0 Zo,Int.zero_add,Int.add_mul_emod_self_right,Int.emod_eq_of_lt hf0 Zo];exact⟨rfl,rfl⟩
   replace hdiv:=Yah hdiv;go_wp2_with fail
   refine(hless wr (Ext.refl _)).mono ?_;rintro e W1 ⟨rfl,kl,rfl⟩;clear hv hx2;go_wp2
   go_ret2
   refine⟨_,n,f,k,rfl,ho.below (below_drewN (Yae _ _) _),d1,hdiv.out.1,hdiv.out.2,below_drewN hB0 _,hbase⟩
theorem Zy1 (a b:Rat) (u v:Value) (w wf:World) (hx:Ext wf w) (ha:QV wf u a) (hb:QV wf v b) (hf:Fits (a+b)) :
  Calls Tryz.prog 18 #[u,v] w λe w'=>∃r,e=.returned (.tuple #[r,.int .i64 0])∧QV w' r (a+b)∧Below w.heap.size w w':=by
 replace ha:=ha.ext hx;replace hb:=hb.ext hx;clear hx;have ha':=ha;have hb':=hb;obtain⟨p1,k1,c1,q1,l1,d1,rfl,_,_⟩:=ha;obtain⟨p2,k2,c2,q2,l2,d2,rfl,_,_⟩:=hb;go_enter Tryz.func18,Tryz.ntmps18
 go_wp2_with fail
 refine Zbx λW hB hs b0 b1 b2=>?_;refine(Zus a b _ _ W (ha'.ext (.of_below hB)) (hb'.ext (.of_below hB)) hf).mono ?_;rintro e W1 ⟨r,rfl,⟨p7,k7,c7,q7,l7,d7,rfl,z7,y7⟩,hb7⟩;replace hB:=Zaa hB hb7;replace b2:=b2.below hb7;have cb2:=b2.cell;have lb2:=b2.lt;have fb2:=b2.frozen;go_wp2
 have b3':=((((b2.set 0 (.bool (decide ((a+b).num<0)))).set 1 (.slice p7 k7 c7)).set 2 (.bool false)).set 3 (.slice q7 l7 d7)).cell;have xE:Ext W1 _:=(((((Ext.refl W1).set b2 Zd 0 (.bool (decide ((a+b).num<0)))).set (b2.set 0 (.bool (decide ((a+b).num<0)))) Zd 1 (.slice p7 k7 c7))).set ((b2.set 0 (.bool (decide ((a+b).num<0)))).set 1 (.slice p7 k7 c7)) Zd 2 (.bool false)).set (((b2.set 0 (.bool (decide ((a+b).num<0)))).set 1 (.slice p7 k7 c7)).set 2 (.bool false)) Zd 3 (.slice q7 l7 d7);refine bodyPost_ret (v:=.tuple #[.agg #[.bool (decide ((a+b).num<0)),.slice p7 k7 c7,.bool false,.slice q7 l7 d7],.int .i64 0]) (by simp[results,Tryz.results18,go_sem,b3']) rfl ⟨_,rfl,⟨_,_,_,_,_,_,rfl,z7.ext xE,y7.ext xE⟩,?_⟩;exact Zaf (Zaf (Zaf (Zaf hB Zo _ _) Zo _ _) Zo _ _) Zo _ _
theorem Zq9 (a b:Rat) (u v:Value) (w wf:World) (hx:Ext wf w) (ha:QV wf u a) (hb:QV wf v b) (hf:Fits (a-b)) :
  Calls Tryz.prog 37 #[u,v] w λe w'=>∃r,e=.returned (.tuple #[r,.int .i64 0])∧QV w' r (a-b)∧Below w.heap.size w w':=by
 replace ha:=ha.ext hx;replace hb:=hb.ext hx;clear hx;have ha':=ha;have hb':=hb;obtain⟨p1,k1,c1,q1,l1,d1,rfl,_,_⟩:=ha;obtain⟨p2,k2,c2,q2,l2,d2,rfl,_,_⟩:=hb;go_enter Tryz.func37,Tryz.ntmps37
 go_wp2_with fail
 refine Zbx λW hB hs b0 b1 b2=>?_;refine(Zq7 a b _ _ W (ha'.ext (.of_below hB)) (hb'.ext (.of_below hB)) hf).mono ?_;rintro e W1 ⟨r,rfl,⟨p7,k7,c7,q7,l7,d7,rfl,z7,y7⟩,hb7⟩;replace hB:=Zaa hB hb7;replace b2:=b2.below hb7;have cb2:=b2.cell;have lb2:=b2.lt;have fb2:=b2.frozen;go_wp2
 have b3':=((((b2.set 0 (.bool (decide ((a-b).num<0)))).set 1 (.slice p7 k7 c7)).set 2 (.bool false)).set 3 (.slice q7 l7 d7)).cell;have xE:Ext W1 _:=(((((Ext.refl W1).set b2 Zd 0 (.bool (decide ((a-b).num<0)))).set (b2.set 0 (.bool (decide ((a-b).num<0)))) Zd 1 (.slice p7 k7 c7))).set ((b2.set 0 (.bool (decide ((a-b).num<0)))).set 1 (.slice p7 k7 c7)) Zd 2 (.bool false)).set (((b2.set 0 (.bool (decide ((a-b).num<0)))).set 1 (.slice p7 k7 c7)).set 2 (.bool false)) Zd 3 (.slice q7 l7 d7);refine bodyPost_ret (v:=.tuple #[.agg #[.bool (decide ((a-b).num<0)),.slice p7 k7 c7,.bool false,.slice q7 l7 d7],.int .i64 0]) (by simp[results,Tryz.results37,go_sem,b3']) rfl ⟨_,rfl,⟨_,_,_,_,_,_,rfl,z7.ext xE,y7.ext xE⟩,?_⟩;exact Zaf (Zaf (Zaf (Zaf hB Zo _ _) Zo _ _) Zo _ _) Zo _ _
theorem Zra (a b:Rat) (u v:Value) (w wf:World) (hx:Ext wf w) (ha:QV wf u a) (hb:QV wf v b) (hf:Fits (a*b)) :
  Calls Tryz.prog 17 #[u,v] w λe w'=>∃r,e=.returned (.tuple #[r,.int .i64 0])∧QV w' r (a*b)∧Below w.heap.size w w':=by
 replace ha:=ha.ext hx;replace hb:=hb.ext hx;clear hx;have ha':=ha;have hb':=hb;obtain⟨p1,k1,c1,q1,l1,d1,rfl,_,_⟩:=ha;obtain⟨p2,k2,c2,q2,l2,d2,rfl,_,_⟩:=hb;go_enter Tryz.func17,Tryz.ntmps17
 go_wp2_with fail
 refine Zbx λW hB hs b0 b1 b2=>?_;refine(Zq8 a b _ _ W (ha'.ext (.of_below hB)) (hb'.ext (.of_below hB)) hf).mono ?_;rintro e W1 ⟨r,rfl,⟨p7,k7,c7,q7,l7,d7,rfl,z7,y7⟩,hb7⟩;replace hB:=Zaa hB hb7;replace b2:=b2.below hb7;have cb2:=b2.cell;have lb2:=b2.lt;have fb2:=b2.frozen;go_wp2
 have b3':=((((b2.set 0 (.bool (decide ((a*b).num<0)))).set 1 (.slice p7 k7 c7)).set 2 (.bool false)).set 3 (.slice q7 l7 d7)).cell;have xE:Ext W1 _:=(((((Ext.refl W1).set b2 Zd 0 (.bool (decide ((a*b).num<0)))).set (b2.set 0 (.bool (decide ((a*b).num<0)))) Zd 1 (.slice p7 k7 c7))).set ((b2.set 0 (.bool (decide ((a*b).num<0)))).set 1 (.slice p7 k7 c7)) Zd 2 (.bool false)).set (((b2.set 0 (.bool (decide ((a*b).num<0)))).set 1 (.slice p7 k7 c7)).set 2 (.bool false)) Zd 3 (.slice q7 l7 d7);refine bodyPost_ret (v:=.tuple #[.agg #[.bool (decide ((a*b).num<0)),.slice p7 k7 c7,.bool false,.slice q7 l7 d7],.int .i64 0]) (by simp[results,Tryz.results17,go_sem,b3']) rfl ⟨_,rfl,⟨_,_,_,_,_,_,rfl,z7.ext xE,y7.ext xE⟩,?_⟩;exact Zaf (Zaf (Zaf (Zaf hB Zo _ _) Zo _ _) Zo _ _) Zo _ _
theorem Zy2 (a b:Rat) (u v:Value) (w wf:World) (hx:Ext wf w) (ha:QV wf u a) (hb:QV wf v b) (h0:b.num≠0) (hf:Fits (a/b)) :
  Calls Tryz.prog 16 #[u,v] w λe w'=>∃r,e=.returned (.tuple #[r,.int .i64 0])∧QV w' r (a/b)∧Below w.heap.size w w':=by
 replace ha:=ha.ext hx;replace hb:=hb.ext hx;clear hx;have ha':=ha;have hb':=hb;obtain⟨p1,k1,c1,q1,l1,d1,rfl,_,_⟩:=ha;obtain⟨p2,k2,c2,q2,l2,d2,rfl,y1,_⟩:=hb;have hk2:((k2:Int)==0)=false:=by
  have:=y1.len_pos.1 Zo;simp;omega
 clear y1;go_enter Tryz.func16,Tryz.ntmps16
 go_wp2_with fail
 refine Zq5 λW hB hs b0 b1 b2 b3=>?_;replace ha':=ha'.ext (.of_below hB);replace hb':=hb'.ext (.of_below hB);refine(Zq6 a b _ _ _ _ p1 q1 p2 q2 k1 c1 l1 d1 k2 c2 l2 d2 _ _ b3 ha' hb').mono ?_;rintro e W1 ⟨rfl,hb1⟩;replace hB:=Zaa hB hb1;replace ha':=ha'.ext (.of_below hb1);replace hb':=hb'.ext (.of_below hb1);replace b0:=b0.below hb1;try clear cb0 lb0 fb0
 have cb0:=b0.cell;have lb0:=b0.lt;have fb0:=b0.frozen;replace b1:=b1.below hb1;try clear cb1 lb1 fb1
 have cb1:=b1.cell;have lb1:=b1.lt;have fb1:=b1.frozen;replace b2:=b2.below hb1;try clear cb2 lb2 fb2
 have cb2:=b2.cell;have lb2:=b2.lt;have fb2:=b2.frozen;go_wp2_with fail
 refine(Zut a b _ _ W1 ha' hb' h0 hf).mono ?_;rintro e W2 ⟨r,rfl,⟨p7,k7,c7,q7,l7,d7,rfl,z7,y7⟩,hb7⟩;replace hB:=Zaa hB hb7;replace b2:=b2.below hb7;clear cb2 lb2 fb2;have cb2:=b2.cell;have lb2:=b2.lt;have fb2:=b2.frozen;go_wp2
 have b3':=((((b2.set 0 (.bool (decide ((a/b).num<0)))).set 1 (.slice p7 k7 c7)).set 2 (.bool false)).set 3 (.slice q7 l7 d7)).cell;have xE:Ext W2 _:=(((((Ext.refl W2).set b2 Zd 0 (.bool (decide ((a/b).num<0)))).set (b2.set 0 (.bool (decide ((a/b).num<0)))) Zd 1 (.slice p7 k7 c7))).set ((b2.set 0 (.bool (decide ((a/b).num<0)))).set 1 (.slice p7 k7 c7)) Zd 2 (.bool false)).set (((b2.set 0 (.bool (decide ((a/b).num<0)))).set 1 (.slice p7 k7 c7)).set 2 (.bool false)) Zd 3 (.slice q7 l7 d7);refine bodyPost_ret (v:=.tuple #[.agg #[.bool (decide ((a/b).num<0)),.slice p7 k7 c7,.bool false,.slice q7 l7 d7],.int .i64 0]) (by simp[results,Tryz.results16,go_sem,b3']) rfl ⟨_,rfl,⟨_,_,_,_,_,_,rfl,z7.ext xE,y7.ext xE⟩,?_⟩;exact Zaf (Zaf (Zaf (Zaf hB Zo _ _) Zo _ _) Zo _ _) Zo _ _
end Go.Proofs.W
