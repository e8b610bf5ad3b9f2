/- Contracts of package paraxial,and a verified evaluator. Part 12 of 28. No condition beside the row. -/
import Derived.Test.YtfgmlkjibdegfaaGreatDoorA11
set_option linter.unusedVariables false
set_option linter.unusedSimpArgs false
set_option maxRecDepth 100000
set_option maxHeartbeats 4000000
namespace Go.Mono
open Go.RowKit
theorem Znx (a b:Int) (hb:b≠0) :
  Sg (decide (a<0) != decide (b<0)) (Rat.divInt a b).num∧((Rat.divInt a b).num.natAbs:Int)=(a.natAbs:Int)/gcdZ a.natAbs b.natAbs∧((Rat.divInt a b).den:Int)=(b.natAbs:Int)/gcdZ a.natAbs b.natAbs:=by
 have hg:gcdZ a.natAbs b.natAbs=((b.gcd a:Nat):Int):=by
  simp only[gcdZ,Ycb,Int.gcd];rw[Nat.gcd_comm]
 have hg0:0<b.gcd a:=Int.gcd_pos_of_ne_zero_left _ hb;have hs:(b.sign*a).natAbs=a.natAbs:=by
  rw[Yde,Int.natAbs_sign_of_ne_zero hb,Nat.one_mul]
 refine⟨?_,?_,?_⟩
 ·rw[Rat.num_divInt]
  refine Sg.div ?_ Zo;rcases Yge hb with h|h
  ·rw[Yep h]
   constructor<;>intro hh<;>simp[h]at hh<;>omega
  ·rw[Yeg h]
   constructor<;>intro hh<;>simp[show ¬b<0 by omega]at hh<;>omega
 ·rw[Rat.num_divInt,hg]
  have hd:b.gcd a ∣ (b.sign*a).natAbs:=by
   rw[hs];exact Nat.gcd_dvd_right _ _
  rw[Zdv hd,hs]
 ·rw[Rat.den_divInt,if_neg hb,hg]
  simp
end Go.Mono
namespace Go.Proofs.W
open Go.RowKit Go.Mono
structure PInv (w wr:World) (R L:Nat) (d:Nat->Int) (A0 A1:Array Value):Prop where
 row:RowF wr R L d
 lo:∀j,j<L->0<=d j
 hi:∀j,j<L->d j<1000000000
 b0:Box wr w.heap.size 52 A0
 b1:Box wr (w.heap.size+1) 52 A1
 b2:Box wr (w.heap.size+1+1) 52 #[.bool false,.slice none 0 0]
 below:Below w.heap.size w wr
 above:w.heap.size+1+1+1<=R
theorem PInv.set {w wr:World} {R L:Nat} {d:Nat->Int} {A0 A1:Array Value} (h:PInv w wr R L d A0 A1) (j:Nat) (x:Int) (x0:0<=x) (x1:x<1000000000) :
  PInv w (wr.setCell ⟨R,j,none⟩ (.int .i64 x)) R L (λi=>if i=j then x else d i) A0 A1:=by
 have ha:=h.above;refine⟨h.row.set j x,λi hi=>?_,λi hi=>?_,h.b0.other _ _ (by show w.heap.size≠R;omega),h.b1.other _ _ (by show w.heap.size+1≠R;omega),h.b2.other _ _ (by show w.heap.size+1+1≠R;omega),Zai h.below Zo _ _,ha⟩
 ·split
  ·exact x0
  ·exact h.lo i hi
 ·split
  ·exact x1
  ·exact h.hi i hi
theorem PInv.drewN {w wr:World} {R L:Nat} {d:Nat->Int} {A0 A1:Array Value} (h:PInv w wr R L d A0 A1) (k:Nat):PInv w (wr.drewN k) R L d A0 A1:=
 ⟨h.row.drewN k,h.lo,h.hi,⟨h.b0.blk⟩,⟨h.b1.blk⟩,⟨h.b2.blk⟩,below_drewN h.below k,h.above⟩
theorem Zrb {f g:Nat->Int} {n m i k:Nat} (d1:Digs f n) (d2:Digs g m) (hi:i<n) (hk:k<m):vf f i*vf g m+f i*pw i*vf g (k+1)<pw (n+m):=by
 have f0:=d1.lo i hi;have p0:=Zba i;have hg:vf g (k+1)<=vf g m:=by
  obtain⟨e,rfl⟩:=Yfe (show k+1<=m by omega);rw[Zci g (k+1) e];have h1:0<=vf (λj=>g (k+1+j)) e:=Zar λj hj=>d2.lo _ Zo;have:=Ycg (Yap (Zba (k+1))) h1;omega
 have h1:f i*pw i*vf g (k+1)<=f i*pw i*vf g m:=Ycr hg (Ycg f0 (Yap p0));have h2:vf f i*vf g m+f i*pw i*vf g m=vf f (i+1)*vf g m:=by rw[Zal,Yel]
 have h3:vf f (i+1)<pw (i+1):=Zb7 λj hj=>d1.hi j Zo;have h4:vf g m<pw m:=d2.lt;have h5:0<=vf g m:=d2.nonneg;have h6:0<=vf f (i+1):=Zar λj hj=>d1.lo j Zo;have h7:vf f (i+1)*vf g m<=pw (i+1)*vf g m:=Yaw (Yap h3) h5;have h8:pw (i+1)*vf g m<pw (i+1)*pw m:=Int.mul_lt_mul_of_pos_left h4 (Zba _);have h9:=Zbt (show i+1+m<=n+m by omega);rw[Zfr]at h9;omega
theorem Zi5 (s t:Bool) (p q:Option Addr) (n m c1 c2:Nat) (f g:Nat->Int) (w:World) (h1:SlF w (.slice p n c1) n f) (h2:SlF w (.slice q m c2) m g) (d1:Digs f n) (d2:Digs g m) (hn6:n<=100000) (hm6:m<=100000) :
  Calls Tryz.prog 152 #[.agg #[.bool s,.slice p n c1],.agg #[.bool t,.slice q m c2]] w λe w'=>∃p k c h,e=.returned (.agg #[.bool ((s != t)&&decide (0<vf f n*vf g m)),.slice p k c])∧SlF w' (.slice p k c) k h∧Digs h k∧vf h k=vf f n*vf g m∧k<=n+m∧Below w.heap.size w w':=by
 obtain⟨hc1,hn1,hx1⟩:=h1.opens;obtain⟨hc2,hn2,hx2⟩:=h2.opens;obtain⟨sg,hsg⟩:∃sg:Bool,((s != t)&&decide (0<vf f n*vf g m))=sg:=⟨_,rfl⟩
 rw[hsg];replace hsg:=Yah hsg;go_enter Tryz.func152,Tryz.ntmps152
 go_wp2_with (first
  | (at_make;refine Za5 _ rfl _ _ 33 rfl Tryz.underlying33 Zbz _ _ (n+m) rfl rfl Zs Zs Zo ?_;intro W1 r1 hb1))
 have hR:((((w.alloc (.cells #[.bool s,.slice p n c1] 52)).alloc (.cells #[.bool t,.slice q m c2] 52)).alloc (.cells #[.bool false,.slice none 0 0] 52))).heap.size=w.heap.size+1+1+1:=Zs;rw[hR]at r1;have hB:=Zaa (Zcp w (.cells #[.bool s,.slice p n c1] 52) (.cells #[.bool t,.slice q m c2] 52) (.cells #[.bool false,.slice none 0 0] 52)) hb1;have hI0:PInv w W1 (w.heap.size+1+1+1) (n+m) (λ_=>0) #[.bool s,.slice p n c1] #[.bool t,.slice q m c2]:=by
  have b1:=Box.new (w.alloc (.cells #[.bool s,.slice p n c1] 52)) 52 #[.bool t,.slice q m c2];simp only[Yav]at b1;exact⟨r1,λ_ _=>Yek _,λ_ _=>Zd,(((Box.new _ _ _).alloc _).alloc _).below hb1,(b1.alloc _).below hb1,(Zgb w _ _ _ _ _ _).below hb1,hB,Yab _⟩
 clear hb1 hB hR r1;go_loopw [6] (λa wr=>∃(i:Nat) (d:Nat->Int),i<=n∧a=.int .i64 (i:Int)∧vf d (n+m)=vf f i*vf g m∧PInv w wr (w.heap.size+1+1+1) (n+m) d #[.bool s,.slice p n c1] #[.bool t,.slice q m c2]) (λa _=>(n-intOf a).toNat)
 case atStart=>exact⟨0,_,Yat _,rfl,by rw[Zdq (λi _=>rfl)];simp[vf],hI0⟩
 case round=>
  clear hI0;obtain⟨i,d,hi,rfl,hv,hI⟩:=hrel;replace hv:=Yah hv;have b0:=hI.b0;have b1:=hI.b1;have cb0:=b0.cell;have lb0:=b0.lt;have fb0:=b0.frozen;have cb1:=b1.cell;have lb1:=b1.lt;have fb1:=b1.frozen;by_cases hin:i<n
  ·have hin':(i:Int)<n:=by omega
   go_wp2
   clear cb0 lb0 fb0 cb1 lb1 fb1 b0 b1;go_loopw [7] (λa wr=>∃(k:Nat) (d:Nat->Int),k<=m∧a=.int .i64 (k:Int)∧vf d (n+m)=vf f i*vf g m+f i*pw i*vf g k∧PInv w wr (w.heap.size+1+1+1) (n+m) d #[.bool s,.slice p n c1] #[.bool t,.slice q m c2]) (λa _=>(m-intOf a).toNat)
   case atStart=>exact⟨0,d,Yat _,rfl,by rw[hv.out];simp[vf],hI⟩
   case round=>
    clear hI hv d;obtain⟨k,d,hk,rfl,hv,hI⟩:=hrel;replace hv:=Yah hv;have b0:=hI.b0;have b1:=hI.b1;have cb0:=b0.cell;have lb0:=b0.lt;have fb0:=b0.frozen;have cb1:=b1.cell;have lb1:=b1.lt;have fb1:=b1.frozen;by_cases hkm:k<m
    ·have hkm':(k:Int)<m:=by omega
     obtain⟨b,off,rfl,hb,hcell⟩:=hx1 Zo;obtain⟨b',off',rfl,hb',hcell'⟩:=hx2 Zo;have a1:=(hI.below.cell (p:=⟨b,off+i,none⟩) hb).trans (hcell i hin);have a2:=(hI.below.cell (p:=⟨b',off'+k,none⟩) hb').trans (hcell' k hkm);obtain⟨m0,m1⟩:=Zi3 (d1.lo i hin) (d1.hi i hin) (d2.lo k hkm) (d2.hi k hkm);clear hcell hcell';go_wp2
     go_quiet (fail)
     go_wp2
     have hroom:=Zrb d1 d2 hin hkm;have hv2:vf d (n+m)+f i*g k*pw (i+k)=vf f i*vf g m+f i*pw i*vf g (k+1):=by
      rw[hv.out,Zal,Zfr];grind
     have hIq:=hI.drewN nq;obtain⟨V,hV⟩:∃V,vf f i*vf g m+f i*pw i*vf g (k+1)=V:=⟨_,rfl⟩
     rw[hV]at hroom hv2;replace hV:=Yah hV;generalize f i*g k=x0 at *;clear hv hI cb0 lb0 fb0 cb1 lb1 fb1 b0 b1 a1 a2;go_loopw [8,9] (λu v wr=>∃(x:Int) (j:Nat) (d:Nat->Int),0<=x∧x<=999999999*999999999∧u=.int .i64 x∧v=.int .i64 (j:Int)∧vf d (n+m)+x*pw j=V∧PInv w wr (w.heap.size+1+1+1) (n+m) d #[.bool s,.slice (some ⟨b,off,none⟩) n c1] #[.bool t,.slice (some ⟨b',off',none⟩) m c2]) (λ_ v _=>(n+m-intOf v).toNat)
     case atStart=>exact⟨x0,i+k,d,m0,m1,rfl,Zs,hv2,hIq⟩
     case round=>
      clear hIq hv2 d;obtain⟨x,j,d,hx0,hx9,rfl,rfl,hv,hI⟩:=hrel;by_cases hgo:0<x
      ·have hj:=Zon hI.lo hv hgo hroom
       have hpc:=Zq7 d (n+m) j x hj;have a1:=hI.row.cell j hj;have a2:=hI.row.frozen j;have q1:=hI.lo j hj;have q2:=hI.hi j hj;have hst:=hI.set j ((x+d j)%1000000000) Zo Zo;have hj1:(j:Int)<(n:Int)+m:=Zo;generalize hdj:d j=y at *;clear hI;go_wp2
       go_roundw
       case rel=>
        refine⟨(x+y)/1000000000,j+1,_,Zo,Zo,by first|rfl|simp,Zs,?_,hst⟩;rw[<-hv];exact hpc
       case measure=>simp[intOf];omega
      ·obtain rfl:x=0:=by omega
       have hv3:vf d (n+m)=V:=by simpa using hv
       go_wp2
       go_roundw
       case rel=>exact⟨k+1,d,Zo,Zs,by rw[hv3,hV.out],hI⟩
       case measure=>simp[intOf];omega
    ·obtain rfl:k=m:=by omega
     have hv3:vf d (n+k)=vf f (i+1)*vf g k:=by rw[hv.out,Zal,Yel]
     clear hv;go_wp2
     go_roundw
     case rel=>exact⟨i+1,d,Zo,Zs,hv3,hI⟩
     case measure=>simp[intOf];omega
  ·obtain rfl:i=n:=by omega
   have hmm:=λW1 hW1=>Zbp (s != t) (some ⟨w.heap.size+1+1+1,0,none⟩) (i+m) (i+m) d W1 ((hI.row.slice Zo (i+m) (Yab _) (i+m) (Yab _)).ext hW1) Zo hI.lo hI.hi;rw[hv.out,hsg.out]at hmm;have b2:=hI.b2;have hB:=hI.below;clear hx1 hx2;go_wp2_with fail
   refine(hmm wr (Ext.refl _)).mono ?_;rintro e W2 ⟨v',rfl,ho2,d3,e3,hb⟩;replace b2:=b2.below hb;have hB1:=Zaa hB hb;obtain⟨p',c',rfl⟩:=ho2.shape;have hsl:=ho2.sl (by have:=Za7 d (i+m);omega);clear hmm ho2 b0 b1 cb0 cb1 fb0 fb1 lb0 lb1 hI;go_wp2_with first|(refine Zab rfl 52 _ _ rfl (w.heap.size+1+1) 0 52 _ #[.bool sg,.slice p' (trimN d (i+m)) c'] #[.bool sg,.slice p' (trimN d (i+m)) c'] rfl rfl b2 Zae (Yaa rfl) (Zas _ _ _ _) (Zah rfl) ?_;intro W3 hk b4)
   have hb2:=hk.below hB1 Zo hB1.size;refine bodyPost_ret (b4.results rfl _ _ rfl Tryz.underlying52 rfl Zae) rfl ⟨p',_,c',d,rfl,hsl.ext (hk.ext b2 Zd),d3,e3,Za7 d (i+m),hb2⟩
end Go.Proofs.W
namespace Go.Mono
theorem Zd8 (a b:Int) (hb:b≠0):(Rat.divInt a b).num.natAbs<=a.natAbs∧(Rat.divInt a b).den<=b.natAbs:=by
 constructor
 ·rw[Rat.num_divInt]
  have h1:(b.sign*a/(b.gcd a:Int)).natAbs<=(b.sign*a).natAbs:=Int.natAbs_ediv_le_natAbs _ _;have h2:(b.sign*a).natAbs=a.natAbs:=by rw[Yde,Int.natAbs_sign_of_ne_zero hb,Nat.one_mul]
  omega
 ·rw[Rat.den_divInt,if_neg hb]
  exact Nat.div_le_self _ _
def Ov (N D:Nat) (x:Rat):Prop:=0<D∧∃z:Int,x=Rat.divInt z D∧z.natAbs<=N
theorem Ov.mul {N D N' D':Nat} {x y:Rat} (h:Ov N D x) (g:Ov N' D' y):Ov (N*N') (D*D') (x*y):=by
 obtain⟨h0,z,rfl,hz⟩:=h;obtain⟨g0,z',rfl,gz⟩:=g;refine⟨Nat.mul_pos h0 g0,z*z',?_,?_⟩
 ·rw[Rat.divInt_mul_divInt,Ycw]
 ·rw[Yde]
  exact Ybv hz gz
theorem Ov.add {N D N' D':Nat} {x y:Rat} (h:Ov N D x) (g:Ov N' D' y):Ov (N*D'+N'*D) (D*D') (x+y):=by
 obtain⟨h0,z,rfl,hz⟩:=h;obtain⟨g0,z',rfl,gz⟩:=g;refine⟨Nat.mul_pos h0 g0,z*D'+z'*D,?_,?_⟩
 ·rw[Rat.divInt_add_divInt _ _ Zo Zo,Ycw]
 ·refine Yak (Int.natAbs_add_le _ _) ?_
  rw[Yde,Yde,Int.natAbs_natCast,Int.natAbs_natCast];exact Nat.add_le_add (Ybd _ hz) (Ybd _ gz)
theorem Ov.neg {N D:Nat} {x:Rat} (h:Ov N D x):Ov N D (-x):=by
 obtain⟨h0,z,rfl,hz⟩:=h;exact⟨h0,-z,Rat.neg_divInt _ _,by simpa using hz⟩
theorem Ov.sub {N D N' D':Nat} {x y:Rat} (h:Ov N D x) (g:Ov N' D' y):Ov (N*D'+N'*D) (D*D') (x-y):=by
 rw[Ygd];exact h.add g.neg
theorem Zle (a b:Int) (D:Nat) (h:0<D):Rat.divInt a D+Rat.divInt b D=Rat.divInt (a+b) D:=by
 rw[Rat.divInt_add_divInt _ _ Zo Zo,<-Yel,Rat.divInt_mul_right Zo]
theorem Ov.add_same {N D N':Nat} {x y:Rat} (h:Ov N D x) (g:Ov N' D y):Ov (N+N') D (x+y):=by
 obtain⟨h0,z,rfl,hz⟩:=h;obtain⟨g0,z',rfl,gz⟩:=g;refine⟨h0,z+z',Zle _ _ _ h0,?_⟩;have:=Int.natAbs_add_le z z';omega
theorem Ov.sub_same {N D N':Nat} {x y:Rat} (h:Ov N D x) (g:Ov N' D y):Ov (N+N') D (x-y):=by
 rw[Ygd];exact h.add_same g.neg
theorem Ov.mono {N M D:Nat} {x:Rat} (h:Ov N D x) (hN:N<=M):Ov M D x:=by
 obtain⟨h0,z,rfl,hz⟩:=h;exact⟨h0,z,rfl,Yak hz hN⟩
theorem Ov.scale {N D:Nat} {x:Rat} (h:Ov N D x) (k:Nat) (hk:0<k):Ov (N*k) (D*k) x:=by
 obtain⟨h0,z,rfl,hz⟩:=h;refine⟨Nat.mul_pos h0 hk,z*k,?_,?_⟩
 ·rw[Ycw,Rat.divInt_mul_right Zo]
 ·rw[Yde,Int.natAbs_natCast]
  exact Ybd _ hz
theorem Ov.of (z:Int) (d:Nat) (hd:0<d) (N:Nat) (h:z.natAbs<=N):Ov N d (Rat.divInt z d):=⟨hd,z,rfl,h⟩
theorem Ov.self (x:Rat):Ov x.num.natAbs x.den x:=⟨x.den_pos,x.num,(Yds x).symm,Yab _⟩
theorem Ov.num_le {N D:Nat} {x:Rat} (h:Ov N D x):x.num.natAbs<=N∧x.den<=D:=by
 obtain⟨h0,z,rfl,hz⟩:=h;have:=Zd8 z D Zo;exact⟨Yak this.1 hz,by simpa using this.2⟩
def Hs (k:Nat) (x:Rat):Prop:=x.num.natAbs<=10 ^ k∧x.den<=10 ^ k
theorem Hs.mono {k l:Nat} {x:Rat} (h:Hs k x) (hl:k<=l):Hs l x:=by
 have:=Nat.pow_le_pow_right (n:=10) Zo hl;exact⟨Yak h.1 this,Yak h.2 this⟩
theorem Hs.of_ov {N D k:Nat} {x:Rat} (h:Ov N D x) (hN:N<=10 ^ k) (hD:D<=10 ^ k):Hs k x:=
 ⟨Yak h.num_le.1 hN,Yak h.num_le.2 hD⟩
theorem Hs.ov {k:Nat} {x:Rat} (h:Hs k x):Ov (10 ^ k) x.den x:=(Ov.self x).mono h.1
theorem Hs.mul {k l:Nat} {x y:Rat} (h:Hs k x) (g:Hs l y):Hs (k+l) (x*y):=by
 refine Hs.of_ov ((Ov.self x).mul (Ov.self y)) ?_ ?_
 ·rw[Ydn];exact Ybv h.1 g.1
 ·rw[Ydn];exact Ybv h.2 g.2
theorem Hs.add {k l:Nat} {x y:Rat} (h:Hs k x) (g:Hs l y):Hs (k+l+1) (x+y):=by
 refine Hs.of_ov ((Ov.self x).add (Ov.self y)) ?_ ?_
 ·have e1:=Ybv h.1 g.2
  have e2:=Ybv g.1 h.2;rw[Nat.pow_succ,Ydn];rw[Ycu (10 ^ l)]at e2;omega
 ·have:=Ybv h.2 g.2
  rw[Nat.pow_succ,Ydn];omega
theorem Hs.neg {k:Nat} {x:Rat} (h:Hs k x):Hs k (-x):=by
 refine⟨?_,h.2⟩;rw[Rat.neg_num,Int.natAbs_neg];exact h.1
theorem Hs.sub {k l:Nat} {x y:Rat} (h:Hs k x) (g:Hs l y):Hs (k+l+1) (x-y):=by
 rw[Ygd];exact h.add g.neg
theorem Hs.inv {k:Nat} {x:Rat} (h:Hs k x):Hs k x⁻¹:=by
 by_cases h0:x.num=0
 ·obtain rfl:x=0:=Rat.num_eq_zero.1 h0
  rw[Rat.inv_zero];exact h
 ·have e:x⁻¹=Rat.divInt x.den x.num:=by
   rw[<-Rat.inv_divInt,Yds]
  have:=Zd8 x.den x.num h0;rw[<-e]at this;exact⟨Yak this.1 (by simpa using h.2),Yak this.2 h.1⟩
theorem Hs.div {k l:Nat} {x y:Rat} (h:Hs k x) (g:Hs l y):Hs (k+l) (x/y):=by
 rw[Yew];exact h.mul g.inv
theorem Hs.divInt {k:Nat} (a b:Int) (hb:b≠0) (h1:a.natAbs<=10 ^ k) (h2:b.natAbs<=10 ^ k):Hs k (Rat.divInt a b):=by
 have:=Zd8 a b hb;exact⟨Yak this.1 h1,Yak this.2 h2⟩
end Go.Mono
namespace Go.Proofs.W
open Go.RowKit Go.Mono
theorem Zvk (a b:Int) (h0:b≠0) (p q:Option Addr) (k c l d:Nat) (w wf:World) (hx:Ext wf w) (x:Sz 600 wf (.slice p k c) a.natAbs) (y:Sz 600 wf (.slice q l d) b.natAbs) :
  Calls Tryz.prog 122 #[.agg #[.bool (decide (a<0)),.slice p k c],.agg #[.bool (decide (b<0)),.slice q l d]] w λe w'=>∃r,e=.returned (.tuple #[r,.int .i64 0])∧QV w' r (Rat.divInt a b)∧Below w.heap.size w w':=by
 replace x:=x.ext hx;replace y:=y.ext hx;clear hx;obtain⟨g1,g2,g3⟩:=Znx a b h0;have hi0:∀w:World,(Instr.index 231 (.agg #[.bool (decide (a<0)),.slice p k c,.bool (decide (b<0)),.slice q l d]) (.int .i64 0)).run Tryz.prog w=.ok (.agg #[.bool (decide (a<0)),.slice p k c]) w:=λ_=>Zk;have hi1:∀w:World,(Instr.index 231 (.agg #[.bool (decide (a<0)),.slice p k c,.bool (decide (b<0)),.slice q l d]) (.int .i64 1)).run Tryz.prog w=.ok (.agg #[.bool (decide (b<0)),.slice q l d]) w:=λ_=>Zk;have hl:((l:Int)==0)=false:=by
  have:=y.len_pos.1 Zo;simp;omega
 have ha:decide (a<0)=true->(0:Int)<a.natAbs:=by intro h;simp at h;omega
 have hb':decide (b<0)=true->(0:Int)<b.natAbs:=by intro h;simp at h;omega
 go_enter Tryz.func122,Tryz.ntmps122
 go_wp2_with fail
 refine Zfs λW hB hs b0 b1 b2=>?_;replace x:=x.ext (.of_below hB);replace y:=y.ext (.of_below hB);go_loopw [12] (λa wr=>∃i:Nat,i<=2∧a=.int .i64 (i:Int)∧Below W.heap.size W wr) (λa _=>(2-intOf a).toNat)
 case atStart=>exact⟨0,Zo,rfl,Yae _ _⟩
 case round=>
  obtain⟨i,hi,rfl,hb⟩:=hrel;rcases(by omega:i=0∨i=1∨i=2) with rfl|rfl|rfl
  ·go_wp2_with (go_at_call 144;(with_reducible refine(Zda _ p k c _ _ W ((Ext.of_below hb).alloc _) x ha).mono ?_);rintro e W4 ⟨rfl,hb4⟩)
   go_roundw
   case rel=>exact⟨1,Zo,Zs,Zaa (Zad hb _) hb4⟩
   case measure=>simp[intOf]
  ·go_wp2_with (go_at_call 144;(with_reducible refine(Zda _ q l d _ _ W ((Ext.of_below hb).alloc _) y hb').mono ?_);rintro e W4 ⟨rfl,hb4⟩)
   go_roundw
   case rel=>exact⟨2,Zo,Zs,Zaa (Zad hb _) hb4⟩
   case measure=>simp[intOf]
  ·replace hB:=Zaa hB hb
   replace x:=x.ext (.of_below hb);replace y:=y.ext (.of_below hb);replace b0:=b0.below hb;try clear cb0 lb0 fb0
   have cb0:=b0.cell;have lb0:=b0.lt;have fb0:=b0.frozen;replace b1:=b1.below hb;try clear cb1 lb1 fb1
   have cb1:=b1.cell;have lb1:=b1.lt;have fb1:=b1.frozen;replace b2:=b2.below hb;try clear cb2 lb2 fb2
   have cb2:=b2.cell;have lb2:=b2.lt;have fb2:=b2.frozen;clear hi0 hi1 hi ha hb';go_wp2_with fail
   refine(Ze9 _ p q k c l d 600 _ _ wr wr (Ext.refl _) x y Zo Zo).mono ?_;rintro e W1 ⟨p1,n1,c1,q1,l1,d1,rfl,z1,z2,hb1⟩;rw[<-g2]at z1;rw[<-g3]at z2;replace hB:=Zaa hB hb1;replace b2:=b2.below hb1;clear cb2 lb2 fb2;have cb2:=b2.cell;have lb2:=b2.lt;have fb2:=b2.frozen;go_wp2_with fail
   refine(Zfb 600 _ p1 q1 n1 c1 l1 d1 (Rat.divInt a b) _ W1 (Ext.refl _) g1 z1 z2 Zo).mono ?_;rintro e W2 ⟨p7,k7,c7,q7,l7,d7,rfl,z7,y7,hb7⟩;replace hB:=Zaa hB hb7;replace b2:=b2.below hb7;clear cb2 lb2 fb2;have cb2:=b2.cell;have lb2:=b2.lt;have fb2:=b2.frozen;go_wp2
   have b3':=((((b2.set 0 (.bool (decide ((Rat.divInt a b).num<0)))).set 1 (.slice p7 k7 c7)).set 2 (.bool false)).set 3 (.slice q7 l7 d7)).cell;have xE:Ext W2 _:=(((((Ext.refl W2).set b2 Zd 0 (.bool (decide ((Rat.divInt a b).num<0)))).set (b2.set 0 (.bool (decide ((Rat.divInt a b).num<0)))) Zd 1 (.slice p7 k7 c7))).set ((b2.set 0 (.bool (decide ((Rat.divInt a b).num<0)))).set 1 (.slice p7 k7 c7)) Zd 2 (.bool false)).set (((b2.set 0 (.bool (decide ((Rat.divInt a b).num<0)))).set 1 (.slice p7 k7 c7)).set 2 (.bool false)) Zd 3 (.slice q7 l7 d7);refine bodyPost_ret (v:=.tuple #[.agg #[.bool (decide ((Rat.divInt a b).num<0)),.slice p7 k7 c7,.bool false,.slice q7 l7 d7],.int .i64 0]) (by simp[results,Tryz.results122,go_sem,b3']) rfl ⟨_,rfl,⟨_,_,_,_,_,_,rfl,z7.ext xE,y7.ext xE⟩,?_⟩;exact Zai (Zai (Zai (Zai hB Zo _ _) Zo _ _) Zo _ _) Zo _ _
theorem Zcw {m1 m2:Nat} {v1 v2:Value} {z y:Int} (w:World) (h1:LgV m1 w v1 z) (h2:LgV m2 w v2 y) (hm1:m1<=100000) (hm2:m2<=100000) :
  Calls Tryz.prog 152 #[v1,v2] w λe w'=>∃v,e=.returned v∧LgV (m1+m2) w' v (z*y)∧Below w.heap.size w w':=by
 obtain⟨p,n,c,f,rfl,s1,d1,e1,l1⟩:=h1;obtain⟨q,m,c',g,rfl,s2,d2,e2,l2⟩:=h2;refine(Zi5 _ _ p q n m c c' f g w s1 s2 d1 d2 Zo Zo).mono ?_;rintro e w' ⟨p',k,c2,h,rfl,hsl,hd,hv,hk,hb⟩;rw[e1,e2]at hv ⊢;have habs:((z*y).natAbs:Int)=z.natAbs*y.natAbs:=by rw[Yde];norm_cast
 have hneg:((decide (z<0) != decide (y<0))&&decide (0<(z.natAbs:Int)*y.natAbs))=decide (z*y<0):=by
  rw[<-habs];rw[Ycx,Yam,bne_iff_ne,ne_eq,decide_eq_decide,decide_eq_true_eq,decide_eq_true_eq];rcases Yen z 0 with hz|rfl|hz
  ·rcases Yen y 0 with hy|rfl|hy
   ·have:=Int.mul_pos_of_neg_of_neg hz hy;omega
   ·simp
   ·have:=Int.mul_neg_of_neg_of_pos hz hy;omega
  ·simp
  ·rcases Yen y 0 with hy|rfl|hy
   ·have:=Int.mul_neg_of_pos_of_neg hz hy;omega
   ·simp
   ·have:=Int.mul_pos hz hy;omega
 rw[hneg];exact⟨_,rfl,⟨p',k,c2,h,rfl,hsl,hd,by rw[hv,habs],Zo⟩,hb⟩
end Go.Proofs.W
namespace Go.Ex
open Go.Mono
section
structure Cf where
 n:Int
 d:Nat
def Cf.ev (c:Cf):Rat:=mkRat c.n (c.d+1)
def Cf.low (n:Int) (d:Nat):Cf:=⟨n/(Nat.gcd n.natAbs d:Nat),d/Nat.gcd n.natAbs d-1⟩
def Cf.add (a b:Cf):Cf:=Cf.low (a.n*(b.d+1:Nat)+b.n*(a.d+1:Nat)) ((a.d+1)*(b.d+1))
def Cf.mul (a b:Cf):Cf:=Cf.low (a.n*b.n) ((a.d+1)*(b.d+1))
def rpow (x:Rat):Nat->Rat
 | 0=>1
 | n+1=>rpow x n*x
abbrev Mon:=List Nat
abbrev Pol:=List (Cf×Mon)
section
variable (env:Nat->Rat)
def monEv:Nat->Mon->Rat
 | _,[]=>1
 | i,e::r=>rpow (env i) e*monEv (i+1) r
def polEv:Pol->Rat
 | []=>0
 | t::r=>t.1.ev*monEv env 0 t.2+polEv r
end
end
end Go.Ex
