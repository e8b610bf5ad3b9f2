/- The drafted optics of chapter 13: what it is and that it is valid. Part 13 of 14. No condition beside the row. -/
import Derived.Test.YtfgmlkjibdegfaaGreatDoorD02
import Derived.Test.YtfgmlkjibdegfaaGreatDoorD03
import Derived.Test.YtfgmlkjibdegfaaGreatDoorD06
import Derived.Test.YtfgmlkjibdegfaaGreatDoorD10
import Derived.Test.YtfgmlkjibdegfaaGreatDoorD11
import Derived.Test.YtfgmlkjibdegfaaGreatDoorD12
set_option linter.unusedVariables false
set_option linter.unusedSimpArgs false
set_option maxRecDepth 100000
set_option maxHeartbeats 4000000
namespace Go.Mono
theorem hsc (n d:Int) (hd:d≠0:=by decide) (h1:n.natAbs<=10 ^ 16:=by decide) (h2:d.natAbs<=10 ^ 16:=by decide):Hs 16 (Rat.divInt n d):=Hs.divInt n d hd h1 h2
def wQ (z:Int):Rat:=Rat.divInt (z*z) 1000000000000
theorem Zuj {z:Int} (h0:400000<=z) (h1:z<=700000):(16:Rat)/100<=wQ z∧wQ z<=49/100:=by
 have a1:160000000000<=z*z:=Yef h0 h0 Zd Zo;have a2:z*z<=490000000000:=Yef h1 h1 Zo Zd;have b1:=Rat.intCast_le_intCast.2 a1;have b2:=Rat.intCast_le_intCast.2 a2;unfold wQ;rw[Rat.divInt_eq_div];generalize ((z*z:Int):Rat)=x at *;have e1:((160000000000:Int):Rat)=160000000000:=rfl;have e2:((490000000000:Int):Rat)=490000000000:=rfl;have e3:((1000000000000:Int):Rat)=1000000000000:=rfl;rw[e1]at b1;rw[e2]at b2;rw[e3];constructor<;>grind
theorem Zwe {z:Int} (h0:400000<=z) (h1:z<=700000):Hs 13 (wQ z):=by
 have a1:160000000000<=z*z:=Yef h0 h0 Zd Zo;have a2:z*z<=490000000000:=Yef h1 h1 Zo Zd
 exact Hs.divInt _ _ Zd (by have : (10 : Nat) ^ 13 = 10000000000000 := by decide
                            omega) Zd
noncomputable def gIx (s:Rat):Int:=((rtN (s*Rat.divInt 400000000000000 1).floor.toNat:Int)+1).tdiv 2
theorem Zux {s:Rat} (h1:1<=s) (h2:s<=16):20000000<=rtN (s*Rat.divInt 400000000000000 1).floor.toNat∧rtN (s*Rat.divInt 400000000000000 1).floor.toNat<=80000000:=by
 have e:Rat.divInt 400000000000000 1=400000000000000:=by decide +kernel
 rw[e];have f1:(400000000000000:Int)<=(s*400000000000000).floor:=Rat.le_floor_iff.2 (by
  have:((400000000000000:Int):Rat)=400000000000000:=rfl;rw[this];grind)
 have f2:(s*400000000000000).floor<=6400000000000000:=by
  have h:=Rat.floor_le (s*400000000000000);have h3:(((s*400000000000000).floor:Int):Rat)<=((6400000000000000:Int):Rat):=by
   have:((6400000000000000:Int):Rat)=6400000000000000:=rfl;rw[this];grind
  exact Rat.intCast_le_intCast.1 h3
 generalize (s*400000000000000).floor=k at *;exact⟨Zxg Zo,Zxf Zo⟩
theorem Zsc {s:Rat} (h1:1<=s) (h2:s<=16):10000000<=gIx s∧gIx s<=40000000:=by
 obtain⟨h3,h4⟩:=Zux h1 h2;unfold gIx;generalize rtN (s*Rat.divInt 400000000000000 1).floor.toNat=r at *;rw[Ybk Zo];omega
def rt_bk7 (W:Rat):Rat:=(((Rat.divInt 0 1+(Rat.divInt 1504600000 1000000000*Rat.divInt 1 1))+(Rat.divInt 4200000 1000000000*(Rat.divInt 1 1/W)))+(Rat.divInt 0 1000000000*((Rat.divInt 1 1/W)/W)))
def sq_bk7 (W:Rat):Rat:=rt_bk7 W*rt_bk7 W
def sq_sf1 (W:Rat):Rat:=(((Rat.divInt 1 1+((Rat.divInt 1559000000 1000000000*(Rat.divInt 1 1*W))/((Rat.divInt 1 1*W)+Rat.divInt (-12000000) 1000000000)))+((Rat.divInt 285000000 1000000000*(Rat.divInt 1 1*W))/((Rat.divInt 1 1*W)+Rat.divInt (-56000000) 1000000000)))+((Rat.divInt 0 1000000000*(Rat.divInt 1 1*W))/((Rat.divInt 1 1*W)+Rat.divInt 0 1000000000)))
def sq_f2 (W:Rat):Rat:=(((((Rat.divInt 2600000000 1000000000+(Rat.divInt (-9000000) 1000000000*(Rat.divInt 1 1*W)))+(Rat.divInt 22000000 1000000000*(Rat.divInt 1 1/W)))+(Rat.divInt 0 1000000000*((Rat.divInt 1 1/W)/W)))+(Rat.divInt 0 1000000000*(((Rat.divInt 1 1/W)/W)/W)))+(Rat.divInt 0 1000000000*((((Rat.divInt 1 1/W)/W)/W)/W)))
theorem gc0:Rat.divInt (-56000000) 1000000000 = -(7/125):=by decide +kernel
theorem gc1:Rat.divInt (-12000000) 1000000000 = -(3/250):=by decide +kernel
theorem gc2:Rat.divInt (-9000000) 1000000000 = -(9/1000):=by decide +kernel
theorem gc3:Rat.divInt 0 1=0:=by decide +kernel
theorem gc4:Rat.divInt 0 1000000000=0:=by decide +kernel
theorem gc5:Rat.divInt 1 1=1:=by decide +kernel
theorem gc6:Rat.divInt 4200000 1000000000=21/5000:=by decide +kernel
theorem gc7:Rat.divInt 22000000 1000000000=11/500:=by decide +kernel
theorem gc8:Rat.divInt 285000000 1000000000=57/200:=by decide +kernel
theorem gc9:Rat.divInt 1504600000 1000000000=7523/5000:=by decide +kernel
theorem Zwv:Rat.divInt 1559000000 1000000000=1559/1000:=by decide +kernel
theorem Zww:Rat.divInt 2600000000 1000000000=13/5:=by decide +kernel
theorem Znr {x c:Rat} (hc:0<c) (h:c<=x):0<x⁻¹∧x*x⁻¹=1∧c*x⁻¹<=1:=by
 have h0:0<x:=by grind
 have h1:=Rat.inv_pos.2 h0;have h2:=Rat.mul_inv_cancel x (by grind);have h3:=Rat.mul_le_mul_of_nonneg_right h (show 0<=x⁻¹ by grind);exact⟨h1,h2,by grind⟩
theorem Zk9 {W:Rat} (h0:(16:Rat)/100<=W) (h1:W<=49/100):1<=rt_bk7 W∧rt_bk7 W<=4:=by
 unfold rt_bk7;simp only[Yew]at *;simp only[gc0,gc1,gc2,gc3,gc4,gc5,gc6,gc7,gc8,gc9,Zwv,Zww];obtain⟨u0,u1,u2⟩:=Znr (c:=16/100) (by decide +kernel) (show 16/100<=W by grind);generalize W⁻¹=u at *;constructor<;>grind
theorem Zhl {W:Rat} (h0:(16:Rat)/100<=W) (h1:W<=49/100):1<=sq_bk7 W∧sq_bk7 W<=16:=by
 obtain⟨h2,h3⟩:=Zk9 h0 h1;unfold sq_bk7;generalize rt_bk7 W=n at *;have h4:=Rat.mul_le_mul_of_nonneg_left h2 (show 0<=n by grind);have h5:=Rat.mul_le_mul_of_nonneg_left h3 (show 0<=n by grind);constructor<;>grind
theorem Zhm {W:Rat} (h0:(16:Rat)/100<=W) (h1:W<=49/100):1<=sq_sf1 W∧sq_sf1 W<=16:=by
 unfold sq_sf1;simp only[gc0,gc1,gc2,gc3,gc4,gc5,gc6,gc7,gc8,gc9,Zwv,Zww];simp only[Yew];rw[Rat.one_mul,Rat.zero_mul,Rat.zero_mul,Rat.add_zero];have a1:(148:Rat)/1000<=W + -(3/250):=by grind
 have a2:(104:Rat)/1000<=W + -(7/125):=by grind
 simp only[Yew]at a1 a2 h0 h1;obtain⟨u0,u1,u2⟩:=Znr (by decide +kernel) a1;obtain⟨v0,v1,v2⟩:=Znr (by decide +kernel) a2;generalize (W + -(3*250⁻¹))⁻¹=u at *;generalize (W + -(7*125⁻¹))⁻¹=v at *;have e1:W*u=1+3*250⁻¹*u:=by grind
 have e2:W*v=1+7*125⁻¹*v:=by grind
 constructor<;>grind
theorem Zjh {W:Rat} (h0:(16:Rat)/100<=W) (h1:W<=49/100):1<=sq_f2 W∧sq_f2 W<=16:=by
 unfold sq_f2;simp only[gc0,gc1,gc2,gc3,gc4,gc5,gc6,gc7,gc8,gc9,Zwv,Zww];simp only[Yew]at *;simp only[Rat.one_mul,Rat.zero_mul,Rat.add_zero];obtain⟨u0,u1,u2⟩:=Znr (c:=16*100⁻¹) (by decide +kernel) h0;generalize W⁻¹=u at *;constructor<;>grind
theorem Zhn {q:Rat} (h:0<=q):decide (q.num.sign<0)=false:=decide_eq_false (by
 have:=Rat.num_nonneg.2 h;have:=Int.sign_nonneg_iff.2 this;omega)
theorem Zpi {s:Rat} (h1:1<=s):0<=s*Rat.divInt 400000000000000 1:=by
 rw[show Rat.divInt 400000000000000 1=400000000000000 by decide +kernel];grind
end Go.Mono
namespace Go.Proofs.W
open Go.RowKit Go.Mono
section
open Go.Ex
class HsC (k:outParam Nat) (q:Rat):Prop where
 out:Hs k q
instance {k l:Nat} {a b:Rat} [h:HsC k a] [g:HsC l b]:HsC (k+l+1) (a+b):=⟨h.1.add g.1⟩
instance {k l:Nat} {a b:Rat} [h:HsC k a] [g:HsC l b]:HsC (k+l) (a*b):=⟨h.1.mul g.1⟩
instance {k l:Nat} {a b:Rat} [h:HsC k a] [g:HsC l b]:HsC (k+l) (a/b):=⟨h.1.div g.1⟩
instance:HsC 16 (Rat.divInt 1504600000 1000000000):=⟨hsc _ _⟩
instance:HsC 16 (Rat.divInt 1 1):=⟨hsc _ _⟩
instance:HsC 16 (Rat.divInt 0 1):=⟨hsc _ _⟩
instance:HsC 16 (Rat.divInt 4200000 1000000000):=⟨hsc _ _⟩
instance:HsC 16 (Rat.divInt 0 1000000000):=⟨hsc _ _⟩
instance:HsC 16 (Rat.divInt (-12000000) 1000000000):=⟨hsc _ _⟩
instance:HsC 16 (Rat.divInt 1559000000 1000000000):=⟨hsc _ _⟩
instance:HsC 16 (Rat.divInt (-56000000) 1000000000):=⟨hsc _ _⟩
instance:HsC 16 (Rat.divInt 285000000 1000000000):=⟨hsc _ _⟩
instance:HsC 16 (Rat.divInt (-9000000) 1000000000):=⟨hsc _ _⟩
instance:HsC 16 (Rat.divInt 2600000000 1000000000):=⟨hsc _ _⟩
instance:HsC 16 (Rat.divInt 22000000 1000000000):=⟨hsc _ _⟩
instance:HsC 16 (Rat.divInt 400000000000000 1):=⟨hsc _ _⟩
theorem fq {k:Nat} {q:Rat} [h:HsC k q] (g:k<=5399:=by decide):Fits q:=h.1.fits g
theorem Zxu {z:Int} (h1 : -9223372036854775808<=z) (h2:z<=9223372036854775807):inR z:=⟨h1,h2⟩
def I3 (a b:Int) (l:List Prop):List Prop:=inR a::inR b::((0:Int)<b)::l
def P1 (p:Prop) (l:List Prop):List Prop:=p::l
def F1 (q:Rat) (l:List Prop):List Prop:=Fits q::l
theorem Zxt {p:Prop} {l:List Prop} (h:p) (g:AllP l):AllP (P1 p l):=⟨h,g⟩
theorem Zxv {k:Nat} {q:Rat} {l:List Prop} [h:HsC k q] (g:AllP l) (e:k<=5399:=by decide):AllP (F1 q l):=⟨h.1.fits e,g⟩
theorem Zuk {a b:Int} {l:List Prop} (h:AllP l) (h1:inR a:=by exact Zxu Zd Zd) (h2:inR b:=by exact Zxu Zd Zd) (h3:(0:Int)<b:=by decide):AllP (I3 a b l):=⟨h1,h2,h3,h⟩
def Z4 (z:Int) (l:List Prop):List Prop:=inK .i64 (z*z)::inR (z*z)::inR 1000000000000::((0:Int)<1000000000000)::l
theorem Zwf {z:Int} (h0:400000<=z) (h1:z<=700000):inR (z*z):=by
 have hz:0<=z*z:=Ycg Zo Zo;have hz2:z*z<=490000000000:=Yef h1 h1 Zo Zd;exact⟨Zo,Zo⟩
theorem Zwg {z:Int} {l:List Prop} (h:inR (z*z)) (g:AllP l):AllP (Z4 z l):=⟨h,h,⟨Zd,Zd⟩,Zd,g⟩
noncomputable def glT (s:Rat):List Prop:=
 let r:=rtN (s*Rat.divInt 400000000000000 1).floor.toNat
 I3 400000000000000 1<|Fits (s*Rat.divInt 400000000000000 1)::(0<=s*Rat.divInt 400000000000000 1)::(r<1000000000)::(decide ((r:Int)>80000001)=false)::inK .i64 ((r:Int)+1)::((2:Int)≠0)::inK .i64 (((r:Int)+1).tdiv 2)::(decide (((r:Int)+1).tdiv 2<10000000)=false)::(decide (((r:Int)+1).tdiv 2>40000000)=false)::[]
theorem Zsd {s:Rat} (h1:1<=s) (h2:s<=16) (h:Fits (s*Rat.divInt 400000000000000 1)):AllP (glT s):=by
 obtain⟨h3,h4⟩:=Zux h1 h2;refine Zuk ⟨h,Zpi h1,?_⟩;generalize rtN (s*Rat.divInt 400000000000000 1).floor.toNat=r at *;have h5:((r:Int)+1).tdiv 2=((r:Int)+1)/2:=Ybk Zo;rw[h5];exact⟨Zo,decide_eq_false Zo,(⟨Zo,Zo⟩:inR _),Zd,(⟨Zo,Zo⟩:inR _),decide_eq_false Zo,decide_eq_false Zo,trivial⟩
noncomputable def ob_bk7 (z:Int) (W:Rat):List Prop:=
 let a:=Rat.divInt 1504600000 1000000000
 let b:=Rat.divInt 1 1
 let c:=Rat.divInt 0 1
 let d:=Rat.divInt 4200000 1000000000
 let e:=Rat.divInt 0 1000000000
 let f:=a*b
 let g:=c+f
 let h:=b/W
 let i:=d*h
 let j:=g+i
 let k:=h/W
 let l:=e*k
 let m:=j+l
 P1 (decide (z<300000)=false)<|P1 (decide (z>2500000)=false)<|I3 0 1<|I3 1504600000 1000000000<|Z4 z<|I3 1 1<|F1 f<|F1 g<|I3 4200000 1000000000<|Z4 z<|I3 1 1<|P1 ((0:Rat)<W)<|F1 h<|F1 i<|F1 j<|I3 0 1000000000<|Z4 z<|I3 1 1<|P1 ((0:Rat)<W)<|F1 h<|P1 ((0:Rat)<W)<|F1 k<|F1 l<|F1 m<|F1 (m*m)<|P1 (decide ((sq_bk7 W).num.sign<0)=false)<|I3 0 1<|I3 1504600000 1000000000<|Z4 z<|I3 1 1<|F1 f<|F1 g<|I3 4200000 1000000000<|Z4 z<|I3 1 1<|P1 ((0:Rat)<W)<|F1 h<|F1 i<|F1 j<|I3 0 1000000000<|Z4 z<|I3 1 1<|P1 ((0:Rat)<W)<|F1 h<|P1 ((0:Rat)<W)<|F1 k<|F1 l<|F1 m<|P1 (decide ((rt_bk7 W).num.sign<0)=false)<|glT (sq_bk7 W)
theorem Zse {z:Int} (h0:400000<=z) (h1:z<=700000):AllP (ob_bk7 z (wQ z)):=by
 obtain⟨w0,w1⟩:=Zuj h0 h1;have hz:=Zwf h0 h1;have:HsC 13 (wQ z):=⟨Zwe h0 h1⟩
 unfold ob_bk7;generalize wQ z=W at *;obtain⟨h2,h3⟩:=Zhl w0 w1;obtain⟨r1,r2⟩:=Zk9 w0 w1;dsimp only;repeat (with_reducible first|refine Zuk ?_|refine Zwg hz ?_|refine Zxv ?_|refine Zxt (Zhn (by grind)) ?_|refine Zxt (decide_eq_false Zo) ?_|refine Zxt (by(try simp only[gc0,gc1,gc2,gc3,gc4,gc5,gc6,gc7,gc8,gc9,Zwv,Zww]);grind) ?_)
 exact Zsd h2 h3 (by simp only[sq_bk7,rt_bk7];exact fq)
noncomputable def ob_sf1 (z:Int) (W:Rat):List Prop:=
 let a:=Rat.divInt 1 1
 let b:=Rat.divInt (-12000000) 1000000000
 let c:=Rat.divInt 1559000000 1000000000
 let d:=Rat.divInt (-56000000) 1000000000
 let e:=Rat.divInt 285000000 1000000000
 let f:=Rat.divInt 0 1000000000
 let g:=a*W
 let h:=g+b
 let i:=c*g
 let j:=i/h
 let k:=a+j
 let l:=g+d
 let m:=e*g
 let n:=m/l
 let o:=k+n
 let p:=g+f
 let q:=f*g
 let r:=q/p
 P1 (decide (z<300000)=false)<|P1 (decide (z>2500000)=false)<|Z4 z<|I3 1 1<|F1 g<|I3 1 1<|I3 (-12000000) 1000000000<|F1 h<|I3 1559000000 1000000000<|F1 i<|P1 ((0:Rat)<h)<|F1 j<|F1 k<|I3 (-56000000) 1000000000<|F1 l<|I3 285000000 1000000000<|F1 m<|P1 ((0:Rat)<l)<|F1 n<|F1 o<|I3 0 1000000000<|F1 p<|I3 0 1000000000<|F1 q<|P1 ((0:Rat)<p)<|F1 r<|F1 (o+r)<|P1 (decide ((sq_sf1 W).num.sign<0)=false)<|glT (sq_sf1 W)
theorem Zsf {z:Int} (h0:400000<=z) (h1:z<=700000):AllP (ob_sf1 z (wQ z)):=by
 obtain⟨w0,w1⟩:=Zuj h0 h1;have hz:=Zwf h0 h1;have:HsC 13 (wQ z):=⟨Zwe h0 h1⟩
 unfold ob_sf1;generalize wQ z=W at *;obtain⟨h2,h3⟩:=Zhm w0 w1;dsimp only;repeat (with_reducible first|refine Zuk ?_|refine Zwg hz ?_|refine Zxv ?_|refine Zxt (Zhn (by grind)) ?_|refine Zxt (decide_eq_false Zo) ?_|refine Zxt (by(try simp only[gc0,gc1,gc2,gc3,gc4,gc5,gc6,gc7,gc8,gc9,Zwv,Zww]);grind) ?_)
 exact Zsd h2 h3 (by simp only[sq_sf1];exact fq)
noncomputable def ob_f2 (z:Int) (W:Rat):List Prop:=
 let a:=Rat.divInt 1 1
 let b:=Rat.divInt (-9000000) 1000000000
 let c:=Rat.divInt 2600000000 1000000000
 let d:=Rat.divInt 22000000 1000000000
 let e:=Rat.divInt 0 1000000000
 let f:=a*W
 let g:=b*f
 let h:=c+g
 let i:=a/W
 let j:=d*i
 let k:=h+j
 let l:=i/W
 let m:=e*l
 let n:=k+m
 let o:=l/W
 let p:=e*o
 let q:=n+p
 let r:=o/W
 let s:=e*r
 P1 (decide (z<300000)=false)<|P1 (decide (z>2500000)=false)<|Z4 z<|I3 1 1<|F1 f<|I3 2600000000 1000000000<|I3 (-9000000) 1000000000<|F1 g<|F1 h<|I3 22000000 1000000000<|Z4 z<|I3 1 1<|P1 ((0:Rat)<W)<|F1 i<|F1 j<|F1 k<|I3 0 1000000000<|Z4 z<|I3 1 1<|P1 ((0:Rat)<W)<|F1 i<|P1 ((0:Rat)<W)<|F1 l<|F1 m<|F1 n<|I3 0 1000000000<|Z4 z<|I3 1 1<|P1 ((0:Rat)<W)<|F1 i<|P1 ((0:Rat)<W)<|F1 l<|P1 ((0:Rat)<W)<|F1 o<|F1 p<|F1 q<|I3 0 1000000000<|Z4 z<|I3 1 1<|P1 ((0:Rat)<W)<|F1 i<|P1 ((0:Rat)<W)<|F1 l<|P1 ((0:Rat)<W)<|F1 o<|P1 ((0:Rat)<W)<|F1 r<|F1 s<|F1 (q+s)<|P1 (decide ((sq_f2 W).num.sign<0)=false)<|glT (sq_f2 W)
theorem Zul {z:Int} (h0:400000<=z) (h1:z<=700000):AllP (ob_f2 z (wQ z)):=by
 obtain⟨w0,w1⟩:=Zuj h0 h1;have hz:=Zwf h0 h1;have:HsC 13 (wQ z):=⟨Zwe h0 h1⟩
 unfold ob_f2;generalize wQ z=W at *;obtain⟨h2,h3⟩:=Zjh w0 w1;dsimp only;repeat (with_reducible first|refine Zuk ?_|refine Zwg hz ?_|refine Zxv ?_|refine Zxt (Zhn (by grind)) ?_|refine Zxt (decide_eq_false Zo) ?_|refine Zxt (by(try simp only[gc0,gc1,gc2,gc3,gc4,gc5,gc6,gc7,gc8,gc9,Zwv,Zww]);grind) ?_)
 exact Zsd h2 h3 (by simp only[sq_f2];exact fq)
theorem Zji {z a:Int} {l:List Prop} (c:Array Value) (orc:List (Option Bool)) (hc:∀v∈c.toList,v.oneCell'=true) (hl:AllP l) (he:∀w,(evF Tryz.prog (w0:=w) (X:=λ_=>False) (D:=qDen kQ kQ1) (spG w _) [] 7 [] 136 [.agg (c.toList.map U.val),.one (.sym z)] [] 0 0 orc).map (λr=>(r.v,r.obl,r.pan))=some (.tup [.one (.sym a),.one (.val (.int .i64 0))],l,none)) (w:World) :
  Calls Tryz.prog 136 #[.agg c,.int .i64 z] w λe w'=>e=.returned (.tuple #[.int .i64 a,.int .i64 0])∧Below w.heap.size w w':=by
 refine(Zqi Ziu (spG w _) [] _ l (he w) hl (vals:=[.agg c,.int .i64 z]) ⟨_,_,rfl,⟨_,rfl,Zjf _ hc⟩,_,_,rfl,rfl,rfl⟩).mono ?_;rintro e w' ⟨v,ρ',rfl,⟨vs,rfl,v1,r1,rfl,h3,v2,r2,rfl,⟨h4,_⟩,h5⟩,hb⟩;cases h4;obtain rfl:v1=_:=List.singleton_inj.1 h3;obtain rfl:r2=[]:=h5;exact⟨rfl,hb⟩
theorem Zsg {z:Int} (h0:400000<=z) (h1:z<=700000) (w:World) :
  Calls Tryz.prog 136 #[.agg (glC nmBK7 2 1504600000 4200000 0 0 0 0 300000 2500000),.int .i64 z] w λe w'=>e=.returned (.tuple #[.int .i64 (gIx (sq_bk7 (wQ z))),.int .i64 0])∧Below w.heap.size w w':=
 Zji _ [some false,some false,some false,some false,some false,some false,some false] (by decide +kernel) (Zse h0 h1) (λw=>Zk) w
theorem Zsh {z:Int} (h0:400000<=z) (h1:z<=700000) (w:World) :
  Calls Tryz.prog 136 #[.agg (glC nmSF1 1 1559000000 12000000 285000000 56000000 0 0 300000 2500000),.int .i64 z] w λe w'=>e=.returned (.tuple #[.int .i64 (gIx (sq_sf1 (wQ z))),.int .i64 0])∧Below w.heap.size w w':=
 Zji _ [some false,some false,some false,some false,some false,some false] (by decide +kernel) (Zsf h0 h1) (λw=>Zk) w
theorem Zum {z:Int} (h0:400000<=z) (h1:z<=700000) (w:World) :
  Calls Tryz.prog 136 #[.agg (glC nmF2 3 2600000000 (-9000000) 22000000 0 0 0 300000 2500000),.int .i64 z] w λe w'=>e=.returned (.tuple #[.int .i64 (gIx (sq_f2 (wQ z))),.int .i64 0])∧Below w.heap.size w w':=
 Zji _ [some false,some false,some false,some false,some false,some false] (by decide +kernel) (Zul h0 h1) (λw=>Zk) w
end
end Go.Proofs.W
namespace Go.Mono
open Go.RowKit
theorem Zhf {H:Type} {P:Program} {e:TypeId}:∀{l:List (DataW H)} {d:DataW H},d∈l->∀n∈d.weights P e,n∈DataW.weightsAll P e l
 | d0 :: r, d, hd, n, hn => by
   simp only[DataW.weightsAll,Ycn];rcases Ycp.1 hd with rfl|hd
   ·exact .inl hn
   ·exact .inr (Zhf hd n hn)
theorem Zhg {α:Type} {Ψ:Nat->α->Prop}:∀(n:Nat),(∀i,i<n->∃a,Ψ i a)->∃l:List α,l.length=n∧∀i,i<n->∃a,l[i]? = some a∧Ψ i a
 | 0,_=>⟨[],rfl,λi hi=>absurd hi (Nat.not_lt_zero _)⟩
 | n + 1, h => by
   obtain⟨l,hl,hx⟩:=Zhg n λi hi=>h i Zo;obtain⟨a,ha⟩:=h n (Yca n);refine⟨l++[a],by simp[hl],λi hi=>?_⟩;by_cases e:i<n
   ·obtain⟨b,hb,hp⟩:=hx i e
    exact⟨b,by rw[Ybb Zo];exact hb,hp⟩
   ·obtain rfl:i=n:=by omega
    exact⟨a,by rw[Ybc Zo,hl,Ydt];rfl,ha⟩
theorem Zdl {H:Type} {enc:TypeId×Value->H} {P:Program} {W:World} {t e:TypeId} {sz:Nat} (ht:P.underlying t=some (.slice e)) (hc:P.cellsOf e=sz) (hb1:1<=P.bytesOf e) (hsz0:0<sz) {fuel:Nat} {cs:List Value} {x:DataW H×List MemPlace} (Φ:List Value->Prop)
  (hel:∀(fuel:Nat) (cs:List Value) (x:DataW H×List MemPlace),DataW.trod enc P W 0 (λ_=>true) true fuel e cs=some x->(∀n∈x.1.weights P e,n<=reachBytes)->Φ cs)
  (h:DataW.trod enc P W 0 (λ_=>true) true fuel t cs=some x) (hw:∀n∈x.1.weights P t,n<=reachBytes) :
  ∃(q:Option Addr) (n c:Nat) (G:Nat->List Value),cs=[.slice q n c]∧(∀i,i<n->Φ (G i))∧RdC W q n c sz (λi j=>(G i).getD j undef):=by
 rcases Go.Deep.open_slice ht h with ⟨hcs,hx⟩|⟨a,len,cap,m,n,D,Pl,hcs,_,hl,hmx,hm,hx,hel'⟩
 ·exact⟨none,0,0,λ_=>[],hcs,λi hi=>absurd hi (Nat.not_lt_zero _),Yab _,Zo,λh=>absurd h (Nat.not_lt_zero _)⟩
 ·simp only[if_true]at hm
  subst hx;have hw0:=hw _ (by rw[DataW.weights,ht];exact Ycl ..);rw[Ybt,Ybt,List.length_range,List.length_range]at hw0;have hr:reachBytes=140737488351232:=rfl;have hcap:len+(m-len)<=reachBytes:=Yak (Yfd _ hb1) hw0;have he:∀i,i<len->∃g,Φ g∧W.cells? 0 (a.add (i*sz)) sz=some g:=λi hi=>by
   obtain⟨cs',h1,h2⟩:=hel' i Zo;rw[hc]at h1;refine⟨cs',hel _ _ _ h2 λk hk=>hw k ?_,h1⟩;rw[DataW.weights,ht];refine Ybs _ (Ycy _ (Zhf (d:=D i) (Ydl.2 ⟨i,Yeu.2 hi,rfl⟩) k hk))
  obtain⟨G,hG⟩:=Go.Deep.choose_lt he;refine⟨some a,len,cap,G,hcs,λi hi=>(hG i hi).1,hl,Zo,λh0=>?_⟩;obtain⟨b,off,spot⟩:=a;have hcell:∀i j,i<len->j<sz->W.cell? ((Addr.mk b off spot).add (i*sz+j))=some ((G i).getD j undef):=λi j hi hj=>by
   obtain⟨_,hlen,h3⟩:=World.cells?_some (hG i hi).2;rw[<-Go.Deep.add_add,h3 j hj,Yac,Yao Zo];rfl
  have hspot:spot=none:=by simpa[Addr.add]using World.cell?_spot (hcell 0 0 h0 hsz0)
  subst hspot;refine⟨b,off,rfl,by simpa[Addr.add]using Go.Proofs.W.cell_lt18 (hcell 0 0 h0 hsz0),λi j hi hj=>?_⟩;rw[<-hcell i j hi hj,Addr.add_lit,Ybj]
theorem Ze8 {w:World} {p:Option Addr} {n c sz:Nat} {f g:Nat->Nat->Value} (h:RdC w p n c sz f) (e:∀i j,i<n->j<sz->f i j=g i j):RdC w p n c sz g:=by
 obtain⟨h1,h2,h3⟩:=h;refine⟨h1,h2,λhn=>?_⟩;obtain⟨b,off,hp,hb,hc⟩:=h3 hn;exact⟨b,off,hp,hb,λi j hi hj=>by rw[hc i j hi hj,e i j hi hj]⟩
def putC (c:Int×Int×Int):Array Value:=#[.int .u8 c.1,.int .u8 c.2.1,.int .i16 c.2.2]
def PutsAt (w:World) (p:Option Addr) (c:Nat) (l:List (Int×Int×Int)):Prop:=RdC w p l.length c 3 (λi j=>(putC (l.getD i (0,0,0))).getD j undef)
theorem PutsAt.below {w w':World} {p:Option Addr} {c:Nat} {l:List (Int×Int×Int)} (h:PutsAt w p c l) (hB:Below w.heap.size w w'):PutsAt w' p c l:=RdC.below h hB
structure LDP where
 ps:Option Addr
 cs:Nat
 pf:Nat->Option Addr
 cf:Nat->Nat
 qf:Option Addr
 kf:Nat
 qw:Option Addr
 kw:Nat
 qc:Option Addr
 kc:Nat
 pp:Nat->Option Addr
 cp:Nat->Nat
end Go.Mono
namespace Go.Proofs.W
open Go.RowKit Go.Mono
section
open Go Go.ChangeShapes Go.WideShapes Go.ChangeAt
def sd0:SD:=⟨0,0,0,0,0,0,0,0,0,0,0,0,0,0,0,0,0,0,0,0,0,[]⟩
def ldC (d:LD) (q:LDP):Array Value:=
 #[.slice q.ps d.surfs.length q.cs,.int .u8 d.stop,.int .u16 d.far,.int .u8 d.pupil,.slice q.qf d.fields.length q.kf,.slice q.qw d.waves.length q.kw,.int .u8 d.primary,.int .i16 d.image,.slice q.qc d.configs.length q.kc]
structure LDAt (w:World) (d:LD) (q:LDP):Prop where
 surfs:RdC w q.ps d.surfs.length q.cs 22 (λi j=>(sdC (d.surfs.getD i sd0) (q.pf i) (q.cf i)).getD j undef)
 films:∀i,i<d.surfs.length->BytesAt w (q.pf i) (q.cf i) (d.surfs.getD i sd0).films
 fields:BytesAt w q.qf q.kf d.fields
 waves:BytesAt w q.qw q.kw d.waves
 configs:RdC w q.qc d.configs.length q.kc 1 (λi _=>.slice (q.pp i) (d.configs.getD i []).length (q.cp i))
 puts:∀i,i<d.configs.length->PutsAt w (q.pp i) (q.cp i) (d.configs.getD i [])
theorem LDAt.below {w w':World} {d:LD} {q:LDP} (h:LDAt w d q) (hB:Below w.heap.size w w'):LDAt w' d q:=
 ⟨h.surfs.below hB,λi hi=>(h.films i hi).below hB,h.fields.below hB,h.waves.below hB,h.configs.below hB,λi hi=>(h.puts i hi).below hB⟩
section
variable {H:Type} {enc:TypeId×Value->H} {W:World} {base:Nat} {r:Reach} {v:Value} {d:DataW H} {p:List MemPlace} {fuel:Nat} {cs:List Value} {x:DataW H×List MemPlace}
theorem Zcn (h:DataW.trod enc Tryz.prog W 0 (λ_=>true) true fuel 5 cs=some x):∃z:Int,U8 z∧cs=[.int .u8 z]:=by
 obtain⟨s0,k0,_,w0⟩:=Ybh Tryz.underlying5 h;exact⟨s0,bounds_u8 w0,k0⟩
theorem Zee (h:DataW.trod enc Tryz.prog W 0 (λ_=>true) true fuel 24 cs=some x) (hw:∀n∈x.1.weights Tryz.prog 24,n<=reachBytes):∃(q:Option Addr) (c:Nat) (l:List Int),cs=[.slice q l.length c]∧(∀z∈l,U8 z)∧BytesAt W q c l:=by
 obtain⟨q,n,c,G,rfl,hG,hr⟩:=Zdl Tryz.underlying24 (sz:=1) Zk (by decide +kernel) Zd (λcs=>∃z:Int,U8 z∧cs=[.int .u8 z]) (λ_ _ _ h _=>Zcn h) h hw;obtain⟨l,rfl,hl⟩:=Zhg n hG;refine⟨q,c,l,rfl,λz hz=>?_,Ze8 hr λi j hi hj=>?_⟩
 ·obtain⟨i,hi,rfl⟩:=Yfz hz
  obtain⟨a,ha,hu,_⟩:=hl i hi;rw[Yao hi]at ha;cases ha;exact hu
 ·obtain⟨a,ha,_,e⟩:=hl i hi
  rw[e,Yac (l:=l),ha];obtain rfl:j=0:=Zo;rfl
theorem Zry (h:DataW.trod enc Tryz.prog W 0 (λ_=>true) true fuel 198 cs=some x):∃c:Int×Int×Int,(U8 c.1∧U8 c.2.1∧R16 c.2.2)∧cs=(putC c).toList:=by
 have hc:Tryz.prog.cellsOf 198=3:=Zk;have h1:Tryz.prog.cellsOf 25=1:=Zk;have h2:Tryz.prog.cellsOf 5=1:=Zk;obtain⟨xs,m,rfl,_,hl,hx,hel⟩:=Yfn Tryz.underlying198 h;rw[hc]at hl;match cs,hl,xs,hx with
 | [c0, c1, c2], _, [x0, x1, x2], _ =>
   have e0:=hel 0 _ rfl;have e1:=hel 1 _ rfl;have e2:=hel 2 _ rfl;simp[h1,h2]at e0 e1 e2;obtain⟨s0,k0,_,w0⟩:=Ybh Tryz.underlying5 e0;obtain⟨s1,k1,_,w1⟩:=Ybh Tryz.underlying5 e1;obtain⟨s2,k2,_,w2⟩:=Ybh Tryz.underlying25 e2;cases k0;cases k1;cases k2;exact⟨(s0,s1,s2),⟨bounds_u8 w0,bounds_u8 w1,bounds_i16 w2⟩,rfl⟩
theorem Zo7 (h:DataW.trod enc Tryz.prog W 0 (λ_=>true) true fuel 196 cs=some x) (hw:∀n∈x.1.weights Tryz.prog 196,n<=reachBytes):∃(q:Option Addr) (c:Nat) (l:List (Int×Int×Int)),cs=[.slice q l.length c]∧(∀z∈l,U8 z.1∧U8 z.2.1∧R16 z.2.2)∧PutsAt W q c l:=by
 obtain⟨q,n,c,G,rfl,hG,hr⟩:=Zdl Tryz.underlying196 (sz:=3) Zk (by decide +kernel) Zd (λcs=>∃c:Int×Int×Int,(U8 c.1∧U8 c.2.1∧R16 c.2.2)∧cs=(putC c).toList) (λ_ _ _ h _=>Zry h) h hw;obtain⟨l,rfl,hl⟩:=Zhg n hG;refine⟨q,c,l,rfl,λz hz=>?_,Ze8 hr λi j hi hj=>?_⟩
 ·obtain⟨i,hi,rfl⟩:=Yfz hz
  obtain⟨a,ha,hu,_⟩:=hl i hi;rw[Yao hi]at ha;cases ha;exact hu
 ·obtain⟨a,ha,_,e⟩:=hl i hi
  rw[e,Yac (l:=l),ha];rw[Yac,Yaq,Yax];rfl
theorem Zmd (h:DataW.trod enc Tryz.prog W 0 (λ_=>true) true fuel 26 cs=some x) (hw:∀n∈x.1.weights Tryz.prog 26,n<=reachBytes):∃(q:Option Addr) (c:Nat) (l:List (List (Int×Int×Int))) (pp:Nat->Option Addr) (cp:Nat->Nat),cs=[.slice q l.length c]∧(∀y∈l,∀z∈y,U8 z.1∧U8 z.2.1∧R16 z.2.2)∧RdC W q l.length c 1 (λi _=>.slice (pp i) (l.getD i []).length (cp i))∧∀i,i<l.length->PutsAt W (pp i) (cp i) (l.getD i []):=by
 obtain⟨q,n,c,G,rfl,hG,hr⟩:=Zdl Tryz.underlying26 (sz:=1) Zk (by decide +kernel) Zd (λcs=>∃(q:Option Addr) (c:Nat) (l:List (Int×Int×Int)),cs=[.slice q l.length c]∧(∀z∈l,U8 z.1∧U8 z.2.1∧R16 z.2.2)∧PutsAt W q c l) (λ_ _ _ h hw=>Zo7 h hw) h hw;have hG':∀i,i<n->∃a:Option Addr×Nat×List (Int×Int×Int),G i=[.slice a.1 a.2.2.length a.2.1]∧(∀z∈a.2.2,U8 z.1∧U8 z.2.1∧R16 z.2.2)∧PutsAt W a.1 a.2.1 a.2.2:=λi hi=>by
  obtain⟨q,c,l,h1,h2,h3⟩:=hG i hi;exact⟨(q,c,l),h1,h2,h3⟩
 obtain⟨L,rfl,hL⟩:=Zhg n hG';have hget:∀i,(L.map λa=>a.2.2).getD i []=(L.getD i (none,0,[])).2.2:=λi=>by
  rw[Yac,Yac,Ycj];cases L[i]?<;>rfl
 refine⟨q,c,L.map λa=>a.2.2,λi=>(L.getD i (none,0,[])).1,λi=>(L.getD i (none,0,[])).2.1,by rw[Ybt],λy hy=>?_,?_,λi hi=>?_⟩
 ·obtain⟨a,ha,rfl⟩:=Ydl.1 hy
  obtain⟨i,hi,rfl⟩:=Yfz ha;obtain⟨b,hb,_,hu,_⟩:=hL i hi;rw[Yao hi]at hb;cases hb;exact hu
 ·rw[Ybt]
  refine Ze8 hr λi j hi hj=>?_;obtain⟨b,hb,e,_⟩:=hL i hi;obtain rfl:j=0:=Zo;have hgb:L.getD i (none,0,[])=b:=by rw[Yac,hb];rfl
  rw[e,hget];simp only[hgb];rfl
 ·rw[Ybt]at hi
  obtain⟨b,hb,e,_,hp⟩:=hL i hi;have hgb:L.getD i (none,0,[])=b:=by rw[Yac,hb];rfl
  rw[hget];simp only[hgb];exact hp
theorem Zhh (h:DataW.trod enc Tryz.prog W 0 (λ_=>true) true fuel 145 cs=some x):∃z0 z1:Int,(R16 z0∧R16 z1)∧cs=[.int .i16 z0,.int .i16 z1]:=by
 have hc:Tryz.prog.cellsOf 145=2:=Zk;have h1:Tryz.prog.cellsOf 25=1:=Zk;obtain⟨xs,m,rfl,_,hl,hx,hel⟩:=DataW.trod_array Tryz.underlying145 h;rw[hc]at hl;match cs,hl,xs,hx with
 | [c0, c1], _, [x0, x1], _ =>
   have e0:=hel 0 Zo;have e1:=hel 1 Zo;simp[h1]at e0 e1;obtain⟨s0,k0,_,w0⟩:=Ybh Tryz.underlying25 e0;obtain⟨s1,k1,_,w1⟩:=Ybh Tryz.underlying25 e1;cases k0;cases k1;exact⟨s0,s1,⟨bounds_i16 w0,bounds_i16 w1⟩,rfl⟩
theorem Zo8 (h:DataW.trod enc Tryz.prog W 0 (λ_=>true) true fuel 147 cs=some x):∃z0 z1 z2 z3:Int,(R8 z0∧R8 z1∧R8 z2∧R8 z3)∧cs=[.int .i8 z0,.int .i8 z1,.int .i8 z2,.int .i8 z3]:=by
 have hc:Tryz.prog.cellsOf 147=4:=Zk;have h1:Tryz.prog.cellsOf 146=1:=Zk;obtain⟨xs,m,rfl,_,hl,hx,hel⟩:=DataW.trod_array Tryz.underlying147 h;rw[hc]at hl;match cs,hl,xs,hx with
 | [c0, c1, c2, c3], _, [x0, x1, x2, x3], _ =>
   have e0:=hel 0 Zo;have e1:=hel 1 Zo;have e2:=hel 2 Zo;have e3:=hel 3 Zo;simp[h1]at e0 e1 e2 e3;obtain⟨s0,k0,_,w0⟩:=Ybh Tryz.underlying146 e0;obtain⟨s1,k1,_,w1⟩:=Ybh Tryz.underlying146 e1;obtain⟨s2,k2,_,w2⟩:=Ybh Tryz.underlying146 e2;obtain⟨s3,k3,_,w3⟩:=Ybh Tryz.underlying146 e3;cases k0;cases k1;cases k2;cases k3;exact⟨s0,s1,s2,s3,⟨bounds_i8 w0,bounds_i8 w1,bounds_i8 w2,bounds_i8 w3⟩,rfl⟩
theorem Zo9 (h:DataW.trod enc Tryz.prog W 0 (λ_=>true) true fuel 148 cs=some x):∃z0 z1:Int,(R8 z0∧R8 z1)∧cs=[.int .i8 z0,.int .i8 z1]:=by
 have hc:Tryz.prog.cellsOf 148=2:=Zk;have h1:Tryz.prog.cellsOf 146=1:=Zk;obtain⟨xs,m,rfl,_,hl,hx,hel⟩:=DataW.trod_array Tryz.underlying148 h;rw[hc]at hl;match cs,hl,xs,hx with
 | [c0, c1], _, [x0, x1], _ =>
   have e0:=hel 0 Zo;have e1:=hel 1 Zo;simp[h1]at e0 e1;obtain⟨s0,k0,_,w0⟩:=Ybh Tryz.underlying146 e0;obtain⟨s1,k1,_,w1⟩:=Ybh Tryz.underlying146 e1;cases k0;cases k1;exact⟨s0,s1,⟨bounds_i8 w0,bounds_i8 w1⟩,rfl⟩
theorem Zpa (h:DataW.trod enc Tryz.prog W 0 (λ_=>true) true fuel 149 cs=some x):∃z0 z1 z2 z3 z4:Int,(R8 z0∧R8 z1∧R8 z2∧R8 z3∧R8 z4)∧cs=[.int .i8 z0,.int .i8 z1,.int .i8 z2,.int .i8 z3,.int .i8 z4]:=by
 have hc:Tryz.prog.cellsOf 149=5:=Zk;have h1:Tryz.prog.cellsOf 146=1:=Zk;obtain⟨xs,m,rfl,_,hl,hx,hel⟩:=DataW.trod_array Tryz.underlying149 h;rw[hc]at hl;match cs,hl,xs,hx with
 | [c0, c1, c2, c3, c4], _, [x0, x1, x2, x3, x4], _ =>
   have e0:=hel 0 Zo;have e1:=hel 1 Zo;have e2:=hel 2 Zo;have e3:=hel 3 Zo;have e4:=hel 4 Zo;simp[h1]at e0 e1 e2 e3 e4;obtain⟨s0,k0,_,w0⟩:=Ybh Tryz.underlying146 e0;obtain⟨s1,k1,_,w1⟩:=Ybh Tryz.underlying146 e1;obtain⟨s2,k2,_,w2⟩:=Ybh Tryz.underlying146 e2;obtain⟨s3,k3,_,w3⟩:=Ybh Tryz.underlying146 e3;obtain⟨s4,k4,_,w4⟩:=Ybh Tryz.underlying146 e4;cases k0;cases k1;cases k2;cases k3;cases k4;exact⟨s0,s1,s2,s3,s4,⟨bounds_i8 w0,bounds_i8 w1,bounds_i8 w2,bounds_i8 w3,bounds_i8 w4⟩,rfl⟩
theorem Zub (h:DataW.trod enc Tryz.prog W 0 (λ_=>true) true fuel 151 cs=some x) (hw:∀n∈x.1.weights Tryz.prog 151,n<=reachBytes):∃(d:SD) (q:Option Addr) (c:Nat),d.ok∧cs=(sdC d q c).toList∧BytesAt W q c d.films:=by
 have hc:Tryz.prog.cellsOf 151=22:=Zk;have h1:Tryz.prog.cellsOf 5=1:=Zk;have h2:Tryz.prog.cellsOf 145=2:=Zk;have h3:Tryz.prog.cellsOf 147=4:=Zk;have h4:Tryz.prog.cellsOf 148=2:=Zk;have h5:Tryz.prog.cellsOf 149=5:=Zk;have h6:Tryz.prog.cellsOf 146=1:=Zk;have h7:Tryz.prog.cellsOf 25=1:=Zk;have h8:Tryz.prog.cellsOf 24=1:=Zk;obtain⟨xs,m,rfl,hx0,hl,hx,hel⟩:=Yfn Tryz.underlying151 h;subst hx0;rw[hc]at hl;match cs,hl,xs,hx with
 | [c0, c1, c2, c3, c4, c5, c6, c7, c8, c9, c10, c11, c12, c13, c14, c15, c16, c17, c18, c19, c20, c21], _, [x0, x1, x2, x3, x4, x5, x6, x7, x8, x9, x10, x11], _ =>
   have e0:=hel 0 _ rfl;have e1:=hel 1 _ rfl;have e2:=hel 2 _ rfl;have e3:=hel 3 _ rfl;have e4:=hel 4 _ rfl;have e5:=hel 5 _ rfl;have e6:=hel 6 _ rfl;have e7:=hel 7 _ rfl;have e8:=hel 8 _ rfl;have e9:=hel 9 _ rfl;have e10:=hel 10 _ rfl;have e11:=hel 11 _ rfl;simp[h1,h2,h3,h4,h5,h6,h7,h8]at e0 e1 e2 e3 e4 e5 e6 e7 e8 e9 e10 e11;obtain⟨y0,g0,k0⟩:=Zcn e0;obtain⟨y1,y2,⟨g1,g2⟩,k1⟩:=Zhh e1;obtain⟨y3,y4,⟨g3,g4⟩,k2⟩:=Zhh e2;obtain⟨y5,y6,y7,y8,⟨g5,g6,g7,g8⟩,k3⟩:=Zo8 e3;obtain⟨y9,y10,⟨g9,g10⟩,k4⟩:=Zo9 e4;obtain⟨y11,k5,_,w11⟩:=Ybh Tryz.underlying146 e5;obtain⟨y12,k6,_,w12⟩:=Ybh Tryz.underlying25 e6;obtain⟨y13,g13,k7⟩:=Zcn e7;obtain⟨y14,g14,k8⟩:=Zcn e8;obtain⟨y15,g15,k9⟩:=Zcn e9;obtain⟨y16,y17,y18,y19,y20,⟨g16,g17,g18,g19,g20⟩,k10⟩:=Zpa e10;obtain⟨q,c,l,k11,hl8,hb⟩:=Zee e11 λn hn=>hw n (by rw[DataW.weights,Tryz.underlying151];exact Ydb (j:=11) (t:=24) rfl rfl n hn);cases k0;cases k1;cases k2;cases k3;cases k4;cases k5;cases k6;cases k7;cases k8;cases k9;cases k10;cases k11;exact⟨⟨y0,y1,y2,y3,y4,y5,y6,y7,y8,y9,y10,y11,y12,y13,y14,y15,y16,y17,y18,y19,y20,l⟩,q,c,⟨g0,g1,g2,g3,g4,g5,g6,g7,g8,g9,g10,bounds_i8 w11,bounds_i16 w12,g13,g14,g15,g16,g17,g18,g19,g20,hl8⟩,rfl,hb⟩
theorem Zrz (h:DataW.trod enc Tryz.prog W 0 (λ_=>true) true fuel 22 cs=some x) (hw:∀n∈x.1.weights Tryz.prog 22,n<=reachBytes):∃(q:Option Addr) (c:Nat) (l:List SD) (pp:Nat->Option Addr) (cp:Nat->Nat),cs=[.slice q l.length c]∧(∀y∈l,y.ok)∧RdC W q l.length c 22 (λi j=>(sdC (l.getD i sd0) (pp i) (cp i)).getD j undef)∧∀i,i<l.length->BytesAt W (pp i) (cp i) (l.getD i sd0).films:=by
 obtain⟨q,n,c,G,rfl,hG,hr⟩:=Zdl Tryz.underlying22 (sz:=22) Zk (by decide +kernel) Zd (λcs=>∃(d:SD) (q:Option Addr) (c:Nat),d.ok∧cs=(sdC d q c).toList∧BytesAt W q c d.films) (λ_ _ _ h hw=>Zub h hw) h hw;have hG':∀i,i<n->∃a:Option Addr×Nat×SD,a.2.2.ok∧G i=(sdC a.2.2 a.1 a.2.1).toList∧BytesAt W a.1 a.2.1 a.2.2.films:=λi hi=>by
  obtain⟨d,q,c,h1,h2,h3⟩:=hG i hi;exact⟨(q,c,d),h1,h2,h3⟩
 obtain⟨L,rfl,hL⟩:=Zhg n hG';have hget:∀i,i<L.length->(L.map λa=>a.2.2).getD i sd0=(L.getD i (none,0,sd0)).2.2:=λi hi=>by
  rw[Yac,Yac,Ycj,Yao hi];rfl
 refine⟨q,c,L.map λa=>a.2.2,λi=>(L.getD i (none,0,sd0)).1,λi=>(L.getD i (none,0,sd0)).2.1,by rw[Ybt],λy hy=>?_,?_,λi hi=>?_⟩
 ·obtain⟨a,ha,rfl⟩:=Ydl.1 hy
  obtain⟨i,hi,rfl⟩:=Yfz ha;obtain⟨b,hb,hu,_⟩:=hL i hi;rw[Yao hi]at hb;cases hb;exact hu
 ·rw[Ybt]
  refine Ze8 hr λi j hi hj=>?_;obtain⟨b,hb,_,e,_⟩:=hL i hi;have hgb:L.getD i (none,0,sd0)=b:=by rw[Yac,hb];rfl
  rw[e,hget i hi];simp only[hgb];rw[Yac,Yaq,Yax]
 ·rw[Ybt]at hi
  obtain⟨b,hb,_,e,hp⟩:=hL i hi;have hgb:L.getD i (none,0,sd0)=b:=by rw[Yac,hb];rfl
  rw[hget i hi];simp only[hgb];exact hp
theorem Zuc (h:DataW.trod enc Tryz.prog W 0 (λ_=>true) true fuel 28 cs=some x) (hw:∀n∈x.1.weights Tryz.prog 28,n<=reachBytes):∃(d:LD) (q:LDP),d.ok∧cs=(ldC d q).toList∧LDAt W d q:=by
 have hc:Tryz.prog.cellsOf 28=9:=Zk;have h1:Tryz.prog.cellsOf 5=1:=Zk;have h2:Tryz.prog.cellsOf 22=1:=Zk;have h3:Tryz.prog.cellsOf 23=1:=Zk;have h7:Tryz.prog.cellsOf 25=1:=Zk;have h8:Tryz.prog.cellsOf 24=1:=Zk;have h9:Tryz.prog.cellsOf 26=1:=Zk;obtain⟨xs,m,rfl,hx0,hl,hx,hel⟩:=Yfn Tryz.underlying28 h;subst hx0;rw[hc]at hl;match cs,hl,xs,hx with
 | [c0, c1, c2, c3, c4, c5, c6, c7, c8], _, [x0, x1, x2, x3, x4, x5, x6, x7, x8], _ =>
   have e0:=hel 0 _ rfl;have e1:=hel 1 _ rfl;have e2:=hel 2 _ rfl;have e3:=hel 3 _ rfl;have e4:=hel 4 _ rfl;have e5:=hel 5 _ rfl;have e6:=hel 6 _ rfl;have e7:=hel 7 _ rfl;have e8:=hel 8 _ rfl;simp[h1,h2,h3,h7,h8,h9]at e0 e1 e2 e3 e4 e5 e6 e7 e8;obtain⟨ps,cs,ls,pf,cf,k0,hs1,hs2,hs3⟩:=Zrz e0 λn hn=>hw n (by rw[DataW.weights,Tryz.underlying28];exact Ydb (j:=0) (t:=22) rfl rfl n hn);obtain⟨y1,g1,k1⟩:=Zcn e1;obtain⟨y2,k2,_,w2⟩:=Ybh Tryz.underlying23 e2;obtain⟨y3,g3,k3⟩:=Zcn e3;obtain⟨qf,kf,lf,k4,hf1,hf2⟩:=Zee e4 λn hn=>hw n (by rw[DataW.weights,Tryz.underlying28];exact Ydb (j:=4) (t:=24) rfl rfl n hn);obtain⟨qw,kw,lw,k5,hv1,hv2⟩:=Zee e5 λn hn=>hw n (by rw[DataW.weights,Tryz.underlying28];exact Ydb (j:=5) (t:=24) rfl rfl n hn);obtain⟨y6,g6,k6⟩:=Zcn e6;obtain⟨y7,k7,_,w7⟩:=Ybh Tryz.underlying25 e7;obtain⟨qc,kc,lc,pp,cp,k8,hc1,hc2,hc3⟩:=Zmd e8 λn hn=>hw n (by rw[DataW.weights,Tryz.underlying28];exact Ydb (j:=8) (t:=26) rfl rfl n hn);cases k0;cases k1;cases k2;cases k3;cases k4;cases k5;cases k6;cases k7;cases k8;exact⟨⟨ls,y1,y2,y3,lf,lw,y6,y7,lc⟩,⟨ps,cs,pf,cf,qf,kf,qw,kw,qc,kc,pp,cp⟩,⟨hs1,g1,bounds_u16 w2,g3,hf1,hv1,g6,bounds_i16 w7,hc1⟩,rfl,⟨hs2,hs3,hf2,hv2,hc2,hc3⟩⟩
theorem Zpb (hv:Value.okWide Tryz.prog W r base 30 v) (h:DataW.Trod enc Tryz.prog W 0 (λ_=>true) true 30 v d p) (hsz:∀n∈d.weights Tryz.prog 30,n<=reachBytes):∃(a:LD) (q:LDP) (k:Int),a.ok∧U8 k∧v=.agg ((ldC a q).push (.int .u8 k))∧LDAt W a q:=by
 have hc:Tryz.prog.cellsOf 30=10:=Zk;have h1:Tryz.prog.cellsOf 5=1:=Zk;have h2:Tryz.prog.cellsOf 28=9:=Zk;obtain⟨cs,rfl,_⟩:=okWide_struct Tryz.underlying30 hv;obtain⟨fuel,hf⟩:=h;obtain⟨xs,m,rfl,hx0,hl,hx,hel⟩:=Yfn Tryz.underlying30 hf;rw[hc]at hl;match xs,hx with
 | [x0, x1], _ =>
   have e0:=hel 0 _ rfl;have e1:=hel 1 _ rfl;simp[h1,h2]at e0 e1;obtain rfl:d=.agg [x0.1,x1.1]:=by
    have:=congrArg (λ(y:DataW H×List MemPlace)=>y.1) hx0;simpa using this
   obtain⟨a,q,ha,k0,hat⟩:=Zuc e0 λn hn=>hsz n (by rw[DataW.weights,Tryz.underlying30];exact Ydb (j:=0) (t:=28) rfl rfl n hn);obtain⟨z,gz,k1⟩:=Zcn e1;refine⟨a,q,z,ha,gz,congrArg Value.agg (Yfo ?_),hat⟩;have hc0:(Value.agg cs).cells=cs:=rfl;rw[hc0]at hl e0 e1 k0 k1;have hd:cs.toList.drop 9=[.int .u8 z]:=by
    rw[<-k1,Ycm (by rw[Yfs,hl];decide)]
   rw[Array.toList_push,<-k0,<-hd,List.take_append_drop]
end
end
end Go.Proofs.W
namespace Go.Mono
open Go.RowKit
theorem Zd4 {z:Int} (h1 : -9223372036854775808<=z) (h2:z<=9223372036854775807):IntKind.i64.wrap z=z:=by
 simp[IntKind.wrap,IntKind.bits,IntKind.signed];omega
theorem Zfp {l:List Srf} {c:Chg}:∀(r done:List Chg),(madeS l (dConf l done r++[c])≠none->dConf l done (r++[c])=dConf l done r++[c])∧(madeS l (dConf l done r++[c])=none->dConf l done (r++[c])=dConf l done r)
 | [], done => by
   have e0:dConf l done []=done:=by unfold dConf;rfl
   have e1:dConf l done ([]++[c])=if(madeS l (done++[c])).isSome then done++[c] else done:=by
    show dConf l done (c::[])=_;unfold dConf;simp only[show ∀d,dConf l d []=d from λd=>by unfold dConf;rfl]
   rw[e0,e1];constructor
   ·intro h
    rw[if_pos (Option.isSome_iff_ne_none.2 h)]
   ·intro h
    rw[h];rfl
 | x :: r, done => by
   have e:∀y,dConf l done (x::y)=if(madeS l (done++[x])).isSome then dConf l (done++[x]) y else dConf l done y:=λy=>by
    rw[dConf]
   rw[Ydi,e,e];split
   ·exact Zfp r _
   ·exact Zfp r _
noncomputable def LD.confN (d:LD) (x:List (Int×Int×Int)) (k:Nat):List Chg:=dConf d.srfs [] ((x.take k).map d.chg)
theorem LD.confN_zero (d:LD) (x:List (Int×Int×Int)):d.confN x 0=[]:=by unfold LD.confN;rw[List.take_zero,Yfp,dConf]
theorem LD.confN_succ {d:LD} {x:List (Int×Int×Int)} {k:Nat} (hk:k<x.length):(madeS d.srfs (d.confN x k++[d.chg (x.getD k (0,0,0))])≠none->d.confN x (k+1)=d.confN x k++[d.chg (x.getD k (0,0,0))])∧(madeS d.srfs (d.confN x k++[d.chg (x.getD k (0,0,0))])=none->d.confN x (k+1)=d.confN x k):=by
 have e:(x.take (k+1)).map d.chg=(x.take k).map d.chg++[d.chg (x.getD k (0,0,0))]:=by
  rw[Yfh hk,List.map_append,Yac,Yao hk];rfl
 unfold LD.confN;rw[e];exact Zfp _ _
theorem LD.confN_end (d:LD) (x:List (Int×Int×Int)) {k:Nat} (hk:k=min x.length 4):d.confN x k=d.conf x:=by
 unfold LD.confN LD.conf;congr 2
 rw[hk];by_cases h:x.length<=4
 ·rw[Nat.min_eq_left h,Ycm (Yab _),Ycm h]
 ·rw[Nat.min_eq_right Zo]
theorem LD.confN_len (d:LD) (x:List (Int×Int×Int)) (k:Nat):(d.confN x k).length<=k:=by
 have:=Ze6 (l:=d.srfs) ((x.take k).map d.chg) [];simp only[Ydf,Ybt,Ycq]at this;unfold LD.confN;omega
theorem LD.confN_mem (d:LD) (x:List (Int×Int×Int)) (k:Nat) (c:Chg) (h:c∈d.confN x k):∃y∈x,c=d.chg y:=by
 unfold LD.confN at h;rcases Ze7 _ _ _ h with h|h
 ·cases h
 ·obtain⟨y,hy,rfl⟩:=Ydl.1 h
  exact⟨y,Yfu hy,rfl⟩
end Go.Mono
namespace Go.Proofs.W
open Go.RowKit Go.Mono
theorem Zme:(Tryz.prog.info? 200).map (λi=>(i.zero,i.size,i.bytes))=some (some (.agg #[.int .i64 0,.int .i64 0,.int .i64 0]),3,24):=Zk
theorem Zmf:(Tryz.prog.info? 195).map (λi=>(i.zero,i.size,i.bytes))=some (some (.agg #[.string {data:=#[]},.slice none 0 0]),2,40):=Zk
theorem Zr0 (w:World):(Instr.alloc 198 true (.tuple #[])).run Tryz.prog w=.ok (.pointer (some ⟨w.heap.size,0,none⟩)) (w.alloc (.cells #[.int .u8 0,.int .u8 0,.int .i16 0] 198)):=by
 go_simp
theorem Zk2 (w:World):(Instr.alloc 195 true (.tuple #[])).run Tryz.prog w=.ok (.pointer (some ⟨w.heap.size,0,none⟩)) (w.alloc (.cells #[.string {data:=#[]},.slice none 0 0] 195)):=by
 go_simp
def chgL (cs:List Chg) (k:Nat):List Value:=(chgC (cAt cs k)).toList
theorem Zr1 (c:Chg):∀u∈(chgC c).toList,u.oneCell'=true:=λu hu=>by
 simp[chgC]at hu;rcases hu with rfl|rfl|rfl<;>rfl
def ChgOwn (w:World) (base:Nat) (p:Option Addr) (c:Nat) (cs:List Chg):Prop:=
 w.ownsRow base 200 3 (.slice p cs.length c) cs.length (crow (chgL cs) cs.length)∧(p=none->cs.length=0∧c=0)
theorem ChgOwn.at {w:World} {base:Nat} {p:Option Addr} {c:Nat} {cs:List Chg} (h:ChgOwn w base p c cs) (hl:cs.length<=1000):ChgsAt w p c cs:=
 Za4 (C:=chgL cs) (λ_=>rfl) (λi j hi hj=>by
  unfold chgL;rw[Yac,Yaq,Yax]) h.1 hl
theorem ChgOwn.low {w:World} {base base':Nat} {p:Option Addr} {c:Nat} {cs:List Chg} (h:ChgOwn w base p c cs) (hb:base'<=base):ChgOwn w base' p c cs:=⟨Zaw h.1 hb,h.2⟩
theorem ChgOwn.below {w w':World} {base:Nat} {p:Option Addr} {c:Nat} {cs:List Chg} (h:ChgOwn w base p c cs) (hB:Below w.heap.size w w'):ChgOwn w' base p c cs:=⟨Zaf h.1 hB,h.2⟩
theorem ChgOwn.keep {w w':World} {base:Nat} {p:Option Addr} {c:Nat} {cs:List Chg} {R:Nat} {T:TypeId} {A:Array Value} (h:ChgOwn w base p c cs) (b:Box w R T A) (hT:T≠200) (hk:KeepBut R w.heap.size w w'):ChgOwn w' base p c cs:=
 ⟨Zap h.1 b hT hk,h.2⟩
theorem Zwa (cs:List Chg) (x:Chg):∀k,k<cs.length+1->ccat (chgL cs) cs.length (λ_=>(chgC x).toList) k=chgL (cs++[x]) k:=λk hk=>by
 unfold ccat;by_cases h:k<cs.length
 ·rw[if_pos h]
  unfold chgL cAt;rw[Yac,Yac,Ybb h]
 ·obtain rfl:k=cs.length:=by omega
  rw[if_neg h];unfold chgL cAt;rw[Yac,Ybc (Yab _),Ydt];rfl
theorem Znm (ty:TypeId) (V:World) (base:Nat) (v:Value) (n:Nat) (C:Nat->List Value) (hown:V.ownsRow base 200 3 v n (crow C n)) (q:Option Addr) (m c:Nat) (H:Nat->List Value) (hH:∀i,(H i).length=3) (hH1:∀i,i<m->∀u∈H i,u.oneCell'=true)
  (hq:RdC V q m c 3 (λi j=>(H i).getD j undef)) (hnil:q=none->m=0∧c=0) (hbase:base<=V.heap.size) (hnm:n+m<=1000) :
  ∃p' c' W,(Builtin.append_ #[193,193] ty #[v,.slice q m c]).run Tryz.prog V=.ok (.slice p' (n+m) c') W∧W.ownsRow base 200 3 (.slice p' (n+m) c') (n+m) (crow (ccat C n H) (n+m))∧Below base V W∧V.grownBy W v.ownBlock∧(p'=none->n+m=0∧c'=0):=by
 obtain⟨fi,hfi,hfz,hfs,hfb⟩:=Zbd Zme;obtain⟨p',c',W,h1,h2,h3,h4⟩:=Zrp (P:=Tryz.prog) (Tryz.underlying193) hfi hfz hfs hfb rfl Zd ty hown hH hH1 hq hnil hbase hnm Zo;exact⟨p',c',W,h1,h2,(Yae _ _).grown h3 hbase λk e'=>(Zbj hown e').2.1,h3,h4⟩
theorem Zpc {w:World} {base:Nat} {v:Value} {n size:Nat} {e:TypeId} {vals:List Value} (h:w.ownsRow base e size v n vals) (o:Obj):(w.alloc o).ownsRow base e size v n vals:=Zaf h ((Yae _ _).alloc (Yab _) _)
theorem Zk3 (C H:Nat->List Value) (n:Nat):crow (ccat C 0 H) n=crow H n:=Zav λk hk=>by unfold ccat;rw[if_neg Zo,Nat.sub_zero]
theorem Zwb {w:World} {base base':Nat} {p:Option Addr} {c:Nat} {E:List Chg} {C:Chg} (h:w.ownsRow base 200 3 (.slice p (E.length+1) c) (E.length+1) (crow (ccat (chgL E) E.length (λ_=>(chgC C).toList)) (E.length+1))) (hn:p=none->E.length+1=0∧c=0) (hb:base'<=base):ChgOwn w base' p c (E++[C]):=by
 rw[Zav (Zwa E C)]at h;unfold ChgOwn;rw[show(E++[C]).length=E.length+1 by simp];exact⟨Zaw h hb,hn⟩
theorem Zja (ty:TypeId) (V:World) (base:Nat) (p:Option Addr) (c:Nat) (E:List Chg) (C:Chg) (hE:E.length<=900) (hown:V.ownsRow base 200 3 (.slice p E.length c) E.length (crow (chgL E) E.length)) (B:Nat) (b:Box V B 200 (chgC C)) (hbase:base<=V.heap.size) :
  ∃p' c' W,(Builtin.append_ #[193,193] ty #[.slice p E.length c,.slice (some ⟨B,0,none⟩) 1 1]).run Tryz.prog V=.ok (.slice p' (E.length+1) c') W∧(∀base',base'<=base->ChgOwn W base' p' c' (E++[C]))∧Below base V W:=by
 obtain⟨p',c',W,h1,h2,h3,_,h4⟩:=Znm ty V base _ E.length (chgL E) hown (some ⟨B,0,none⟩) 1 1 (λ_=>(chgC C).toList) (λ_=>rfl) (λ_ _=>Zr1 _) (Zbn b rfl) (λh=>by cases h) hbase Zo;exact⟨p',c',W,h1,λbase' hb=>Zwb h2 h4 hb,h3⟩
theorem Zjb (ty:TypeId) (V:World) (base B:Nat) (b:Box V B 200 #[]) (hB:base<=B) (p:Option Addr) (c:Nat) (E:List Chg) (hE:E.length<=900) {bq:Nat} (hown:ChgOwn V bq p c E) (hbase:base<=V.heap.size) :
  ∃p' c' W,(Builtin.append_ #[193,193] ty #[.slice (some ⟨B,0,none⟩) 0 0,.slice p E.length c]).run Tryz.prog V=.ok (.slice p' E.length c') W∧W.ownsRow base 200 3 (.slice p' E.length c') E.length (crow (chgL E) E.length)∧Below base V W∧V.grownBy W (some B):=by
 obtain⟨p',c',W,h1,h2,h3,h4,_⟩:=Znm ty V base _ 0 (chgL E) (Zcy b hB Zd (λ_=>rfl) rfl) p E.length c (chgL E) (λ_=>rfl) (λ_ _=>Zr1 _) (Zdk (λ_=>rfl) hown.1 Zo) hown.2 hbase Zo;rw[Yba]at h1 h2;rw[Zk3]at h2;exact⟨p',c',W,h1,h2,h3,h4⟩
def cfC (nm:Nat->ByteArray) (cs:Nat->List Chg) (pp:Nat->Option Addr) (cq:Nat->Nat) (k:Nat):List Value:=[.string (nm k),.slice (pp k) (cs k).length (cq k)]
structure ConfsOwn (w:World) (base:Nat) (p:Option Addr) (c n:Nat) (nm:Nat->ByteArray) (cs:Nat->List Chg) (pp:Nat->Option Addr) (cq:Nat->Nat):Prop where
 row:w.ownsRow base 195 2 (.slice p n c) n (crow (cfC nm cs pp cq) n)
 nil:p=none->n=0∧c=0
 chg:∀k,k<n->ChgOwn w base (pp k) (cq k) (cs k)
theorem ConfsOwn.at {w:World} {base:Nat} {p:Option Addr} {c n:Nat} {nm:Nat->ByteArray} {cs:Nat->List Chg} {pp:Nat->Option Addr} {cq:Nat->Nat} (h:ConfsOwn w base p c n nm cs pp cq) (hn:n<=1000) (hl:∀k,k<n->(cs k).length<=1000):ConfsAt w p c n nm cs pp cq where
 row:=Za4 (C:=cfC nm cs pp cq) (λ_=>rfl) (λi j hi hj=>by
  rcases(by omega:j=0∨j=1) with rfl|rfl
  ·rw[if_pos rfl];rfl
  ·rw[if_neg Zd];rfl) h.row hn
 chg:=λi hi=>(h.chg i hi).at (hl i hi)
theorem ConfsOwn.below {w w':World} {base:Nat} {p:Option Addr} {c n:Nat} {nm:Nat->ByteArray} {cs:Nat->List Chg} {pp:Nat->Option Addr} {cq:Nat->Nat} (h:ConfsOwn w base p c n nm cs pp cq) (hB:Below w.heap.size w w'):ConfsOwn w' base p c n nm cs pp cq:=
 ⟨Zaf h.row hB,h.nil,λk hk=>(h.chg k hk).below hB⟩
theorem ConfsOwn.low {w:World} {base base':Nat} {p:Option Addr} {c n:Nat} {nm:Nat->ByteArray} {cs:Nat->List Chg} {pp:Nat->Option Addr} {cq:Nat->Nat} (h:ConfsOwn w base p c n nm cs pp cq) (hb:base'<=base):ConfsOwn w base' p c n nm cs pp cq:=
 ⟨Zaw h.row hb,h.nil,λk hk=>(h.chg k hk).low hb⟩
theorem ConfsOwn.keep {w w':World} {base:Nat} {p:Option Addr} {c n:Nat} {nm:Nat->ByteArray} {cs:Nat->List Chg} {pp:Nat->Option Addr} {cq:Nat->Nat} {R:Nat} {T:TypeId} {A:Array Value} (h:ConfsOwn w base p c n nm cs pp cq) (b:Box w R T A) (hT:T≠195∧T≠200) (hk:KeepBut R w.heap.size w w'):ConfsOwn w' base p c n nm cs pp cq:=
 ⟨Zap h.row b hT.1 hk,h.nil,λk hi=>(h.chg k hi).keep b hT.2 hk⟩
theorem Zr2 (nm:ByteArray) (p:Option Addr) (n c:Nat):∀u∈[Value.string nm,.slice p n c],u.oneCell'=true:=λu hu=>by
 simp at hu;rcases hu with rfl|rfl<;>rfl
def nmD (i:Nat):ByteArray:=if i=0 then nmNear else nmFar
theorem Zjc (A:Array Value) (d:LD) (hd:d.ok) (q:LDP) (g8:A[8]? = some (.slice q.qc d.configs.length q.kc)) (p:Option Addr) (c:Nat) (cp:Nat->Option Addr) (cl:Nat->Nat) (w:World) (hl:LDAt w d q) (h:SrfsAt w p c d.srfs cp cl) :
  Calls Tryz.prog 83 #[.agg A,.slice p d.srfs.length c] w λe w'=>∃p' c' pp cq,e=.returned (.slice p' (min d.configs.length 2) c')∧ConfsOwn w' w.heap.size p' c' (min d.configs.length 2) nmD (λi=>d.conf (d.configs.getD i [])) pp cq∧Below w.heap.size w w':=by
 have hsr:=LD.srfs_ok hd;have hraw:=LD.raw_ok hd;obtain⟨hcap,hbig,hx⟩:=hl.configs;have hputs:=hl.puts;have hns1:1<=d.srfs.length:=Zo;have hns16:d.srfs.length<=16:=Zo;have hcfg:∀i,i<d.configs.length->∀y∈d.configs.getD i [],U8 y.1∧U8 y.2.1∧R16 y.2.2:=λi hi y hy=>by
  rw[Yac,Yao hi]at hy;exact hd.configs _ (Ybw hi) y hy
 have hchg:∀y,U8 y.1∧U8 y.2.1∧R16 y.2.2->(d.chg y).1<d.srfs.length∧In 32768000 (d.chg y).2.2:=λy ⟨_,_,h3⟩=>by
  obtain⟨h4,h5⟩:=h3;unfold LD.chg;refine⟨?_,?_,?_⟩
  ·dsimp only
   have h2:=Ybu y.1 (show(0:Int)<d.srfs.length by omega);have h3:=Ycc y.1 (show(d.srfs.length:Int)≠0 by omega);omega
  ·dsimp only;omega
  ·dsimp only;omega
 have hmem:=λ(x:List (Int×Int×Int)) k c (h:c∈d.confN x k)=>d.confN_mem x k c h;have hmade:=λ(cs:List Chg) (hcn:cs.length<=12) hci (pc:Option Addr) (cc:Nat) (W:World) (hW:Below w.heap.size w W) (hc:ChgsAt W pc cc cs)=>Zha d.srfs hns16 hsr.1 p c cp cl cs hcn hci pc cc W (h.below hW) hc;obtain⟨fi,hfi,hfz,hfs,hfb⟩:=Zbd Zmf;have htf:Tryz.prog.underlying 40=some (.slice 195):=Tryz.underlying40;have hz2:∀(nm:ByteArray) p n c,(Tryz.prog.info? 195).map (·.size)=some (#[Value.string nm,.slice p n c]:Array Value).size:=λ_ _ _ _=>Zk;have hzp:∀y,(Tryz.prog.info? 198).map (·.size)=some (putC y).size:=λ_=>Zk;have hzpl:∀y,(Tryz.prog.info? 198).map (·.size)=some (putC y).toList.length:=λ_=>Zk;have hsuc:=λ(x:List (Int×Int×Int)) k (hk:k<x.length)=>LD.confN_succ (d:=d) hk;have hend:=λ(x:List (Int×Int×Int)) k (hk:k=min x.length 4)=>d.confN_end x hk;have hzero:=λ(x:List (Int×Int×Int))=>d.confN_zero x;have hclen:=λ(x:List (Int×Int×Int)) k=>d.confN_len x k;clear hl hsr hraw;replace hchg:=Yah hchg;replace hmem:=Yah hmem;replace hsuc:=Yah hsuc;replace hend:=Yah hend;replace hzero:=Yah hzero;replace hclen:=Yah hclen;obtain⟨css,hcss⟩:∃css:Nat->List Chg,css=λi=>d.conf (d.configs.getD i []):=⟨_,rfl⟩
 rw[<-hcss];have hcssl:∀i,i<d.configs.length->(css i).length<=4:=λi hi=>by
  rw[hcss];exact(Zhd hd (hcfg i hi)).1
 generalize hn:d.configs.length=n at *;generalize hns:d.srfs.length=ns at *;go_enter Tryz.func83,Tryz.ntmps83
 go_wp2_with fail
 refine Zbo λW hB hsz bS=>?_;go_wp2
 go_loopw [5,6] (λv x wr=>∃i:Nat,i<=min n 2∧x=.int .i64 (i:Int)∧Below W.heap.size W wr∧∃p' c' pp cq,v=.slice p' i c'∧ConfsOwn wr W.heap.size p' c' i nmD css pp cq) (λ_ x _=>(min n 2-intOf x).toNat)
 case atStart=>exact⟨0,Yat _,rfl,Yae _ _,none,0,λ_=>none,λ_=>0,rfl,⟨Yaj _ _ _ _,λ_=>⟨rfl,rfl⟩,λk hk=>Zo⟩⟩
 case round=>
  obtain⟨i,hi,rfl,hBr,p',c',pp,cq,rfl,hown⟩:=hrel;have bSr:=bS.below hBr;have cS:=(bSr.cell 8).trans g8;have lS:=bSr.lt;have hBw:=Zaa hB hBr;by_cases hin:i<n
  ·have hi':(i:Int)<n:=by omega
   by_cases hi2:i<2
   ·have hi2':(i:Int)<2:=by omega
    obtain⟨b,off,hq,hb,hcell⟩:=hx Zo;rw[hq]at cS;have x0:wr.cell? ⟨b,off+i,none⟩=some (.slice (q.pp i) (d.configs.getD i []).length (q.cp i)):=by simpa using(hBw.cell (p:=⟨b,off+i*1+0,none⟩) hb).trans (hcell i 0 hin Zd)
    have hpi:=hputs i hin;have hbr:=Yaf hb hBw.size;have hcfi:=hcfg i hin;clear hcell hx hputs hcfg;have hxe:∀k,k=min (d.configs.getD i []).length 4->d.confN (d.configs.getD i []) k=css i:=λk hk=>by rw[hcss];exact hend.out _ k hk
    replace hxe:=Yah hxe;generalize hX:d.configs.getD i []=X at *;have hnm:∀h,(([Value.string {data:=#[110,101,97,114]},Value.string {data:=#[102,97,114]}]:List Value)[i]'h)=.string (nmD i):=λh=>by
     rcases(by omega:i=0∨i=1) with rfl|rfl<;>rfl
    generalize hnmi:nmD i=nmi at *;go_wp2_with first|(refine Zaq rfl 195 rfl _ Zk2 ?_;intro V2 Bc hle2 hB2 b2)|(refine Zab rfl 195 (.tmp 7) (.tmp 28) rfl Bc 0 195 _ (#[.string nmi,.slice none 0 0]) (#[.string nmi,.slice none 0 0]) rfl rfl b2 (hz2 _ _ _ _) (Yaa rfl) (by simp[Value.oneCell']) rfl ?_;intro V3 hk3 b3)
    have hBa:Below wr.heap.size wr (wr.alloc (.cells #[Value.string {data:=#[110,101,97,114]},Value.string {data:=#[102,97,114]}] 9)):=(Yae _ _).alloc (Yab _) _;have hsa:=hBa.size;have hB2':=Zaa hBa hB2;have hle2':wr.heap.size<=Bc:=Zo;have hV3:=hk3.below hB2' hle2' hB2'.size;have hcf0:=hzero.out X;clear hB2 hk3 b2 hBa hB2' hle2 hnm hsa;generalize hEs:d.confN X 0=E0 at hcf0;subst hcf0;generalize wr=w5 at *;go_loopw [8] (λx w8=>∃k:Nat,k<=min X.length 4∧x=.int .i64 (k:Int)∧Below w5.heap.size w5 w8∧∃p2 c2,Box w8 Bc 195 #[.string nmi,.slice p2 (d.confN X k).length c2]∧ChgOwn w8 w5.heap.size p2 c2 (d.confN X k)) (λx _=>(min X.length 4-intOf x).toNat)
    case atStart=>exact⟨0,Yat _,rfl,hV3,none,0,by rw[hEs];exact b3,by rw[hEs];exact⟨Yaj _ _ _ _,λ_=>⟨rfl,rfl⟩⟩⟩
    case round=>
     clear b3 hV3 V3;obtain⟨k,hk,rfl,hB8,p2,c2,bc,hco⟩:=hrel;have bS8:=bSr.below hB8;have cS8:=(bS8.cell 8).trans g8;rw[hq]at cS8;have lS8:=bS8.lt;have hBw8:=Zaa hBw hB8;have x8:wr.cell? ⟨b,off+i,none⟩=some (.slice (q.pp i) X.length (q.cp i)):=(hB8.cell (p:=⟨b,off+i,none⟩) hbr).trans x0;have lb8:=Yaf hbr hB8.size;by_cases hkn:k<X.length
     ·have hkn':(k:Int)<X.length:=by omega
      by_cases hk4:k<4
      ·have hk4':(k:Int)<4:=by omega
       obtain⟨bp,op,hqp,hbp,hcp⟩:=hpi.2.2 Zo;rw[hqp]at x8;have hcp':=λj (hj:j<3)=>(hBw8.cell (p:=⟨bp,op+k*3+j,none⟩) hbp).trans (hcp k j hkn hj);have hym:=hcfi (X.getD k (0,0,0)) (by rw[Yac,Yao hkn];exact Ybw hkn);have hs1:=hsuc.out X k hkn;have hlk:=hclen.out X k;have hrg:wr.rangeAt bp (op+k*3) (putC (X.getD k (0,0,0))).toList:=λj v hv=>by
        have hj:j<3:=(Yan.1 hv).1;refine(hcp' j hj).trans ?_;rw[Yaq]at hv;dsimp only;rw[Yax,hv];rfl
       have hEm:∀c∈d.confN X k,c.1<ns∧In 32768000 c.2.2:=λc hc=>by
        obtain⟨y,hy,rfl⟩:=hmem.out X k c hc;exact hchg.out y (hcfi y hy)
       have hCm:=hchg.out _ hym;clear hcp hcp' hpi hcfi hxe hmem hchg;replace hs1:=Yah hs1;replace hEm:=Yah hEm;replace hCm:=Yah hCm;generalize hY:X.getD k (0,0,0)=Y at *;generalize hE:d.confN X k=E at *;generalize hEE:d.confN X (k+1)=E1 at *;obtain⟨y0,y1,y2⟩:=Y;obtain⟨⟨g00,g01⟩,⟨g10,g11⟩,⟨g20,g21⟩⟩:=hym;dsimp only at g00 g01 g10 g11 g20 g21;go_wp2_with first|(refine wpList_load_mid rfl 198 (.tmp 49) rfl bp (op+k*3) rfl (putC (y0,y1,y2)).toList _ hrg Tryz.underlying198 rfl (hzpl _) ?_)|(refine Zaq rfl 198 rfl _ Zr0 ?_;intro V9 Bx hle9 hB9 b9)|(refine Zab rfl 198 (.tmp 9) (.tmp 50) rfl Bx 0 198 _ (putC (y0,y1,y2)) (putC (y0,y1,y2)) rfl rfl b9 (hzp _) (Yaa rfl) (by simp[putC,Value.oneCell']) rfl ?_;intro VA hkA bx)
       have hBA:=hkA.below hB9 hle9 hB9.size;have hneB:Bc≠Bx:=by have:=bc.lt;omega
       have bcA:Box VA Bc 195 #[.string nmi,.slice p2 E.length c2]:=bc.below hBA;have hcoA:=hco.below hBA;have hBA8:=Zaa hB8 hBA;have hlE:E.length<=4:=Zo;have u0:VA.cell? ⟨Bc,1,none⟩=some (.slice p2 E.length c2):=bcA.cell 1;have u1:VA.cell? ⟨Bx,0,none⟩=some (.int .u8 y0):=bx.cell 0;have u2:VA.cell? ⟨Bx,1,none⟩=some (.int .u8 y1):=bx.cell 1;have u3:VA.cell? ⟨Bx,2,none⟩=some (.int .i16 y2):=bx.cell 2;have lBc:=bcA.lt;have lBx:=bx.lt;have hS:∀w',Below VA.heap.size VA w'->w'.cell? ⟨Bc,1,none⟩=some (.slice p2 E.length c2)∧w'.cell? ⟨Bx,0,none⟩=some (.int .u8 y0)∧w'.cell? ⟨Bx,1,none⟩=some (.int .u8 y1)∧w'.cell? ⟨Bx,2,none⟩=some (.int .i16 y2)∧Below VA.heap.size VA w':=λw' h=>⟨(h.cell (p:=⟨Bc,1,none⟩) lBc).trans u0,(h.cell (p:=⟨Bx,0,none⟩) lBx).trans u1,(h.cell (p:=⟨Bx,1,none⟩) lBx).trans u2,(h.cell (p:=⟨Bx,2,none⟩) lBx).trans u3,h⟩
       refine wp_region_held_drew (S:=λw'=>w'.cell? ⟨Bc,1,none⟩=some (.slice p2 E.length c2)∧w'.cell? ⟨Bx,0,none⟩=some (.int .u8 y0)∧w'.cell? ⟨Bx,1,none⟩=some (.int .u8 y1)∧w'.cell? ⟨Bx,2,none⟩=some (.int .i16 y2)∧Below VA.heap.size VA w') Zx (hS _ (Yae _ _).drew) (λhHeld=>?_);generalize VA.drew=X0 at *;have hX0:=hHeld.2.2.2.2;have hXs:=hX0.size;have hns0:ns≠0:=Zo;have hw0:IntKind.i64.wrap y0=y0:=Zd4 Zo Zo;have hw1:IntKind.i64.wrap y1=y1:=Zd4 Zo Zo;have hw2:IntKind.i64.wrap y2=y2:=Zd4 Zo Zo;have ht0:y0.tmod (ns:Int)=y0%(ns:Int):=Ybr g00;have ht1:y1.tmod 17=y1%17:=Ybr g10;have hw3:IntKind.i64.wrap (1+y1%17)=1+y1%17:=Zd4 Zo Zo;have hw4:IntKind.i64.wrap (1000*y2)=1000*y2:=Zd4 Zo Zo;refine tk 1 (some 52) ?_;refine tk 2 (some 53) ?_;refine tk 4 (some 55) ?_;refine tk 5 (some 56) ?_;refine tk 6 (some 57) ?_;refine tk 7 (some 58) ?_;refine tk 8 (some 59) ?_;refine tk 9 (some 60) ?_;refine tk 10 (some 61) ?_;refine tk 11 (some 62) ?_;refine tk 12 (some 63) ?_;refine tk 13 (some 64) ?_;refine tk 14 (some 65) ?_;refine tk 15 (some 66) ?_;refine tk 16 (some 67) ?_;refine tk 17 (some 68) ?_;refine tk 18 (some 69) ?_;refine tk 19 (some 70) ?_;have hCA:(#[.int .i64 (y0%(ns:Int)),.int .i64 (1+y1%17),.int .i64 (1000*y2)]:Array Value)=chgC (d.chg (y0,y1,y2)):=by
        have:((y0%(ns:Int)).toNat:Int)=y0%(ns:Int):=Int.toNat_of_nonneg (Ycc _ Zo);unfold LD.chg chgC;dsimp only;rw[hns,this]
       generalize hCd:d.chg (y0,y1,y2)=C at *;clear hw0 hw1 hw2 hw3 hw4 ht0 ht1;refine Mono.join_at (fuel':=1) (listed':=#[true,true,true,true,true,true,true,true,true,true,true,true,true,true,true,true,true,true,true,true,true,true,false]) (λ(x:World×Option Addr×Nat×Value×Value×Value) a=>((((a.put (some 51) x.2.2.2.1).put (some 54) x.2.2.2.2.1).put (some 71) x.2.2.2.2.2).put (some 72) (.slice x.2.1 (E.length+1) x.2.2.1))) (λx=>x.1) (λx=>Below VA.heap.size VA x.1∧ChgOwn x.1 VA.heap.size x.2.1 x.2.2.1 (E++[C])) ?_ ?_;rotate_left
       ·intro hJ
        refine Mono.fork2 0 20 ?_ ?_
        ·intro K hK
         refine Mono.arma (some 51) hK (.slice (some ⟨X0.heap.size,0,none⟩) 0 0) ((X0.alloc (.cells #[] 200))) (hS _ (Zad hX0 _)) (λhHeld=>Mono.pt ?_);clear hK K;refine Mono.fork2 3 20 ?_ ?_
         ·intro K hK
          obtain⟨p3,c3,W1',hr,ho,hb3,_⟩:=Zjb 193 (X0.alloc (.cells #[] 200)) X0.heap.size _ (Box.new _ _ _) (Yab _) p2 c2 E Zo (hcoA.below (Zad hX0 _)) (by rw[Yav];omega);refine Mono.arma (some 54) hK (.slice p3 E.length c3) W1' (hS _ ((Zad hX0 _).trans (hb3.mono hXs))) (λhHeld=>Mono.pt ?_) rfl Zx (Zbw (.tmp 51) (.tmp 53) 193 193 rfl _ _ rfl rfl hr);clear hK K hr;refine Mono.sta 20 (some 71) (.slice (some ⟨W1'.heap.size,0,none⟩) 1 1) ((W1'.alloc (.cells #[.int .i64 (y0%(ns:Int)),.int .i64 (1+y1%17),.int .i64 (1000*y2)] 200))) (hS _ (Zad hHeld.2.2.2.2 _)) (λhHeld=>Mono.pt ?_);have hs1:=hb3.size;rw[Yav]at hs1;obtain⟨p4,c4,W2',hr,ho2,hb4⟩:=Zja 193 (W1'.alloc (.cells #[.int .i64 (y0%(ns:Int)),.int .i64 (1+y1%17),.int .i64 (1000*y2)] 200)) X0.heap.size p3 c3 E C Zo (Zpc ho _) W1'.heap.size (hCA▸Box.new _ _ _) (by rw[Yav];omega);refine Mono.sta 21 (some 72) (.slice p4 (E.length+1) c4) W2' (hS _ (hHeld.2.2.2.2.trans (hb4.mono hXs))) (λhHeld=>Mono.pt ?_) rfl rfl Zx Zx (Zbw (.tmp 54) (.tmp 71) 193 193 rfl _ _ rfl rfl hr);clear hr;refine Mono.meet (hJ.out (W2',p4,c4,.slice (some ⟨X0.heap.size,0,none⟩) 0 0,.slice p3 E.length c3,.slice (some ⟨W1'.heap.size,0,none⟩) 1 1) ⟨hHeld.2.2.2.2,ho2 _ hXs⟩)
         ·intro K hK
          refine Mono.arma (some 71) hK (.slice (some ⟨(X0.alloc (.cells #[] 200)).heap.size,0,none⟩) 1 1) (((X0.alloc (.cells #[] 200)).alloc (.cells #[.int .i64 (y0%(ns:Int)),.int .i64 (1+y1%17),.int .i64 (1000*y2)] 200))) (hS _ (Zad (Zad hX0 _) _)) (λhHeld=>Mono.pt ?_);clear hK K;obtain⟨p3,c3,W1',hr,ho,hb3,hg3⟩:=Zjb 193 ((X0.alloc (.cells #[] 200)).alloc (.cells #[.int .i64 (y0%(ns:Int)),.int .i64 (1+y1%17),.int .i64 (1000*y2)] 200)) X0.heap.size _ ((Box.new X0 _ _).alloc _) (Yab _) p2 c2 E Zo (hcoA.below (Zad (Zad hX0 _) _)) (by rw[Yav,Yav];omega);refine Mono.sta 3 (some 54) (.slice p3 E.length c3) W1' (hS _ (hHeld.2.2.2.2.trans (hb3.mono hXs))) (λhHeld=>Mono.pt ?_) rfl rfl Zx Zx (Zbw (.tmp 51) (.tmp 53) 193 193 rfl _ _ rfl rfl hr);clear hr;have bg0:=Box.new (X0.alloc (.cells #[] 200)) 200 #[.int .i64 (y0%(ns:Int)),.int .i64 (1+y1%17),.int .i64 (1000*y2)];have bg:Box W1' (X0.alloc (.cells #[] 200)).heap.size 200 #[.int .i64 (y0%(ns:Int)),.int .i64 (1+y1%17),.int .i64 (1000*y2)]:=⟨(hg3.block _ bg0.lt (by rw[Yav];show some (X0.heap.size+1)≠some X0.heap.size;simp)).trans bg0.blk⟩
          have hs1:=hb3.size;rw[Yav,Yav]at hs1;obtain⟨p4,c4,W2',hr,ho2,hb4⟩:=Zja 193 W1' X0.heap.size p3 c3 E C Zo ho (X0.alloc (.cells #[] 200)).heap.size (hCA▸bg) Zo;refine Mono.sta 21 (some 72) (.slice p4 (E.length+1) c4) W2' (hS _ (hHeld.2.2.2.2.trans (hb4.mono hXs))) (λhHeld=>Mono.pt ?_) rfl rfl Zx Zx (Zbw (.tmp 54) (.tmp 71) 193 193 rfl _ _ rfl rfl hr);clear hr;refine Mono.meet (hJ.out (W2',p4,c4,.slice (some ⟨X0.heap.size,0,none⟩) 0 0,.slice p3 E.length c3,.slice (some ⟨(X0.alloc (.cells #[] 200)).heap.size,0,none⟩) 1 1) ⟨hHeld.2.2.2.2,ho2 _ hXs⟩)
        ·intro K hK
         refine Mono.arma (some 71) hK (.slice (some ⟨X0.heap.size,0,none⟩) 1 1) ((X0.alloc (.cells #[.int .i64 (y0%(ns:Int)),.int .i64 (1+y1%17),.int .i64 (1000*y2)] 200))) (hS _ (Zad hX0 _)) (λhHeld=>Mono.pt ?_);clear hK K;refine Mono.sta 0 (some 51) (.slice (some ⟨(X0.alloc (.cells #[.int .i64 (y0%(ns:Int)),.int .i64 (1+y1%17),.int .i64 (1000*y2)] 200)).heap.size,0,none⟩) 0 0) (((X0.alloc (.cells #[.int .i64 (y0%(ns:Int)),.int .i64 (1+y1%17),.int .i64 (1000*y2)] 200)).alloc (.cells #[] 200))) (hS _ (Zad hHeld.2.2.2.2 _)) (λhHeld=>Mono.pt ?_);have hXg:VA.heap.size<=(X0.alloc (.cells #[.int .i64 (y0%(ns:Int)),.int .i64 (1+y1%17),.int .i64 (1000*y2)] 200)).heap.size:=by rw[Yav];omega
         obtain⟨p3,c3,W1',hr,ho,hb3,_⟩:=Zjb 193 ((X0.alloc (.cells #[.int .i64 (y0%(ns:Int)),.int .i64 (1+y1%17),.int .i64 (1000*y2)] 200)).alloc (.cells #[] 200)) (X0.alloc (.cells #[.int .i64 (y0%(ns:Int)),.int .i64 (1+y1%17),.int .i64 (1000*y2)] 200)).heap.size _ (Box.new _ _ _) (Yab _) p2 c2 E Zo (hcoA.below (Zad (Zad hX0 _) _)) (by rw[Yav (X0.alloc (.cells #[.int .i64 (y0%(ns:Int)),.int .i64 (1+y1%17),.int .i64 (1000*y2)] 200))];omega);refine Mono.sta 3 (some 54) (.slice p3 E.length c3) W1' (hS _ (hHeld.2.2.2.2.trans (hb3.mono hXg))) (λhHeld=>Mono.pt ?_) rfl rfl Zx Zx (Zbw (.tmp 51) (.tmp 53) 193 193 rfl _ _ rfl rfl hr);clear hr;have bg:=((Box.new X0 200 #[.int .i64 (y0%(ns:Int)),.int .i64 (1+y1%17),.int .i64 (1000*y2)]).alloc (.cells #[] 200)).low hb3 (by rw[Yav];omega);have hs1:=hb3.size;rw[Yav (X0.alloc (.cells #[.int .i64 (y0%(ns:Int)),.int .i64 (1+y1%17),.int .i64 (1000*y2)] 200))]at hs1;obtain⟨p4,c4,W2',hr,ho2,hb4⟩:=Zja 193 W1' (X0.alloc (.cells #[.int .i64 (y0%(ns:Int)),.int .i64 (1+y1%17),.int .i64 (1000*y2)] 200)).heap.size p3 c3 E C Zo ho X0.heap.size (hCA▸bg) Zo;refine Mono.sta 21 (some 72) (.slice p4 (E.length+1) c4) W2' (hS _ (hHeld.2.2.2.2.trans (hb4.mono hXg))) (λhHeld=>Mono.pt ?_) rfl rfl Zx Zx (Zbw (.tmp 54) (.tmp 71) 193 193 rfl _ _ rfl rfl hr);clear hr;refine Mono.meet (hJ.out (W2',p4,c4,.slice (some ⟨(X0.alloc (.cells #[.int .i64 (y0%(ns:Int)),.int .i64 (1+y1%17),.int .i64 (1000*y2)] 200)).heap.size,0,none⟩) 0 0,.slice p3 E.length c3,.slice (some ⟨X0.heap.size,0,none⟩) 1 1) ⟨hHeld.2.2.2.2,ho2 _ hXg⟩)
       intro x hx;obtain⟨Z7,p7,c7,va7,vb7,vc7⟩:=x;obtain⟨hZ,ho7⟩:=hx;dsimp only at hZ ho7 ⊢;have hHeld:=hS _ hZ;refine Mono.pt ?_;refine tk 22 (some 10) ?_;refine wpAnyH_done Zx ?_ _;clear hS hX0 hXs u0 u1 u2 u3;have hleM:w5.heap.size<=VA.heap.size:=hBA8.size;have hBwZ:Below w.heap.size w Z7:=Zaa (Zaa hBw8 hBA) hZ;have hB5Z:=Zaa hBA8 hZ;have bcZ:=bcA.below hZ;have hcoZ:=hcoA.below hZ;have hlC:(E++[C]).length=E.length+1:=Zs;have hall:∀j,j<(E++[C]).length->(cAt (E++[C]) j).1<ns∧In 32768000 (cAt (E++[C]) j).2.2:=λj hj=>by
        have hm:cAt (E++[C]) j∈E++[C]:=by
         unfold cAt;rw[Yac,Yao hj];exact Ybw hj
        rcases Ycn.1 hm with hm|hm
        ·exact hEm.out _ hm
        ·rw[Ycd.1 hm];exact hCm.out
       have hmk:=hmade (E++[C]) Zo hall p7 c7 Z7 hBwZ (ho7.at Zo);rw[hlC]at hmk;replace hlC:=Yah hlC;clear hall hcoA hBA8 hHeld bx bcA lBc lBx b9 hB9 hkA hle9 hEm hCm hCA;go_wp2_with fail
       refine hmk.mono ?_;rintro e WM ⟨hbM,hno,hyes⟩;have bcM:=bcZ.below hbM;have hB5M:=Zaa hB5Z hbM;have ho7M:=ho7.below hbM;have hcoM:=hcoZ.below hbM;cases hms:madeS d.srfs (E++[C]) with
       | none =>
         obtain rfl:=hno hms;have hE1:E1=E:=hs1.out.2 hms;clear hno hyes hmk hs1;go_wp2
         go_roundw
         case rel=>exact⟨k+1,Zo,Zs,hB5M,p2,c2,by rw[hEE,hE1];exact bcM,by rw[hEE,hE1];exact hcoM⟩
         case measure=>simp[intOf];omega
       | some m =>
         obtain⟨p9,c9,cp9,cl9,rfl,_⟩:=hyes m hms;have hE1:E1=E++[C]:=hs1.out.1 (by rw[hms];exact λh=>by cases h);clear hno hyes hmk hs1;have hkN:=(KeepBut.refl Bc WM).set 1 (.slice p7 (E.length+1) c7);have bcN:Box (WM.setCell ⟨Bc,1,none⟩ (.slice p7 (E.length+1) c7)) Bc 195 #[.string nmi,.slice p7 (E.length+1) c7]:=bcM.set 1 _;have fM:=bcM.frozen 1;have cM:=bcM.cell 1;go_wp2
         have hB5N:=hkN.below hB5M hle2' hB5M.size;have ho7N:=ho7M.keep bcM Zd hkN;go_roundw
         case rel=>exact⟨k+1,Zo,Zs,hB5N,p7,c7,by rw[hEE,hE1,hlC.out];exact bcN,by rw[hEE,hE1];exact ho7N.low hleM⟩
         case measure=>simp[intOf];omega
      ·obtain rfl:k=4:=by omega
       have hxe':=hxe.out 4 Zo;rw[hxe']at bc hco;have hownR:=hown.below hB8;have hBRw:=Zaa hBr hB8;clear hxe hxe' hsuc hend hzero hclen hcfi hpi hmem hchg;go_wp2_with first|(refine Zac rfl 195 (.tmp 7) rfl Bc rfl 195 _ bc _ Tryz.underlying195 rfl (hz2 _ _ _ _) ?_)|(refine Zau (ps:=#[(0,.agg #[.string nmi,.slice p2 (css i).length c2])]) 40 1 #[(0,.tmp 83)] rfl rfl (by simp;rfl) (Zch htf hfi hfz hfs Zd Zd _ rfl) ?_;intro V7 B7 hle7 hB7 b7;have hown7:=Zaf hownR.row hB7;have hBV:=Zaa hBRw hB7)|(refine Zam rfl (.tmp 82) (.tmp 84) (ts:=40) (te:=195) rfl htf hfi hfz hfs hfb rfl Zd rfl rfl hown7 (H:=λ_=>[.string nmi,.slice p2 (css i).length c2]) (λ_=>rfl) (λ_ _=>Zr2 _ _ _ _) (Zbn b7 rfl) (λh=>by cases h) hBV.size Zo Zo ?_;intro p8 c8 V8 hown8 hg8 hn8)
       have hB9:=Below.appended hown7 hg8 hBV (Yab _);have hco8:ChgOwn V8 W.heap.size p2 c2 (css i):=⟨Zaw (Za6 hown7 hg8 (Zaf hco.1 hB7) Zd) hBr.size,hco.2⟩
       go_roundw
       case rel=>
        refine⟨i+1,Zo,Zs,hB9,p8,c8,λk=>if k=i then p2 else pp k,λk=>if k=i then c2 else cq k,rfl,⟨?_,hn8,λj hj=>?_⟩⟩
        ·rw[<-Zav (C:=ccat (cfC nmD css pp cq) i (λ_=>[.string nmi,.slice p2 (css i).length c2]))]
         ·exact hown8
         ·intro j hj
          unfold ccat cfC;by_cases hji:j<i
          ·have hne:j≠i:=by omega
           dsimp only;rw[if_pos hji,if_neg hne,if_neg hne]
          ·obtain rfl:j=i:=by omega
           dsimp only;rw[if_neg hji,if_pos rfl,if_pos rfl,hnmi]
        ·by_cases hji:j=i
         ·subst hji
          rw[if_pos rfl,if_pos rfl];exact hco8
         ·rw[if_neg hji,if_neg hji]
          have:=hownR.chg j Zo;exact⟨Za6 hown7 hg8 (Zaf this.1 hB7) Zd,this.2⟩
       case measure=>simp[intOf];omega
     ·obtain rfl:k=X.length:=by omega
      have hxe':=hxe.out X.length Zo;rw[hxe']at bc hco;have hownR:=hown.below hB8;have hBRw:=Zaa hBr hB8;clear hxe hxe' hsuc hend hzero hclen hcfi hpi hmem hchg;go_wp2_with first|(refine Zac rfl 195 (.tmp 7) rfl Bc rfl 195 _ bc _ Tryz.underlying195 rfl (hz2 _ _ _ _) ?_)|(refine Zau (ps:=#[(0,.agg #[.string nmi,.slice p2 (css i).length c2])]) 40 1 #[(0,.tmp 83)] rfl rfl (by simp;rfl) (Zch htf hfi hfz hfs Zd Zd _ rfl) ?_;intro V7 B7 hle7 hB7 b7;have hown7:=Zaf hownR.row hB7;have hBV:=Zaa hBRw hB7)|(refine Zam rfl (.tmp 82) (.tmp 84) (ts:=40) (te:=195) rfl htf hfi hfz hfs hfb rfl Zd rfl rfl hown7 (H:=λ_=>[.string nmi,.slice p2 (css i).length c2]) (λ_=>rfl) (λ_ _=>Zr2 _ _ _ _) (Zbn b7 rfl) (λh=>by cases h) hBV.size Zo Zo ?_;intro p8 c8 V8 hown8 hg8 hn8)
      have hB9:=Below.appended hown7 hg8 hBV (Yab _);have hco8:ChgOwn V8 W.heap.size p2 c2 (css i):=⟨Zaw (Za6 hown7 hg8 (Zaf hco.1 hB7) Zd) hBr.size,hco.2⟩
      go_roundw
      case rel=>
       refine⟨i+1,Zo,Zs,hB9,p8,c8,λk=>if k=i then p2 else pp k,λk=>if k=i then c2 else cq k,rfl,⟨?_,hn8,λj hj=>?_⟩⟩
       ·rw[<-Zav (C:=ccat (cfC nmD css pp cq) i (λ_=>[.string nmi,.slice p2 (css i).length c2]))]
        ·exact hown8
        ·intro j hj
         unfold ccat cfC;by_cases hji:j<i
         ·have hne:j≠i:=by omega
          dsimp only;rw[if_pos hji,if_neg hne,if_neg hne]
         ·obtain rfl:j=i:=by omega
          dsimp only;rw[if_neg hji,if_pos rfl,if_pos rfl,hnmi]
       ·by_cases hji:j=i
        ·subst hji
         rw[if_pos rfl,if_pos rfl];exact hco8
        ·rw[if_neg hji,if_neg hji]
         have:=hownR.chg j Zo;exact⟨Za6 hown7 hg8 (Zaf this.1 hB7) Zd,this.2⟩
      case measure=>simp[intOf];omega
   ·obtain rfl:i=2:=by omega
    have hmn:min n 2=2:=Zo;clear hx hputs hcfg hmem hchg hsuc hend hzero hclen;go_wp2
    go_ret
    exact⟨p',c',pp,cq,by rw[hmn];rfl,by rw[hmn];exact hown.low hB.size,hBw⟩
  ·obtain rfl:i=n:=by omega
   have hmn:min i 2=i:=Zo;clear hx hputs hcfg hmem hchg hsuc hend hzero hclen;go_wp2
   go_ret
   exact⟨p',c',pp,cq,by rw[hmn];rfl,by rw[hmn];exact hown.low hB.size,hBw⟩
theorem Zcz {W7 W8:World} {base:Nat} {p p8:Option Addr} {i c c8:Nat} {l l':List Srf} {s:Srf} {cp:Nat->Option Addr} {cl:Nat->Nat} {p5:Option Addr} {c5:Nat} (h7:W7.ownsRow base 117 22 (.slice p i c) i (crow (scell l cp cl) i)) (hg:W7.grownBy W8 (Value.slice p i c).ownBlock) (h8:W8.ownsRow base 117 22 (.slice p8 (i+1) c8) (i+1) (crow (ccat (scell l cp cl) i (λ_=>(s.cs p5 c5).toList)) (i+1)))
  (hn:p8=none->i+1=0∧c8=0) (hs:CoatOwn W7 base p5 c5 s.co) (hc:∀k,k<i->CoatOwn W7 base (cp k) (cl k) (sAt l k).co) (e1:∀k,k<i->sAt l' k=sAt l k) (e2:sAt l' i=s) :
  SrfsOwn W8 base p8 c8 l' (i+1) (λk=>if k=i then p5 else cp k) (λk=>if k=i then c5 else cl k) where
 row:=by
  rw[<-Zav (C:=ccat (scell l cp cl) i (λ_=>(s.cs p5 c5).toList))]
  ·exact h8
  ·intro k hk
   unfold ccat scell;by_cases hki:k<i
   ·have hne:k≠i:=by omega
    dsimp only;rw[if_pos hki,if_neg hne,if_neg hne,e1 k hki]
   ·obtain rfl:k=i:=by omega
    dsimp only;rw[if_neg hki,if_pos rfl,if_pos rfl,e2]
 nil:=hn
 coat:=λk hk=>by
  by_cases hki:k=i
  ·subst hki
   rw[if_pos rfl,if_pos rfl,e2];exact⟨Za6 h7 hg hs.1 Zd,hs.2⟩
  ·rw[if_neg hki,if_neg hki,e1 k Zo]
   have:=hc k Zo;exact⟨Za6 h7 hg this.1 Zd,this.2⟩
theorem Znn {W W':World} {base g cap i:Nat} {l:List Srf} {t:Srf} {cp:Nat->Option Addr} {cl:Nat->Nat} {cur new:Array Value} (h:SrfsOwn W base (some ⟨g,0,none⟩) cap l l.length cp cl) (b:Box W g 117 cur) (hi:i<l.length) (ht:t.co=[]) (hnew:cur.toList.take (i*22)++(t.cs none 0).toList++cur.toList.drop (i*22+22)=new.toList) (hk:KeepBut g W.heap.size W W') (b':Box W' g 117 new) :
  SrfsOwn W' base (some ⟨g,0,none⟩) cap (l.set i t) (l.set i t).length (λq=>if q=i then none else cp q) (λq=>if q=i then 0 else cl q):=by
 rw[List.length_set];refine⟨?_,λh=>(by cases h),λq hq=>?_⟩
 ·have hu:=Zg8 (C:=scell l cp cl) (t:=(t.cs none 0).toList) (λ_=>rfl) rfl h.row b hi hnew b'
  rw[<-Zav (C:=cupd (scell l cp cl) i (t.cs none 0).toList)]
  ·exact hu
  ·intro q hq
   unfold cupd scell;dsimp only;rw[Zl6 hi];by_cases hqi:q=i
   ·rw[if_pos hqi,if_pos hqi,if_pos hqi,if_pos hqi]
   ·rw[if_neg hqi,if_neg hqi,if_neg hqi,if_neg hqi]
 ·rw[Zl6 hi]
  by_cases hqi:q=i
  ·rw[if_pos hqi,if_pos hqi,if_pos hqi,ht]
   exact⟨Yaj _ _ _ _,λ_=>⟨rfl,rfl⟩⟩
  ·rw[if_neg hqi,if_neg hqi,if_neg hqi]
   have:=h.coat q hq;exact⟨Zap this.1 b Zd hk,this.2⟩
theorem Zdm {W:World} {base:Nat} {p:Option Addr} {c:Nat} {l:List Srf} {cp:Nat->Option Addr} {cl:Nat->Nat} (h:SrfsOwn W base p c l l.length cp cl) {i:Nat} (hi:i<l.length):∃g cur,p=some ⟨g,0,none⟩∧base<=g∧Box W g 117 cur∧i*22+22<=cur.size∧l.length<=c∧W.cell? ⟨g,i*22,none⟩=some (.int .i64 (sAt l i).kind)∧W.cell? ⟨g,i*22+12,none⟩=some (.int .i64 (sAt l i).thick):=by
 have hrow:=h.row;obtain⟨hl5,⟨h50,h51⟩|⟨g,cap,cur,hv5,hbg,hg5,hc5,hm5,hs5,ht5⟩⟩:=id hrow
 ·omega
 ·cases hv5
  have bg:Box W g 117 cur:=⟨hg5⟩
  have h22:i*22+22<=c*22:=Zo;have hcell:∀j,j<22->W.cell? ⟨g,i*22+j,none⟩=(scell l cp cl i)[j]?:=λj hj=>by
   rw[bg.cell,<-Zgi (sz:=22) (C:=scell l cp cl) (λ_=>rfl) l.length i j hi hj,<-ht5,Ycv,if_pos Zo,Yaq]
  exact⟨g,cur,rfl,hbg,bg,Zo,hc5,hcell 0 Zd,hcell 12 Zd⟩
theorem Zcc {R N:Nat} {a b c:World} (h:KeepBut R N a b) (k:KeepBut R b.heap.size b c):KeepBut R N a c:=
 ⟨k.os.trans h.os,k.tape.trans h.tape,k.output.trans h.output,Yak h.size k.size,λi hi hR=>(k.block i (Yaf hi h.size) hR).trans (h.block i hi hR)⟩
theorem _root_.Go.Mono.RdC.keepN {w w':World} {R:Nat} {p:Option Addr} {n c sz:Nat} {f:Nat->Nat->Value} (h:RdC w p n c sz f) (ha:∀b off,p=some ⟨b,off,none⟩->R<b) (hk:KeepBut R w.heap.size w w'):RdC w' p n c sz f:=by
 obtain⟨h1,h2,h3⟩:=h;refine⟨h1,h2,λhn=>?_⟩;obtain⟨b,off,hp,hb,hc⟩:=h3 hn;exact⟨b,off,hp,Yaf hb hk.size,λi j hi hj=>(hk.cell b _ hb (by have:=ha b off hp;omega)).trans (hc i j hi hj)⟩
theorem Zr3 {d:LD} {i:Nat} (h1:i<d.surfs.length) (h2:i<5):sAt ((d.surfs.take 5).map SD.srf) i=(d.surfs.getD i sd0).srf:=by
 unfold sAt;simp[Yac,Ycj,Ycv,h1,h2]
theorem Zpd (d:LD) (hd:d.ok) (q:LDP) (w:World) (hl:LDAt w d q) :
  Calls Tryz.prog 39 #[.agg (ldC d q)] w λe w'=>∃q':LenP,e=.returned (.agg (lenC d.len q'))∧LenAt w' d.len q'∧(∀b off,q'.pf=some ⟨b,off,none⟩->w.heap.size<=b)∧(∀b off,q'.pw=some ⟨b,off,none⟩->w.heap.size<=b)∧SrfsOwn w' w.heap.size q'.p q'.c d.srfs d.srfs.length q'.cp q'.cl∧Below w.heap.size w w':=by
 have hsA:∀(s:Srf) p c,(Tryz.prog.info? 117).map (·.size)=some (s.cs p c).size:=λ_ _ _=>Zk;have hzd:∀(s:SD) p c,(Tryz.prog.info? 151).map (·.size)=some (sdC s p c).toList.length:=λ_ _ _=>Zk;have hzA:(Tryz.prog.info? 28).map (·.size)=some (ldC d q).size:=Zk;have hzL:∀(a:Len) q,(Tryz.prog.info? 42).map (·.size)=some (lenC a q).size:=λ_ _=>Zk;obtain⟨si,hsi,hsz,hss,hsb⟩:=Zbd Zkt;have hts:Tryz.prog.underlying 39=some (.slice 117):=Tryz.underlying39;have hsurf:=λi (hi:i<d.surfs.length) W (hW:Below w.heap.size w W)=>Zk5 (d.surfs.getD i sd0) (hd.surfs _ (by rw[Yac,Yao hi];exact Ybw hi)) (q.pf i) (q.cf i) W ((hl.films i hi).below hW);obtain⟨hcap,hbig,hx⟩:=hl.surfs;have hlen5:((d.surfs.take 5).map SD.srf).length=min d.surfs.length 5:=by simp;omega
 have hget5:=λi (h1:i<d.surfs.length) (h2:i<5)=>Zr3 (d:=d) h1 h2;have hraw0:d.surfs.length=0->d.raw=[stdS 10000000]:=λh=>by unfold LD.raw;rw[if_pos (Ydj.1 h)]
 have hraw1:d.surfs.length≠0->d.raw=(d.surfs.take 5).map SD.srf:=λh=>by unfold LD.raw;rw[if_neg λe=>h (Ydj.2 e)]
 have hraw:=LD.raw_ok hd;have hst:=LD.st_lt hd;have hstE:d.stop%(d.raw.length:Int)=(d.st:Int):=by
  unfold LD.st;exact(Int.toNat_of_nonneg (Ycc _ Zo)).symm
 have hfr1:(sAt d.raw d.st).kind=3->d.front=d.raw.set d.st (stdS (sAt d.raw d.st).thick):=λh=>by unfold LD.front;rw[if_pos (show(d.raw.getD d.st (stdS 0)).kind=3 from h)];rfl
 have hfr0:(sAt d.raw d.st).kind≠3->d.front=d.raw:=λh=>by unfold LD.front;rw[if_neg (show ¬(d.raw.getD d.st (stdS 0)).kind=3 from h)]
 have hsrfs:d.srfs=d.front++[imgS (1000*d.image)]:=rfl;have hsr:=LD.srfs_ok hd;obtain⟨stop0,stop1⟩:=hd.stop;obtain⟨pup0,pup1⟩:=hd.pupil;obtain⟨pri0,pri1⟩:=hd.primary;obtain⟨img0,img1⟩:=hd.image;have hwaves:=λW (hW:Below w.heap.size w W)=>Zmc (ldC d q) hzA d hd.waves q.qw q.kw rfl W (hl.waves.below hW);have hfar:=λW=>Zky (ldC d q) hzA d.far hd.far rfl W;have hfields:=λW (hW:Below w.heap.size w W)=>Zkz (ldC d q) hzA d hd.fields hd.far q.qf q.kf rfl rfl W (hl.fields.below hW);have hconfs:=λ(p:Option Addr) (c:Nat) (cp:Nat->Option Addr) (cl:Nat->Nat) W (hW:Below w.heap.size w W) (h:SrfsAt W p c d.srfs cp cl)=>Zjc (ldC d q) d hd q rfl p c cp cl W (hl.below hW) h;have hnw1:1<=d.nw∧d.nw<=5:=by
  have hnw:d.nw=if d.waves.length=0 then 1 else min d.waves.length 5:=by unfold LD.nw;by_cases h0:d.waves=[]<;>simp[h0]
  rw[hnw];split<;>omega
 have e0:(ldC d q)[0]? = some (.slice q.ps d.surfs.length q.cs):=rfl;have e1:(ldC d q)[1]? = some (.int .u8 d.stop):=rfl;have e3:(ldC d q)[3]? = some (.int .u8 d.pupil):=rfl;have e6:(ldC d q)[6]? = some (.int .u8 d.primary):=rfl;have e7:(ldC d q)[7]? = some (.int .i16 d.image):=rfl;have hlenC:∀q',lenC d.len q' = #[.string nmDraft,.int .i64 d.farM,.int .i64 (100000*(1+d.pupil)),.int .i64 (d.st:Int),.int .i64 (d.primary%(d.nw:Int)),.slice q'.pf (d.fieldsM (min d.fields.length 4)).length q'.cf,.slice q'.pw d.nw q'.cw,.slice q'.p d.srfs.length q'.c,.slice q'.pc (min d.configs.length 2) q'.cc]:=λ_=>rfl;have hfarE:100000*(d.far%10001)=d.farM:=rfl;rw[hfarE]at hfar;have hw1:IntKind.i64.wrap d.stop=d.stop:=Zd4 Zo Zo;have hw2:IntKind.i64.wrap d.primary=d.primary:=Zd4 Zo Zo;have hw3:IntKind.i64.wrap d.pupil=d.pupil:=Zd4 Zo Zo;have hw4:IntKind.i64.wrap (1+d.pupil)=1+d.pupil:=Zd4 Zo Zo;have hw5:IntKind.i64.wrap (100000*(1+d.pupil))=100000*(1+d.pupil):=Zd4 Zo Zo;have ht2:d.primary.tmod (d.nw:Int)=d.primary%(d.nw:Int):=Ybr pri0;have htst:d.stop.tmod (d.raw.length:Int)=(d.st:Int):=by rw[Ybr stop0,hstE]
 have hrl:d.raw.length=if d.surfs.length=0 then 1 else min d.surfs.length 5:=by
  by_cases h:d.surfs.length=0
  ·rw[hraw0 h,if_pos h];rfl
  ·rw[hraw1 h,hlen5,if_neg h]
 have hcl:∀k,k<min d.configs.length 2->(d.conf (d.configs.getD k [])).length<=4:=λk hk=>(Zhd hd (λy hy=>by
  rw[Yac,Yao Zo]at hy;exact hd.configs _ (Ybw Zo) y hy)).1
 have hLat:=λW (hW:Below w.heap.size w W)=>hl.below hW;replace hsurf:=Yah hsurf;replace hget5:=Yah hget5;replace hraw0:=Yah hraw0;replace hraw1:=Yah hraw1;replace hfr0:=Yah hfr0;replace hfr1:=Yah hfr1;replace hsrfs:=Yah hsrfs;replace hlenC:=Yah hlenC;replace hrl:=Yah hrl;replace hlen5:=Yah hlen5;replace hfarE:=Yah hfarE;replace hstE:=Yah hstE;generalize hA:ldC d q=A at *;generalize hL:(d.surfs.take 5).map SD.srf=L at *;generalize hn:d.surfs.length=n at *;go_enter Tryz.func39,Tryz.ntmps39
 go_wp2_with fail
 refine Zeh λW hB hsz0 b1 b2=>?_;go_wp2
 go_loopw [3,4] (λv x wr=>∃i:Nat,i<=min n 5∧x=.int .i64 (i:Int)∧Below W.heap.size W wr∧∃p' c' cp cl,v=.slice p' i c'∧SrfsOwn wr W.heap.size p' c' L i cp cl) (λ_ x _=>(min n 5-intOf x).toNat)
 case atStart=>exact⟨0,Yat _,rfl,Yae _ _,none,0,λ_=>none,λ_=>0,rfl,⟨Yaj _ _ _ _,λ_=>⟨rfl,rfl⟩,λk hk=>Zo⟩⟩
 case round=>
  obtain⟨i,hi,rfl,hBr,p',c',cp,cl,rfl,hown⟩:=hrel;have hBw:=Zaa hB hBr;replace b1:=b1.below hBr;replace b2:=b2.below hBr;have c0:=(b1.cell 0).trans e0;have l1:=b1.lt;by_cases hin:i<n
  ·have hi':(i:Int)<n:=by omega
   by_cases hi5:i<5
   ·have hi5':(i:Int)<5:=by omega
    obtain⟨b,off,hq,hb,hcell⟩:=hx Zo;rw[hq]at c0;have hbr:=Yaf hb hBw.size;have hrg:wr.rangeAt b (off+i*22) (sdC (d.surfs.getD i sd0) (q.pf i) (q.cf i)).toList:=λj v hv=>by
     have hj:j<22:=(Yan.1 hv).1;refine((hBw.cell (p:=⟨b,off+i*22+j,none⟩) hb).trans (hcell i j hin hj)).trans ?_;rw[Yaq]at hv;rw[Yax,hv];rfl
    have hsf:=hsurf.out i hin wr hBw;have hgt:=hget5.out i hin hi5;clear hcell hx hsurf hget5 hconfs hfields hwaves hfar hLat hl;generalize d.surfs.getD i sd0=sd at *;generalize hS:sd.srf=S at *;go_wp2_with (refine wpList_load_mid rfl 151 (.tmp 22) rfl b (off+i*22) rfl (sdC sd (q.pf i) (q.cf i)).toList _ hrg Tryz.underlying151 rfl (hzd _ _ _) ?_)
    refine hsf.mono ?_;rintro e W5 ⟨p5,c5,rfl,hco5,hb5⟩;have hown5:=hown.below hb5;have hB5:=Zaa hBr hb5;go_wp2_with first|(refine Zau (ps:=#[(0,.agg (S.cs p5 c5))]) 39 1 #[(0,.tmp 24)] rfl rfl (by simp;rfl) (Zch hts hsi hsz hss Zd Zd _ rfl) ?_;intro V7 B7 hle7 hB7 b7;have hown7:=hown5.below hB7;have hBV:=Zaa hB5 hB7)|(refine Zam rfl (.tmp 18) (.tmp 25) (ts:=39) (te:=117) rfl hts hsi hsz hss hsb rfl Zd rfl rfl hown7.row (H:=λ_=>(S.cs p5 c5).toList) (λ_=>rfl) (λ_ _=>Zc6 _ _ _) (Zbn b7 rfl) (λh=>by cases h) hBV.size Zo Zo ?_;intro p8 c8 V8 hown8 hg8 hn8)
    have hB8:=Below.appended hown7.row hg8 hBV (Yab _);have hfin:=Zcz (l':=L) hown7.row hg8 hown8 hn8 ⟨Zaw (Zaf hco5.1 hB7) hBr.size,hco5.2⟩ hown7.coat (λ_ _=>rfl) hgt;go_roundw
    case rel=>exact⟨i+1,Zo,Zs,hB8,p8,c8,_,_,rfl,hfin⟩
    case measure=>simp[intOf];omega
   ·have hi5':¬(i:Int)<5:=by omega
    have hR:d.raw.length=i:=by rw[hrl.out,if_neg Zo];omega
    have hraw9:SrfsOwn wr W.heap.size p' c' d.raw d.raw.length cp cl:=by rw[hR,hraw1.out Zo];exact hown
    have hne9:d.raw.length≠0:=Zo;have hFset:=LD.front_ok hd;obtain⟨g,cur,rfl,hgb,bg,hgs,hgc,k0,k12⟩:=Zdm hraw9 hst;have lg:=bg.lt;have hgw:w.heap.size+1<g:=Zo;rw[hR]at htst;have c1:=(b1.cell 1).trans e1;have c7:=(b1.cell 7).trans e7;have hstl:(d.st:Int)<i:=Zo;have hstn:d.st<i:=Zo;have hi16:i<=5:=Zo;have hin0:i≠0:=Zo;have hne:((i:Int)==0)=false:=beq_eq_false_iff_ne.2 Zo;have hFl:d.front.length=i:=by rw[hFset.2.1,hR]
    by_cases hk3:(sAt d.raw d.st).kind=3
    ·have hF:=hfr1.out hk3
     rw[hk3]at k0;have hcz:∀t,((stdS t).cs none 0).size=22:=λ_=>rfl;have hnew:cur.toList.take (d.st*22)++((stdS (sAt d.raw d.st).thick).cs none 0).toList++cur.toList.drop (d.st*22+((stdS (sAt d.raw d.st).thick).cs none 0).size)=(cur.toList.take (d.st*22)++((stdS (sAt d.raw d.st).thick).cs none 0).toList++cur.toList.drop (d.st*22+22)).toArray.toList:=rfl;have hupd:∀V6,KeepBut g wr.heap.size wr V6->Box V6 g 117 (cur.toList.take (d.st*22)++((stdS (sAt d.raw d.st).thick).cs none 0).toList++cur.toList.drop (d.st*22+22)).toArray->∃cpF clF,SrfsOwn V6 W.heap.size (some ⟨g,0,none⟩) c' d.front i cpF clF:=λV6 hk6 b6=>⟨_,_,by
      have:=Znn hraw9 bg hst (t:=stdS (sAt d.raw d.st).thick) rfl rfl hk6 b6;rw[<-hF,hFl]at this;exact this⟩
     clear hraw9 hstE hrl hsurf hget5 hraw0 hraw1 hfr0 hfr1 hst hFset;clear hF hraw;generalize hTH:(sAt d.raw d.st).thick=th at *;generalize hstL:d.st=st at *;go_wp2_with first|(refine Zak rfl 117 _ rfl ((imgS (1000*d.image)).cs none 0) Zx ?_)|(refine Zak rfl 117 _ rfl ((stdS th).cs none 0) Zx ?_)|(refine Zab rfl 117 (.tmp 54) (.tmp 53) rfl g (st*22) 117 cur ((stdS th).cs none 0) _ rfl rfl bg (hsA _ _ _) (by rw[hcz];exact hgs) (Zay _ _ _) hnew ?_;intro V6 hk6 b6;have b1x:=hk6.box b1 b1.lt (Zo);have b2x:=hk6.box b2 b2.lt (Zo);have c7x:=(b1x.cell 7).trans e7;have l1x:=b1x.lt;have hB6:=hk6.below hBr hgb hBr.size;obtain⟨cpF,clF,hownF⟩:=hupd V6 hk6 b6)|(refine Zau (ps:=#[(0,.agg ((imgS (1000*d.image)).cs none 0))]) 39 1 #[(0,.tmp 60)] rfl rfl (by simp;rfl) (Zch hts hsi hsz hss Zd Zd _ rfl) ?_;intro V7 B7 hle7 hB7 b7;have hown7:=hownF.below hB7;have hBV:=Zaa hB6 hB7)|(refine Zam rfl (.tmp 55) (.tmp 61) (ts:=39) (te:=117) rfl hts hsi hsz hss hsb rfl Zd rfl rfl hown7.row (H:=λ_=>((imgS (1000*d.image)).cs none 0).toList) (λ_=>rfl) (λ_ _=>Zc6 _ _ _) (Zbn b7 rfl) (λh=>by cases h) hBV.size Zo Zo ?_;intro p8 c8 V8 hown8 hg8 hn8;have b1z:=(b1x.below hB7).appended hown7.row hg8 (Zd);have b2z:=(b2x.below hB7).appended hown7.row hg8 Zd)|(refine Zac rfl 28 (.tmp 1) rfl w.heap.size rfl 28 A b1z _ Tryz.underlying28 rfl hzA ?_)
     have hB8:=Below.appended hown7.row hg8 hBV (Yab _);have hsl:d.srfs.length=i+1:=by rw[hsrfs.out,Yay,hFl];rfl
     have hfin:=Zcz (l':=d.srfs) (s:=imgS (1000*d.image)) (p5:=none) (c5:=0) hown7.row hg8 hown8 hn8 ⟨Yaj _ _ _ _,λ_=>⟨rfl,rfl⟩⟩ hown7.coat (λk hk=>by rw[hsrfs.out];unfold sAt;rw[Yac,Yac,Ybb Zo]) (by rw[hsrfs.out];unfold sAt;rw[Yac,Ybc Zo,hFl,Ydt];rfl);have hat8:=hfin;rw[<-hsl]at hat8;have hwsz:w.heap.size+1<V8.heap.size:=b2z.lt;have hBw8:=Zaa hB hB8;clear hown8 hg8 hn8 hown7 hBV b7 hB7 hfin;generalize hcpE:(λk=>if k=i then(none:Option Addr) else cpF k)=cpz at hat8;generalize hclE:(λk=>if k=i then(0:Nat) else clF k)=clz at hat8;refine(hwaves V8 hBw8).mono ?_;rintro e WA ⟨pw,cw,rfl,hrdw,haw,hbA⟩;have hBA:=Zaa hBw8 hbA;have hbA8:V8.heap.size<=WA.heap.size:=hbA.size;have b1A:=b1z.below hbA;have b2A:=b2z.below hbA;have hatA:=hat8.below hbA;have hconfs':=λX hX h=>hconfs p8 c8 cpz clz X hX h;rw[hsl]at hconfs';clear b1z b2z hat8 hbA hwaves hconfs;have c3:=(b1A.cell 3).trans e3;have c6:=(b1A.cell 6).trans e6;have l1A:=b1A.lt;have hsA':=hBA.size;generalize hnwE:d.nw=nw at *;have hS:∀w',KeepBut (w.heap.size+1) WA.heap.size WA w'->w'.cell? ⟨w.heap.size,3,none⟩=some (.int .u8 d.pupil)∧w'.cell? ⟨w.heap.size,6,none⟩=some (.int .u8 d.primary)∧KeepBut (w.heap.size+1) WA.heap.size WA w':=λw' h=>⟨(h.cell _ _ l1A Zo).trans c3,(h.cell _ _ l1A Zo).trans c6,h⟩
     have hKB:∀w',KeepBut (w.heap.size+1) WA.heap.size WA w'->Below w.heap.size w w':=λw' h=>h.below hBA Zo hsA';have hnw0:nw≠0:=Zo;go_wp2_with fail
     refine wp_region_held_drew (S:=λw'=>w'.cell? ⟨w.heap.size,3,none⟩=some (.int .u8 d.pupil)∧w'.cell? ⟨w.heap.size,6,none⟩=some (.int .u8 d.primary)∧KeepBut (w.heap.size+1) WA.heap.size WA w') Zx (hS _ (KeepBut.refl _ _).drew) (λhHeld=>?_);have hB0:Below WA.heap.size WA WA.drew:=(Yae _ _).drew;generalize hXd:WA.drew=X0 at *;have hrX:∀w',KeepBut (w.heap.size+1) WA.heap.size WA w'->w'.rangeAt w.heap.size 0 A.toList:=λw' h=>(h.box b1A l1A Zo).range;refine tl 0 (some 65) rfl (.agg A) (Zaj 28 _ rfl w.heap.size 0 rfl A (λw' h=>hrX w' h.2.2) _ Tryz.underlying28 rfl hzA) ?_;refine tk 2 (some 67) ?_;refine tk 3 (some 68) ?_;refine tk 4 (some 69) ?_;refine tk 5 (some 70) ?_;refine tk 6 (some 71) ?_;refine tk 7 (some 72) ?_;refine tk 8 (some 73) ?_;refine tk 9 (some 74) ?_;refine tk 10 (some 75) ?_;refine tk 11 (some 76) ?_;refine tk 12 (some 77) ?_;refine tk 13 (some 78) ?_;refine tl 14 (some 79) rfl (.agg A) (Zaj 28 _ rfl w.heap.size 0 rfl A (λw' h=>hrX w' h.2.2) _ Tryz.underlying28 rfl hzA) ?_;refine tk 16 (some 81) ?_;refine tk 17 (some 82) ?_;refine tl 18 (some 83) rfl (.agg A) (Zaj 28 _ rfl w.heap.size 0 rfl A (λw' h=>hrX w' h.2.2) _ Tryz.underlying28 rfl hzA) ?_;refine tk 19 (some 84) ?_;have hatX:=hatA.below hB0;have b2X:=b2A.below hB0;refine Mono.stc 1 (some 66) (hfar X0) (λe WB hR=>?_);obtain⟨rfl,hbB⟩:=hR;refine⟨(hS _ (hHeld.2.2.call hbB)),λhHeld=>Mono.pt ?_⟩;refine Mono.stc 15 (some 80) (hfields WB (hKB _ hHeld.2.2)) (λe WC hR=>?_);obtain⟨pf,cf,rfl,hrdf,haf,hbC⟩:=hR;refine⟨(hS _ (hHeld.2.2.call hbC)),λhHeld=>Mono.pt ?_⟩;refine Mono.stc 20 (some 85) (hconfs' WC (hKB _ hHeld.2.2) (((hatX.below hbB).below hbC).at Zo hsr.1)) (λe WD hR=>?_);obtain⟨pc,cc,pp,cq,rfl,hcfs,hbD⟩:=hR;refine⟨(hS _ (hHeld.2.2.call hbD)),λhHeld=>Mono.pt ?_⟩;refine tl 21 (some 86) rfl (.agg #[.string nmDraft,.int .i64 d.farM,.int .i64 (100000*(1+d.pupil)),.int .i64 (st:Int),.int .i64 (d.primary%(nw:Int)),.slice pf (d.fieldsM (min d.fields.length 4)).length cf,.slice pw nw cw,.slice p8 (i+1) c8,.slice pc (min d.configs.length 2) cc]) (Zcs 42 _ rfl (#[.string nmDraft,.int .i64 d.farM,.int .i64 (100000*(1+d.pupil)),.int .i64 (st:Int),.int .i64 (d.primary%(nw:Int)),.slice pf (d.fieldsM (min d.fields.length 4)).length cf,.slice pw nw cw,.slice p8 (i+1) c8,.slice pc (min d.configs.length 2) cc]) Zx) ?_;have b2D:=((b2X.below hbB).below hbC).below hbD;have hatD:=((hatX.below hbB).below hbC).below hbD;have hrdwD:=(((hrdw.below hB0).below hbB).below hbC).below hbD;have hrdwD':RdC WD pw d.len.nw cw 2 (λi j=>if j=0 then .int .i64 (d.len.L i) else .int .i64 (d.len.G i)):=by
      have e:d.len.nw=nw:=hnwE;rw[e];exact hrdwD
     have hrdfD:=hrdf.below hbD;refine Mono.sto 22 42 _ _ (w.heap.size+1) 0 42 _ (#[.string nmDraft,.int .i64 d.farM,.int .i64 (100000*(1+d.pupil)),.int .i64 (st:Int),.int .i64 (d.primary%(nw:Int)),.slice pf (d.fieldsM (min d.fields.length 4)).length cf,.slice pw nw cw,.slice p8 (i+1) c8,.slice pc (min d.configs.length 2) cc]) (#[.string nmDraft,.int .i64 d.farM,.int .i64 (100000*(1+d.pupil)),.int .i64 (st:Int),.int .i64 (d.primary%(nw:Int)),.slice pf (d.fieldsM (min d.fields.length 4)).length cf,.slice pw nw cw,.slice p8 (i+1) c8,.slice pc (min d.configs.length 2) cc]) rfl rfl rfl rfl b2D Zk (Yaa rfl) (by simp[Value.oneCell']) (Zah rfl) (λWE hkE bE=>⟨hS _ (Zcc hHeld.2.2 hkE),?_⟩);have hbW:Below w.heap.size w WE:=hKB _ (Zcc hHeld.2.2 hkE);have hsXB:V8.heap.size<=WB.heap.size:=by have h1:=hbA8;have h2:=hB0.size;have h3:=hbB.size;omega
     refine wpAnyH_done Zk ?_ _;go_wp2
     refine bodyPost_ret (bE.results rfl _ _ rfl Tryz.underlying42 rfl Zk) rfl ?_;exact⟨⟨pf,cf,pw,cw,p8,c8,cpz,clz,pc,cc,pp,cq⟩,by rw[hlenC.out,hsl],⟨hrdfD.keepN (λb off e=>by have:=haf b off e;omega) hkE,hrdwD'.keepN (λb off e=>by have:=haw b off e;omega) hkE,(hatD.keep b2D Zd hkE).at Zo hsr.1,(hcfs.keep b2D Zd hkE).at (by show min d.configs.length 2<=1000;omega) (λk hk=>Yak (hcl k hk) Zd)⟩,λb off e=>(by have:=haf b off e;omega),λb off e=>(by have:=haw b off e;omega),(by have hz:=(hatD.keep b2D Zd hkE).low hB.size;first|exact hz|(rw[hsl]at hz;exact hz)),hbW⟩
    ·have hF:=hfr0.out hk3
     have hk3':((sAt d.raw d.st).kind==3)=false:=beq_eq_false_iff_ne.2 hk3;have hownF:SrfsOwn wr W.heap.size (some ⟨g,0,none⟩) c' d.front i cp cl:=by rw[hF];rw[hR]at hraw9;exact hraw9
     clear hraw9 hstE hrl hsurf hget5 hraw0 hraw1 hfr0 hfr1 hst hFset;generalize hKD:(sAt d.raw d.st).kind=kd at *;generalize hstL:d.st=st at *;go_wp2_with first|(refine Zak rfl 117 _ rfl ((imgS (1000*d.image)).cs none 0) Zx ?_)|(refine Zau (ps:=#[(0,.agg ((imgS (1000*d.image)).cs none 0))]) 39 1 #[(0,.tmp 60)] rfl rfl (by simp;rfl) (Zch hts hsi hsz hss Zd Zd _ rfl) ?_;intro V7 B7 hle7 hB7 b7;have hown7:=hownF.below hB7;have hBV:=Zaa hBr hB7)|(refine Zam rfl (.tmp 55) (.tmp 61) (ts:=39) (te:=117) rfl hts hsi hsz hss hsb rfl Zd rfl rfl hown7.row (H:=λ_=>((imgS (1000*d.image)).cs none 0).toList) (λ_=>rfl) (λ_ _=>Zc6 _ _ _) (Zbn b7 rfl) (λh=>by cases h) hBV.size Zo Zo ?_;intro p8 c8 V8 hown8 hg8 hn8;have b1z:=(b1.below hB7).appended hown7.row hg8 (Zd);have b2z:=(b2.below hB7).appended hown7.row hg8 Zd)|(refine Zac rfl 28 (.tmp 1) rfl w.heap.size rfl 28 A b1z _ Tryz.underlying28 rfl hzA ?_)
     have hB8:=Below.appended hown7.row hg8 hBV (Yab _);have hsl:d.srfs.length=i+1:=by rw[hsrfs.out,Yay,hFl];rfl
     have hfin:=Zcz (l':=d.srfs) (s:=imgS (1000*d.image)) (p5:=none) (c5:=0) hown7.row hg8 hown8 hn8 ⟨Yaj _ _ _ _,λ_=>⟨rfl,rfl⟩⟩ hown7.coat (λk hk=>by rw[hsrfs.out];unfold sAt;rw[Yac,Yac,Ybb Zo]) (by rw[hsrfs.out];unfold sAt;rw[Yac,Ybc Zo,hFl,Ydt];rfl);have hat8:=hfin;rw[<-hsl]at hat8;have hwsz:w.heap.size+1<V8.heap.size:=b2z.lt;have hBw8:=Zaa hB hB8;clear hown8 hg8 hn8 hown7 hBV b7 hB7 hfin;generalize hcpE:(λk=>if k=i then(none:Option Addr) else cp k)=cpz at hat8;generalize hclE:(λk=>if k=i then(0:Nat) else cl k)=clz at hat8;refine(hwaves V8 hBw8).mono ?_;rintro e WA ⟨pw,cw,rfl,hrdw,haw,hbA⟩;have hBA:=Zaa hBw8 hbA;have hbA8:V8.heap.size<=WA.heap.size:=hbA.size;have b1A:=b1z.below hbA;have b2A:=b2z.below hbA;have hatA:=hat8.below hbA;have hconfs':=λX hX h=>hconfs p8 c8 cpz clz X hX h;rw[hsl]at hconfs';clear b1z b2z hat8 hbA hwaves hconfs;have c3:=(b1A.cell 3).trans e3;have c6:=(b1A.cell 6).trans e6;have l1A:=b1A.lt;have hsA':=hBA.size;generalize hnwE:d.nw=nw at *;have hS:∀w',KeepBut (w.heap.size+1) WA.heap.size WA w'->w'.cell? ⟨w.heap.size,3,none⟩=some (.int .u8 d.pupil)∧w'.cell? ⟨w.heap.size,6,none⟩=some (.int .u8 d.primary)∧KeepBut (w.heap.size+1) WA.heap.size WA w':=λw' h=>⟨(h.cell _ _ l1A Zo).trans c3,(h.cell _ _ l1A Zo).trans c6,h⟩
     have hKB:∀w',KeepBut (w.heap.size+1) WA.heap.size WA w'->Below w.heap.size w w':=λw' h=>h.below hBA Zo hsA';have hnw0:nw≠0:=Zo;go_wp2_with fail
     refine wp_region_held_drew (S:=λw'=>w'.cell? ⟨w.heap.size,3,none⟩=some (.int .u8 d.pupil)∧w'.cell? ⟨w.heap.size,6,none⟩=some (.int .u8 d.primary)∧KeepBut (w.heap.size+1) WA.heap.size WA w') Zx (hS _ (KeepBut.refl _ _).drew) (λhHeld=>?_);have hB0:Below WA.heap.size WA WA.drew:=(Yae _ _).drew;generalize hXd:WA.drew=X0 at *;have hrX:∀w',KeepBut (w.heap.size+1) WA.heap.size WA w'->w'.rangeAt w.heap.size 0 A.toList:=λw' h=>(h.box b1A l1A Zo).range;refine tl 0 (some 65) rfl (.agg A) (Zaj 28 _ rfl w.heap.size 0 rfl A (λw' h=>hrX w' h.2.2) _ Tryz.underlying28 rfl hzA) ?_;refine tk 2 (some 67) ?_;refine tk 3 (some 68) ?_;refine tk 4 (some 69) ?_;refine tk 5 (some 70) ?_;refine tk 6 (some 71) ?_;refine tk 7 (some 72) ?_;refine tk 8 (some 73) ?_;refine tk 9 (some 74) ?_;refine tk 10 (some 75) ?_;refine tk 11 (some 76) ?_;refine tk 12 (some 77) ?_;refine tk 13 (some 78) ?_;refine tl 14 (some 79) rfl (.agg A) (Zaj 28 _ rfl w.heap.size 0 rfl A (λw' h=>hrX w' h.2.2) _ Tryz.underlying28 rfl hzA) ?_;refine tk 16 (some 81) ?_;refine tk 17 (some 82) ?_;refine tl 18 (some 83) rfl (.agg A) (Zaj 28 _ rfl w.heap.size 0 rfl A (λw' h=>hrX w' h.2.2) _ Tryz.underlying28 rfl hzA) ?_;refine tk 19 (some 84) ?_;have hatX:=hatA.below hB0;have b2X:=b2A.below hB0;refine Mono.stc 1 (some 66) (hfar X0) (λe WB hR=>?_);obtain⟨rfl,hbB⟩:=hR;refine⟨(hS _ (hHeld.2.2.call hbB)),λhHeld=>Mono.pt ?_⟩;refine Mono.stc 15 (some 80) (hfields WB (hKB _ hHeld.2.2)) (λe WC hR=>?_);obtain⟨pf,cf,rfl,hrdf,haf,hbC⟩:=hR;refine⟨(hS _ (hHeld.2.2.call hbC)),λhHeld=>Mono.pt ?_⟩;refine Mono.stc 20 (some 85) (hconfs' WC (hKB _ hHeld.2.2) (((hatX.below hbB).below hbC).at Zo hsr.1)) (λe WD hR=>?_);obtain⟨pc,cc,pp,cq,rfl,hcfs,hbD⟩:=hR;refine⟨(hS _ (hHeld.2.2.call hbD)),λhHeld=>Mono.pt ?_⟩;refine tl 21 (some 86) rfl (.agg #[.string nmDraft,.int .i64 d.farM,.int .i64 (100000*(1+d.pupil)),.int .i64 (st:Int),.int .i64 (d.primary%(nw:Int)),.slice pf (d.fieldsM (min d.fields.length 4)).length cf,.slice pw nw cw,.slice p8 (i+1) c8,.slice pc (min d.configs.length 2) cc]) (Zcs 42 _ rfl (#[.string nmDraft,.int .i64 d.farM,.int .i64 (100000*(1+d.pupil)),.int .i64 (st:Int),.int .i64 (d.primary%(nw:Int)),.slice pf (d.fieldsM (min d.fields.length 4)).length cf,.slice pw nw cw,.slice p8 (i+1) c8,.slice pc (min d.configs.length 2) cc]) Zx) ?_;have b2D:=((b2X.below hbB).below hbC).below hbD;have hatD:=((hatX.below hbB).below hbC).below hbD;have hrdwD:=(((hrdw.below hB0).below hbB).below hbC).below hbD;have hrdwD':RdC WD pw d.len.nw cw 2 (λi j=>if j=0 then .int .i64 (d.len.L i) else .int .i64 (d.len.G i)):=by
      have e:d.len.nw=nw:=hnwE;rw[e];exact hrdwD
     have hrdfD:=hrdf.below hbD;refine Mono.sto 22 42 _ _ (w.heap.size+1) 0 42 _ (#[.string nmDraft,.int .i64 d.farM,.int .i64 (100000*(1+d.pupil)),.int .i64 (st:Int),.int .i64 (d.primary%(nw:Int)),.slice pf (d.fieldsM (min d.fields.length 4)).length cf,.slice pw nw cw,.slice p8 (i+1) c8,.slice pc (min d.configs.length 2) cc]) (#[.string nmDraft,.int .i64 d.farM,.int .i64 (100000*(1+d.pupil)),.int .i64 (st:Int),.int .i64 (d.primary%(nw:Int)),.slice pf (d.fieldsM (min d.fields.length 4)).length cf,.slice pw nw cw,.slice p8 (i+1) c8,.slice pc (min d.configs.length 2) cc]) rfl rfl rfl rfl b2D Zk (Yaa rfl) (by simp[Value.oneCell']) (Zah rfl) (λWE hkE bE=>⟨hS _ (Zcc hHeld.2.2 hkE),?_⟩);have hbW:Below w.heap.size w WE:=hKB _ (Zcc hHeld.2.2 hkE);have hsXB:V8.heap.size<=WB.heap.size:=by have h1:=hbA8;have h2:=hB0.size;have h3:=hbB.size;omega
     refine wpAnyH_done Zk ?_ _;go_wp2
     refine bodyPost_ret (bE.results rfl _ _ rfl Tryz.underlying42 rfl Zk) rfl ?_;exact⟨⟨pf,cf,pw,cw,p8,c8,cpz,clz,pc,cc,pp,cq⟩,by rw[hlenC.out,hsl],⟨hrdfD.keepN (λb off e=>by have:=haf b off e;omega) hkE,hrdwD'.keepN (λb off e=>by have:=haw b off e;omega) hkE,(hatD.keep b2D Zd hkE).at Zo hsr.1,(hcfs.keep b2D Zd hkE).at (by show min d.configs.length 2<=1000;omega) (λk hk=>Yak (hcl k hk) Zd)⟩,λb off e=>(by have:=haf b off e;omega),λb off e=>(by have:=haw b off e;omega),(by have hz:=(hatD.keep b2D Zd hkE).low hB.size;first|exact hz|(rw[hsl]at hz;exact hz)),hbW⟩
  ·obtain rfl:i=n:=by omega
   clear hx;by_cases hi0:i=0
   ·subst hi0
    have hra:=hraw0.out rfl;have hR:d.raw.length=1:=by rw[hra];rfl
    have hst0:d.st=0:=Zo;have hk1:(sAt d.raw d.st).kind=1:=by rw[hra,hst0];rfl
    have hF:=hfr0.out (by rw[hk1];decide);have hFset:=LD.front_ok hd;have hFl:d.front.length=1:=by rw[hFset.2.1,hR]
    have hfrE:∀V3 p3 c3 cp3 cl3,SrfsOwn V3 W.heap.size p3 c3 d.raw (0+1) cp3 cl3->∃cpF clF,SrfsOwn V3 W.heap.size p3 c3 d.front 1 cpF clF∧∃g,p3=some ⟨g,0,none⟩∧V3.cell? ⟨g,0,none⟩=some (.int .i64 1)∧g<V3.heap.size∧1<=c3:=λV3 p3 c3 cp3 cl3 h=>by
     have h':SrfsOwn V3 W.heap.size p3 c3 d.raw 1 cp3 cl3:=h;rw[<-hR]at h';obtain⟨g,cur,e,_,bg,_,hgc,k0,_⟩:=Zdm h' hst;rw[hk1,hst0]at k0;exact⟨cp3,cl3,by rw[hF];exact h,g,e,k0,bg.lt,Zo⟩
    rw[hR]at htst;clear hstE hrl hsurf hget5 hraw0 hraw1 hfr0 hfr1 hst hFset hk1 htst hR hF;replace hst0:=Yah hst0;go_wp2_with first|(refine Zak rfl 117 _ rfl ((imgS (1000*d.image)).cs none 0) Zx ?_)|(refine Zak rfl 117 _ rfl ((stdS 10000000).cs none 0) Zx ?_)|(refine Zau (ps:=#[(0,.agg ((stdS 10000000).cs none 0))]) 39 1 #[(0,.tmp 31)] rfl rfl (by simp;rfl) (Zch hts hsi hsz hss Zd Zd _ rfl) ?_;intro V1 B1 hle1 hB1 bb1;have hown1:=hown.below hB1;have hBV1:=Zaa hBr hB1)|(refine Zam rfl (.tmp 30) (.tmp 32) (ts:=39) (te:=117) rfl hts hsi hsz hss hsb rfl Zd rfl rfl hown1.row (H:=λ_=>((stdS 10000000).cs none 0).toList) (λ_=>rfl) (λ_ _=>Zc6 _ _ _) (Zbn bb1 rfl) (λh=>by cases h) hBV1.size Zo Zo ?_;intro p3 c3 V3 hown3 hg3 hn3;have b1x:=(b1.below hB1).appended hown1.row hg3 (Zd);have b2x:=(b2.below hB1).appended hown1.row hg3 (Zd);have c1:=(b1x.cell 1).trans e1;have c7:=(b1x.cell 7).trans e7;have l1x:=b1x.lt;have hB3:=Below.appended hown1.row hg3 hBV1 (Yab _);have hraw9:=Zcz (l':=d.raw) (s:=stdS 10000000) (p5:=none) (c5:=0) hown1.row hg3 hown3 hn3 ⟨Yaj _ _ _ _,λ_=>⟨rfl,rfl⟩⟩ hown1.coat (λk hk=>Zo) (by rw[hra];rfl);obtain⟨cpF,clF,hownF,g,rfl,k0,lg,hgc⟩:=hfrE V3 p3 c3 _ _ hraw9)|(refine Zau (ps:=#[(0,.agg ((imgS (1000*d.image)).cs none 0))]) 39 1 #[(0,.tmp 60)] rfl rfl (by simp;rfl) (Zch hts hsi hsz hss Zd Zd _ rfl) ?_;intro V7 B7 hle7 hB7 b7;have hown7:=hownF.below hB7;have hBV:=Zaa hB3 hB7)|(refine Zam rfl (.tmp 55) (.tmp 61) (ts:=39) (te:=117) rfl hts hsi hsz hss hsb rfl Zd rfl rfl hown7.row (H:=λ_=>((imgS (1000*d.image)).cs none 0).toList) (λ_=>rfl) (λ_ _=>Zc6 _ _ _) (Zbn b7 rfl) (λh=>by cases h) hBV.size Zo Zo ?_;intro p8 c8 V8 hown8 hg8 hn8;have b1z:=(b1x.below hB7).appended hown7.row hg8 (Zd);have b2z:=(b2x.below hB7).appended hown7.row hg8 Zd)|(refine Zac rfl 28 (.tmp 1) rfl w.heap.size rfl 28 A b1z _ Tryz.underlying28 rfl hzA ?_)
    have hB8:=Below.appended hown7.row hg8 hBV (Yab _);have hsl:d.srfs.length=2:=by rw[hsrfs.out,Yay,hFl];rfl
    have hfin:=Zcz (l':=d.srfs) (s:=imgS (1000*d.image)) (p5:=none) (c5:=0) hown7.row hg8 hown8 hn8 ⟨Yaj _ _ _ _,λ_=>⟨rfl,rfl⟩⟩ hown7.coat (λk hk=>by rw[hsrfs.out];unfold sAt;rw[Yac,Yac,Ybb Zo]) (by rw[hsrfs.out];unfold sAt;rw[Yac,Ybc Zo,hFl,Ydt];rfl);have hat8:SrfsOwn V8 W.heap.size p8 c8 d.srfs 2 _ _:=hfin;rw[<-hsl]at hat8;have hwsz:w.heap.size+1<V8.heap.size:=b2z.lt;have hBw8:=Zaa hB hB8;clear hown8 hg8 hn8 hown7 hBV b7 hB7 hfin;generalize hcpE:(λk=>if k=1 then(none:Option Addr) else cpF k)=cpz at hat8;generalize hclE:(λk=>if k=1 then(0:Nat) else clF k)=clz at hat8;refine(hwaves V8 hBw8).mono ?_;rintro e WA ⟨pw,cw,rfl,hrdw,haw,hbA⟩;have hBA:=Zaa hBw8 hbA;have hbA8:V8.heap.size<=WA.heap.size:=hbA.size;have b1A:=b1z.below hbA;have b2A:=b2z.below hbA;have hatA:=hat8.below hbA;have hconfs':=λX hX h=>hconfs p8 c8 cpz clz X hX h;rw[hsl]at hconfs';clear b1z b2z hat8 hbA hwaves hconfs;have c3:=(b1A.cell 3).trans e3;have c6:=(b1A.cell 6).trans e6;have l1A:=b1A.lt;have hsA':=hBA.size;generalize hnwE:d.nw=nw at *;have hS:∀w',KeepBut (w.heap.size+1) WA.heap.size WA w'->w'.cell? ⟨w.heap.size,3,none⟩=some (.int .u8 d.pupil)∧w'.cell? ⟨w.heap.size,6,none⟩=some (.int .u8 d.primary)∧KeepBut (w.heap.size+1) WA.heap.size WA w':=λw' h=>⟨(h.cell _ _ l1A Zo).trans c3,(h.cell _ _ l1A Zo).trans c6,h⟩
    have hKB:∀w',KeepBut (w.heap.size+1) WA.heap.size WA w'->Below w.heap.size w w':=λw' h=>h.below hBA Zo hsA';have hnw0:nw≠0:=Zo;go_wp2_with fail
    refine wp_region_held_drew (S:=λw'=>w'.cell? ⟨w.heap.size,3,none⟩=some (.int .u8 d.pupil)∧w'.cell? ⟨w.heap.size,6,none⟩=some (.int .u8 d.primary)∧KeepBut (w.heap.size+1) WA.heap.size WA w') Zx (hS _ (KeepBut.refl _ _).drew) (λhHeld=>?_);have hB0:Below WA.heap.size WA WA.drew:=(Yae _ _).drew;generalize hXd:WA.drew=X0 at *;have hrX:∀w',KeepBut (w.heap.size+1) WA.heap.size WA w'->w'.rangeAt w.heap.size 0 A.toList:=λw' h=>(h.box b1A l1A Zo).range;refine tl 0 (some 65) rfl (.agg A) (Zaj 28 _ rfl w.heap.size 0 rfl A (λw' h=>hrX w' h.2.2) _ Tryz.underlying28 rfl hzA) ?_;refine tk 2 (some 67) ?_;refine tk 3 (some 68) ?_;refine tk 4 (some 69) ?_;refine tk 5 (some 70) ?_;refine tk 6 (some 71) ?_;refine tk 7 (some 72) ?_;refine tk 8 (some 73) ?_;refine tk 9 (some 74) ?_;refine tk 10 (some 75) ?_;refine tk 11 (some 76) ?_;refine tk 12 (some 77) ?_;refine tk 13 (some 78) ?_;refine tl 14 (some 79) rfl (.agg A) (Zaj 28 _ rfl w.heap.size 0 rfl A (λw' h=>hrX w' h.2.2) _ Tryz.underlying28 rfl hzA) ?_;refine tk 16 (some 81) ?_;refine tk 17 (some 82) ?_;refine tl 18 (some 83) rfl (.agg A) (Zaj 28 _ rfl w.heap.size 0 rfl A (λw' h=>hrX w' h.2.2) _ Tryz.underlying28 rfl hzA) ?_;refine tk 19 (some 84) ?_;have hatX:=hatA.below hB0;have b2X:=b2A.below hB0;refine Mono.stc 1 (some 66) (hfar X0) (λe WB hR=>?_);obtain⟨rfl,hbB⟩:=hR;refine⟨(hS _ (hHeld.2.2.call hbB)),λhHeld=>Mono.pt ?_⟩;refine Mono.stc 15 (some 80) (hfields WB (hKB _ hHeld.2.2)) (λe WC hR=>?_);obtain⟨pf,cf,rfl,hrdf,haf,hbC⟩:=hR;refine⟨(hS _ (hHeld.2.2.call hbC)),λhHeld=>Mono.pt ?_⟩;refine Mono.stc 20 (some 85) (hconfs' WC (hKB _ hHeld.2.2) (((hatX.below hbB).below hbC).at Zo hsr.1)) (λe WD hR=>?_);obtain⟨pc,cc,pp,cq,rfl,hcfs,hbD⟩:=hR;refine⟨(hS _ (hHeld.2.2.call hbD)),λhHeld=>Mono.pt ?_⟩;refine tl 21 (some 86) rfl (.agg #[.string nmDraft,.int .i64 d.farM,.int .i64 (100000*(1+d.pupil)),.int .i64 0,.int .i64 (d.primary%(nw:Int)),.slice pf (d.fieldsM (min d.fields.length 4)).length cf,.slice pw nw cw,.slice p8 2 c8,.slice pc (min d.configs.length 2) cc]) (Zcs 42 _ rfl (#[.string nmDraft,.int .i64 d.farM,.int .i64 (100000*(1+d.pupil)),.int .i64 0,.int .i64 (d.primary%(nw:Int)),.slice pf (d.fieldsM (min d.fields.length 4)).length cf,.slice pw nw cw,.slice p8 2 c8,.slice pc (min d.configs.length 2) cc]) Zx) ?_;have b2D:=((b2X.below hbB).below hbC).below hbD;have hatD:=((hatX.below hbB).below hbC).below hbD;have hrdwD:=(((hrdw.below hB0).below hbB).below hbC).below hbD;have hrdwD':RdC WD pw d.len.nw cw 2 (λi j=>if j=0 then .int .i64 (d.len.L i) else .int .i64 (d.len.G i)):=by
     have e:d.len.nw=nw:=hnwE;rw[e];exact hrdwD
    have hrdfD:=hrdf.below hbD;refine Mono.sto 22 42 _ _ (w.heap.size+1) 0 42 _ (#[.string nmDraft,.int .i64 d.farM,.int .i64 (100000*(1+d.pupil)),.int .i64 0,.int .i64 (d.primary%(nw:Int)),.slice pf (d.fieldsM (min d.fields.length 4)).length cf,.slice pw nw cw,.slice p8 2 c8,.slice pc (min d.configs.length 2) cc]) (#[.string nmDraft,.int .i64 d.farM,.int .i64 (100000*(1+d.pupil)),.int .i64 0,.int .i64 (d.primary%(nw:Int)),.slice pf (d.fieldsM (min d.fields.length 4)).length cf,.slice pw nw cw,.slice p8 2 c8,.slice pc (min d.configs.length 2) cc]) rfl rfl rfl rfl b2D Zk (Yaa rfl) (by simp[Value.oneCell']) (Zah rfl) (λWE hkE bE=>⟨hS _ (Zcc hHeld.2.2 hkE),?_⟩);have hbW:Below w.heap.size w WE:=hKB _ (Zcc hHeld.2.2 hkE);have hsXB:V8.heap.size<=WB.heap.size:=by have h1:=hbA8;have h2:=hB0.size;have h3:=hbB.size;omega
    refine wpAnyH_done Zk ?_ _;go_wp2
    refine bodyPost_ret (bE.results rfl _ _ rfl Tryz.underlying42 rfl Zk) rfl ?_;exact⟨⟨pf,cf,pw,cw,p8,c8,cpz,clz,pc,cc,pp,cq⟩,by rw[hlenC.out,hsl,hst0.out];rfl,⟨hrdfD.keepN (λb off e=>by have:=haf b off e;omega) hkE,hrdwD'.keepN (λb off e=>by have:=haw b off e;omega) hkE,(hatD.keep b2D Zd hkE).at Zo hsr.1,(hcfs.keep b2D Zd hkE).at (by show min d.configs.length 2<=1000;omega) (λk hk=>Yak (hcl k hk) Zd)⟩,λb off e=>(by have:=haf b off e;omega),λb off e=>(by have:=haw b off e;omega),(by have hz:=(hatD.keep b2D Zd hkE).low hB.size;first|exact hz|(rw[hsl]at hz;exact hz)),hbW⟩
   ·have hR:d.raw.length=i:=by rw[hrl.out,if_neg Zo];omega
    have hraw9:SrfsOwn wr W.heap.size p' c' d.raw d.raw.length cp cl:=by rw[hR,hraw1.out Zo];exact hown
    have hne9:d.raw.length≠0:=Zo;have hFset:=LD.front_ok hd;obtain⟨g,cur,rfl,hgb,bg,hgs,hgc,k0,k12⟩:=Zdm hraw9 hst;have lg:=bg.lt;have hgw:w.heap.size+1<g:=Zo;rw[hR]at htst;have c1:=(b1.cell 1).trans e1;have c7:=(b1.cell 7).trans e7;have hstl:(d.st:Int)<i:=Zo;have hstn:d.st<i:=Zo;have hi16:i<=5:=Zo;have hin0:i≠0:=Zo;have hne:((i:Int)==0)=false:=beq_eq_false_iff_ne.2 Zo;have hFl:d.front.length=i:=by rw[hFset.2.1,hR]
    by_cases hk3:(sAt d.raw d.st).kind=3
    ·have hF:=hfr1.out hk3
     rw[hk3]at k0;have hcz:∀t,((stdS t).cs none 0).size=22:=λ_=>rfl;have hnew:cur.toList.take (d.st*22)++((stdS (sAt d.raw d.st).thick).cs none 0).toList++cur.toList.drop (d.st*22+((stdS (sAt d.raw d.st).thick).cs none 0).size)=(cur.toList.take (d.st*22)++((stdS (sAt d.raw d.st).thick).cs none 0).toList++cur.toList.drop (d.st*22+22)).toArray.toList:=rfl;have hupd:∀V6,KeepBut g wr.heap.size wr V6->Box V6 g 117 (cur.toList.take (d.st*22)++((stdS (sAt d.raw d.st).thick).cs none 0).toList++cur.toList.drop (d.st*22+22)).toArray->∃cpF clF,SrfsOwn V6 W.heap.size (some ⟨g,0,none⟩) c' d.front i cpF clF:=λV6 hk6 b6=>⟨_,_,by
      have:=Znn hraw9 bg hst (t:=stdS (sAt d.raw d.st).thick) rfl rfl hk6 b6;rw[<-hF,hFl]at this;exact this⟩
     clear hraw9 hstE hrl hsurf hget5 hraw0 hraw1 hfr0 hfr1 hst hFset;clear hF hraw;generalize hTH:(sAt d.raw d.st).thick=th at *;generalize hstL:d.st=st at *;go_wp2_with first|(refine Zak rfl 117 _ rfl ((imgS (1000*d.image)).cs none 0) Zx ?_)|(refine Zak rfl 117 _ rfl ((stdS th).cs none 0) Zx ?_)|(refine Zab rfl 117 (.tmp 54) (.tmp 53) rfl g (st*22) 117 cur ((stdS th).cs none 0) _ rfl rfl bg (hsA _ _ _) (by rw[hcz];exact hgs) (Zay _ _ _) hnew ?_;intro V6 hk6 b6;have b1x:=hk6.box b1 b1.lt (Zo);have b2x:=hk6.box b2 b2.lt (Zo);have c7x:=(b1x.cell 7).trans e7;have l1x:=b1x.lt;have hB6:=hk6.below hBr hgb hBr.size;obtain⟨cpF,clF,hownF⟩:=hupd V6 hk6 b6)|(refine Zau (ps:=#[(0,.agg ((imgS (1000*d.image)).cs none 0))]) 39 1 #[(0,.tmp 60)] rfl rfl (by simp;rfl) (Zch hts hsi hsz hss Zd Zd _ rfl) ?_;intro V7 B7 hle7 hB7 b7;have hown7:=hownF.below hB7;have hBV:=Zaa hB6 hB7)|(refine Zam rfl (.tmp 55) (.tmp 61) (ts:=39) (te:=117) rfl hts hsi hsz hss hsb rfl Zd rfl rfl hown7.row (H:=λ_=>((imgS (1000*d.image)).cs none 0).toList) (λ_=>rfl) (λ_ _=>Zc6 _ _ _) (Zbn b7 rfl) (λh=>by cases h) hBV.size Zo Zo ?_;intro p8 c8 V8 hown8 hg8 hn8;have b1z:=(b1x.below hB7).appended hown7.row hg8 (Zd);have b2z:=(b2x.below hB7).appended hown7.row hg8 Zd)|(refine Zac rfl 28 (.tmp 1) rfl w.heap.size rfl 28 A b1z _ Tryz.underlying28 rfl hzA ?_)
     have hB8:=Below.appended hown7.row hg8 hBV (Yab _);have hsl:d.srfs.length=i+1:=by rw[hsrfs.out,Yay,hFl];rfl
     have hfin:=Zcz (l':=d.srfs) (s:=imgS (1000*d.image)) (p5:=none) (c5:=0) hown7.row hg8 hown8 hn8 ⟨Yaj _ _ _ _,λ_=>⟨rfl,rfl⟩⟩ hown7.coat (λk hk=>by rw[hsrfs.out];unfold sAt;rw[Yac,Yac,Ybb Zo]) (by rw[hsrfs.out];unfold sAt;rw[Yac,Ybc Zo,hFl,Ydt];rfl);have hat8:=hfin;rw[<-hsl]at hat8;have hwsz:w.heap.size+1<V8.heap.size:=b2z.lt;have hBw8:=Zaa hB hB8;clear hown8 hg8 hn8 hown7 hBV b7 hB7 hfin;generalize hcpE:(λk=>if k=i then(none:Option Addr) else cpF k)=cpz at hat8;generalize hclE:(λk=>if k=i then(0:Nat) else clF k)=clz at hat8;refine(hwaves V8 hBw8).mono ?_;rintro e WA ⟨pw,cw,rfl,hrdw,haw,hbA⟩;have hBA:=Zaa hBw8 hbA;have hbA8:V8.heap.size<=WA.heap.size:=hbA.size;have b1A:=b1z.below hbA;have b2A:=b2z.below hbA;have hatA:=hat8.below hbA;have hconfs':=λX hX h=>hconfs p8 c8 cpz clz X hX h;rw[hsl]at hconfs';clear b1z b2z hat8 hbA hwaves hconfs;have c3:=(b1A.cell 3).trans e3;have c6:=(b1A.cell 6).trans e6;have l1A:=b1A.lt;have hsA':=hBA.size;generalize hnwE:d.nw=nw at *;have hS:∀w',KeepBut (w.heap.size+1) WA.heap.size WA w'->w'.cell? ⟨w.heap.size,3,none⟩=some (.int .u8 d.pupil)∧w'.cell? ⟨w.heap.size,6,none⟩=some (.int .u8 d.primary)∧KeepBut (w.heap.size+1) WA.heap.size WA w':=λw' h=>⟨(h.cell _ _ l1A Zo).trans c3,(h.cell _ _ l1A Zo).trans c6,h⟩
     have hKB:∀w',KeepBut (w.heap.size+1) WA.heap.size WA w'->Below w.heap.size w w':=λw' h=>h.below hBA Zo hsA';have hnw0:nw≠0:=Zo;go_wp2_with fail
     refine wp_region_held_drew (S:=λw'=>w'.cell? ⟨w.heap.size,3,none⟩=some (.int .u8 d.pupil)∧w'.cell? ⟨w.heap.size,6,none⟩=some (.int .u8 d.primary)∧KeepBut (w.heap.size+1) WA.heap.size WA w') Zx (hS _ (KeepBut.refl _ _).drew) (λhHeld=>?_);have hB0:Below WA.heap.size WA WA.drew:=(Yae _ _).drew;generalize hXd:WA.drew=X0 at *;have hrX:∀w',KeepBut (w.heap.size+1) WA.heap.size WA w'->w'.rangeAt w.heap.size 0 A.toList:=λw' h=>(h.box b1A l1A Zo).range;refine tl 0 (some 65) rfl (.agg A) (Zaj 28 _ rfl w.heap.size 0 rfl A (λw' h=>hrX w' h.2.2) _ Tryz.underlying28 rfl hzA) ?_;refine tk 2 (some 67) ?_;refine tk 3 (some 68) ?_;refine tk 4 (some 69) ?_;refine tk 5 (some 70) ?_;refine tk 6 (some 71) ?_;refine tk 7 (some 72) ?_;refine tk 8 (some 73) ?_;refine tk 9 (some 74) ?_;refine tk 10 (some 75) ?_;refine tk 11 (some 76) ?_;refine tk 12 (some 77) ?_;refine tk 13 (some 78) ?_;refine tl 14 (some 79) rfl (.agg A) (Zaj 28 _ rfl w.heap.size 0 rfl A (λw' h=>hrX w' h.2.2) _ Tryz.underlying28 rfl hzA) ?_;refine tk 16 (some 81) ?_;refine tk 17 (some 82) ?_;refine tl 18 (some 83) rfl (.agg A) (Zaj 28 _ rfl w.heap.size 0 rfl A (λw' h=>hrX w' h.2.2) _ Tryz.underlying28 rfl hzA) ?_;refine tk 19 (some 84) ?_;have hatX:=hatA.below hB0;have b2X:=b2A.below hB0;refine Mono.stc 1 (some 66) (hfar X0) (λe WB hR=>?_);obtain⟨rfl,hbB⟩:=hR;refine⟨(hS _ (hHeld.2.2.call hbB)),λhHeld=>Mono.pt ?_⟩;refine Mono.stc 15 (some 80) (hfields WB (hKB _ hHeld.2.2)) (λe WC hR=>?_);obtain⟨pf,cf,rfl,hrdf,haf,hbC⟩:=hR;refine⟨(hS _ (hHeld.2.2.call hbC)),λhHeld=>Mono.pt ?_⟩;refine Mono.stc 20 (some 85) (hconfs' WC (hKB _ hHeld.2.2) (((hatX.below hbB).below hbC).at Zo hsr.1)) (λe WD hR=>?_);obtain⟨pc,cc,pp,cq,rfl,hcfs,hbD⟩:=hR;refine⟨(hS _ (hHeld.2.2.call hbD)),λhHeld=>Mono.pt ?_⟩;refine tl 21 (some 86) rfl (.agg #[.string nmDraft,.int .i64 d.farM,.int .i64 (100000*(1+d.pupil)),.int .i64 (st:Int),.int .i64 (d.primary%(nw:Int)),.slice pf (d.fieldsM (min d.fields.length 4)).length cf,.slice pw nw cw,.slice p8 (i+1) c8,.slice pc (min d.configs.length 2) cc]) (Zcs 42 _ rfl (#[.string nmDraft,.int .i64 d.farM,.int .i64 (100000*(1+d.pupil)),.int .i64 (st:Int),.int .i64 (d.primary%(nw:Int)),.slice pf (d.fieldsM (min d.fields.length 4)).length cf,.slice pw nw cw,.slice p8 (i+1) c8,.slice pc (min d.configs.length 2) cc]) Zx) ?_;have b2D:=((b2X.below hbB).below hbC).below hbD;have hatD:=((hatX.below hbB).below hbC).below hbD;have hrdwD:=(((hrdw.below hB0).below hbB).below hbC).below hbD;have hrdwD':RdC WD pw d.len.nw cw 2 (λi j=>if j=0 then .int .i64 (d.len.L i) else .int .i64 (d.len.G i)):=by
      have e:d.len.nw=nw:=hnwE;rw[e];exact hrdwD
     have hrdfD:=hrdf.below hbD;refine Mono.sto 22 42 _ _ (w.heap.size+1) 0 42 _ (#[.string nmDraft,.int .i64 d.farM,.int .i64 (100000*(1+d.pupil)),.int .i64 (st:Int),.int .i64 (d.primary%(nw:Int)),.slice pf (d.fieldsM (min d.fields.length 4)).length cf,.slice pw nw cw,.slice p8 (i+1) c8,.slice pc (min d.configs.length 2) cc]) (#[.string nmDraft,.int .i64 d.farM,.int .i64 (100000*(1+d.pupil)),.int .i64 (st:Int),.int .i64 (d.primary%(nw:Int)),.slice pf (d.fieldsM (min d.fields.length 4)).length cf,.slice pw nw cw,.slice p8 (i+1) c8,.slice pc (min d.configs.length 2) cc]) rfl rfl rfl rfl b2D Zk (Yaa rfl) (by simp[Value.oneCell']) (Zah rfl) (λWE hkE bE=>⟨hS _ (Zcc hHeld.2.2 hkE),?_⟩);have hbW:Below w.heap.size w WE:=hKB _ (Zcc hHeld.2.2 hkE);have hsXB:V8.heap.size<=WB.heap.size:=by have h1:=hbA8;have h2:=hB0.size;have h3:=hbB.size;omega
     refine wpAnyH_done Zk ?_ _;go_wp2
     refine bodyPost_ret (bE.results rfl _ _ rfl Tryz.underlying42 rfl Zk) rfl ?_;exact⟨⟨pf,cf,pw,cw,p8,c8,cpz,clz,pc,cc,pp,cq⟩,by rw[hlenC.out,hsl],⟨hrdfD.keepN (λb off e=>by have:=haf b off e;omega) hkE,hrdwD'.keepN (λb off e=>by have:=haw b off e;omega) hkE,(hatD.keep b2D Zd hkE).at Zo hsr.1,(hcfs.keep b2D Zd hkE).at (by show min d.configs.length 2<=1000;omega) (λk hk=>Yak (hcl k hk) Zd)⟩,λb off e=>(by have:=haf b off e;omega),λb off e=>(by have:=haw b off e;omega),(by have hz:=(hatD.keep b2D Zd hkE).low hB.size;first|exact hz|(rw[hsl]at hz;exact hz)),hbW⟩
    ·have hF:=hfr0.out hk3
     have hk3':((sAt d.raw d.st).kind==3)=false:=beq_eq_false_iff_ne.2 hk3;have hownF:SrfsOwn wr W.heap.size (some ⟨g,0,none⟩) c' d.front i cp cl:=by rw[hF];rw[hR]at hraw9;exact hraw9
     clear hraw9 hstE hrl hsurf hget5 hraw0 hraw1 hfr0 hfr1 hst hFset;generalize hKD:(sAt d.raw d.st).kind=kd at *;generalize hstL:d.st=st at *;go_wp2_with first|(refine Zak rfl 117 _ rfl ((imgS (1000*d.image)).cs none 0) Zx ?_)|(refine Zau (ps:=#[(0,.agg ((imgS (1000*d.image)).cs none 0))]) 39 1 #[(0,.tmp 60)] rfl rfl (by simp;rfl) (Zch hts hsi hsz hss Zd Zd _ rfl) ?_;intro V7 B7 hle7 hB7 b7;have hown7:=hownF.below hB7;have hBV:=Zaa hBr hB7)|(refine Zam rfl (.tmp 55) (.tmp 61) (ts:=39) (te:=117) rfl hts hsi hsz hss hsb rfl Zd rfl rfl hown7.row (H:=λ_=>((imgS (1000*d.image)).cs none 0).toList) (λ_=>rfl) (λ_ _=>Zc6 _ _ _) (Zbn b7 rfl) (λh=>by cases h) hBV.size Zo Zo ?_;intro p8 c8 V8 hown8 hg8 hn8;have b1z:=(b1.below hB7).appended hown7.row hg8 (Zd);have b2z:=(b2.below hB7).appended hown7.row hg8 Zd)|(refine Zac rfl 28 (.tmp 1) rfl w.heap.size rfl 28 A b1z _ Tryz.underlying28 rfl hzA ?_)
     have hB8:=Below.appended hown7.row hg8 hBV (Yab _);have hsl:d.srfs.length=i+1:=by rw[hsrfs.out,Yay,hFl];rfl
     have hfin:=Zcz (l':=d.srfs) (s:=imgS (1000*d.image)) (p5:=none) (c5:=0) hown7.row hg8 hown8 hn8 ⟨Yaj _ _ _ _,λ_=>⟨rfl,rfl⟩⟩ hown7.coat (λk hk=>by rw[hsrfs.out];unfold sAt;rw[Yac,Yac,Ybb Zo]) (by rw[hsrfs.out];unfold sAt;rw[Yac,Ybc Zo,hFl,Ydt];rfl);have hat8:=hfin;rw[<-hsl]at hat8;have hwsz:w.heap.size+1<V8.heap.size:=b2z.lt;have hBw8:=Zaa hB hB8;clear hown8 hg8 hn8 hown7 hBV b7 hB7 hfin;generalize hcpE:(λk=>if k=i then(none:Option Addr) else cp k)=cpz at hat8;generalize hclE:(λk=>if k=i then(0:Nat) else cl k)=clz at hat8;refine(hwaves V8 hBw8).mono ?_;rintro e WA ⟨pw,cw,rfl,hrdw,haw,hbA⟩;have hBA:=Zaa hBw8 hbA;have hbA8:V8.heap.size<=WA.heap.size:=hbA.size;have b1A:=b1z.below hbA;have b2A:=b2z.below hbA;have hatA:=hat8.below hbA;have hconfs':=λX hX h=>hconfs p8 c8 cpz clz X hX h;rw[hsl]at hconfs';clear b1z b2z hat8 hbA hwaves hconfs;have c3:=(b1A.cell 3).trans e3;have c6:=(b1A.cell 6).trans e6;have l1A:=b1A.lt;have hsA':=hBA.size;generalize hnwE:d.nw=nw at *;have hS:∀w',KeepBut (w.heap.size+1) WA.heap.size WA w'->w'.cell? ⟨w.heap.size,3,none⟩=some (.int .u8 d.pupil)∧w'.cell? ⟨w.heap.size,6,none⟩=some (.int .u8 d.primary)∧KeepBut (w.heap.size+1) WA.heap.size WA w':=λw' h=>⟨(h.cell _ _ l1A Zo).trans c3,(h.cell _ _ l1A Zo).trans c6,h⟩
     have hKB:∀w',KeepBut (w.heap.size+1) WA.heap.size WA w'->Below w.heap.size w w':=λw' h=>h.below hBA Zo hsA';have hnw0:nw≠0:=Zo;go_wp2_with fail
     refine wp_region_held_drew (S:=λw'=>w'.cell? ⟨w.heap.size,3,none⟩=some (.int .u8 d.pupil)∧w'.cell? ⟨w.heap.size,6,none⟩=some (.int .u8 d.primary)∧KeepBut (w.heap.size+1) WA.heap.size WA w') Zx (hS _ (KeepBut.refl _ _).drew) (λhHeld=>?_);have hB0:Below WA.heap.size WA WA.drew:=(Yae _ _).drew;generalize hXd:WA.drew=X0 at *;have hrX:∀w',KeepBut (w.heap.size+1) WA.heap.size WA w'->w'.rangeAt w.heap.size 0 A.toList:=λw' h=>(h.box b1A l1A Zo).range;refine tl 0 (some 65) rfl (.agg A) (Zaj 28 _ rfl w.heap.size 0 rfl A (λw' h=>hrX w' h.2.2) _ Tryz.underlying28 rfl hzA) ?_;refine tk 2 (some 67) ?_;refine tk 3 (some 68) ?_;refine tk 4 (some 69) ?_;refine tk 5 (some 70) ?_;refine tk 6 (some 71) ?_;refine tk 7 (some 72) ?_;refine tk 8 (some 73) ?_;refine tk 9 (some 74) ?_;refine tk 10 (some 75) ?_;refine tk 11 (some 76) ?_;refine tk 12 (some 77) ?_;refine tk 13 (some 78) ?_;refine tl 14 (some 79) rfl (.agg A) (Zaj 28 _ rfl w.heap.size 0 rfl A (λw' h=>hrX w' h.2.2) _ Tryz.underlying28 rfl hzA) ?_;refine tk 16 (some 81) ?_;refine tk 17 (some 82) ?_;refine tl 18 (some 83) rfl (.agg A) (Zaj 28 _ rfl w.heap.size 0 rfl A (λw' h=>hrX w' h.2.2) _ Tryz.underlying28 rfl hzA) ?_;refine tk 19 (some 84) ?_;have hatX:=hatA.below hB0;have b2X:=b2A.below hB0;refine Mono.stc 1 (some 66) (hfar X0) (λe WB hR=>?_);obtain⟨rfl,hbB⟩:=hR;refine⟨(hS _ (hHeld.2.2.call hbB)),λhHeld=>Mono.pt ?_⟩;refine Mono.stc 15 (some 80) (hfields WB (hKB _ hHeld.2.2)) (λe WC hR=>?_);obtain⟨pf,cf,rfl,hrdf,haf,hbC⟩:=hR;refine⟨(hS _ (hHeld.2.2.call hbC)),λhHeld=>Mono.pt ?_⟩;refine Mono.stc 20 (some 85) (hconfs' WC (hKB _ hHeld.2.2) (((hatX.below hbB).below hbC).at Zo hsr.1)) (λe WD hR=>?_);obtain⟨pc,cc,pp,cq,rfl,hcfs,hbD⟩:=hR;refine⟨(hS _ (hHeld.2.2.call hbD)),λhHeld=>Mono.pt ?_⟩;refine tl 21 (some 86) rfl (.agg #[.string nmDraft,.int .i64 d.farM,.int .i64 (100000*(1+d.pupil)),.int .i64 (st:Int),.int .i64 (d.primary%(nw:Int)),.slice pf (d.fieldsM (min d.fields.length 4)).length cf,.slice pw nw cw,.slice p8 (i+1) c8,.slice pc (min d.configs.length 2) cc]) (Zcs 42 _ rfl (#[.string nmDraft,.int .i64 d.farM,.int .i64 (100000*(1+d.pupil)),.int .i64 (st:Int),.int .i64 (d.primary%(nw:Int)),.slice pf (d.fieldsM (min d.fields.length 4)).length cf,.slice pw nw cw,.slice p8 (i+1) c8,.slice pc (min d.configs.length 2) cc]) Zx) ?_;have b2D:=((b2X.below hbB).below hbC).below hbD;have hatD:=((hatX.below hbB).below hbC).below hbD;have hrdwD:=(((hrdw.below hB0).below hbB).below hbC).below hbD;have hrdwD':RdC WD pw d.len.nw cw 2 (λi j=>if j=0 then .int .i64 (d.len.L i) else .int .i64 (d.len.G i)):=by
      have e:d.len.nw=nw:=hnwE;rw[e];exact hrdwD
     have hrdfD:=hrdf.below hbD;refine Mono.sto 22 42 _ _ (w.heap.size+1) 0 42 _ (#[.string nmDraft,.int .i64 d.farM,.int .i64 (100000*(1+d.pupil)),.int .i64 (st:Int),.int .i64 (d.primary%(nw:Int)),.slice pf (d.fieldsM (min d.fields.length 4)).length cf,.slice pw nw cw,.slice p8 (i+1) c8,.slice pc (min d.configs.length 2) cc]) (#[.string nmDraft,.int .i64 d.farM,.int .i64 (100000*(1+d.pupil)),.int .i64 (st:Int),.int .i64 (d.primary%(nw:Int)),.slice pf (d.fieldsM (min d.fields.length 4)).length cf,.slice pw nw cw,.slice p8 (i+1) c8,.slice pc (min d.configs.length 2) cc]) rfl rfl rfl rfl b2D Zk (Yaa rfl) (by simp[Value.oneCell']) (Zah rfl) (λWE hkE bE=>⟨hS _ (Zcc hHeld.2.2 hkE),?_⟩);have hbW:Below w.heap.size w WE:=hKB _ (Zcc hHeld.2.2 hkE);have hsXB:V8.heap.size<=WB.heap.size:=by have h1:=hbA8;have h2:=hB0.size;have h3:=hbB.size;omega
     refine wpAnyH_done Zk ?_ _;go_wp2
     refine bodyPost_ret (bE.results rfl _ _ rfl Tryz.underlying42 rfl Zk) rfl ?_;exact⟨⟨pf,cf,pw,cw,p8,c8,cpz,clz,pc,cc,pp,cq⟩,by rw[hlenC.out,hsl],⟨hrdfD.keepN (λb off e=>by have:=haf b off e;omega) hkE,hrdwD'.keepN (λb off e=>by have:=haw b off e;omega) hkE,(hatD.keep b2D Zd hkE).at Zo hsr.1,(hcfs.keep b2D Zd hkE).at (by show min d.configs.length 2<=1000;omega) (λk hk=>Yak (hcl k hk) Zd)⟩,λb off e=>(by have:=haf b off e;omega),λb off e=>(by have:=haw b off e;omega),(by have hz:=(hatD.keep b2D Zd hkE).low hB.size;first|exact hz|(rw[hsl]at hz;exact hz)),hbW⟩
end Go.Proofs.W
