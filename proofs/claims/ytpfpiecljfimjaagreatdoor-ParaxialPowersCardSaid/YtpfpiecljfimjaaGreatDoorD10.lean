/- The drafted optics of chapter 13: what it is and that it is valid. Part 10 of 14. No condition beside the row. -/
import Derived.Test.YtpfpiecljfimjaaGreatDoorD04
import Derived.Test.YtpfpiecljfimjaaGreatDoorD09
set_option linter.unusedVariables false
set_option linter.unusedSimpArgs false
set_option maxRecDepth 100000
set_option maxHeartbeats 4000000
namespace Go.Mono
theorem hsc (n d:Int) (hd:d≠0:=by decide) (h1:n.natAbs<=10 ^ 16:=by decide) (h2:d.natAbs<=10 ^ 16:=by decide):Hs 16 (Rat.divInt n d):=Hs.divInt n d hd h1 h2
def wQ (z:Int):Rat:=Rat.divInt (z*z) 1000000000000
theorem Zu7 {z:Int} (h0:400000<=z) (h1:z<=700000):(16:Rat)/100<=wQ z∧wQ z<=49/100:=by
 have a1:160000000000<=z*z:=Yef h0 h0 Zd Zo;have a2:z*z<=490000000000:=Yef h1 h1 Zo Zd;have b1:=Rat.intCast_le_intCast.2 a1;have b2:=Rat.intCast_le_intCast.2 a2;unfold wQ;rw[Rat.divInt_eq_div];generalize ((z*z:Int):Rat)=x at *;have e1:((160000000000:Int):Rat)=160000000000:=rfl;have e2:((490000000000:Int):Rat)=490000000000:=rfl;have e3:((1000000000000:Int):Rat)=1000000000000:=rfl;rw[e1]at b1;rw[e2]at b2;rw[e3];constructor<;>grind
theorem Zw9 {z:Int} (h0:400000<=z) (h1:z<=700000):Hs 13 (wQ z):=by
 have a1:160000000000<=z*z:=Yef h0 h0 Zd Zo;have a2:z*z<=490000000000:=Yef h1 h1 Zo Zd
 exact Hs.divInt _ _ Zd (by have : (10 : Nat) ^ 13 = 10000000000000 := by decide
                            omega) Zd
noncomputable def gIx (s:Rat):Int:=((rtN (s*Rat.divInt 400000000000000 1).floor.toNat:Int)+1).tdiv 2
theorem Zvp {s:Rat} (h1:1<=s) (h2:s<=16):20000000<=rtN (s*Rat.divInt 400000000000000 1).floor.toNat∧rtN (s*Rat.divInt 400000000000000 1).floor.toNat<=80000000:=by
 have e:Rat.divInt 400000000000000 1=400000000000000:=by decide +kernel
 rw[e];have f1:(400000000000000:Int)<=(s*400000000000000).floor:=Rat.le_floor_iff.2 (by
  have:((400000000000000:Int):Rat)=400000000000000:=rfl;rw[this];grind)
 have f2:(s*400000000000000).floor<=6400000000000000:=by
  have h:=Rat.floor_le (s*400000000000000);have h3:(((s*400000000000000).floor:Int):Rat)<=((6400000000000000:Int):Rat):=by
   have:((6400000000000000:Int):Rat)=6400000000000000:=rfl;rw[this];grind
  exact Rat.intCast_le_intCast.1 h3
 generalize (s*400000000000000).floor=k at *;exact⟨Zx9 Zo,Zx8 Zo⟩
theorem Zsy {s:Rat} (h1:1<=s) (h2:s<=16):10000000<=gIx s∧gIx s<=40000000:=by
 obtain⟨h3,h4⟩:=Zvp h1 h2;unfold gIx;generalize rtN (s*Rat.divInt 400000000000000 1).floor.toNat=r at *;rw[Ybk Zo];omega
def rt_bk7 (W:Rat):Rat:=(((Rat.divInt 0 1+(Rat.divInt 1504600000 1000000000*Rat.divInt 1 1))+(Rat.divInt 4200000 1000000000*(Rat.divInt 1 1/W)))+(Rat.divInt 0 1000000000*((Rat.divInt 1 1/W)/W)))
def sq_bk7 (W:Rat):Rat:=rt_bk7 W*rt_bk7 W
def sq_sf1 (W:Rat):Rat:=(((Rat.divInt 1 1+((Rat.divInt 1559000000 1000000000*(Rat.divInt 1 1*W))/((Rat.divInt 1 1*W)+Rat.divInt (-12000000) 1000000000)))+((Rat.divInt 285000000 1000000000*(Rat.divInt 1 1*W))/((Rat.divInt 1 1*W)+Rat.divInt (-56000000) 1000000000)))+((Rat.divInt 0 1000000000*(Rat.divInt 1 1*W))/((Rat.divInt 1 1*W)+Rat.divInt 0 1000000000)))
def sq_f2 (W:Rat):Rat:=(((((Rat.divInt 2600000000 1000000000+(Rat.divInt (-9000000) 1000000000*(Rat.divInt 1 1*W)))+(Rat.divInt 22000000 1000000000*(Rat.divInt 1 1/W)))+(Rat.divInt 0 1000000000*((Rat.divInt 1 1/W)/W)))+(Rat.divInt 0 1000000000*(((Rat.divInt 1 1/W)/W)/W)))+(Rat.divInt 0 1000000000*((((Rat.divInt 1 1/W)/W)/W)/W)))
theorem gc0:Rat.divInt (-56000000) 1000000000 = -(7/125):=by decide +kernel
theorem gc1:Rat.divInt (-12000000) 1000000000 = -(3/250):=by decide +kernel
theorem gc2:Rat.divInt (-9000000) 1000000000 = -(9/1000):=by decide +kernel
theorem gc3:Rat.divInt 0 1=0:=by decide +kernel
theorem gc4:Rat.divInt 0 1000000000=0:=by decide +kernel
theorem gc5:Rat.divInt 1 1=1:=by decide +kernel
theorem gc6:Rat.divInt 4200000 1000000000=21/5000:=by decide +kernel
theorem gc7:Rat.divInt 22000000 1000000000=11/500:=by decide +kernel
theorem gc8:Rat.divInt 285000000 1000000000=57/200:=by decide +kernel
theorem gc9:Rat.divInt 1504600000 1000000000=7523/5000:=by decide +kernel
theorem Zxo:Rat.divInt 1559000000 1000000000=1559/1000:=by decide +kernel
theorem Zxp:Rat.divInt 2600000000 1000000000=13/5:=by decide +kernel
theorem Zob {x c:Rat} (hc:0<c) (h:c<=x):0<x⁻¹∧x*x⁻¹=1∧c*x⁻¹<=1:=by
 have h0:0<x:=by grind
 have h1:=Rat.inv_pos.2 h0;have h2:=Rat.mul_inv_cancel x (by grind);have h3:=Rat.mul_le_mul_of_nonneg_right h (show 0<=x⁻¹ by grind);exact⟨h1,h2,by grind⟩
theorem Zll {W:Rat} (h0:(16:Rat)/100<=W) (h1:W<=49/100):1<=rt_bk7 W∧rt_bk7 W<=4:=by
 unfold rt_bk7;simp only[Yew]at *;simp only[gc0,gc1,gc2,gc3,gc4,gc5,gc6,gc7,gc8,gc9,Zxo,Zxp];obtain⟨u0,u1,u2⟩:=Zob (c:=16/100) (by decide +kernel) (show 16/100<=W by grind);generalize W⁻¹=u at *;constructor<;>grind
theorem Zhm {W:Rat} (h0:(16:Rat)/100<=W) (h1:W<=49/100):1<=sq_bk7 W∧sq_bk7 W<=16:=by
 obtain⟨h2,h3⟩:=Zll h0 h1;unfold sq_bk7;generalize rt_bk7 W=n at *;have h4:=Rat.mul_le_mul_of_nonneg_left h2 (show 0<=n by grind);have h5:=Rat.mul_le_mul_of_nonneg_left h3 (show 0<=n by grind);constructor<;>grind
theorem Zhn {W:Rat} (h0:(16:Rat)/100<=W) (h1:W<=49/100):1<=sq_sf1 W∧sq_sf1 W<=16:=by
 unfold sq_sf1;simp only[gc0,gc1,gc2,gc3,gc4,gc5,gc6,gc7,gc8,gc9,Zxo,Zxp];simp only[Yew];rw[Rat.one_mul,Rat.zero_mul,Rat.zero_mul,Rat.add_zero];have a1:(148:Rat)/1000<=W + -(3/250):=by grind
 have a2:(104:Rat)/1000<=W + -(7/125):=by grind
 simp only[Yew]at a1 a2 h0 h1;obtain⟨u0,u1,u2⟩:=Zob (by decide +kernel) a1;obtain⟨v0,v1,v2⟩:=Zob (by decide +kernel) a2;generalize (W + -(3*250⁻¹))⁻¹=u at *;generalize (W + -(7*125⁻¹))⁻¹=v at *;have e1:W*u=1+3*250⁻¹*u:=by grind
 have e2:W*v=1+7*125⁻¹*v:=by grind
 constructor<;>grind
theorem Zjs {W:Rat} (h0:(16:Rat)/100<=W) (h1:W<=49/100):1<=sq_f2 W∧sq_f2 W<=16:=by
 unfold sq_f2;simp only[gc0,gc1,gc2,gc3,gc4,gc5,gc6,gc7,gc8,gc9,Zxo,Zxp];simp only[Yew]at *;simp only[Rat.one_mul,Rat.zero_mul,Rat.add_zero];obtain⟨u0,u1,u2⟩:=Zob (c:=16*100⁻¹) (by decide +kernel) h0;generalize W⁻¹=u at *;constructor<;>grind
theorem Zho {q:Rat} (h:0<=q):decide (q.num.sign<0)=false:=decide_eq_false (by
 have:=Rat.num_nonneg.2 h;have:=Int.sign_nonneg_iff.2 this;omega)
theorem Zpy {s:Rat} (h1:1<=s):0<=s*Rat.divInt 400000000000000 1:=by
 rw[show Rat.divInt 400000000000000 1=400000000000000 by decide +kernel];grind
end Go.Mono
namespace Go.Proofs.W
open Go.RowKit Go.Mono
section
open Go.Ex
class HsC (k:outParam Nat) (q:Rat):Prop where
 out:Hs k q
instance {k l:Nat} {a b:Rat} [h:HsC k a] [g:HsC l b]:HsC (k+l+1) (a+b):=⟨h.1.add g.1⟩
instance {k l:Nat} {a b:Rat} [h:HsC k a] [g:HsC l b]:HsC (k+l) (a*b):=⟨h.1.mul g.1⟩
instance {k l:Nat} {a b:Rat} [h:HsC k a] [g:HsC l b]:HsC (k+l) (a/b):=⟨h.1.div g.1⟩
instance:HsC 16 (Rat.divInt 1504600000 1000000000):=⟨hsc _ _⟩
instance:HsC 16 (Rat.divInt 1 1):=⟨hsc _ _⟩
instance:HsC 16 (Rat.divInt 0 1):=⟨hsc _ _⟩
instance:HsC 16 (Rat.divInt 4200000 1000000000):=⟨hsc _ _⟩
instance:HsC 16 (Rat.divInt 0 1000000000):=⟨hsc _ _⟩
instance:HsC 16 (Rat.divInt (-12000000) 1000000000):=⟨hsc _ _⟩
instance:HsC 16 (Rat.divInt 1559000000 1000000000):=⟨hsc _ _⟩
instance:HsC 16 (Rat.divInt (-56000000) 1000000000):=⟨hsc _ _⟩
instance:HsC 16 (Rat.divInt 285000000 1000000000):=⟨hsc _ _⟩
instance:HsC 16 (Rat.divInt (-9000000) 1000000000):=⟨hsc _ _⟩
instance:HsC 16 (Rat.divInt 2600000000 1000000000):=⟨hsc _ _⟩
instance:HsC 16 (Rat.divInt 22000000 1000000000):=⟨hsc _ _⟩
instance:HsC 16 (Rat.divInt 400000000000000 1):=⟨hsc _ _⟩
theorem fq {k:Nat} {q:Rat} [h:HsC k q] (g:k<=5399:=by decide):Fits q:=h.1.fits g
theorem Zvq {z:Int} (h1 : -9223372036854775808<=z) (h2:z<=9223372036854775807):inR z:=⟨h1,h2⟩
def I3 (a b:Int) (l:List Prop):List Prop:=inR a::inR b::((0:Int)<b)::l
def P1 (p:Prop) (l:List Prop):List Prop:=p::l
def F1 (q:Rat) (l:List Prop):List Prop:=Fits q::l
theorem Zjt {p:Prop} {l:List Prop} (h:p) (g:AllP l):AllP (P1 p l):=⟨h,g⟩
theorem Zxa {k:Nat} {q:Rat} {l:List Prop} [h:HsC k q] (g:AllP l) (e:k<=5399:=by decide):AllP (F1 q l):=⟨h.1.fits e,g⟩
theorem Zu8 {a b:Int} {l:List Prop} (h:AllP l) (h1:inR a:=by exact Zvq Zd Zd) (h2:inR b:=by exact Zvq Zd Zd) (h3:(0:Int)<b:=by decide):AllP (I3 a b l):=⟨h1,h2,h3,h⟩
def Z4 (z:Int) (l:List Prop):List Prop:=inK .i64 (z*z)::inR (z*z)::inR 1000000000000::((0:Int)<1000000000000)::l
theorem Zxb {z:Int} (h0:400000<=z) (h1:z<=700000):inR (z*z):=by
 have hz:0<=z*z:=Ycg Zo Zo;have hz2:z*z<=490000000000:=Yef h1 h1 Zo Zd;exact⟨Zo,Zo⟩
theorem Zxc {z:Int} {l:List Prop} (h:inR (z*z)) (g:AllP l):AllP (Z4 z l):=⟨h,h,⟨Zd,Zd⟩,Zd,g⟩
noncomputable def glT (s:Rat):List Prop:=
 let r:=rtN (s*Rat.divInt 400000000000000 1).floor.toNat
 I3 400000000000000 1<|Fits (s*Rat.divInt 400000000000000 1)::(0<=s*Rat.divInt 400000000000000 1)::(r<1000000000)::(decide ((r:Int)>80000001)=false)::inK .i64 ((r:Int)+1)::((2:Int)≠0)::inK .i64 (((r:Int)+1).tdiv 2)::(decide (((r:Int)+1).tdiv 2<10000000)=false)::(decide (((r:Int)+1).tdiv 2>40000000)=false)::[]
theorem Zsz {s:Rat} (h1:1<=s) (h2:s<=16) (h:Fits (s*Rat.divInt 400000000000000 1)):AllP (glT s):=by
 obtain⟨h3,h4⟩:=Zvp h1 h2;refine Zu8 ⟨h,Zpy h1,?_⟩;generalize rtN (s*Rat.divInt 400000000000000 1).floor.toNat=r at *;have h5:((r:Int)+1).tdiv 2=((r:Int)+1)/2:=Ybk Zo;rw[h5];exact⟨Zo,decide_eq_false Zo,(⟨Zo,Zo⟩:inR _),Zd,(⟨Zo,Zo⟩:inR _),decide_eq_false Zo,decide_eq_false Zo,trivial⟩
noncomputable def ob_bk7 (z:Int) (W:Rat):List Prop:=
 let a:=Rat.divInt 1504600000 1000000000
 let b:=Rat.divInt 1 1
 let c:=Rat.divInt 0 1
 let d:=Rat.divInt 4200000 1000000000
 let e:=Rat.divInt 0 1000000000
 let f:=a*b
 let g:=c+f
 let h:=b/W
 let i:=d*h
 let j:=g+i
 let k:=h/W
 let l:=e*k
 let m:=j+l
 P1 (decide (z<300000)=false)<|P1 (decide (z>2500000)=false)<|I3 0 1<|I3 1504600000 1000000000<|Z4 z<|I3 1 1<|F1 f<|F1 g<|I3 4200000 1000000000<|Z4 z<|I3 1 1<|P1 ((0:Rat)<W)<|F1 h<|F1 i<|F1 j<|I3 0 1000000000<|Z4 z<|I3 1 1<|P1 ((0:Rat)<W)<|F1 h<|P1 ((0:Rat)<W)<|F1 k<|F1 l<|F1 m<|F1 (m*m)<|P1 (decide ((sq_bk7 W).num.sign<0)=false)<|I3 0 1<|I3 1504600000 1000000000<|Z4 z<|I3 1 1<|F1 f<|F1 g<|I3 4200000 1000000000<|Z4 z<|I3 1 1<|P1 ((0:Rat)<W)<|F1 h<|F1 i<|F1 j<|I3 0 1000000000<|Z4 z<|I3 1 1<|P1 ((0:Rat)<W)<|F1 h<|P1 ((0:Rat)<W)<|F1 k<|F1 l<|F1 m<|P1 (decide ((rt_bk7 W).num.sign<0)=false)<|glT (sq_bk7 W)
theorem Zs1 {z:Int} (h0:400000<=z) (h1:z<=700000):AllP (ob_bk7 z (wQ z)):=by
 obtain⟨w0,w1⟩:=Zu7 h0 h1;have hz:=Zxb h0 h1;have:HsC 13 (wQ z):=⟨Zw9 h0 h1⟩
 unfold ob_bk7;generalize wQ z=W at *;obtain⟨h2,h3⟩:=Zhm w0 w1;obtain⟨r1,r2⟩:=Zll w0 w1;dsimp only;repeat (with_reducible first|refine Zu8 ?_|refine Zxc hz ?_|refine Zxa ?_|refine Zjt (Zho (by grind)) ?_|refine Zjt (decide_eq_false Zo) ?_|refine Zjt (by(try simp only[gc0,gc1,gc2,gc3,gc4,gc5,gc6,gc7,gc8,gc9,Zxo,Zxp]);grind) ?_)
 exact Zsz h2 h3 (by simp only[sq_bk7,rt_bk7];exact fq)
noncomputable def ob_sf1 (z:Int) (W:Rat):List Prop:=
 let a:=Rat.divInt 1 1
 let b:=Rat.divInt (-12000000) 1000000000
 let c:=Rat.divInt 1559000000 1000000000
 let d:=Rat.divInt (-56000000) 1000000000
 let e:=Rat.divInt 285000000 1000000000
 let f:=Rat.divInt 0 1000000000
 let g:=a*W
 let h:=g+b
 let i:=c*g
 let j:=i/h
 let k:=a+j
 let l:=g+d
 let m:=e*g
 let n:=m/l
 let o:=k+n
 let p:=g+f
 let q:=f*g
 let r:=q/p
 P1 (decide (z<300000)=false)<|P1 (decide (z>2500000)=false)<|Z4 z<|I3 1 1<|F1 g<|I3 1 1<|I3 (-12000000) 1000000000<|F1 h<|I3 1559000000 1000000000<|F1 i<|P1 ((0:Rat)<h)<|F1 j<|F1 k<|I3 (-56000000) 1000000000<|F1 l<|I3 285000000 1000000000<|F1 m<|P1 ((0:Rat)<l)<|F1 n<|F1 o<|I3 0 1000000000<|F1 p<|I3 0 1000000000<|F1 q<|P1 ((0:Rat)<p)<|F1 r<|F1 (o+r)<|P1 (decide ((sq_sf1 W).num.sign<0)=false)<|glT (sq_sf1 W)
theorem Zs2 {z:Int} (h0:400000<=z) (h1:z<=700000):AllP (ob_sf1 z (wQ z)):=by
 obtain⟨w0,w1⟩:=Zu7 h0 h1;have hz:=Zxb h0 h1;have:HsC 13 (wQ z):=⟨Zw9 h0 h1⟩
 unfold ob_sf1;generalize wQ z=W at *;obtain⟨h2,h3⟩:=Zhn w0 w1;dsimp only;repeat (with_reducible first|refine Zu8 ?_|refine Zxc hz ?_|refine Zxa ?_|refine Zjt (Zho (by grind)) ?_|refine Zjt (decide_eq_false Zo) ?_|refine Zjt (by(try simp only[gc0,gc1,gc2,gc3,gc4,gc5,gc6,gc7,gc8,gc9,Zxo,Zxp]);grind) ?_)
 exact Zsz h2 h3 (by simp only[sq_sf1];exact fq)
noncomputable def ob_f2 (z:Int) (W:Rat):List Prop:=
 let a:=Rat.divInt 1 1
 let b:=Rat.divInt (-9000000) 1000000000
 let c:=Rat.divInt 2600000000 1000000000
 let d:=Rat.divInt 22000000 1000000000
 let e:=Rat.divInt 0 1000000000
 let f:=a*W
 let g:=b*f
 let h:=c+g
 let i:=a/W
 let j:=d*i
 let k:=h+j
 let l:=i/W
 let m:=e*l
 let n:=k+m
 let o:=l/W
 let p:=e*o
 let q:=n+p
 let r:=o/W
 let s:=e*r
 P1 (decide (z<300000)=false)<|P1 (decide (z>2500000)=false)<|Z4 z<|I3 1 1<|F1 f<|I3 2600000000 1000000000<|I3 (-9000000) 1000000000<|F1 g<|F1 h<|I3 22000000 1000000000<|Z4 z<|I3 1 1<|P1 ((0:Rat)<W)<|F1 i<|F1 j<|F1 k<|I3 0 1000000000<|Z4 z<|I3 1 1<|P1 ((0:Rat)<W)<|F1 i<|P1 ((0:Rat)<W)<|F1 l<|F1 m<|F1 n<|I3 0 1000000000<|Z4 z<|I3 1 1<|P1 ((0:Rat)<W)<|F1 i<|P1 ((0:Rat)<W)<|F1 l<|P1 ((0:Rat)<W)<|F1 o<|F1 p<|F1 q<|I3 0 1000000000<|Z4 z<|I3 1 1<|P1 ((0:Rat)<W)<|F1 i<|P1 ((0:Rat)<W)<|F1 l<|P1 ((0:Rat)<W)<|F1 o<|P1 ((0:Rat)<W)<|F1 r<|F1 s<|F1 (q+s)<|P1 (decide ((sq_f2 W).num.sign<0)=false)<|glT (sq_f2 W)
theorem Zu9 {z:Int} (h0:400000<=z) (h1:z<=700000):AllP (ob_f2 z (wQ z)):=by
 obtain⟨w0,w1⟩:=Zu7 h0 h1;have hz:=Zxb h0 h1;have:HsC 13 (wQ z):=⟨Zw9 h0 h1⟩
 unfold ob_f2;generalize wQ z=W at *;obtain⟨h2,h3⟩:=Zjs w0 w1;dsimp only;repeat (with_reducible first|refine Zu8 ?_|refine Zxc hz ?_|refine Zxa ?_|refine Zjt (Zho (by grind)) ?_|refine Zjt (decide_eq_false Zo) ?_|refine Zjt (by(try simp only[gc0,gc1,gc2,gc3,gc4,gc5,gc6,gc7,gc8,gc9,Zxo,Zxp]);grind) ?_)
 exact Zsz h2 h3 (by simp only[sq_f2];exact fq)
theorem Zju {z a:Int} {l:List Prop} (c:Array Value) (orc:List (Option Bool)) (hc:∀v∈c.toList,v.oneCell'=true) (hl:AllP l) (he:∀w,(evF Tryz.prog (w0:=w) (X:=λ_=>False) (D:=qDen kQ kQ1) (spG w _) [] 7 [] 119 [.agg (c.toList.map U.val),.one (.sym z)] [] 0 0 orc).map (λr=>(r.v,r.obl,r.pan))=some (.tup [.one (.sym a),.one (.val (.int .i64 0))],l,none)) (w:World) :
  Calls Tryz.prog 119 #[.agg c,.int .i64 z] w λe w'=>e=.returned (.tuple #[.int .i64 a,.int .i64 0])∧Below w.heap.size w w':=by
 refine(Zq8 Zd2 (spG w _) [] _ l (he w) hl (vals:=[.agg c,.int .i64 z]) ⟨_,_,rfl,⟨_,rfl,Zjq _ hc⟩,_,_,rfl,rfl,rfl⟩).mono ?_;rintro e w' ⟨v,ρ',rfl,⟨vs,rfl,v1,r1,rfl,h3,v2,r2,rfl,⟨h4,_⟩,h5⟩,hb⟩;cases h4;obtain rfl:v1=_:=List.singleton_inj.1 h3;obtain rfl:r2=[]:=h5;exact⟨rfl,hb⟩
theorem Zs3 {z:Int} (h0:400000<=z) (h1:z<=700000) (w:World) :
  Calls Tryz.prog 119 #[.agg (glC nmBK7 2 1504600000 4200000 0 0 0 0 300000 2500000),.int .i64 z] w λe w'=>e=.returned (.tuple #[.int .i64 (gIx (sq_bk7 (wQ z))),.int .i64 0])∧Below w.heap.size w w':=
 Zju _ [some false,some false,some false,some false,some false,some false,some false] (by decide +kernel) (Zs1 h0 h1) (λw=>Zk) w
theorem Zs4 {z:Int} (h0:400000<=z) (h1:z<=700000) (w:World) :
  Calls Tryz.prog 119 #[.agg (glC nmSF1 1 1559000000 12000000 285000000 56000000 0 0 300000 2500000),.int .i64 z] w λe w'=>e=.returned (.tuple #[.int .i64 (gIx (sq_sf1 (wQ z))),.int .i64 0])∧Below w.heap.size w w':=
 Zju _ [some false,some false,some false,some false,some false,some false] (by decide +kernel) (Zs2 h0 h1) (λw=>Zk) w
theorem Zva {z:Int} (h0:400000<=z) (h1:z<=700000) (w:World) :
  Calls Tryz.prog 119 #[.agg (glC nmF2 3 2600000000 (-9000000) 22000000 0 0 0 300000 2500000),.int .i64 z] w λe w'=>e=.returned (.tuple #[.int .i64 (gIx (sq_f2 (wQ z))),.int .i64 0])∧Below w.heap.size w w':=
 Zju _ [some false,some false,some false,some false,some false,some false] (by decide +kernel) (Zu9 h0 h1) (λw=>Zk) w
end
end Go.Proofs.W
