/- The law MatrixUnit: its walk and its card. Part 2 of 5. No condition beside the row. -/
import Derived.Test.YtdocaccajammkaaGreatDoorA28
import Derived.Test.YtdocaccajammkaaGreatDoorD01
set_option linter.unusedVariables false
set_option linter.unusedSimpArgs false
set_option maxRecDepth 100000
set_option maxHeartbeats 4000000
namespace Go.Proofs.W
open Go.RowKit Go.Mono
section
open Go.Ex
section
variable (a:Lns) (q:Plc) (ns kb:Nat) (k i j l:Int)
def obIn (x y:Int) (L:List Prop):List Prop:=obLk a q ns kb k ((decide (0<=x)=true)::(decide (x<=y)=true)::(decide (y<(ns:Int))=true)::obSm a q ns kb k x y L)
def obAlike (x y:M22):List Prop:=[decide (x.a=y.a)=true,decide (x.b=y.b)=true,decide (x.c=y.c)=true,decide (x.d=y.d)=true]
def Lns.sysX (a:Lns) (k x y:Int):M22:=a.sysM k.toNat x.toNat (y-x).toNat
def obDet (x y:Int) (A:M22) (L:List Prop):List Prop:=obIn a q ns kb k x y (Fits (A.a*A.d)::Fits (A.b*A.c)::Fits (A.a*A.d-A.b*A.c)::obOf 1 1 ((decide (A.a*A.d-A.b*A.c=Rat.divInt 1 1)=true)::L))
def obMunE (x y:Int):List Prop:=obDet a q ns kb k x y (Lns.sysX a k x y) (((x==y)=true)::obLk a q ns kb k ((decide (x>=0)=true)::(decide (x<(ns:Int))=true)::obS a q ns kb k ((0<=x∧x<(ns:Int))::obAlike (a.surM k.toNat x.toNat) (Lns.sysX a k x y))))
def obMunC (x y c:Int):List Prop:=
 inK .i64 c::obIn a q ns kb k x c (obLk a q ns kb k ((decide (c>=0)=true)::inK .i64 (c+1)::(decide (c+1<(ns:Int))=true)::obS a q ns kb k ((0<=c∧c+1<(ns:Int))::inK .i64 (c+1)::obIn a q ns kb k (c+1) y
  (MFits (a.gapM k.toNat c.toNat) (Lns.sysX a k x c)::MFits (Lns.sysX a k (c+1) y) ((a.gapM k.toNat c.toNat).mul (Lns.sysX a k x c))::obAlike ((Lns.sysX a k (c+1) y).mul ((a.gapM k.toNat c.toNat).mul (Lns.sysX a k x c))) (Lns.sysX a k x y)))))
def obMunD (x y:Int):List Prop:=obDet a q ns kb k x y (Lns.sysX a k x y) (((x==y)=false)::inK .i64 l::inK .i64 (y-x)::((y-x)≠0)::obMunC a q ns kb k x y (x+l.tmod (y-x)))
def obMun0 (P:Prop) (L:List Prop):List Prop:=inK .i64 i::((ns:Int)≠0)::inK .i64 j::((ns:Int)≠0)::P::P::L
end
section
variable {a:Lns} (ha:a.opt) {ns:Nat} (hns:a.ns=ns) (h6:ns<=6) {q:Plc} {kb:Nat} {k:Int} (hk:0<=k∧k<a.nw)
include hk
theorem Znh {x y:Int} (hx:0<=x) (hxy:x<=y) (hy:y<(ns:Int)) {L:List Prop} (hL:AllP L):AllP (obIn a q ns kb k x y L):=Zhj hk ⟨decide_eq_true hx,decide_eq_true hxy,decide_eq_true hy,Zmy hk ⟨hx,hxy,hy⟩ hL⟩
omit hk in
theorem Ziv {x y:M22} (h:x=y):AllP (obAlike x y):=by subst h;exact⟨decide_eq_true rfl,decide_eq_true rfl,decide_eq_true rfl,decide_eq_true rfl,trivial⟩
include ha hns h6
theorem Zos {x y:Int} (hx:0<=x) (hxy:x<=y) (hy:y<(ns:Int)) {L:List Prop} (hL:AllP L):AllP (obDet a q ns kb k x y (Lns.sysX a k x y) L):=by
 obtain⟨D,h1,h2⟩:=ha.sysM_ov (k:=k.toNat) Zo (i:=x.toNat) (y-x).toNat Zo;have hd:=a.sysM_det k.toNat x.toNat (y-x).toNat;have e1:=Zcn (show 20+37*(y-x).toNat<=400 by omega);have e2:=Yak h1 (Zcn (show 16+30*(y-x).toNat<=400 by omega));have ga:=Hs.of_ov h2.a e1 e2;have gb:=Hs.of_ov h2.b e1 e2;have gc:=Hs.of_ov h2.c e1 e2;have gd:=Hs.of_ov h2.d e1 e2;refine Znh hk hx hxy hy ⟨(ga.mul gd).fits Zo,(gb.mul gc).fits Zo,((ga.mul gd).sub (gb.mul gc)).fits Zo,Zbd okN ⟨decide_eq_true ?_,hL⟩⟩;rw[Zhf];exact hd
theorem Ztq {x y:Int} (hx:0<=x) (hxy:x=y) (hy:y<(ns:Int)):AllP (obMunE a q ns kb k x y):=by
 refine Zos ha hns h6 hk hx Zo hy ⟨by simpa using hxy,Zhj hk ⟨decide_eq_true hx,decide_eq_true Zo,Zdf hk ⟨⟨hx,Zo⟩,Ziv ?_⟩⟩⟩;unfold Lns.sysX;rw[show(y-x).toNat=0 by omega,a.sysM_0]
theorem Ztr {x y c:Int} (hx:0<=x) (hxc:x<=c) (hcy:c<y) (hy:y<(ns:Int)):AllP (obMunC a q ns kb k x y c):=by
 obtain⟨D,h1,h2⟩:=ha.sysM_ov (k:=k.toNat) Zo (i:=x.toNat) (c-x).toNat Zo;obtain⟨E,h3,h4⟩:=ha.sysM_ov (k:=k.toNat) Zo (i:=(c+1).toNat) (y-(c+1)).toNat Zo;obtain⟨G,_,g1,g2⟩:=ha.gapM_ov (s:=c.toNat) (k:=k.toNat) Zo Zo;obtain⟨H,g3,g4⟩:=ha.gapS_ov (s:=c.toNat) (k:=k.toNat) Zo Zo h2 h1;refine⟨(⟨Zo,Zo⟩:inR _),Znh hk hx hxc Zo (Zhj hk ⟨decide_eq_true Zo,(⟨Zo,Zo⟩:inR _),decide_eq_true Zo,Zdf hk ⟨⟨Zo,Zo⟩,(⟨Zo,Zo⟩:inR _),Znh hk Zo Zo hy
  ⟨Zd6 1000 g2 g1 h2 h1 Zo Zo Zd,Zd6 1000 h4 h3 g4 g3 Zo Zo Zd,Ziv ?_⟩⟩⟩)⟩
 unfold Lns.sysX;have e:=a.sysM_cut k.toNat x.toNat (c-x).toNat (y-(c+1)).toNat;rw[show(c-x).toNat+1+(y-(c+1)).toNat=(y-x).toNat by omega,show x.toNat+(c-x).toNat+1=(c+1).toNat by omega,show x.toNat+(c-x).toNat=c.toNat by omega]at e;exact e.symm
theorem Zl5 {x y l:Int} (hx:0<=x) (hxy:x<y) (hy:y<(ns:Int)) (hl:U8 l):AllP (obMunD a q ns kb k l x y):=by
 have e:=Ybr (b:=y-x) hl.1;have e1:=Ycc l (show y-x≠0 by omega);have e2:=Ybu l (show 0<y-x by omega);have:=hl.1;have:=hl.2;exact Zos ha hns h6 hk hx Zo hy ⟨by simpa using(show x≠y by omega),(⟨Zo,Zo⟩:inR _),(⟨Zo,Zo⟩:inR _),Zo,Ztr ha hns h6 hk hx Zo Zo hy⟩
end
theorem Zh5 {ns:Nat} (h:0<ns) {i j:Int} (hi:U8 i) (hj:U8 j) {P:Prop} (hP:P) {L:List Prop} (hL:AllP L):AllP (obMun0 ns i j P L):=by
 have:=hi.1;have:=hi.2;have:=hj.1;have:=hj.2;exact⟨(⟨Zo,Zo⟩:inR _),Zo,(⟨Zo,Zo⟩:inR _),Zo,hP,hP,hL⟩
end
end Go.Proofs.W
