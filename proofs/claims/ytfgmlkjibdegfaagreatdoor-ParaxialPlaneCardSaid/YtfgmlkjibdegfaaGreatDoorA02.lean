/- Contracts of package paraxial,and a verified evaluator. Part 2 of 28. No condition beside the row. -/
import Derived.Test.YtfgmlkjibdegfaaGreatDoorA01
set_option linter.unusedVariables false
set_option linter.unusedSimpArgs false
set_option maxRecDepth 100000
set_option maxHeartbeats 4000000
namespace Go.Mono
theorem Zjk {f g:Nat->Int} {n:Nat} (f0:∀i,i<n->0<=f i) (f1:∀i,i<n->f i<1000000000) (g0:∀i,i<n->0<=g i) (g1:∀i,i<n->g i<1000000000) (cd:Nat->Int)
  (h0:cd 0=0) (hs:∀k,cd (k+1)=if f k=g k then cd k else f k-g k):(cd n<0↔vf f n<vf g n)∧(cd n=0↔vf f n=vf g n):=by
 induction n with
 | zero=>rw[h0];simp[vf]
 | succ n ih =>
   have h1:=ih (λi hi=>f0 i Zo) (λi hi=>f1 i Zo) (λi hi=>g0 i Zo) (λi hi=>g1 i Zo);rw[hs,Zal,Zal];by_cases e:f n=g n
   ·rw[if_pos e,e];omega
   ·rw[if_neg e]
    have a1:=Zar (f:=f) (k:=n) λi hi=>f0 i Zo;have a2:=Zar (f:=g) (k:=n) λi hi=>g0 i Zo;have b1:=Zb7 (f:=f) (k:=n) λi hi=>f1 i Zo;have b2:=Zb7 (f:=g) (k:=n) λi hi=>g1 i Zo;rcases Yge e with h|h
    ·have:(f n+1)*pw n<=g n*pw n:=Yaw Zo (Yap (Zba n))
     rw[Yel]at this;omega
    ·have:(g n+1)*pw n<=f n*pw n:=Yaw Zo (Yap (Zba n))
     rw[Yel]at this;omega
def MinusInv (n:Nat) (S:Int) (i:Nat) (h:Nat->Int):Prop:=
 vf h n=S∧(∀j,j<i->0<=h j∧h j<1000000000)∧(∀j,i<=j->j<n->(if j=i then -1000000000 else -999999999)<=h j∧h j<1000000000)
theorem Zwy (f g:Nat->Int) (k:Nat):vf (λj=>f j-g j) k=vf f k-vf g k:=by
 induction k with
 | zero=>rfl
 | succ k ih=>rw[Zal,Zal,Zal,ih];grind
theorem MinusInv.start {n m:Nat} {f g:Nat->Int} (hmn:m<=n) (f0:∀i,i<n->0<=f i) (f1:∀i,i<n->f i<1000000000) (g0:∀i,i<m->0<=g i) (g1:∀i,i<m->g i<1000000000) :
  MinusInv n (vf f n-vf g m) 0 (λj=>f j-(if j<m then g j else 0)):=by
 refine⟨?_,λj hj=>Zo,λj _ hj=>?_⟩
 ·rw[Zwy,Zpj Zo]
 ·have a:=f0 j hj
  have b:=f1 j hj;by_cases hm:j<m
  ·have c:=g0 j hm
   have d:=g1 j hm;simp only[hm,if_true];split<;>omega
  ·simp only[hm,if_false];split<;>omega
theorem MinusInv.last {n i:Nat} {S:Int} {h:Nat->Int} (H:MinusInv n S i h) (hS:0<=S) (hi:i<n) (hc:h i<0):i+1<n:=by
 obtain⟨a,b,c⟩:=H;rcases Ydu (i+1) n with h1|h1
 ·exact h1
 ·obtain rfl:n=i+1:=by omega
  rw[Zal]at a;have h2:=Zb7 (f:=h) (k:=i) λj hj=>(b j hj).2;have h3:h i*pw i<=(-1)*pw i:=Yaw Zo (Yap (Zba i));omega
theorem MinusInv.bd {n i:Nat} {S:Int} {h:Nat->Int} (H:MinusInv n S i h) (hi:i<n) : -1000000000<=h i∧h i<1000000000∧(i+1<n->-999999999<=h (i+1)∧h (i+1)<1000000000):=by
 obtain⟨a,b,c⟩:=H;have h0:=c i (Yab _) hi;rw[if_pos rfl]at h0;refine⟨h0.1,h0.2,λh2=>?_⟩;have:=c (i+1) Zo h2;rwa [if_neg Zo]at this
theorem MinusInv.carry {n i:Nat} {S:Int} {h:Nat->Int} (H:MinusInv n S i h) (hi:i+1<n) (hc:h i<0) :
  MinusInv n S (i+1) (λj=>if j=i+1 then h (i+1)-1 else if j=i then h i+1000000000 else h j):=by
 have hb:=H.bd Zo;obtain⟨a,b,c⟩:=H;refine⟨?_,λj hj=>?_,λj hj hjn=>?_⟩
 ·have e1:(λj=>if j=i+1 then h (i+1)-1 else if j=i then h i+1000000000 else h j)=λj=>if j=i+1 then h (i+1)-1 else(λj=>if j=i then h i+1000000000 else h j) j:=rfl
  rw[e1,Zc8,Zc8,a,if_pos Zo,if_pos Zo];simp only[show ¬i+1=i by omega,if_false,Za8];grind
 ·show 0<=(if j=i+1 then _ else _)∧(if j=i+1 then _ else _)<_
  rw[if_neg Zo];split
  ·omega
  ·exact b j Zo
 ·show _<=(if j=i+1 then _ else _)∧(if j=i+1 then _ else _)<_
  have:=c j Zo hjn;rw[if_neg Zo]at this;by_cases e:j=i+1
  ·subst e;rw[if_pos rfl,if_pos rfl];omega
  ·rw[if_neg e,if_neg e,if_neg Zo];exact this
theorem MinusInv.plain {n i:Nat} {S:Int} {h:Nat->Int} (H:MinusInv n S i h) (hi:i<n) (hc:0<=h i):MinusInv n S (i+1) h:=by
 have hb:=H.bd hi;obtain⟨a,b,c⟩:=H;refine⟨a,λj hj=>?_,λj hj hjn=>?_⟩
 ·rcases Ydu j i with h|h
  ·exact b j h
  ·obtain rfl:j=i:=by omega
   omega
 ·have:=c j Zo hjn
  rw[if_neg Zo]at this;split<;>omega
theorem MinusInv.done {n:Nat} {S:Int} {h:Nat->Int} (H:MinusInv n S n h):Digs h (trimN h n)∧vf h (trimN h n)=S:=by
 obtain⟨a,b,c⟩:=H;have:=Zb2 (f:=h) (k:=n) (λi hi=>(b i hi).1) (λi hi=>(b i hi).2);rwa [a]at this
structure TimesInv (n m:Nat) (f g:Nat->Int) (i k:Nat) (h:Nat->Int) (c:Int):Prop where
 lo:∀j,j<n+m->0<=h j
 hi:∀j,j<n+m->h j<1000000000
 above:∀j,i+m<=j->j<n+m->h j=0
 c0:0<=c
 c1:c<1000000000
 val:vf h (n+m)+c*pw (i+k)=vf f i*vf g m+f i*pw i*vf g k
theorem Zgl {x y:Int} (x0:0<=x) (x1:x<1000000000) (y0:0<=y) (y1:y<1000000000):0<=x*y∧x*y<=999999998000000001:=by
 refine⟨Ycg x0 y0,?_⟩;have h1:x*y<=999999999*y:=Yaw Zo y0;omega
theorem TimesInv.step {n m:Nat} {f g:Nat->Int} {i k:Nat} {h:Nat->Int} {c:Int} (H:TimesInv n m f g i k h c) (hi:i<n) (hk:k<m)
  (f0:0<=f i) (f1:f i<1000000000) (g0:0<=g k) (g1:g k<1000000000) :
  TimesInv n m f g i (k+1) (λj=>if j=i+k then(h (i+k)+f i*g k+c)%1000000000 else h j) ((h (i+k)+f i*g k+c)/1000000000):=by
 have hb:=Zgl f0 f1 g0 g1;have a1:=H.lo (i+k) Zo;have a2:=H.hi (i+k) Zo;have a3:=H.c0;have a4:=H.c1;have hv:=H.val;generalize hx:h (i+k)+f i*g k+c=x;have hq:x=1000000000*(x/1000000000)+x%1000000000:=(Ycf x 1000000000).symm;refine⟨λj hj=>?_,λj hj=>?_,λj hj hjn=>?_,Zo,Zo,?_⟩
 ·show 0<=if j=i+k then _ else _
  split
  ·omega
  ·exact H.lo j hj
 ·show(if j=i+k then _ else _)<_
  split
  ·omega
  ·exact H.hi j hj
 ·show(if j=i+k then _ else _)=_
  rw[if_neg Zo];exact H.above j hj hjn
 ·rw[Zc8,if_pos Zo,Zal,<-Ybj,Za8]
  have hp:=Zfr i k;generalize x/1000000000=q at hq ⊢;generalize x%1000000000=r at hq ⊢;generalize vf h (n+m)=V at hv ⊢;generalize vf f i*vf g m=W at hv ⊢;rw[hp]at hv ⊢;subst hq;grind
theorem TimesInv.outer {n m:Nat} {f g:Nat->Int} {i:Nat} {h:Nat->Int} {c:Int} (H:TimesInv n m f g i m h c) (hi:i<n) :
  TimesInv n m f g (i+1) 0 (λj=>if j=i+m then c else h j) 0:=by
 have a3:=H.c0;have a4:=H.c1;have hv:=H.val;have hz:=H.above (i+m) (Yab _) Zo;refine⟨λj hj=>?_,λj hj=>?_,λj hj hjn=>?_,Zo,Zo,?_⟩
 ·show 0<=if j=i+m then _ else _
  split
  ·omega
  ·exact H.lo j hj
 ·show(if j=i+m then _ else _)<_
  split
  ·omega
  ·exact H.hi j hj
 ·show(if j=i+m then _ else _)=_
  rw[if_neg Zo];exact H.above j Zo hjn
 ·rw[Zc8,if_pos Zo,hz,Zal]
  simp only[vf];generalize vf h (n+m)=V at hv ⊢;grind
theorem TimesInv.start {n m:Nat} {f g:Nat->Int}:TimesInv n m f g 0 0 (λ_=>0) 0:=
 ⟨λ_ _=>Zs,λ_ _=>Zs,λ_ _ _=>rfl,Zs,Zs,by rw[Zdq λ_ _=>rfl];simp[vf]⟩
theorem TimesInv.done {n m:Nat} {f g:Nat->Int} {h:Nat->Int} (H:TimesInv n m f g n 0 h 0):Digs h (trimN h (n+m))∧vf h (trimN h (n+m))=vf f n*vf g m:=by
 have:=Zb2 (f:=h) (k:=n+m) H.lo H.hi;have hv:=H.val;simp[vf]at hv;rwa [hv]at this
structure ByInv (n:Nat) (f:Nat->Int) (d:Int) (i:Nat) (h:Nat->Int) (c:Int):Prop where
 lo:∀j,j<n+1->0<=h j
 hi:∀j,j<n+1->h j<1000000000
 above:∀j,i<=j->j<n+1->h j=0
 c0:0<=c
 c1:c<1000000000
 val:vf h (n+1)+c*pw i=vf f i*d
theorem ByInv.start {n:Nat} {f:Nat->Int} {d:Int}:ByInv n f d 0 (λ_=>0) 0:=
 ⟨λ_ _=>Zs,λ_ _=>Zs,λ_ _ _=>rfl,Zs,Zs,by rw[Zdq λ_ _=>rfl];simp[vf]⟩
theorem ByInv.step {n:Nat} {f:Nat->Int} {d:Int} {i:Nat} {h:Nat->Int} {c:Int} (H:ByInv n f d i h c) (hi:i<n)
  (f0:0<=f i) (f1:f i<1000000000) (g0:0<=d) (g1:d<1000000000) :
  ByInv n f d (i+1) (λj=>if j=i then(f i*d+c)%1000000000 else h j) ((f i*d+c)/1000000000):=by
 have hb:=Zgl f0 f1 g0 g1;have a3:=H.c0;have a4:=H.c1;have hv:=H.val;have hz:=H.above i (Yab _) Zo;generalize hx:f i*d+c=x;have hq:x=1000000000*(x/1000000000)+x%1000000000:=(Ycf x 1000000000).symm;refine⟨λj hj=>?_,λj hj=>?_,λj hj hjn=>?_,Zo,Zo,?_⟩
 ·show 0<=if j=i then _ else _
  split
  ·omega
  ·exact H.lo j hj
 ·show(if j=i then _ else _)<_
  split
  ·omega
  ·exact H.hi j hj
 ·show(if j=i then _ else _)=_
  rw[if_neg Zo];exact H.above j Zo hjn
 ·rw[Zc8,if_pos Zo,hz,Zal f i,Za8]
  generalize x/1000000000=q at hq ⊢;generalize x%1000000000=r at hq ⊢;generalize vf h (n+1)=V at hv ⊢;subst hq;grind
theorem ByInv.done {n:Nat} {f:Nat->Int} {d:Int} {h:Nat->Int} {c:Int} (H:ByInv n f d n h c) :
  (∀j,j<n+1->0<=(if j=n then c else h j))∧(∀j,j<n+1->(if j=n then c else h j)<1000000000)∧vf (λj=>if j=n then c else h j) (n+1)=vf f n*d:=by
 have a3:=H.c0;have a4:=H.c1;have hv:=H.val;have hz:=H.above n (Yab _) Zo;refine⟨λj hj=>?_,λj hj=>?_,?_⟩
 ·split
  ·omega
  ·exact H.lo j hj
 ·split
  ·omega
  ·exact H.hi j hj
 ·rw[Zc8,if_pos Zo,hz];grind
structure PartInv (n:Nat) (f:Nat->Int) (d:Int) (i:Nat) (h:Nat->Int) (r:Int):Prop where
 lo:∀j,j<n->0<=h j
 hi:∀j,j<n->h j<1000000000
 below:∀j,j<i->h j=0
 r0:0<=r
 r1:r<d
 val:vf f n=vf f i+r*pw i+d*vf h n
theorem PartInv.start {n:Nat} {f:Nat->Int} {d:Int} (hd:0<d):PartInv n f d n (λ_=>0) 0:=
 ⟨λ_ _=>Zs,λ_ _=>Zs,λ_ _=>rfl,Zs,hd,by rw[Zdq (f:=λ_=>0) λ_ _=>rfl];simp⟩
theorem PartInv.step {n:Nat} {f:Nat->Int} {d:Int} {i:Nat} {h:Nat->Int} {r:Int} (H:PartInv n f d (i+1) h r) (hi:i<n)
  (f0:0<=f i) (f1:f i<1000000000) :
  PartInv n f d i (λj=>if j=i then(r*1000000000+f i)/d else h j) ((r*1000000000+f i)%d):=by
 have a3:=H.r0;have a4:=H.r1;have hv:=H.val;have hz:=H.below i Zo;have hd:0<d:=Zo;generalize hx:r*1000000000+f i=x;have hq:x=d*(x/d)+x%d:=(Ycf x d).symm;have q0:0<=x/d:=Ydq Zo Zo;have q1:x/d<1000000000:=Int.ediv_lt_of_lt_mul hd Zo;have r0:=Ycc x (show d≠0 by omega);have r1:=Ybu x hd;refine⟨λj hj=>?_,λj hj=>?_,λj hj=>?_,r0,r1,?_⟩
 ·show 0<=if j=i then _ else _
  split
  ·omega
  ·exact H.lo j hj
 ·show(if j=i then _ else _)<_
  split
  ·omega
  ·exact H.hi j hj
 ·show(if j=i then _ else _)=_
  rw[if_neg Zo];exact H.below j Zo
 ·rw[Zc8,if_pos hi,hz]
  rw[Zal,Za8]at hv;generalize x/d=q at hq ⊢;generalize x%d=s at hq ⊢;generalize vf h n=V at hv ⊢;generalize vf f n=W at hv ⊢;grind
theorem PartInv.done {n:Nat} {f:Nat->Int} {d:Int} {h:Nat->Int} {r:Int} (H:PartInv n f d 0 h r):Digs h (trimN h n)∧vf f n=d*vf h (trimN h n)+r:=by
 have:=Zb2 (f:=h) (k:=n) H.lo H.hi;have hv:=H.val;simp[vf,pw]at hv;rw[this.2];exact⟨this.1,Zo⟩
end Go.Mono
namespace Go.Proofs.W
open Go.RowKit Go.Mono
theorem Zcj (p:Option Addr) (n cap:Nat) (f:Nat->Int) (w:World) (h:SlF w (.slice p n cap) n f) :
  Calls Tryz.prog 161 #[.slice p n cap] w λe w'=>e=.returned (.slice p (trimN f n) cap)∧w=w':=by
 obtain⟨hc,hn,hx⟩:=h.opens;clear h;go_enter Tryz.func161,Tryz.ntmps161
 go_wp2
 go_loop [0] (λa=>∃k:Nat,k<=n∧a=.slice p k cap∧trimN f k=trimN f n) (λa=>match a with | .slice _ k _=>k|_=>0)
 case atStart=>exact⟨_,Yab _,rfl,rfl⟩
 case round=>
  obtain⟨k,hk,rfl,ht⟩:=hrel;have HT:=Yah ht;clear ht;by_cases h0:0<k
  ·obtain⟨b,off,rfl,hb,hcell⟩:=hx Zo
   have hc:=hcell (k-1) Zo;clear hcell hx;by_cases hz:f (k-1)=0
   ·have hz':(f (k-1)==0)=true:=by simpa using hz
    have HZ:=Yah hz;clear hz;go_wp2
    refine⟨⟨k-1,Zo,rfl,?_⟩,by simp;omega⟩;rw[<-HT.out,Zht f k h0 HZ.out]
   ·have hz':(f (k-1)==0)=false:=by simpa using hz
    have HZ:=Yah hz;clear hz;go_wp2
    go_ret
    exact⟨by rw[show trimN f n=k by rw[<-HT.out,Zmj f k h0 HZ.out]];rfl,rfl⟩
  ·obtain rfl:k=0:=by omega
   go_wp2
   go_ret
   exact⟨by rw[<-HT.out];rfl,rfl⟩
end Go.Proofs.W
namespace Go.Mono
open Go.RowKit
structure Flm where
 ix:Int
 p:Int
 q:Int
deriving DecidableEq
def Flm.ok (f:Flm):Prop:=10000000<=f.ix∧f.ix<=40000000∧0<=f.p∧f.p<=1000∧1<=f.q∧f.q<=1000
instance (f:Flm):Decidable f.ok:=by unfold Flm.ok;infer_instance
def Flm.vals (f:Flm):Array Value:=#[.int .i64 f.ix,.int .i64 f.p,.int .i64 f.q]
def xt (f:Nat->Int) (n:Nat):Nat->Int:=λi=>if i<n then f i else 0
theorem Zol {f:Nat->Int} {n i:Nat} (h:i<n):xt f n i=f i:=if_pos h
theorem Ztp {f:Nat->Int} {n i:Nat} (h:n<=i):xt f n i=0:=if_neg Zo
theorem Zi1 {f:Nat->Int} {n:Nat} (h:∀i,i<n->0<=f i) (i:Nat):0<=xt f n i:=by
 by_cases hi:i<n
 ·rw[Zol hi];exact h i hi
 ·rw[Ztp Zo];exact Yek _
theorem Zom {f:Nat->Int} {n:Nat} (h:∀i,i<n->f i<1000000000) (i:Nat):xt f n i<1000000000:=by
 by_cases hi:i<n
 ·rw[Zol hi];exact h i hi
 ·rw[Ztp Zo];decide
theorem Zki {f:Nat->Int} {n i:Nat} (h:n<=i):vf (xt f n) i=vf f n:=by
 obtain⟨d,rfl⟩:=Yfe h;rw[Zci,Zbk (f:=xt f n) (g:=f) (k:=n) (λi hi=>Zol hi),Zdq (f:=λj=>xt f n (n+j)) (λi _=>Ztp Zo)];simp
theorem Zne (h:Nat->Int) (i:Nat) (x:Int):vf (λj=>if j=i then x else h j) (i+1)=vf h i+x*pw i:=by
 rw[Zal,Zbk (g:=h) (λj hj=>if_neg Zo),if_pos rfl]
theorem Zi2 (n p:Int):n%1000000000*p+n/1000000000*(p*1000000000)=n*p:=by
 have h:n=n%1000000000+1000000000*(n/1000000000):=(Int.emod_add_mul_ediv n 1000000000).symm;generalize n%1000000000=r at *;generalize n/1000000000=q at *;subst h;grind
/-! ### sums -/
structure SumI (X Y:Nat->Int) (i:Nat) (h:Nat->Int) (c:Int):Prop where
 lo:∀j,j<i->0<=h j
 hi:∀j,j<i->h j<1000000000
 eq:vf h i+c*pw i=vf X i+vf Y i
 c0:0<=c
 c1:c<=1
theorem SumI.start (X Y h:Nat->Int):SumI X Y 0 h 0:=⟨λj hj=>Zo,λj hj=>Zo,by simp[vf],Zd,Zd⟩
theorem SumI.next {X Y h:Nat->Int} {i:Nat} {c:Int} (H:SumI X Y i h c) (x0:0<=X i) (x1:X i<1000000000) (y0:0<=Y i) (y1:Y i<1000000000) :
  SumI X Y (i+1) (λj=>if j=i then(X i+Y i+c)%1000000000 else h j) ((X i+Y i+c)/1000000000):=by
 have h1:=H.c0;have h2:=H.c1;refine⟨λj hj=>?_,λj hj=>?_,?_,Zo,Zo⟩
 ·split
  ·omega
  ·exact H.lo j Zo
 ·split
  ·omega
  ·exact H.hi j Zo
 ·rw[Zne,Zal,Zal,Za8]
  have h3:=H.eq;have h4:=Zi2 (X i+Y i+c) (pw i);grind
theorem SumI.done {f g h:Nat->Int} {n m i:Nat} (H:SumI (xt f n) (xt g m) i h 0) (hn:n<=i) (hm:m<=i):vf h i=vf f n+vf g m:=by
 have:=H.eq;rw[Zki hn,Zki hm]at this;omega
theorem SumI.len {f g h:Nat->Int} {n m i:Nat} {c:Int} (H:SumI (xt f n) (xt g m) i h c) (hf:∀i,i<n->f i<1000000000) (hg:∀i,i<m->g i<1000000000) (hn:n<=i) (hm:m<=i) (hc:0<c):i=max n m:=by
 have h1:=H.eq;have h0:=Zar H.lo;rw[Zki hn,Zki hm]at h1;have h2:=Zb7 hf;have h3:=Zb7 hg;have h4:=Zbt (show n<=max n m by omega);have h5:=Zbt (show m<=max n m by omega);have h6:1*pw i<=c*pw i:=Yaw Zo (Yap (Zba i));by_cases hi:max n m<i
 ·have h7:=Zbt (show max n m+1<=i by omega)
  rw[Za8]at h7;have:=Zba (max n m);omega
 ·omega
/-! ### differences -/
structure DifI (X Y:Nat->Int) (i:Nat) (h:Nat->Int) (c:Int):Prop where
 lo:∀j,j<i->0<=h j
 hi:∀j,j<i->h j<1000000000
 eq:vf h i=vf X i-vf Y i+c*pw i
 c0:0<=c
 c1:c<=1
theorem DifI.start (X Y h:Nat->Int):DifI X Y 0 h 0:=⟨λj hj=>Zo,λj hj=>Zo,by simp[vf],Zd,Zd⟩
theorem DifI.below {X Y h:Nat->Int} {i:Nat} {c:Int} (H:DifI X Y i h c) (x0:0<=X i) (y1:Y i<1000000000) (hn:X i-Y i-c<0) :
  DifI X Y (i+1) (λj=>if j=i then X i-Y i-c+1000000000 else h j) 1:=by
 have h1:=H.c0;have h2:=H.c1;refine⟨λj hj=>?_,λj hj=>?_,?_,Zd,Zd⟩
 ·split
  ·omega
  ·exact H.lo j Zo
 ·split
  ·omega
  ·exact H.hi j Zo
 ·rw[Zne,Zal,Zal,Za8]
  have h3:=H.eq;grind
theorem DifI.above {X Y h:Nat->Int} {i:Nat} {c:Int} (H:DifI X Y i h c) (x1:X i<1000000000) (y0:0<=Y i) (hn:¬X i-Y i-c<0) :
  DifI X Y (i+1) (λj=>if j=i then X i-Y i-c else h j) 0:=by
 have h1:=H.c0;have h2:=H.c1;refine⟨λj hj=>?_,λj hj=>?_,?_,Zd,Zd⟩
 ·split
  ·omega
  ·exact H.lo j Zo
 ·split
  ·omega
  ·exact H.hi j Zo
 ·rw[Zne,Zal,Zal,Za8]
  have h3:=H.eq;grind
theorem DifI.done {f g h:Nat->Int} {n m:Nat} {c:Int} (H:DifI f (xt g m) n h c) (hm:m<=n) (hge:vf g m<=vf f n):vf h n=vf f n-vf g m:=by
 have h1:=H.eq;rw[Zki hm]at h1;have h2:=Zb7 H.hi;have h0:=H.c0;have h4:=H.c1;rcases(by omega:c=0∨c=1) with rfl|rfl<;>omega
/-! ### products -/
theorem Zq7 (d:Nat->Int) (L j:Nat) (x:Int) (hj:j<L):vf (λi=>if i=j then(x+d j)%1000000000 else d i) L+(x+d j)/1000000000*pw (j+1)=vf d L+x*pw j:=by
 rw[Zc8,if_pos hj,Za8];have:=Zi2 (x+d j) (pw j);grind
theorem Zon {d:Nat->Int} {L j:Nat} {x V:Int} (hd:∀i,i<L->0<=d i) (hV:vf d L+x*pw j=V) (hx:0<x) (hL:V<pw L):j<L:=by
 have h0:=Zar hd;have h1:1*pw j<=x*pw j:=Yaw Zo (Yap (Zba j));by_cases h:j<L
 ·exact h
 ·have:=Zbt (show L<=j by omega)
  omega
/-! ### a multiple taken off -/
structure TakI (X Y:Nat->Int) (k:Int) (i:Nat) (h:Nat->Int) (c:Int):Prop where
 lo:∀j,j<i->0<=h j
 hi:∀j,j<i->h j<1000000000
 eq:vf h i+c*pw i=vf X i-k*vf Y i
 c0:c<=0
 c1 : -1000000000<=c
theorem TakI.start (X Y h:Nat->Int) (k:Int):TakI X Y k 0 h 0:=⟨λj hj=>Zo,λj hj=>Zo,by simp[vf],Zd,Zd⟩
theorem Zi3 {y k:Int} (y0:0<=y) (y1:y<1000000000) (k0:0<=k) (k1:k<1000000000):0<=y*k∧y*k<=999999999*999999999:=by
 refine⟨Ycg y0 k0,?_⟩;have h1:y*k<=999999999*k:=Yaw Zo k0;omega
theorem TakI.next {X Y h:Nat->Int} {k:Int} {i:Nat} {c:Int} (H:TakI X Y k i h c) (x0:0<=X i) (x1:X i<1000000000) (y0:0<=Y i) (y1:Y i<1000000000) (k0:0<=k) (k1:k<1000000000) :
  TakI X Y k (i+1) (λj=>if j=i then(X i-Y i*k+c)%1000000000 else h j) ((X i-Y i*k+c)/1000000000):=by
 have h1:=H.c0;have h2:=H.c1;obtain⟨m0,m1⟩:=Zi3 y0 y1 k0 k1;refine⟨λj hj=>?_,λj hj=>?_,?_,Zo,Zo⟩
 ·split
  ·omega
  ·exact H.lo j Zo
 ·split
  ·omega
  ·exact H.hi j Zo
 ·rw[Zne,Zal,Zal,Za8]
  have h3:=H.eq;have h4:=Zi2 (X i-Y i*k+c) (pw i);grind
theorem TakI.done {f g h:Nat->Int} {n m:Nat} {k c:Int} (H:TakI f (xt g m) k n h c) (hm:m<=n) (hge:k*vf g m<=vf f n):vf h n=vf f n-k*vf g m:=by
 have h1:=H.eq;rw[Zki hm]at h1;have h0:=Zar H.lo;have h2:=Zb7 H.hi;have h3:=H.c0;have hp:=Zba n;by_cases hc:c=0
 ·subst hc;omega
 ·have h6:c*pw n<=-1*pw n:=Yaw Zo (Yap hp)
  omega
theorem Ztq {f g:Nat->Int} {n m:Nat} (hf:∀i,i<n->0<=f i) (hg:Digs g (m+1)) (hle:vf g (m+1)<=vf f n) (hn:n<=m+2) (hmn:m<n) :
  let H:=xt f n (m+1)*1000000000+f m
  let k:=H/(g m+1)
  0<=k∧k*vf g (m+1)<=vf f n:=by
 intro H k;have g0:=hg.lo m Zo;have g1:=hg.hi m Zo;have f0:=hf m hmn;have x0:=Zi1 hf (m+1);have hH:0<=H:=Zo;have hk:0<=k:=Ydq hH Zo;refine⟨hk,?_⟩;have h1:k*(g m+1)<=H:=Int.ediv_mul_le _ Zo;have h2:vf g (m+1)<=(g m+1)*pw m:=by
  rw[Zal];have:=Zb7 (f:=g) (k:=m) λi hi=>hg.hi i Zo;grind
 have h3:k*vf g (m+1)<=k*((g m+1)*pw m):=Ycr h2 hk;have h4:k*(g m+1)*pw m<=H*pw m:=Yaw h1 (Yap (Zba m));have h5:H*pw m<=vf f n:=by
  have e:vf f n=vf (xt f n) (m+2):=(Zki hn).symm;rw[e,Zal,Zal,Za8,Zol hmn];have:=Zar (f:=xt f n) (k:=m) λi _=>Zi1 hf i;have e2:H*pw m=f m*pw m+xt f n (m+1)*(pw m*1000000000):=by
   show(xt f n (m+1)*1000000000+f m)*pw m=_;grind
  omega
 rw[Int.mul_assoc]at h4;omega
theorem Zq8 {f g:Nat->Int} {n m:Nat} (hf:∀i,i<n->0<=f i) (hg:Digs g (m+1)) (hlt:vf f n<vf g (m+1)*1000000000) (hn:n<=m+2) (hmn:m<n) :
  (xt f n (m+1)*1000000000+f m)/(g m+1)<1000000000:=by
 have g0:=hg.lo m Zo;have g1:=hg.hi m Zo;refine Int.ediv_lt_of_lt_mul Zo ?_;have e:vf f n=vf (xt f n) (m+2):=(Zki hn).symm;rw[e,Zal,Zal,Za8,Zol hmn]at hlt;have h0:=Zar (f:=xt f n) (k:=m) λi _=>Zi1 hf i;have h2:vf g (m+1)<(g m+1)*pw m:=by
  rw[Zal];have:=Zb7 (f:=g) (k:=m) λi hi=>hg.hi i Zo;grind
 have hp:=Zba m;have h3:(xt f n (m+1)*1000000000+f m)*pw m<((g m+1)*1000000000)*pw m:=by
  have e2:(xt f n (m+1)*1000000000+f m)*pw m=f m*pw m+xt f n (m+1)*(pw m*1000000000):=by grind
  have e3:(g m+1)*1000000000*pw m=(g m+1)*pw m*1000000000:=by grind
  omega
 have:=Ygc h3 (Yap hp);omega
section
structure Box (w:World) (B:Nat) (T:TypeId) (cs:Array Value):Prop where
 blk:w.heap[B]? = some (.cells cs T (0,0))
section
variable {w w':World} {B:Nat} {T:TypeId} {cs:Array Value}
theorem Box.lt (h:Box w B T cs):B<w.heap.size:=Zao h.blk
theorem Box.cell (h:Box w B T cs):∀i,w.cell? ⟨B,i,none⟩=cs[i]?:=λi=>by simp[World.cell?,h.blk]
theorem Box.frozen (h:Box w B T cs):∀i,w.frozen? ⟨B,i,none⟩=false:=λi=>by simp[World.frozen?,h.blk]
theorem Box.below (h:Box w B T cs) (hb:Below w.heap.size w w'):Box w' B T cs:=⟨(hb.block B h.lt).trans h.blk⟩
theorem Box.drew (h:Box w B T cs):Box w.drew B T cs:=⟨h.blk⟩
theorem Box.new (w:World) (T:TypeId) (cs:Array Value):Box (w.alloc (.cells cs T)) w.heap.size T cs:=⟨by show(w.heap.push _)[w.heap.size]? = _;simp⟩
theorem Box.alloc (h:Box w B T cs) (o:Obj):Box (w.alloc o) B T cs:=h.below ((Yae _ _).alloc (Yab _) o)
theorem Box.set (h:Box w B T cs) (i:Nat) (u:Value):Box (w.setCell ⟨B,i,none⟩ u) B T (cs.setIfInBounds i u):=
 ⟨by show(w.heap.modify B _)[B]? = _;simp[Array.getElem?_modify,h.blk]⟩
theorem Box.other (h:Box w B T cs) (a:Addr) (u:Value) (hne:B≠a.block):Box (w.setCell a u) B T cs:=⟨(Ydx w a u B hne).trans h.blk⟩
theorem Ext.set {a:World} (h:Ext a w) (hb:Box w B T cs) (hT:T≠3) (i:Nat) (u:Value):Ext a (w.setCell ⟨B,i,none⟩ u):=by
 refine h.trans ⟨by show _<=(w.heap.modify _ _).size;simp,λk cs' fr hk=>?_⟩;refine(Ydx w _ u k ?_).trans hk;rintro rfl;have e:=hb.blk;rw[hk]at e;simp at e;exact hT e.2.1.symm
end
structure KeepBut (R N:Nat) (W w:World):Prop where
 os:w.os=W.os
 tape:w.tape=W.tape
 output:w.output=W.output
 size:N<=w.heap.size
 block:∀k,k<N->k≠R->w.heap[k]? = W.heap[k]?
section
variable {R N:Nat} {W w w':World}
theorem KeepBut.refl (R:Nat) (W:World):KeepBut R W.heap.size W W:=⟨rfl,rfl,rfl,Yab _,λ_ _ _=>rfl⟩
theorem KeepBut.drew (h:KeepBut R N W w):KeepBut R N W w.drew:=⟨h.os,h.tape,h.output,h.size,h.block⟩
theorem KeepBut.drewN (h:KeepBut R N W w) (k:Nat):KeepBut R N W (w.drewN k):=⟨h.os,h.tape,h.output,h.size,h.block⟩
theorem KeepBut.call (h:KeepBut R N W w) (hb:Below w.heap.size w w'):KeepBut R N W w':=
 ⟨hb.os.trans h.os,hb.tape.trans h.tape,hb.output.trans h.output,Yak h.size hb.size,λk hk hR=>(hb.block k (Yaf hk h.size)).trans (h.block k hk hR)⟩
theorem KeepBut.alloc (h:KeepBut R N W w) (o:Obj):KeepBut R N W (w.alloc o):=h.call ((Yae _ _).alloc (Yab _) o)
theorem KeepBut.set (h:KeepBut R N W w) (i:Nat) (u:Value):KeepBut R N W (w.setCell ⟨R,i,none⟩ u):=
 ⟨h.os,h.tape,h.output,by show N<=(w.heap.modify _ _).size;simpa using h.size,λk hk hR=>(Ydx w _ u k hR).trans (h.block k hk hR)⟩
theorem KeepBut.cell (h:KeepBut R N W w):∀b o,b<N->b≠R->w.cell? ⟨b,o,none⟩=W.cell? ⟨b,o,none⟩:=
 λb o hb hR=>World.cell?_of_block (a:=⟨b,o,none⟩) (h.block b hb hR)
theorem KeepBut.S (h:KeepBut R N W w):(∀b o,b<N->b≠R->w.cell? ⟨b,o,none⟩=W.cell? ⟨b,o,none⟩)∧KeepBut R N W w:=⟨h.cell,h⟩
theorem KeepBut.ext (h:KeepBut R W.heap.size W w) {T:TypeId} {cs:Array Value} (hb:Box W R T cs) (hT:T≠3):Ext W w:=by
 refine⟨h.size,λk cs' fr hk=>(h.block k (Zao hk) ?_).trans hk⟩;rintro rfl;have e:=hb.blk;rw[hk]at e;simp at e;exact hT e.2.1.symm
theorem KeepBut.below (h:KeepBut R N W w) {w0:World} (hB:Below w0.heap.size w0 W) (hR:w0.heap.size<=R) (hN:w0.heap.size<=N):Below w0.heap.size w0 w:=
 ⟨h.os.trans hB.os,h.tape.trans hB.tape,h.output.trans hB.output,Yak hN h.size,λk hk=>(h.block k Zo Zo).trans (hB.block k hk)⟩
theorem KeepBut.box (h:KeepBut R N W w) {B:Nat} {T:TypeId} {cs:Array Value} (hb:Box W B T cs) (hN:B<N) (hR:B≠R):Box w B T cs:=⟨(h.block B hN hR).trans hb.blk⟩
end
theorem Zbo {P:Program} {c:Code} {Q:Exit->Act->World->Prop} {a:Act} {w:World} {T0:TypeId} {c0:Array Value}
  (h:∀W,Below w.heap.size w W->w.heap.size+1<=W.heap.size->Box W w.heap.size T0 c0->c.wp P Q a W):c.wp P Q a (w.alloc (.cells c0 T0)):=
 h _ ((Yae _ _).alloc (Yab _) _) Zs (Box.new _ _ _)
theorem Zeh {P:Program} {c:Code} {Q:Exit->Act->World->Prop} {a:Act} {w:World} {T0 T1:TypeId} {c0 c1:Array Value}
  (h:∀W,Below w.heap.size w W->w.heap.size+2<=W.heap.size->Box W w.heap.size T0 c0->Box W (w.heap.size+1) T1 c1->c.wp P Q a W):c.wp P Q a ((w.alloc (.cells c0 T0)).alloc (.cells c1 T1)):=by
 refine h _ (((Yae _ _).alloc (Yab _) _).alloc Zs _) Zs ((Box.new _ _ _).alloc _) ?_;have:=Box.new (w.alloc (.cells c0 T0)) T1 c1;rwa [Yav]at this
theorem Zfs {P:Program} {c:Code} {Q:Exit->Act->World->Prop} {a:Act} {w:World} {T0 T1 T2:TypeId} {c0 c1 c2:Array Value}
  (h:∀W,Below w.heap.size w W->w.heap.size+3<=W.heap.size->Box W w.heap.size T0 c0->Box W (w.heap.size+1) T1 c1->Box W (w.heap.size+1+1) T2 c2->c.wp P Q a W) :
  c.wp P Q a (((w.alloc (.cells c0 T0)).alloc (.cells c1 T1)).alloc (.cells c2 T2)):=by
 have b1:=Box.new (w.alloc (.cells c0 T0)) T1 c1;have b2:=Box.new ((w.alloc (.cells c0 T0)).alloc (.cells c1 T1)) T2 c2;simp only[Yav]at b1 b2;exact h _ ((((Yae _ _).alloc (Yab _) _).alloc Zs _).alloc (by simp;omega) _) Zs (((Box.new _ _ _).alloc _).alloc _) (b1.alloc _) b2
section
variable {P:Program} {f:FuncId} {args:Array Value} {R:Ending->World->Prop} {w:World} {T0 T1 T2:TypeId} {c0 c1 c2:Array Value}
theorem Zbv (h:∀W,Below w.heap.size w W->w.heap.size+1<=W.heap.size->Box W w.heap.size T0 c0->Calls P f args W R):Calls P f args (w.alloc (.cells c0 T0)) R:=
 h _ ((Yae _ _).alloc (Yab _) _) Zs (Box.new _ _ _)
theorem Zbi (h:∀W,Below w.heap.size w W->w.heap.size+2<=W.heap.size->Box W w.heap.size T0 c0->Box W (w.heap.size+1) T1 c1->Calls P f args W R):Calls P f args ((w.alloc (.cells c0 T0)).alloc (.cells c1 T1)) R:=by
 refine h _ (((Yae _ _).alloc (Yab _) _).alloc Zs _) Zs ((Box.new _ _ _).alloc _) ?_;have:=Box.new (w.alloc (.cells c0 T0)) T1 c1;rwa [Yav]at this
theorem Zby (h:∀W,Below w.heap.size w W->w.heap.size+3<=W.heap.size->Box W w.heap.size T0 c0->Box W (w.heap.size+1) T1 c1->Box W (w.heap.size+1+1) T2 c2->Calls P f args W R) :
  Calls P f args (((w.alloc (.cells c0 T0)).alloc (.cells c1 T1)).alloc (.cells c2 T2)) R:=by
 have b1:=Box.new (w.alloc (.cells c0 T0)) T1 c1;have b2:=Box.new ((w.alloc (.cells c0 T0)).alloc (.cells c1 T1)) T2 c2;simp only[Yav]at b1 b2;exact h _ ((((Yae _ _).alloc (Yab _) _).alloc Zs _).alloc (by simp;omega) _) Zs (((Box.new _ _ _).alloc _).alloc _) (b1.alloc _) b2
end
theorem Za3 {W w:World} (h:Below W.heap.size W w):(∀b o,b<W.heap.size->w.cell? ⟨b,o,none⟩=W.cell? ⟨b,o,none⟩)∧Below W.heap.size W w:=⟨λ_ _ hb=>h.cell hb,h⟩
theorem Zaa {w w1 w2:World} (h:Below w.heap.size w w1) (k:Below w1.heap.size w1 w2):Below w.heap.size w w2:=h.trans (k.mono h.size)
theorem Zad {w w1:World} (h:Below w.heap.size w w1) (o:Obj):Below w.heap.size w (w1.alloc o):=h.alloc h.size o
theorem Zai {w w1:World} (h:Below w.heap.size w w1) {B:Nat} (hB:w.heap.size<=B) (i:Nat) (u:Value):Below w.heap.size w (w1.setCell ⟨B,i,none⟩ u):=h.setCell (p:=⟨B,i,none⟩) hB u
def Sg (s:Bool) (z:Int):Prop:=(s=true->z<=0)∧(s=false->0<=z)
theorem Sg.mul {s:Bool} {z y:Int} (h:Sg s z) (hy:0<=y):Sg s (z*y):=
 ⟨λe=>by have:=Yaw (h.1 e) hy;simpa using this,λe=>Ycg (h.2 e) hy⟩
theorem Zd5 {z y:Int} (hy:0<=y):((z*y).natAbs:Int)=z.natAbs*y:=by
 rw[Yde,Ycw];congr 1
 omega
theorem Sg.div {s:Bool} {z y:Int} (h:Sg s z) (hy:0<y):Sg s (z/y):=
 ⟨λe=>by have:=Int.ediv_le_ediv hy (h.1 e);simpa using this,λe=>Ydq (h.2 e) (Yap hy)⟩
end
end Go.Mono
namespace Go.Proofs.W
open Go.RowKit Go.Mono
theorem Zbz:(Tryz.prog.info? 3).map (λi=>(i.zero,i.size,i.bytes))=some (some (.int .i64 0),1,8):=Zk
theorem Zpk (p q:Option Addr) (n m c1 c2:Nat) (f g:Nat->Int) (w:World) (h1:SlF w (.slice p n c1) n f) (h2:SlF w (.slice q m c2) m g)
  (f0:∀i,i<n->0<=f i) (f1:∀i,i<n->f i<1000000000) (g0:∀i,i<m->0<=g i) (g1:∀i,i<m->g i<1000000000) (hn:n<=1000000) (hm:m<=1000000) :
  Calls Tryz.prog 116 #[.slice p n c1,.slice q m c2] w λe w'=>∃b k h,e=.returned (.slice (some ⟨b,0,none⟩) k (n+m))∧SlF w' (.slice (some ⟨b,0,none⟩) k (n+m)) k h∧Digs h k∧vf h k=vf f n*vf g m∧k<=n+m∧Below w.heap.size w w':=by
 obtain⟨hc1,hn1,hx1⟩:=h1.opens;obtain⟨hc2,hn2,hx2⟩:=h2.opens;clear h1 h2;go_enter Tryz.func116,Tryz.ntmps116
 go_wp2_with (at_make;refine Za5 _ rfl _ _ 131 rfl Tryz.underlying131 Zbz _ _ (n+m) rfl rfl Zs Zs Zo ?_;intro w1 r1 b1;have s1:=b1.size;have L1:=r1.lt)
 go_loopw [20] (λa wr=>∃i:Nat,i<=n∧a=.int .i64 i∧Below w.heap.size w wr∧∃h,RowF wr w.heap.size (n+m) h∧TimesInv n m f g i 0 h 0) (λa _=>n-(intOf a).toNat)
 case atStart=>exact⟨0,Yat _,rfl,b1,_,r1,TimesInv.start⟩
 case round=>
  clear b1 s1 L1 r1;obtain⟨i,hi,rfl,hb,h,hr,HT⟩:=hrel;by_cases hlt:i<n
  ·obtain⟨b,off,rfl,hbs,hcell⟩:=hx1 Zo
   have a1:=(hb.cell (p:=⟨b,off+i,none⟩) hbs).trans (hcell i hlt);have fi0:=f0 i hlt;have fi1:=f1 i hlt;clear hcell hx1;go_wp2
   go_loopw [8,27] (λc a wr=>∃k:Nat,k<=m∧a=.int .i64 k∧Below w.heap.size w wr∧∃h cc,c=.int .i64 cc∧RowF wr w.heap.size (n+m) h∧TimesInv n m f g i k h cc) (λ_ a _=>m-(intOf a).toNat)
   case atStart=>exact⟨0,Yat _,rfl,hb,_,_,rfl,hr,HT⟩
   case round=>
    clear hb hr HT a1;obtain⟨k,hk,rfl,hb,h,cc,rfl,hr,HT⟩:=hrel;by_cases hlk:k<m
    ·obtain⟨b2,off2,rfl,hbs2,hcell2⟩:=hx2 Zo
     have a1:=(hb.cell (p:=⟨b2,off2+k,none⟩) hbs2).trans (hcell2 k hlk);have gk0:=g0 k hlk;have gk1:=g1 k hlk;have a2:=hr.cell (i+k) Zo;have a3:=hr.frozen (i+k);have d1:=HT.lo (i+k) Zo;have d2:=HT.hi (i+k) Zo;have d3:=HT.c0;have d4:=HT.c1;obtain⟨d5,d6⟩:=Zgl fi0 fi1 gk0 gk1;clear hcell2 hx2 f0 f1 g0 g1;go_wp2
     go_roundw
     case rel=>exact⟨k+1,Zo,by go_num,hb.setCell (p:=⟨w.heap.size,i+k,none⟩) (Yab _) _,_,_,rfl,hr.set (i+k) _,HT.step hlt hlk fi0 fi1 gk0 gk1⟩
     case measure=>simp[intOf];omega
    ·obtain rfl:k=m:=by omega
     have d3:=HT.c0;have d4:=HT.c1;have a2:=hr.cell (i+k) Zo;have a3:=hr.frozen (i+k);clear hlk hk hx2 f0 f1 g0 g1;go_wp2
     go_roundw
     case rel=>exact⟨i+1,Zo,by go_num,hb.setCell (p:=⟨w.heap.size,i+k,none⟩) (Yab _) _,_,hr.set (i+k) _,HT.outer hlt⟩
     case measure=>simp[intOf];omega
  ·obtain rfl:i=n:=by omega
   clear hlt hi hx1 hx2;have hs:=hr.slice Zo (i+m) (Yab _) (i+m) (Yab _);obtain⟨c1',c2'⟩:=HT.done;have hle:=Za7 h (i+m);replace c2':=Yah c2';go_wp2_with (go_at_call 161;refine(Zcj _ _ _ h _ hs).mono ?_;rintro e w' ⟨rfl,rfl⟩)
   go_ret
   exact⟨_,_,h,rfl,hs.take _ hle,c1',c2'.out,hle,hb⟩
theorem Zfy (m1 m2:Nat) (w wf:World) (hx:Ext wf w) (p q:Option Addr) (n m c1 c2:Nat) (N M:Int) (h1:Sz m1 wf (.slice p n c1) N) (h2:Sz m2 wf (.slice q m c2) M) (hm1:m1<=1000000) (hm2:m2<=1000000) :
  Calls Tryz.prog 116 #[.slice p n c1,.slice q m c2] w λe w'=>∃p k c,e=.returned (.slice p k c)∧Sz (m1+m2) w' (.slice p k c) (N*M)∧Below w.heap.size w w':=by
 obtain⟨n,f,s1,d1,rfl,l1,rfl⟩:=(h1.ext hx).sl;obtain⟨m,g,s2,d2,rfl,l2,rfl⟩:=(h2.ext hx).sl;refine(Zpk p q n m c1 c2 f g w s1 s2 d1.lo d1.hi d2.lo d2.hi Zo Zo).mono ?_;rintro e w' ⟨b,k,h,rfl,hs,hd,hv,hk,hb⟩;exact⟨_,_,_,rfl,⟨k,h,hs,hd,hv,Zo⟩,hb⟩
end Go.Proofs.W
