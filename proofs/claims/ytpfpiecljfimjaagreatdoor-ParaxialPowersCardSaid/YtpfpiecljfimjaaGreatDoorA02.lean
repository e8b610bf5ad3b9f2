/- Contracts of package paraxial,and a verified evaluator. Part 2 of 26. No condition beside the row. -/
import Derived.Deep.RegionHeld3
import Derived.Test.YtpfpiecljfimjaaGreatDoorA01
set_option linter.unusedVariables false
set_option linter.unusedSimpArgs false
set_option maxRecDepth 100000
set_option maxHeartbeats 4000000
namespace Go.Mono
def xt (f:Nat->Int) (n:Nat):Nat->Int:=λi=>if i<n then f i else 0
theorem Zo7 {f:Nat->Int} {n i:Nat} (h:i<n):xt f n i=f i:=if_pos h
theorem Zum {f:Nat->Int} {n i:Nat} (h:n<=i):xt f n i=0:=if_neg Zo
theorem Zjd {f:Nat->Int} {n:Nat} (h:∀i,i<n->0<=f i) (i:Nat):0<=xt f n i:=by
 by_cases hi:i<n
 ·rw[Zo7 hi];exact h i hi
 ·rw[Zum Zo];exact Yek _
theorem Zo8 {f:Nat->Int} {n:Nat} (h:∀i,i<n->f i<1000000000) (i:Nat):xt f n i<1000000000:=by
 by_cases hi:i<n
 ·rw[Zo7 hi];exact h i hi
 ·rw[Zum Zo];decide
theorem Zk0 {f:Nat->Int} {n i:Nat} (h:n<=i):vf (xt f n) i=vf f n:=by
 obtain⟨d,rfl⟩:=Yfe h;rw[Zcj,Zbi (f:=xt f n) (g:=f) (k:=n) (λi hi=>Zo7 hi),Zdk (f:=λj=>xt f n (n+j)) (λi _=>Zum Zo)];simp
theorem Zn0 (h:Nat->Int) (i:Nat) (x:Int):vf (λj=>if j=i then x else h j) (i+1)=vf h i+x*pw i:=by
 rw[Zaj,Zbi (g:=h) (λj hj=>if_neg Zo),if_pos rfl]
theorem Zje (n p:Int):n%1000000000*p+n/1000000000*(p*1000000000)=n*p:=by
 have h:n=n%1000000000+1000000000*(n/1000000000):=(Int.emod_add_mul_ediv n 1000000000).symm;generalize n%1000000000=r at *;generalize n/1000000000=q at *;subst h;grind
/-! ### sums -/
structure SumI (X Y:Nat->Int) (i:Nat) (h:Nat->Int) (c:Int):Prop where
 lo:∀j,j<i->0<=h j
 hi:∀j,j<i->h j<1000000000
 eq:vf h i+c*pw i=vf X i+vf Y i
 c0:0<=c
 c1:c<=1
theorem SumI.start (X Y h:Nat->Int):SumI X Y 0 h 0:=⟨λj hj=>Zo,λj hj=>Zo,by simp[vf],Zd,Zd⟩
theorem SumI.next {X Y h:Nat->Int} {i:Nat} {c:Int} (H:SumI X Y i h c) (x0:0<=X i) (x1:X i<1000000000) (y0:0<=Y i) (y1:Y i<1000000000) :
  SumI X Y (i+1) (λj=>if j=i then(X i+Y i+c)%1000000000 else h j) ((X i+Y i+c)/1000000000):=by
 have h1:=H.c0;have h2:=H.c1;refine⟨λj hj=>?_,λj hj=>?_,?_,Zo,Zo⟩
 ·split
  ·omega
  ·exact H.lo j Zo
 ·split
  ·omega
  ·exact H.hi j Zo
 ·rw[Zn0,Zaj,Zaj,Za5]
  have h3:=H.eq;have h4:=Zje (X i+Y i+c) (pw i);grind
theorem SumI.done {f g h:Nat->Int} {n m i:Nat} (H:SumI (xt f n) (xt g m) i h 0) (hn:n<=i) (hm:m<=i):vf h i=vf f n+vf g m:=by
 have:=H.eq;rw[Zk0 hn,Zk0 hm]at this;omega
theorem SumI.len {f g h:Nat->Int} {n m i:Nat} {c:Int} (H:SumI (xt f n) (xt g m) i h c) (hf:∀i,i<n->f i<1000000000) (hg:∀i,i<m->g i<1000000000) (hn:n<=i) (hm:m<=i) (hc:0<c):i=max n m:=by
 have h1:=H.eq;have h0:=Zaq H.lo;rw[Zk0 hn,Zk0 hm]at h1;have h2:=Zc3 hf;have h3:=Zc3 hg;have h4:=Zbs (show n<=max n m by omega);have h5:=Zbs (show m<=max n m by omega);have h6:1*pw i<=c*pw i:=Yaw Zo (Yap (Za8 i));by_cases hi:max n m<i
 ·have h7:=Zbs (show max n m+1<=i by omega)
  rw[Za5]at h7;have:=Za8 (max n m);omega
 ·omega
/-! ### differences -/
structure DifI (X Y:Nat->Int) (i:Nat) (h:Nat->Int) (c:Int):Prop where
 lo:∀j,j<i->0<=h j
 hi:∀j,j<i->h j<1000000000
 eq:vf h i=vf X i-vf Y i+c*pw i
 c0:0<=c
 c1:c<=1
theorem DifI.start (X Y h:Nat->Int):DifI X Y 0 h 0:=⟨λj hj=>Zo,λj hj=>Zo,by simp[vf],Zd,Zd⟩
theorem DifI.below {X Y h:Nat->Int} {i:Nat} {c:Int} (H:DifI X Y i h c) (x0:0<=X i) (y1:Y i<1000000000) (hn:X i-Y i-c<0) :
  DifI X Y (i+1) (λj=>if j=i then X i-Y i-c+1000000000 else h j) 1:=by
 have h1:=H.c0;have h2:=H.c1;refine⟨λj hj=>?_,λj hj=>?_,?_,Zd,Zd⟩
 ·split
  ·omega
  ·exact H.lo j Zo
 ·split
  ·omega
  ·exact H.hi j Zo
 ·rw[Zn0,Zaj,Zaj,Za5]
  have h3:=H.eq;grind
theorem DifI.above {X Y h:Nat->Int} {i:Nat} {c:Int} (H:DifI X Y i h c) (x1:X i<1000000000) (y0:0<=Y i) (hn:¬X i-Y i-c<0) :
  DifI X Y (i+1) (λj=>if j=i then X i-Y i-c else h j) 0:=by
 have h1:=H.c0;have h2:=H.c1;refine⟨λj hj=>?_,λj hj=>?_,?_,Zd,Zd⟩
 ·split
  ·omega
  ·exact H.lo j Zo
 ·split
  ·omega
  ·exact H.hi j Zo
 ·rw[Zn0,Zaj,Zaj,Za5]
  have h3:=H.eq;grind
theorem DifI.done {f g h:Nat->Int} {n m:Nat} {c:Int} (H:DifI f (xt g m) n h c) (hm:m<=n) (hge:vf g m<=vf f n):vf h n=vf f n-vf g m:=by
 have h1:=H.eq;rw[Zk0 hm]at h1;have h2:=Zc3 H.hi;have h0:=H.c0;have h4:=H.c1;rcases(by omega:c=0∨c=1) with rfl|rfl<;>omega
/-! ### products -/
theorem Zrz (d:Nat->Int) (L j:Nat) (x:Int) (hj:j<L):vf (λi=>if i=j then(x+d j)%1000000000 else d i) L+(x+d j)/1000000000*pw (j+1)=vf d L+x*pw j:=by
 rw[Zc5,if_pos hj,Za5];have:=Zje (x+d j) (pw j);grind
theorem Zo9 {d:Nat->Int} {L j:Nat} {x V:Int} (hd:∀i,i<L->0<=d i) (hV:vf d L+x*pw j=V) (hx:0<x) (hL:V<pw L):j<L:=by
 have h0:=Zaq hd;have h1:1*pw j<=x*pw j:=Yaw Zo (Yap (Za8 j));by_cases h:j<L
 ·exact h
 ·have:=Zbs (show L<=j by omega)
  omega
/-! ### a multiple taken off -/
structure TakI (X Y:Nat->Int) (k:Int) (i:Nat) (h:Nat->Int) (c:Int):Prop where
 lo:∀j,j<i->0<=h j
 hi:∀j,j<i->h j<1000000000
 eq:vf h i+c*pw i=vf X i-k*vf Y i
 c0:c<=0
 c1 : -1000000000<=c
theorem TakI.start (X Y h:Nat->Int) (k:Int):TakI X Y k 0 h 0:=⟨λj hj=>Zo,λj hj=>Zo,by simp[vf],Zd,Zd⟩
theorem Zjf {y k:Int} (y0:0<=y) (y1:y<1000000000) (k0:0<=k) (k1:k<1000000000):0<=y*k∧y*k<=999999999*999999999:=by
 refine⟨Ycg y0 k0,?_⟩;have h1:y*k<=999999999*k:=Yaw Zo k0;omega
theorem TakI.next {X Y h:Nat->Int} {k:Int} {i:Nat} {c:Int} (H:TakI X Y k i h c) (x0:0<=X i) (x1:X i<1000000000) (y0:0<=Y i) (y1:Y i<1000000000) (k0:0<=k) (k1:k<1000000000) :
  TakI X Y k (i+1) (λj=>if j=i then(X i-Y i*k+c)%1000000000 else h j) ((X i-Y i*k+c)/1000000000):=by
 have h1:=H.c0;have h2:=H.c1;obtain⟨m0,m1⟩:=Zjf y0 y1 k0 k1;refine⟨λj hj=>?_,λj hj=>?_,?_,Zo,Zo⟩
 ·split
  ·omega
  ·exact H.lo j Zo
 ·split
  ·omega
  ·exact H.hi j Zo
 ·rw[Zn0,Zaj,Zaj,Za5]
  have h3:=H.eq;have h4:=Zje (X i-Y i*k+c) (pw i);grind
theorem TakI.done {f g h:Nat->Int} {n m:Nat} {k c:Int} (H:TakI f (xt g m) k n h c) (hm:m<=n) (hge:k*vf g m<=vf f n):vf h n=vf f n-k*vf g m:=by
 have h1:=H.eq;rw[Zk0 hm]at h1;have h0:=Zaq H.lo;have h2:=Zc3 H.hi;have h3:=H.c0;have hp:=Za8 n;by_cases hc:c=0
 ·subst hc;omega
 ·have h6:c*pw n<=-1*pw n:=Yaw Zo (Yap hp)
  omega
theorem Zun {f g:Nat->Int} {n m:Nat} (hf:∀i,i<n->0<=f i) (hg:Digs g (m+1)) (hle:vf g (m+1)<=vf f n) (hn:n<=m+2) (hmn:m<n) :
  let H:=xt f n (m+1)*1000000000+f m
  let k:=H/(g m+1)
  0<=k∧k*vf g (m+1)<=vf f n:=by
 intro H k;have g0:=hg.lo m Zo;have g1:=hg.hi m Zo;have f0:=hf m hmn;have x0:=Zjd hf (m+1);have hH:0<=H:=Zo;have hk:0<=k:=Ydq hH Zo;refine⟨hk,?_⟩;have h1:k*(g m+1)<=H:=Int.ediv_mul_le _ Zo;have h2:vf g (m+1)<=(g m+1)*pw m:=by
  rw[Zaj];have:=Zc3 (f:=g) (k:=m) λi hi=>hg.hi i Zo;grind
 have h3:k*vf g (m+1)<=k*((g m+1)*pw m):=Ycr h2 hk;have h4:k*(g m+1)*pw m<=H*pw m:=Yaw h1 (Yap (Za8 m));have h5:H*pw m<=vf f n:=by
  have e:vf f n=vf (xt f n) (m+2):=(Zk0 hn).symm;rw[e,Zaj,Zaj,Za5,Zo7 hmn];have:=Zaq (f:=xt f n) (k:=m) λi _=>Zjd hf i;have e2:H*pw m=f m*pw m+xt f n (m+1)*(pw m*1000000000):=by
   show(xt f n (m+1)*1000000000+f m)*pw m=_;grind
  omega
 rw[Int.mul_assoc]at h4;omega
theorem Zr0 {f g:Nat->Int} {n m:Nat} (hf:∀i,i<n->0<=f i) (hg:Digs g (m+1)) (hlt:vf f n<vf g (m+1)*1000000000) (hn:n<=m+2) (hmn:m<n) :
  (xt f n (m+1)*1000000000+f m)/(g m+1)<1000000000:=by
 have g0:=hg.lo m Zo;have g1:=hg.hi m Zo;refine Int.ediv_lt_of_lt_mul Zo ?_;have e:vf f n=vf (xt f n) (m+2):=(Zk0 hn).symm;rw[e,Zaj,Zaj,Za5,Zo7 hmn]at hlt;have h0:=Zaq (f:=xt f n) (k:=m) λi _=>Zjd hf i;have h2:vf g (m+1)<(g m+1)*pw m:=by
  rw[Zaj];have:=Zc3 (f:=g) (k:=m) λi hi=>hg.hi i Zo;grind
 have hp:=Za8 m;have h3:(xt f n (m+1)*1000000000+f m)*pw m<((g m+1)*1000000000)*pw m:=by
  have e2:(xt f n (m+1)*1000000000+f m)*pw m=f m*pw m+xt f n (m+1)*(pw m*1000000000):=by grind
  have e3:(g m+1)*1000000000*pw m=(g m+1)*pw m*1000000000:=by grind
  omega
 have:=Ygc h3 (Yap hp);omega
section
open Go.RowKit
structure Box (w:World) (B:Nat) (T:TypeId) (cs:Array Value):Prop where
 blk:w.heap[B]? = some (.cells cs T (0,0))
section
variable {w w':World} {B:Nat} {T:TypeId} {cs:Array Value}
theorem Box.lt (h:Box w B T cs):B<w.heap.size:=Zam h.blk
theorem Box.cell (h:Box w B T cs):∀i,w.cell? ⟨B,i,none⟩=cs[i]?:=λi=>by simp[World.cell?,h.blk]
theorem Box.frozen (h:Box w B T cs):∀i,w.frozen? ⟨B,i,none⟩=false:=λi=>by simp[World.frozen?,h.blk]
theorem Box.below (h:Box w B T cs) (hb:Below w.heap.size w w'):Box w' B T cs:=⟨(hb.block B h.lt).trans h.blk⟩
theorem Box.drew (h:Box w B T cs):Box w.drew B T cs:=⟨h.blk⟩
theorem Box.new (w:World) (T:TypeId) (cs:Array Value):Box (w.alloc (.cells cs T)) w.heap.size T cs:=⟨by show(w.heap.push _)[w.heap.size]? = _;simp⟩
theorem Box.alloc (h:Box w B T cs) (o:Obj):Box (w.alloc o) B T cs:=h.below ((Yae _ _).alloc (Yab _) o)
theorem Box.set (h:Box w B T cs) (i:Nat) (u:Value):Box (w.setCell ⟨B,i,none⟩ u) B T (cs.setIfInBounds i u):=
 ⟨by show(w.heap.modify B _)[B]? = _;simp[Array.getElem?_modify,h.blk]⟩
theorem Box.other (h:Box w B T cs) (a:Addr) (u:Value) (hne:B≠a.block):Box (w.setCell a u) B T cs:=⟨(Ydx w a u B hne).trans h.blk⟩
theorem Ext.set {a:World} (h:Ext a w) (hb:Box w B T cs) (hT:T≠3) (i:Nat) (u:Value):Ext a (w.setCell ⟨B,i,none⟩ u):=by
 refine h.trans ⟨by show _<=(w.heap.modify _ _).size;simp,λk cs' fr hk=>?_⟩;refine(Ydx w _ u k ?_).trans hk;rintro rfl;have e:=hb.blk;rw[hk]at e;simp at e;exact hT e.2.1.symm
end
structure KeepBut (R N:Nat) (W w:World):Prop where
 os:w.os=W.os
 tape:w.tape=W.tape
 output:w.output=W.output
 size:N<=w.heap.size
 block:∀k,k<N->k≠R->w.heap[k]? = W.heap[k]?
section
variable {R N:Nat} {W w w':World}
theorem KeepBut.refl (R:Nat) (W:World):KeepBut R W.heap.size W W:=⟨rfl,rfl,rfl,Yab _,λ_ _ _=>rfl⟩
theorem KeepBut.drew (h:KeepBut R N W w):KeepBut R N W w.drew:=⟨h.os,h.tape,h.output,h.size,h.block⟩
theorem KeepBut.drewN (h:KeepBut R N W w) (k:Nat):KeepBut R N W (w.drewN k):=⟨h.os,h.tape,h.output,h.size,h.block⟩
theorem KeepBut.call (h:KeepBut R N W w) (hb:Below w.heap.size w w'):KeepBut R N W w':=
 ⟨hb.os.trans h.os,hb.tape.trans h.tape,hb.output.trans h.output,Yak h.size hb.size,λk hk hR=>(hb.block k (Yaf hk h.size)).trans (h.block k hk hR)⟩
theorem KeepBut.alloc (h:KeepBut R N W w) (o:Obj):KeepBut R N W (w.alloc o):=h.call ((Yae _ _).alloc (Yab _) o)
theorem KeepBut.set (h:KeepBut R N W w) (i:Nat) (u:Value):KeepBut R N W (w.setCell ⟨R,i,none⟩ u):=
 ⟨h.os,h.tape,h.output,by show N<=(w.heap.modify _ _).size;simpa using h.size,λk hk hR=>(Ydx w _ u k hR).trans (h.block k hk hR)⟩
theorem KeepBut.cell (h:KeepBut R N W w):∀b o,b<N->b≠R->w.cell? ⟨b,o,none⟩=W.cell? ⟨b,o,none⟩:=
 λb o hb hR=>World.cell?_of_block (a:=⟨b,o,none⟩) (h.block b hb hR)
theorem KeepBut.S (h:KeepBut R N W w):(∀b o,b<N->b≠R->w.cell? ⟨b,o,none⟩=W.cell? ⟨b,o,none⟩)∧KeepBut R N W w:=⟨h.cell,h⟩
theorem KeepBut.ext (h:KeepBut R W.heap.size W w) {T:TypeId} {cs:Array Value} (hb:Box W R T cs) (hT:T≠3):Ext W w:=by
 refine⟨h.size,λk cs' fr hk=>(h.block k (Zam hk) ?_).trans hk⟩;rintro rfl;have e:=hb.blk;rw[hk]at e;simp at e;exact hT e.2.1.symm
theorem KeepBut.below (h:KeepBut R N W w) {w0:World} (hB:Below w0.heap.size w0 W) (hR:w0.heap.size<=R) (hN:w0.heap.size<=N):Below w0.heap.size w0 w:=
 ⟨h.os.trans hB.os,h.tape.trans hB.tape,h.output.trans hB.output,Yak hN h.size,λk hk=>(h.block k Zo Zo).trans (hB.block k hk)⟩
theorem KeepBut.box (h:KeepBut R N W w) {B:Nat} {T:TypeId} {cs:Array Value} (hb:Box W B T cs) (hN:B<N) (hR:B≠R):Box w B T cs:=⟨(h.block B hN hR).trans hb.blk⟩
end
theorem Zb1 {P:Program} {c:Code} {Q:Exit->Act->World->Prop} {a:Act} {w:World} {T0:TypeId} {c0:Array Value}
  (h:∀W,Below w.heap.size w W->w.heap.size+1<=W.heap.size->Box W w.heap.size T0 c0->c.wp P Q a W):c.wp P Q a (w.alloc (.cells c0 T0)):=
 h _ ((Yae _ _).alloc (Yab _) _) Zs (Box.new _ _ _)
theorem Zd3 {P:Program} {c:Code} {Q:Exit->Act->World->Prop} {a:Act} {w:World} {T0 T1:TypeId} {c0 c1:Array Value}
  (h:∀W,Below w.heap.size w W->w.heap.size+2<=W.heap.size->Box W w.heap.size T0 c0->Box W (w.heap.size+1) T1 c1->c.wp P Q a W):c.wp P Q a ((w.alloc (.cells c0 T0)).alloc (.cells c1 T1)):=by
 refine h _ (((Yae _ _).alloc (Yab _) _).alloc Zs _) Zs ((Box.new _ _ _).alloc _) ?_;have:=Box.new (w.alloc (.cells c0 T0)) T1 c1;rwa [Yav]at this
theorem Zfv {P:Program} {c:Code} {Q:Exit->Act->World->Prop} {a:Act} {w:World} {T0 T1 T2:TypeId} {c0 c1 c2:Array Value}
  (h:∀W,Below w.heap.size w W->w.heap.size+3<=W.heap.size->Box W w.heap.size T0 c0->Box W (w.heap.size+1) T1 c1->Box W (w.heap.size+1+1) T2 c2->c.wp P Q a W) :
  c.wp P Q a (((w.alloc (.cells c0 T0)).alloc (.cells c1 T1)).alloc (.cells c2 T2)):=by
 have b1:=Box.new (w.alloc (.cells c0 T0)) T1 c1;have b2:=Box.new ((w.alloc (.cells c0 T0)).alloc (.cells c1 T1)) T2 c2;simp only[Yav]at b1 b2;exact h _ ((((Yae _ _).alloc (Yab _) _).alloc Zs _).alloc (by simp;omega) _) Zs (((Box.new _ _ _).alloc _).alloc _) (b1.alloc _) b2
section
variable {P:Program} {f:FuncId} {args:Array Value} {R:Ending->World->Prop} {w:World} {T0 T1 T2:TypeId} {c0 c1 c2:Array Value}
theorem Zbg (h:∀W,Below w.heap.size w W->w.heap.size+1<=W.heap.size->Box W w.heap.size T0 c0->Calls P f args W R):Calls P f args (w.alloc (.cells c0 T0)) R:=
 h _ ((Yae _ _).alloc (Yab _) _) Zs (Box.new _ _ _)
theorem Zbj (h:∀W,Below w.heap.size w W->w.heap.size+2<=W.heap.size->Box W w.heap.size T0 c0->Box W (w.heap.size+1) T1 c1->Calls P f args W R):Calls P f args ((w.alloc (.cells c0 T0)).alloc (.cells c1 T1)) R:=by
 refine h _ (((Yae _ _).alloc (Yab _) _).alloc Zs _) Zs ((Box.new _ _ _).alloc _) ?_;have:=Box.new (w.alloc (.cells c0 T0)) T1 c1;rwa [Yav]at this
theorem Zbk (h:∀W,Below w.heap.size w W->w.heap.size+3<=W.heap.size->Box W w.heap.size T0 c0->Box W (w.heap.size+1) T1 c1->Box W (w.heap.size+1+1) T2 c2->Calls P f args W R) :
  Calls P f args (((w.alloc (.cells c0 T0)).alloc (.cells c1 T1)).alloc (.cells c2 T2)) R:=by
 have b1:=Box.new (w.alloc (.cells c0 T0)) T1 c1;have b2:=Box.new ((w.alloc (.cells c0 T0)).alloc (.cells c1 T1)) T2 c2;simp only[Yav]at b1 b2;exact h _ ((((Yae _ _).alloc (Yab _) _).alloc Zs _).alloc (by simp;omega) _) Zs (((Box.new _ _ _).alloc _).alloc _) (b1.alloc _) b2
end
theorem Za1 {W w:World} (h:Below W.heap.size W w):(∀b o,b<W.heap.size->w.cell? ⟨b,o,none⟩=W.cell? ⟨b,o,none⟩)∧Below W.heap.size W w:=⟨λ_ _ hb=>h.cell hb,h⟩
theorem Zaa {w w1 w2:World} (h:Below w.heap.size w w1) (k:Below w1.heap.size w1 w2):Below w.heap.size w w2:=h.trans (k.mono h.size)
theorem Zad {w w1:World} (h:Below w.heap.size w w1) (o:Obj):Below w.heap.size w (w1.alloc o):=h.alloc h.size o
theorem Zag {w w1:World} (h:Below w.heap.size w w1) {B:Nat} (hB:w.heap.size<=B) (i:Nat) (u:Value):Below w.heap.size w (w1.setCell ⟨B,i,none⟩ u):=h.setCell (p:=⟨B,i,none⟩) hB u
def Sg (s:Bool) (z:Int):Prop:=(s=true->z<=0)∧(s=false->0<=z)
theorem Sg.mul {s:Bool} {z y:Int} (h:Sg s z) (hy:0<=y):Sg s (z*y):=
 ⟨λe=>by have:=Yaw (h.1 e) hy;simpa using this,λe=>Ycg (h.2 e) hy⟩
theorem Zd4 {z y:Int} (hy:0<=y):((z*y).natAbs:Int)=z.natAbs*y:=by
 rw[Yde,Ycw];congr 1
 omega
theorem Sg.div {s:Bool} {z y:Int} (h:Sg s z) (hy:0<y):Sg s (z/y):=
 ⟨λe=>by have:=Int.ediv_le_ediv hy (h.1 e);simpa using this,λe=>Ydq (h.2 e) (Yap hy)⟩
end
end Go.Mono
namespace Go.Proofs.W
open Go.RowKit Go.Mono
theorem Zby:(Tryz.prog.info? 3).map (λi=>(i.zero,i.size,i.bytes))=some (some (.int .i64 0),1,8):=Zk
theorem Zp6 (p q:Option Addr) (n m c1 c2:Nat) (f g:Nat->Int) (w:World) (h1:SlF w (.slice p n c1) n f) (h2:SlF w (.slice q m c2) m g)
  (f0:∀i,i<n->0<=f i) (f1:∀i,i<n->f i<1000000000) (g0:∀i,i<m->0<=g i) (g1:∀i,i<m->g i<1000000000) (hn:n<=1000000) (hm:m<=1000000) :
  Calls Tryz.prog 167 #[.slice p n c1,.slice q m c2] w λe w'=>∃b k h,e=.returned (.slice (some ⟨b,0,none⟩) k (n+m))∧SlF w' (.slice (some ⟨b,0,none⟩) k (n+m)) k h∧Digs h k∧vf h k=vf f n*vf g m∧k<=n+m∧Below w.heap.size w w':=by
 obtain⟨hc1,hn1,hx1⟩:=h1.opens;obtain⟨hc2,hn2,hx2⟩:=h2.opens;clear h1 h2;go_enter Tryz.func167,Tryz.ntmps167
 go_wp2_with (at_make;refine Za0 _ rfl _ _ 170 rfl Tryz.underlying170 Zby _ _ (n+m) rfl rfl Zs Zs Zo ?_;intro w1 r1 b1;have s1:=b1.size;have L1:=r1.lt)
 go_loopw [20] (λa wr=>∃i:Nat,i<=n∧a=.int .i64 i∧Below w.heap.size w wr∧∃h,RowF wr w.heap.size (n+m) h∧TimesInv n m f g i 0 h 0) (λa _=>n-(intOf a).toNat)
 case atStart=>exact⟨0,Yat _,rfl,b1,_,r1,TimesInv.start⟩
 case round=>
  clear b1 s1 L1 r1;obtain⟨i,hi,rfl,hb,h,hr,HT⟩:=hrel;by_cases hlt:i<n
  ·obtain⟨b,off,rfl,hbs,hcell⟩:=hx1 Zo
   have a1:=(hb.cell (p:=⟨b,off+i,none⟩) hbs).trans (hcell i hlt);have fi0:=f0 i hlt;have fi1:=f1 i hlt;clear hcell hx1;go_wp2
   go_loopw [8,27] (λc a wr=>∃k:Nat,k<=m∧a=.int .i64 k∧Below w.heap.size w wr∧∃h cc,c=.int .i64 cc∧RowF wr w.heap.size (n+m) h∧TimesInv n m f g i k h cc) (λ_ a _=>m-(intOf a).toNat)
   case atStart=>exact⟨0,Yat _,rfl,hb,_,_,rfl,hr,HT⟩
   case round=>
    clear hb hr HT a1;obtain⟨k,hk,rfl,hb,h,cc,rfl,hr,HT⟩:=hrel;by_cases hlk:k<m
    ·obtain⟨b2,off2,rfl,hbs2,hcell2⟩:=hx2 Zo
     have a1:=(hb.cell (p:=⟨b2,off2+k,none⟩) hbs2).trans (hcell2 k hlk);have gk0:=g0 k hlk;have gk1:=g1 k hlk;have a2:=hr.cell (i+k) Zo;have a3:=hr.frozen (i+k);have d1:=HT.lo (i+k) Zo;have d2:=HT.hi (i+k) Zo;have d3:=HT.c0;have d4:=HT.c1;obtain⟨d5,d6⟩:=Zgn fi0 fi1 gk0 gk1;clear hcell2 hx2 f0 f1 g0 g1;go_wp2
     go_roundw
     case rel=>exact⟨k+1,Zo,by go_num,hb.setCell (p:=⟨w.heap.size,i+k,none⟩) (Yab _) _,_,_,rfl,hr.set (i+k) _,HT.step hlt hlk fi0 fi1 gk0 gk1⟩
     case measure=>simp[intOf];omega
    ·obtain rfl:k=m:=by omega
     have d3:=HT.c0;have d4:=HT.c1;have a2:=hr.cell (i+k) Zo;have a3:=hr.frozen (i+k);clear hlk hk hx2 f0 f1 g0 g1;go_wp2
     go_roundw
     case rel=>exact⟨i+1,Zo,by go_num,hb.setCell (p:=⟨w.heap.size,i+k,none⟩) (Yab _) _,_,hr.set (i+k) _,HT.outer hlt⟩
     case measure=>simp[intOf];omega
  ·obtain rfl:i=n:=by omega
   clear hlt hi hx1 hx2;have hs:=hr.slice Zo (i+m) (Yab _) (i+m) (Yab _);obtain⟨c1',c2'⟩:=HT.done;have hle:=Za3 h (i+m);replace c2':=Yah c2';go_wp2_with (go_at_call 200;refine(Zck _ _ _ h _ hs).mono ?_;rintro e w' ⟨rfl,rfl⟩)
   go_ret
   exact⟨_,_,h,rfl,hs.take _ hle,c1',c2'.out,hle,hb⟩
theorem Zf2 (m1 m2:Nat) (w wf:World) (hx:Ext wf w) (p q:Option Addr) (n m c1 c2:Nat) (N M:Int) (h1:Sz m1 wf (.slice p n c1) N) (h2:Sz m2 wf (.slice q m c2) M) (hm1:m1<=1000000) (hm2:m2<=1000000) :
  Calls Tryz.prog 167 #[.slice p n c1,.slice q m c2] w λe w'=>∃p k c,e=.returned (.slice p k c)∧Sz (m1+m2) w' (.slice p k c) (N*M)∧Below w.heap.size w w':=by
 obtain⟨n,f,s1,d1,rfl,l1,rfl⟩:=(h1.ext hx).sl;obtain⟨m,g,s2,d2,rfl,l2,rfl⟩:=(h2.ext hx).sl;refine(Zp6 p q n m c1 c2 f g w s1 s2 d1.lo d1.hi d2.lo d2.hi Zo Zo).mono ?_;rintro e w' ⟨b,k,h,rfl,hs,hd,hv,hk,hb⟩;exact⟨_,_,_,rfl,⟨k,h,hs,hd,hv,Zo⟩,hb⟩
end Go.Proofs.W
namespace Go.Mono
section
theorem mle {a b c:Int} (h:a<=b) (hc:0<=c):a*c<=b*c:=Yaw h hc
structure Est (p vl v2 v1 ul u0 u1 u2 V U:Int):Prop where
 p0:0<p
 vl0:0<=vl
 vl1:vl<p
 v20:0<=v2
 v21:v2<1000000000
 v10:0<v1
 v11:v1<1000000000
 ul0:0<=ul
 ul1:ul<p
 u00:0<=u0
 u01:u0<1000000000
 u10:0<=u1
 u11:u1<1000000000
 u20:0<=u2
 hV:V=vl+v2*p+v1*(1000000000*p)
 hU:U=ul+u0*p+u1*(1000000000*p)+u2*(1000000000*(1000000000*p))
 lt:U<V*1000000000
section
variable {p vl v2 v1 ul u0 u1 u2 V U:Int}
theorem Est.U_lt (E:Est p vl v2 v1 ul u0 u1 u2 V U):U<((u2*1000000000+u1)*1000000000+u0+1)*p:=by
 rw[E.hU];have:=E.ul1;grind
theorem Est.U_ge (E:Est p vl v2 v1 ul u0 u1 u2 V U):((u2*1000000000+u1)*1000000000+u0)*p<=U:=by
 rw[E.hU];have:=E.ul0;grind
theorem Est.V_ge (E:Est p vl v2 v1 ul u0 u1 u2 V U):(v1*1000000000+v2)*p<=V:=by
 rw[E.hV];have:=E.vl0;grind
theorem Est.V_lt (E:Est p vl v2 v1 ul u0 u1 u2 V U):V<(v1*1000000000+v2+1)*p:=by
 rw[E.hV];have:=E.vl1;grind
theorem Est.V_pos (E:Est p vl v2 v1 ul u0 u1 u2 V U):0<V:=by
 have h1:=E.V_ge;have h2:=mle (show 1<=v1*1000000000+v2 by have:=E.v10;have:=E.v20;omega) (Yap E.p0);have:=E.p0;omega
theorem Est.u2_le (E:Est p vl v2 v1 ul u0 u1 u2 V U):u2<=v1:=by
 rcases Ycz v1 u2 with h|h
 ·have h1:=E.U_ge
  have h2:=E.V_lt;have h3:=E.lt;have h4:=mle (show(v1*1000000000+v2+1)*1000000000<=(u2*1000000000+u1)*1000000000+u0 by have:=E.v21;have:=E.u10;have:=E.u00;omega) (Yap E.p0);have h5:(v1*1000000000+v2+1)*1000000000*p=(v1*1000000000+v2+1)*p*1000000000:=by grind
  omega
 ·exact h
structure EstInv (V U v1 top d rest:Int):Prop where
 top:top=d*v1+rest
 r0:0<=rest
 d0:0<=d
 d1:d<2000000000
 big:U<(d+1)*V
theorem Est.d_lt (E:Est p vl v2 v1 ul u0 u1 u2 V U) {d rest:Int} (h:u2*1000000000+u1=d*v1+rest) (hr:0<=rest):d<2000000000:=by
 rcases Ycz d 2000000000 with h1|h1
 ·exact h1
 ·have h2:=mle h1 (Yap E.v10)
  have:=E.u2_le;have:=E.u11;have:=E.v10;omega
theorem Est.init (E:Est p vl v2 v1 ul u0 u1 u2 V U):EstInv V U v1 (u2*1000000000+u1) ((u2*1000000000+u1)/v1) ((u2*1000000000+u1)%v1):=by
 generalize ht:u2*1000000000+u1=t;have t0:0<=t:=by have:=E.u20;have:=E.u10;omega
 have h1:t=t/v1*v1+t%v1:=by rw[Ydh];exact(Ycf t v1).symm
 have h2:=Ycc t (show v1≠0 by have:=E.v10;omega);have h3:=Ybu t E.v10;have h4:0<=t/v1:=Ydq t0 (Yap E.v10);refine⟨h1,h2,h4,E.d_lt (ht.trans h1) h2,?_⟩;generalize t/v1=d at h1 h4 ⊢;generalize t%v1=r at h1 h2 h3;have a1:=E.U_lt;rw[ht]at a1;have a2:(t+1)*(1000000000*p)<=((d+1)*v1)*(1000000000*p):=mle (by grind) (by have:=E.p0;omega);have a3:(t*1000000000+u0+1)*p<=((t+1)*1000000000)*p:=mle (by have:=E.u01;omega) (Yap E.p0);have a4:(v1*(1000000000*p))*(d+1)<=V*(d+1):=mle (by have:=E.hV;have:=E.vl0;have:=mle E.v20 (Yap E.p0);omega) Zo;have a5:((t+1)*1000000000)*p=(t+1)*(1000000000*p):=by grind
 have a6:((d+1)*v1)*(1000000000*p)=(v1*(1000000000*p))*(d+1):=by grind
 have a7:V*(d+1)=(d+1)*V:=by grind
 omega
theorem Est.step (E:Est p vl v2 v1 ul u0 u1 u2 V U) {d rest:Int} (I:EstInv V U v1 (u2*1000000000+u1) d rest) (h:1000000000<=d∨rest*1000000000+u0<d*v2) :
  EstInv V U v1 (u2*1000000000+u1) (d-1) (rest+v1):=by
 have hV:=E.V_pos;have hbig:U<d*V:=by
  rcases h with h|h
  ·have:=E.lt
   have:=mle h (Yap hV);have:V*1000000000=1000000000*V:=by grind
   omega
  ·have a1:=E.U_lt
   have a2:((v1*1000000000+v2)*p)*d<=V*d:=mle E.V_ge I.d0;have a3:((u2*1000000000+u1)*1000000000+u0+1)*p<=(d*v1*1000000000+d*v2)*p:=mle (by have:=I.top;omega) (Yap E.p0);have a4:(d*v1*1000000000+d*v2)*p=((v1*1000000000+v2)*p)*d:=by grind
   have a5:V*d=d*V:=by grind
   omega
 have hd:1<=d:=by
  rcases Ycz 0 d with h1|h1
  ·omega
  ·obtain rfl:d=0:=by have:=I.d0;omega
   have:=I.r0;have:=E.u00;simp at h;omega
 refine⟨by have:=I.top;grind,by have:=I.r0;have:=E.v10;omega,Zo,by have:=I.d1;omega,?_⟩;rw[show d-1+1=d by omega];exact hbig
theorem Est.done (E:Est p vl v2 v1 ul u0 u1 u2 V U) {d rest:Int} (I:EstInv V U v1 (u2*1000000000+u1) d rest) (h1:d<1000000000) (h2:d*v2<=rest*1000000000+u0):d*V<U+V:=by
 have a1:=E.U_ge;have a2:V*d<=((v1*1000000000+v2+1)*p)*d:=mle (Yap E.V_lt) I.d0;have a3:(d*v1*1000000000+d*v2)*p<=((u2*1000000000+u1)*1000000000+u0)*p:=mle (by have:=I.top;omega) (Yap E.p0);have a4:((v1*1000000000+v2+1)*p)*d=(d*v1*1000000000+d*v2)*p+d*p:=by grind
 have a5:d*p<=999999999*p:=mle Zo (Yap E.p0);have a6:(1000000000*1)*p<=(v1*1000000000+v2)*p:=mle (by have:=E.v10;have:=E.v20;omega) (Yap E.p0);have a7:=E.V_ge;have a8:V*d=d*V:=by grind
 have:=E.p0;omega
theorem Est.brk (E:Est p vl v2 v1 ul u0 u1 u2 V U) {d rest:Int} (I:EstInv V U v1 (u2*1000000000+u1) d rest) (h:1000000000<=rest):d<1000000000∧d*v2<=rest*1000000000+u0:=by
 have hd:d<1000000000:=by
  rcases Ycz d 1000000000 with h1|h1
  ·exact h1
  ·have:=mle h1 (Yap E.v10)
   have:=E.u2_le;have:=E.u11;have:=I.top;omega
 have:=Zgn I.d0 hd E.v20 E.v21;have:=E.u00;exact⟨hd,Zo⟩
end
theorem Est.mk' {m:Nat} {g u:Nat->Int} (g0:∀i,i<m+2->0<=g i) (g1:∀i,i<m+2->g i<1000000000) (u0:∀i,i<m+3->0<=u i) (u1:∀i,i<m+3->u i<1000000000)
  (htop:g (m+1)≠0) (hlt:vf u (m+3)<vf g (m+2)*1000000000) :
  Est (pw m) (vf g m) (g m) (g (m+1)) (vf u m) (u m) (u (m+1)) (u (m+2)) (vf g (m+2)) (vf u (m+3)):=by
 have h1:=g0 (m+1) Zo;exact⟨Za8 m,Zaq λi hi=>g0 i Zo,Zc3 λi hi=>g1 i Zo,g0 m Zo,g1 m Zo,Zo,g1 _ Zo,Zaq λi hi=>u0 i Zo,Zc3 λi hi=>u1 i Zo,
  u0 _ Zo,u1 _ Zo,u0 _ Zo,u1 _ Zo,u0 _ Zo,by simp only[Zaj,Za5];grind,by simp only[Zaj,Za5];grind,hlt⟩
end
end Go.Mono
namespace Go.Proofs.W
open Go.RowKit Go.Mono
theorem Zm6:(Tryz.prog.info? 3).map (λi=>(i.zero,i.size,i.bytes))=some (some (.int .i64 0),1,8):=Zk
theorem Zm7:(Tryz.prog.info? 3).map (·.size)=some 1:=Zk
theorem Zvw (p q:Option Addr) (n m c1 c2:Nat) (f g:Nat->Int) (w:World) (h1:SlF w (.slice p n c1) n f) (h2:SlF w (.slice q m c2) m g)
  (f0:∀i,i<n->0<=f i) (f1:∀i,i<n->f i<1000000000) (g0:∀i,i<m->0<=g i) (g1:∀i,i<m->g i<1000000000) (hmn:m<=n) (hn:n<=1000000) :
  Calls Tryz.prog 204 #[.slice p n c1,.slice q m c2] w λe w'=>∃b k h,e=.returned (.slice (some ⟨b,0,none⟩) k (n+1))∧SlF w' (.slice (some ⟨b,0,none⟩) k (n+1)) k h∧Digs h k∧vf h k=vf f n+vf g m∧k<=n+1∧Below w.heap.size w w':=by
 obtain⟨hc1,hn1,hx1⟩:=h1.opens;obtain⟨hc2,hn2,hx2⟩:=h2.opens;go_enter Tryz.func204,Tryz.ntmps204
 go_wp2_with (first
  | (at_make;refine Za0 _ rfl _ _ 170 rfl Tryz.underlying170 Zm6 _ _ (n+1) rfl rfl Zs Zs Zo ?_;intro w1 r1 b1;have s1:=b1.size;have L1:=r1.lt)
  | (with_reducible refine Zdj _ rfl (.tmp 20) (.tmp 21) 170 170 rfl Tryz.underlying170 Zm7 w.heap.size (n+1) _ (n+1) _ _ n c1 f rfl rfl r1 (h1.ext (.of_below b1)) Zo Zo w.heap.size w b1 (Yab _) ?_;intro w2 r2 b2))
 clear h1 h2 hx1;go_loopw [25] (λa wr=>∃k:Nat,k<=m∧a=.int .i64 k∧Below w.heap.size w wr∧RowF wr w.heap.size (n+1) (λj=>(if j<n then f j else 0)+(if j<k then g j else 0))) (λa _=>m-(intOf a).toNat)
 case atStart=>exact⟨0,Yat _,rfl,b2,r2.congr λi _=>Zs⟩
 case round=>
  obtain⟨k,hk,rfl,hb,hr⟩:=hrel;by_cases hlt:k<m
  ·obtain⟨b,off,rfl,hbs,hcell⟩:=hx2 Zo
   have a1:=(hb.cell (p:=⟨b,off+k,none⟩) hbs).trans (hcell k hlt);have a2:=hr.cell k Zo;rw[if_pos Zo,if_neg Zo,Yda]at a2;have a3:=hr.frozen k;have d1:=f0 k Zo;have d2:=f1 k Zo;have d3:=g0 k hlt;have d4:=g1 k hlt;clear hcell hx2 f0 f1 g0 g1;go_wp2
   go_roundw
   case rel=>
    refine⟨k+1,Zo,by go_num,hb.setCell (p:=⟨w.heap.size,k,none⟩) (Yab _) _,(hr.set k _).congr λi hi=>?_⟩;by_cases e:i=k
    ·subst e;simp;omega
    ·rw[if_neg e];simp only[show i<k+1↔i<k by omega]
   case measure=>simp[intOf];omega
  ·obtain rfl:k=m:=by omega
   clear hlt hk hx2;go_wp2
   have HP:PlusInv n (vf f n+vf g k) 0 (λj=>(if j<n then f j else 0)+(if j<k then g j else 0)):=PlusInv.start hmn f0 f1 g0 g1;clear f0 f1 g0 g1;go_loopw [40] (λa wr=>∃i:Nat,i<=n∧a=.int .i64 i∧Below w.heap.size w wr∧∃h,RowF wr w.heap.size (n+1) h∧PlusInv n (vf f n+vf g k) i h) (λa _=>n-(intOf a).toNat)
   case atStart=>exact⟨0,Yat _,rfl,hb,_,hr,HP⟩
   case round=>
    clear hb hr HP;obtain⟨i,hi,rfl,hb,h,hr,HP⟩:=hrel;by_cases hlt:i<n
    ·obtain⟨q1,q2,q3,q4⟩:=HP.bd hlt
     have a2:=hr.cell i Zo;have a3:=hr.frozen i;have a4:=hr.cell (i+1) Zo;have a5:=hr.frozen (i+1);by_cases hge:1000000000<=h i
     ·have r1:=hr.set i (h i-1000000000)
      have a6:=r1.cell (i+1) Zo;have a7:=r1.frozen (i+1);simp only[show ¬i+1=i by omega,if_false]at a6;go_wp2
      go_roundw
      case rel=>exact⟨i+1,Zo,by go_num,(hb.setCell (p:=⟨w.heap.size,i,none⟩) (Yab _) _).setCell (p:=⟨w.heap.size,i+1,none⟩) (Yab _) _,_,r1.set (i+1) (h (i+1)+1),HP.carry hlt hge⟩
      case measure=>simp[intOf];omega
     ·have hge':h i<1000000000:=by omega
      go_wp2
      go_roundw
      case rel=>exact⟨i+1,Zo,by go_num,hb,_,hr,HP.plain hlt hge'⟩
      case measure=>simp[intOf];omega
    ·obtain rfl:i=n:=by omega
     clear hlt hi;have hs:=hr.slice Zo (i+1) (Yab _) (i+1) (Yab _);obtain⟨c1',c2'⟩:=HP.done;have hle:=Za3 h (i+1);replace c2':=Yah c2';go_wp2_with (go_at_call 200;refine(Zck _ _ _ h _ hs).mono ?_;rintro e w' ⟨rfl,rfl⟩)
     go_ret
     exact⟨_,_,h,rfl,hs.take _ hle,c1',c2'.out,hle,hb⟩
theorem Zvx (p q:Option Addr) (n m c1 c2:Nat) (f g:Nat->Int) (w:World) (h1:SlF w (.slice p n c1) n f) (h2:SlF w (.slice q m c2) m g)
  (f0:∀i,i<n->0<=f i) (f1:∀i,i<n->f i<1000000000) (g0:∀i,i<m->0<=g i) (g1:∀i,i<m->g i<1000000000) (hlt':m<n) (hn:n<=1000000) :
  Calls Tryz.prog 204 #[.slice q m c2,.slice p n c1] w λe w'=>∃b k h,e=.returned (.slice (some ⟨b,0,none⟩) k (n+1))∧SlF w' (.slice (some ⟨b,0,none⟩) k (n+1)) k h∧Digs h k∧vf h k=vf f n+vf g m∧k<=n+1∧Below w.heap.size w w':=by
 have hmn:m<=n:=Zo;obtain⟨hc1,hn1,hx1⟩:=h1.opens;obtain⟨hc2,hn2,hx2⟩:=h2.opens;go_enter Tryz.func204,Tryz.ntmps204
 go_wp2_with (first
  | (at_make;refine Za0 _ rfl _ _ 170 rfl Tryz.underlying170 Zm6 _ _ (n+1) rfl rfl Zs Zs Zo ?_;intro w1 r1 b1;have s1:=b1.size;have L1:=r1.lt)
  | (with_reducible refine Zdj _ rfl (.tmp 20) (.tmp 21) 170 170 rfl Tryz.underlying170 Zm7 w.heap.size (n+1) _ (n+1) _ _ n c1 f rfl rfl r1 (h1.ext (.of_below b1)) Zo Zo w.heap.size w b1 (Yab _) ?_;intro w2 r2 b2))
 clear h1 h2 hx1;go_loopw [25] (λa wr=>∃k:Nat,k<=m∧a=.int .i64 k∧Below w.heap.size w wr∧RowF wr w.heap.size (n+1) (λj=>(if j<n then f j else 0)+(if j<k then g j else 0))) (λa _=>m-(intOf a).toNat)
 case atStart=>exact⟨0,Yat _,rfl,b2,r2.congr λi _=>Zs⟩
 case round=>
  obtain⟨k,hk,rfl,hb,hr⟩:=hrel;by_cases hlt:k<m
  ·obtain⟨b,off,rfl,hbs,hcell⟩:=hx2 Zo
   have a1:=(hb.cell (p:=⟨b,off+k,none⟩) hbs).trans (hcell k hlt);have a2:=hr.cell k Zo;rw[if_pos Zo,if_neg Zo,Yda]at a2;have a3:=hr.frozen k;have d1:=f0 k Zo;have d2:=f1 k Zo;have d3:=g0 k hlt;have d4:=g1 k hlt;clear hcell hx2 f0 f1 g0 g1;go_wp2
   go_roundw
   case rel=>
    refine⟨k+1,Zo,by go_num,hb.setCell (p:=⟨w.heap.size,k,none⟩) (Yab _) _,(hr.set k _).congr λi hi=>?_⟩;by_cases e:i=k
    ·subst e;simp;omega
    ·rw[if_neg e];simp only[show i<k+1↔i<k by omega]
   case measure=>simp[intOf];omega
  ·obtain rfl:k=m:=by omega
   clear hlt hk hx2;go_wp2
   have HP:PlusInv n (vf f n+vf g k) 0 (λj=>(if j<n then f j else 0)+(if j<k then g j else 0)):=PlusInv.start hmn f0 f1 g0 g1;clear f0 f1 g0 g1;go_loopw [40] (λa wr=>∃i:Nat,i<=n∧a=.int .i64 i∧Below w.heap.size w wr∧∃h,RowF wr w.heap.size (n+1) h∧PlusInv n (vf f n+vf g k) i h) (λa _=>n-(intOf a).toNat)
   case atStart=>exact⟨0,Yat _,rfl,hb,_,hr,HP⟩
   case round=>
    clear hb hr HP;obtain⟨i,hi,rfl,hb,h,hr,HP⟩:=hrel;by_cases hlt:i<n
    ·obtain⟨q1,q2,q3,q4⟩:=HP.bd hlt
     have a2:=hr.cell i Zo;have a3:=hr.frozen i;have a4:=hr.cell (i+1) Zo;have a5:=hr.frozen (i+1);by_cases hge:1000000000<=h i
     ·have r1:=hr.set i (h i-1000000000)
      have a6:=r1.cell (i+1) Zo;have a7:=r1.frozen (i+1);simp only[show ¬i+1=i by omega,if_false]at a6;go_wp2
      go_roundw
      case rel=>exact⟨i+1,Zo,by go_num,(hb.setCell (p:=⟨w.heap.size,i,none⟩) (Yab _) _).setCell (p:=⟨w.heap.size,i+1,none⟩) (Yab _) _,_,r1.set (i+1) (h (i+1)+1),HP.carry hlt hge⟩
      case measure=>simp[intOf];omega
     ·have hge':h i<1000000000:=by omega
      go_wp2
      go_roundw
      case rel=>exact⟨i+1,Zo,by go_num,hb,_,hr,HP.plain hlt hge'⟩
      case measure=>simp[intOf];omega
    ·obtain rfl:i=n:=by omega
     clear hlt hi;have hs:=hr.slice Zo (i+1) (Yab _) (i+1) (Yab _);obtain⟨c1',c2'⟩:=HP.done;have hle:=Za3 h (i+1);replace c2':=Yah c2';go_wp2_with (go_at_call 200;refine(Zck _ _ _ h _ hs).mono ?_;rintro e w' ⟨rfl,rfl⟩)
     go_ret
     exact⟨_,_,h,rfl,hs.take _ hle,c1',c2'.out,hle,hb⟩
theorem Zvy (m1 m2:Nat) (w wf:World) (hx:Ext wf w) (p q:Option Addr) (n m c1 c2:Nat) (N M:Int) (h1:Sz m1 wf (.slice p n c1) N) (h2:Sz m2 wf (.slice q m c2) M) (hm1:m1<=1000000) (hm2:m2<=1000000) :
  Calls Tryz.prog 204 #[.slice p n c1,.slice q m c2] w λe w'=>∃p k c,e=.returned (.slice p k c)∧Sz (max m1 m2+1) w' (.slice p k c) (N+M)∧Below w.heap.size w w':=by
 obtain⟨n,f,s1,d1,rfl,l1,rfl⟩:=(h1.ext hx).sl;obtain⟨m,g,s2,d2,rfl,l2,rfl⟩:=(h2.ext hx).sl;by_cases hmn:m<=n
 ·refine(Zvw p q n m c1 c2 f g w s1 s2 d1.lo d1.hi d2.lo d2.hi hmn Zo).mono ?_
  rintro e w' ⟨b,k,h,rfl,hs,hd,hv,hk,hb⟩;exact⟨_,_,_,rfl,⟨k,h,hs,hd,hv,Zo⟩,hb⟩
 ·refine(Zvx q p m n c2 c1 g f w s2 s1 d2.lo d2.hi d1.lo d1.hi Zo Zo).mono ?_
  rintro e w' ⟨b,k,h,rfl,hs,hd,hv,hk,hb⟩;exact⟨_,_,_,rfl,⟨k,h,hs,hd,by rw[hv];omega,Zo⟩,hb⟩
end Go.Proofs.W
namespace Go.Mono
theorem Zmg (f:Nat->Int) (k:Nat):vf f (k+1)=f 0+1000000000*vf (λj=>f (j+1)) k:=by
 have:=Zcj f 1 k;rw[Yfb 1 k]at this;rw[this];simp only[vf,pw,Int.zero_add,Int.mul_one,Yga];congr 2
 exact Zbi λi _=>by rw[Yfb]
def shl (x:Int) (f:Nat->Int):Nat->Int:=λj=>if j=0 then x else f (j-1)
theorem Zx4 (x:Int) (f:Nat->Int) (k:Nat):vf (shl x f) (k+1)=x+1000000000*vf f k:=by
 rw[Zmg];congr 2
structure ParI (f:Nat->Int) (n:Nat) (B:Int) (i:Nat) (q:Nat->Int) (R:Int):Prop where
 eq:vf (λj=>f (i+j)) (n-i)=vf (λj=>q (i+j)) (n-i)*B+R
 r0:0<=R
 r1:R<B
 lo:∀j,i<=j->j<n->0<=q j
 hi:∀j,i<=j->j<n->q j<1000000000
theorem ParI.start (f q:Nat->Int) (n:Nat) {B:Int} (hB:0<B):ParI f n B n q 0:=
 ⟨by simp[vf],Yek _,hB,λj h1 h2=>Zo,λj h1 h2=>Zo⟩
theorem ParI.next {f q:Nat->Int} {n i:Nat} {B R c R':Int} (H:ParI f n B (i+1) q R) (hi:i<n) (hc0:0<=c) (hc1:c<1000000000) (hr0:0<=R') (hr1:R'<B) (he:f i+1000000000*R=c*B+R') :
  ParI f n B i (λj=>if j=i then c else q j) R':=by
 refine⟨?_,hr0,hr1,λj h1 h2=>?_,λj h1 h2=>?_⟩
 ·obtain⟨k,hk⟩:∃k,n-i=k+1:=⟨n-i-1,Zo⟩
  have e:=H.eq;rw[show n-(i+1)=k by omega]at e;rw[hk,Zmg,Zmg];simp only[Yce,if_true];have e1:vf (λj=>f (i+(j+1))) k=vf (λj=>f (i+1+j)) k:=Zbi λj _=>by rw[show i+(j+1)=i+1+j by omega]
  have e2:vf (λj=>if i+(j+1)=i then c else q (i+(j+1))) k=vf (λj=>q (i+1+j)) k:=Zbi λj _=>by rw[if_neg Zo,show i+(j+1)=i+1+j by omega]
  rw[e1,e2,e];generalize vf (λj=>q (i+1+j)) k=Q at *;grind
 ·split
  ·exact hc0
  ·exact H.lo j Zo h2
 ·split
  ·exact hc1
  ·exact H.hi j Zo h2
theorem ParI.done {f q:Nat->Int} {n:Nat} {B R:Int} (H:ParI f n B 0 q R):vf q n=vf f n/B∧R=vf f n%B:=by
 have e:=H.eq;simp only[Nat.sub_zero,Yba]at e;have h0:=H.r0;have h1:=H.r1;have hB:0<B:=Zo;rw[e,Int.add_comm,Int.add_mul_ediv_right _ _ Zo,Int.ediv_eq_zero_of_lt h0 h1,Int.zero_add,Int.add_mul_emod_self_right,Int.emod_eq_of_lt h0 h1];exact⟨rfl,rfl⟩
theorem Zpa (a b:Int) (hb:b≠0):((a.natAbs:Int)/b.natAbs=(a.tdiv b).natAbs)∧((a.natAbs:Int)%b.natAbs=(a.tmod b).natAbs)∧
  ((decide (a<0) != decide (b<0))&&decide (0<((a.tdiv b).natAbs:Int)))=decide (a.tdiv b<0)∧(decide (a<0)&&decide (0<((a.tmod b).natAbs:Int)))=decide (a.tmod b<0):=by
 have h1:(a.natAbs:Int)/b.natAbs=(a.tdiv b).natAbs:=by rw[Yfg];norm_cast
 have h2:(a.natAbs:Int)%b.natAbs=(a.tmod b).natAbs:=by
  have:(a.tmod b).natAbs=a.natAbs%b.natAbs:=Ydy a b;rw[this];norm_cast
 refine⟨h1,h2,?_,?_⟩
 ·by_cases h0 : a.tdiv b = 0
  ·simp[h0]
  ·have hpos:0<((a.tdiv b).natAbs:Int):=by omega
   rw[decide_eq_true hpos,Bool.and_true];rw[Ycx];simp only[bne_iff_ne,ne_eq,decide_eq_decide,decide_eq_true_eq];rcases Yen a 0 with ha|ha|ha
   ·rcases Yge hb with hb'|hb'
    ·have:=Int.tdiv_nonneg_of_nonpos_of_nonpos (Yap ha) (Yap hb')
     omega
    ·have:=Int.tdiv_nonneg (a:=-a) (b:=b) Zo (Yap hb')
     rw[Int.neg_tdiv]at this;omega
   ·subst ha;simp at h0
   ·rcases Yge hb with hb'|hb'
    ·have:=Int.tdiv_nonneg (a:=a) (b:=-b) (Yap ha) Zo
     rw[Int.tdiv_neg]at this;omega
    ·have:=Int.tdiv_nonneg (Yap ha) (Yap hb')
     omega
 ·by_cases h0 : a.tmod b = 0
  ·simp[h0]
  ·have hpos:0<((a.tmod b).natAbs:Int):=by omega
   rw[decide_eq_true hpos,Bool.and_true];rw[Ycx];simp only[decide_eq_true_eq];by_cases ha:a<0
   ·have:=Int.tmod_nonneg (a:=-a) b Zo
    rw[Int.neg_tmod]at this;omega
   ·have:=Int.tmod_nonneg (a:=a) b Zo
    omega
section
open Go.RowKit
section
variable {P:Program} {ops:Array Oper} {Q:Exit->Act->World->Prop} {md:Region.Mode} {S:World->Prop}
theorem Zeh (i:Nat) (d:Option Tmp) {oi:Oper} {v:Value} {fuel:Nat} {listed:Array Bool} {a:Act} {w:World} (hi:ops[i]? = some oi)
  (hs:Region.noSelect ops=true) (hf:Region.free md ops listed i=true) (hr:(Region.ready md ops listed).contains i=true) (hd:oi.dst=d)
  (hQ:∀c a w,Q (.panic c) (a.put d v) w->Q (.panic c) a w) (hw:Region.wanted oi (yielded ops a.tmps)=true) (hv:∀w,S w->(execOp a.eval oi).run P w=.ok (.value v) w) (hS:S w)
  (h:wpAnyH P md ops Q S fuel (listed.setIfInBounds i true) (a.put d v) w):wpAnyH P md ops Q S (fuel+1) listed a w:=by
 subst hd;exact wpAnyH_take hi hs hf hr hQ (Or.inl ⟨hw,hv⟩) hS h
theorem Zj0 (i:Nat) (d:Option Tmp) {oi:Oper} {fuel:Nat} {listed:Array Bool} {a:Act} {w:World} (hi:ops[i]? = some oi)
  (hs:Region.noSelect ops=true) (hf:Region.free md ops listed i=true) (hr:(Region.ready md ops listed).contains i=true) (hd:oi.dst=d)
  (hQ:∀c a w,Q (.panic c) (a.put d undef) w->Q (.panic c) a w) (hw:Region.wanted oi (yielded ops a.tmps)=false) (hS:S w)
  (h:wpAnyH P md ops Q S fuel (listed.setIfInBounds i true) (a.put d undef) w):wpAnyH P md ops Q S (fuel+1) listed a w:=by
 subst hd;exact wpAnyH_take hi hs hf hr hQ (Or.inr ⟨hw,rfl⟩) hS h
theorem tk (i:Nat) (d:Option Tmp) {oi:Oper} {v:Value} {fuel:Nat} {listed:Array Bool} {a a':Act} {w:World}
  (h:wpAnyH P md ops Q S fuel (listed.setIfInBounds i true) a' w) (hi:ops[i]? = some oi:=by rfl)
  (hs:Region.noSelect ops=true:=by as_aux_lemma=>kernel_rfl) (hf:Region.free md ops listed i=true:=by as_aux_lemma=>kernel_rfl) (hr:(Region.ready md ops listed).contains i=true:=by as_aux_lemma=>kernel_rfl) (hd:oi.dst=d:=by rfl)
  (hw:Region.wanted oi (yielded ops a.tmps)=true:=by rfl) (hv:∀w,S w->(execOp a.eval oi).run P w=.ok (.value v) w:=by(intro w hSw;(try dsimp only at hSw);go_simp;all_goals with_reducible rfl))
  (hQ:∀c a w,Q (.panic c) (a.put d v) w->Q (.panic c) a w:=by exact(λ_ _ _ h=>h)) (hS:S w:=by assumption)
  (ha:a.put d v=a':=by(simp only[Act.put,Zsi,Zs0,Zss];rfl)):wpAnyH P md ops Q S (fuel+1) listed a w:=by
 subst ha;exact Zeh i d hi hs hf hr hd hQ hw hv hS h
theorem tl (i:Nat) (d:Option Tmp) {oi:Oper} (hi:ops[i]? = some oi) (v:Value) {fuel:Nat} {listed:Array Bool} {a a':Act} {w:World}
  (hv:∀w,S w->(execOp a.eval oi).run P w=.ok (.value v) w) (h:wpAnyH P md ops Q S fuel (listed.setIfInBounds i true) a' w)
  (hs:Region.noSelect ops=true:=by as_aux_lemma=>kernel_rfl) (hf:Region.free md ops listed i=true:=by as_aux_lemma=>kernel_rfl) (hr:(Region.ready md ops listed).contains i=true:=by as_aux_lemma=>kernel_rfl) (hd:oi.dst=d:=by rfl)
  (hw:Region.wanted oi (yielded ops a.tmps)=true:=by rfl)
  (hQ:∀c a w,Q (.panic c) (a.put d v) w->Q (.panic c) a w:=by exact(λ_ _ _ h=>h)) (hS:S w:=by assumption)
  (ha:a.put d v=a':=by(simp only[Act.put,Zsi,Zs0,Zss];rfl)):wpAnyH P md ops Q S (fuel+1) listed a w:=by
 subst ha;exact Zeh i d hi hs hf hr hd hQ hw hv hS h
theorem ts (i:Nat) (d:Option Tmp) {oi:Oper} {fuel:Nat} {listed:Array Bool} {a a':Act} {w:World}
  (h:wpAnyH P md ops Q S fuel (listed.setIfInBounds i true) a' w) (hi:ops[i]? = some oi:=by rfl)
  (hs:Region.noSelect ops=true:=by as_aux_lemma=>kernel_rfl) (hf:Region.free md ops listed i=true:=by as_aux_lemma=>kernel_rfl) (hr:(Region.ready md ops listed).contains i=true:=by as_aux_lemma=>kernel_rfl) (hd:oi.dst=d:=by rfl)
  (hw:Region.wanted oi (yielded ops a.tmps)=false:=by rfl)
  (hQ:∀c a w,Q (.panic c) (a.put d undef) w->Q (.panic c) a w:=by exact(λ_ _ _ h=>h)) (hS:S w:=by assumption)
  (ha:a.put d undef=a':=by(simp only[Act.put,Zsi,Zs0,Zss];rfl)):wpAnyH P md ops Q S (fuel+1) listed a w:=by
 subst ha;exact Zj0 i d hi hs hf hr hd hQ hw hS h
theorem st (i:Nat) {o:Oper} {fuel:Nat} {listed:Array Bool} {a:Act} {w:World}
  (h:∀K':Act->World->Prop,Shut (∀a w,S w->(S w->wpAnyH P md ops Q S fuel (listed.setIfInBounds i true) a w)->K' a w)->if Region.wanted o (yielded ops a.tmps)=true then Oper.wp P o a w K' Q else K' (a.put o.dst undef) w)
  (ho:ops[i]? = some o:=by rfl) (hr:Region.ready md ops listed=[i]:=by as_aux_lemma=>kernel_rfl):wpAnyH P md ops Q S (fuel+1) listed a w:=
 wpAnyH_ready hr Zs (Yal ho h Yas)
theorem kp {K' X:Act->World->Prop} (hK:Shut (∀a w,S w->(S w->X a w)->K' a w)) {a a':Act} {w:World} (hS:S w) (h:S w->X a' w)
  (ha:a=a':=by first|(simp only[Act.put,Zsi,Zs0,Zss];rfl)|rfl):K' a w:=by
 subst ha;exact hK.out _ _ hS h
end
end
end Go.Mono
namespace Go.Proofs.W
open Go.RowKit Go.Mono
theorem Zxs (p:Option Addr) (n c1:Nat) (f:Nat->Int) (d:Int) (w:World) (h1:SlF w (.slice p n c1) n f)
  (f0:∀i,i<n->0<=f i) (f1:∀i,i<n->f i<1000000000) (hn:n<=1000000) (d0:0<=d) (d1:d<1000000000) :
  Calls Tryz.prog 201 #[.slice p n c1,.int .i64 d] w λe w'=>e=.returned (.slice (some ⟨w.heap.size,0,none⟩) (n+1) (n+1))∧Below w.heap.size w w'∧
   ∃h,RowF w' w.heap.size (n+1) h∧(∀j,j<n+1->0<=h j)∧(∀j,j<n+1->h j<1000000000)∧vf h (n+1)=vf f n*d:=by
 obtain⟨hc1,hn1,hx1⟩:=h1.opens;clear h1;go_enter Tryz.func201,Tryz.ntmps201
 go_wp2_with (at_make;refine Za0 _ rfl _ _ 170 rfl Tryz.underlying170 Zby _ _ (n+1) rfl rfl Zs Zs Zo ?_;intro w1 r1 b1;have s1:=b1.size;have L1:=r1.lt)
 go_loopw [6,16] (λc a wr=>∃i:Nat,i<=n∧a=.int .i64 i∧Below w.heap.size w wr∧∃h cc,c=.int .i64 cc∧RowF wr w.heap.size (n+1) h∧ByInv n f d i h cc) (λ_ a _=>n-(intOf a).toNat)
 case atStart=>exact⟨0,Yat _,rfl,b1,_,_,rfl,r1,ByInv.start⟩
 case round=>
  clear b1 s1 L1 r1;obtain⟨i,hi,rfl,hb,h,cc,rfl,hr,HT⟩:=hrel;by_cases hlt:i<n
  ·obtain⟨b,off,rfl,hbs,hcell⟩:=hx1 Zo
   have a1:=(hb.cell (p:=⟨b,off+i,none⟩) hbs).trans (hcell i hlt);have fi0:=f0 i hlt;have fi1:=f1 i hlt;have a2:=hr.cell i Zo;have a3:=hr.frozen i;have d3:=HT.c0;have d4:=HT.c1;obtain⟨d5,d6⟩:=Zgn fi0 fi1 d0 d1;clear hcell hx1 f0 f1;go_wp2
   go_roundw
   case rel=>exact⟨i+1,Zo,by go_num,hb.setCell (p:=⟨w.heap.size,i,none⟩) (Yab _) _,_,_,rfl,hr.set i _,HT.step hlt fi0 fi1 d0 d1⟩
   case measure=>simp[intOf];omega
  ·obtain rfl:i=n:=by omega
   have a2:=hr.cell i Zo;have a3:=hr.frozen i;obtain⟨q1,q2,q3⟩:=HT.done;replace q3:=Yah q3;clear hlt hi hx1 f0 f1;go_wp2
   go_ret
   exact⟨rfl,hb.setCell (p:=⟨w.heap.size,i,none⟩) (Yab _) _,_,hr.set i cc,q1,q2,q3.out⟩
theorem Ztm (p:Option Addr) (n c1:Nat) (f:Nat->Int) (d:Int) (w:World) (h1:SlF w (.slice p n c1) n f)
  (f0:∀i,i<n->0<=f i) (f1:∀i,i<n->f i<1000000000) (hn:n<=1000000) (d0:0<d) (d1:d<1000000000) :
  Calls Tryz.prog 199 #[.slice p n c1,.int .i64 d] w λe w'=>∃b k h r,e=.returned (.tuple #[.slice (some ⟨b,0,none⟩) k n,.int .i64 r])∧SlF w' (.slice (some ⟨b,0,none⟩) k n) k h∧Digs h k∧vf f n=d*vf h k+r∧0<=r∧r<d∧k<=n∧Below w.heap.size w w':=by
 obtain⟨hc1,hn1,hx1⟩:=h1.opens;clear h1;go_enter Tryz.func199,Tryz.ntmps199
 go_wp2_with (at_make;refine Za0 _ rfl _ _ 170 rfl Tryz.underlying170 Zby _ _ n rfl rfl Zs Zs Zo ?_;intro w1 r1 b1;have s1:=b1.size;have L1:=r1.lt)
 go_loopw [7,8] (λc a wr=>∃i:Nat,i<=n∧a=.int .i64 ((i:Int)-1)∧Below w.heap.size w wr∧∃h cc,c=.int .i64 cc∧RowF wr w.heap.size n h∧PartInv n f d i h cc) (λ_ a _=>(intOf a+1).toNat)
 case atStart=>exact⟨n,Yab _,rfl,b1,_,_,rfl,r1,PartInv.start d0⟩
 case round=>
  clear b1 s1 L1 r1;obtain⟨i,hi,rfl,hb,h,cc,rfl,hr,HT⟩:=hrel;by_cases hlt:0<i
  ·obtain⟨b,off,rfl,hbs,hcell⟩:=hx1 Zo
   obtain⟨i,rfl⟩:∃j,i=j+1:=⟨i-1,Zo⟩
   rw[show((i+1:Nat):Int)-1=(i:Int) by omega];have a1:=(hb.cell (p:=⟨b,off+i,none⟩) hbs).trans (hcell i Zo);have fi0:=f0 i Zo;have fi1:=f1 i Zo;have a2:=hr.cell i Zo;have a3:=hr.frozen i;have d3:=HT.r0;have d4:=HT.r1;have hd:¬d=0:=Zo;clear hcell hx1 f0 f1;go_wp2
   go_region
   go_wp2
   go_roundw
   case rel=>exact⟨i,Zo,rfl,(hb.setCell (p:=⟨w.heap.size,i,none⟩) (Yab _) _).drew,_,_,rfl,(hr.set i _).drewN 1,HT.step Zo fi0 fi1⟩
   case measure=>simp[intOf]
  ·obtain rfl:i=0:=by omega
   clear hlt hi hx1 f0 f1;have hs:=hr.slice Zo n (Yab _) n (Yab _);obtain⟨c1',c2'⟩:=HT.done;have hle:=Za3 h n;have d3:=HT.r0;have d4:=HT.r1;replace c2':=Yah c2';go_wp2_with (go_at_call 200;refine(Zck _ _ _ h _ hs).mono ?_;rintro e w' ⟨rfl,rfl⟩)
   go_ret2
   exact⟨_,_,h,cc,rfl,hs.take _ hle,c1',c2'.out,d3,d4,hle,hb⟩

theorem Zp7 (m1:Nat) (w wf:World) (hx:Ext wf w) (p:Option Addr) (n c1:Nat) (N d:Int) (h1:Sz m1 wf (.slice p n c1) N) (hm1:m1<=1000000) (d0:0<d) (d1:d<1000000000) :
  Calls Tryz.prog 199 #[.slice p n c1,.int .i64 d] w λe w'=>∃p k c,e=.returned (.tuple #[.slice p k c,.int .i64 (N%d)])∧Sz m1 w' (.slice p k c) (N/d)∧Below w.heap.size w w':=by
 obtain⟨n,f,s1,d1',rfl,l1,rfl⟩:=(h1.ext hx).sl;refine(Ztm p n c1 f d w s1 d1'.lo d1'.hi Zo d0 d1).mono ?_;rintro e w' ⟨b,k,h,r,rfl,hs,hd,hv,r0,r1,hk,hb⟩;have e1:vf f n/d=vf h k:=by
  rw[hv];exact Int.ediv_eq_iff_of_pos d0 |>.2 ⟨by rw[Ydh];omega,by rw[Ydh];omega⟩
 have e2:vf f n%d=r:=by
  have:=Ycf (vf f n) d;rw[e1]at this;omega
 exact⟨_,_,_,by rw[e2],⟨k,h,hs,hd,e1.symm,Zo⟩,hb⟩
end Go.Proofs.W
namespace Go.Mono
abbrev win (h:Nat->Int) (j:Nat):Nat->Int:=λi=>h (j+i)
structure LessInv (R j n:Nat) (h0 g:Nat->Int) (d:Int) (i:Nat) (h:Nat->Int) (b:Int):Prop where
 lo:∀k,k<R->0<=h k
 hi:∀k,k<R->h k<1000000000
 out:∀k,k<j∨j+i<=k->h k=h0 k
 b0:0<=b
 b1:b<=1000000000
 val:vf (win h j) (n+1)-b*pw i=vf (win h0 j) (n+1)-d*vf g i
theorem Zio (h:Nat->Int) (j i k:Nat) (x:Int):vf (win (λy=>if y=j+i then x else h y) j) k=vf (win h j) k+(if i<k then(x-h (j+i))*pw i else 0):=by
 rw[<-Zc5 (win h j) i x k];refine Zbi λy _=>?_;simp only[win];by_cases e:y=i
 ·subst e;simp
 ·rw[if_neg Zo,if_neg e]
theorem LessInv.start {R j n:Nat} {h0 g:Nat->Int} {d:Int} (lo:∀k,k<R->0<=h0 k) (hi:∀k,k<R->h0 k<1000000000):LessInv R j n h0 g d 0 h0 0:=
 ⟨lo,hi,λ_ _=>rfl,Zs,Zs,by simp[vf]⟩
theorem LessInv.step {R j n:Nat} {h0 g:Nat->Int} {d:Int} {i:Nat} {h:Nat->Int} {b:Int} (H:LessInv R j n h0 g d i h b) (hi:i<n)
  (g0:0<=g i) (g1:g i<1000000000) (d0:0<=d) (d1:d<1000000000) {t e:Int} (ht:0<=t) (ht2:t<=2)
  (he:e=h (j+i)-(g i*d)%1000000000-b+t*1000000000) (e0:0<=e) (e1:e<1000000000) :
  LessInv R j n h0 g d (i+1) (λk=>if k=j+i then e else h k) ((g i*d)/1000000000+t):=by
 obtain⟨m0,m1⟩:=Zgn g0 g1 d0 d1;have b0:=H.b0;have b1:=H.b1;have hv:=H.val;generalize hx:g i*d=x at *;have hq:x=1000000000*(x/1000000000)+x%1000000000:=(Ycf x 1000000000).symm;refine⟨λk hk=>?_,λk hk=>?_,λk hk=>?_,Zo,Zo,?_⟩
 ·show 0<=if k=j+i then _ else _
  split
  ·omega
  ·exact H.lo k hk
 ·show(if k=j+i then _ else _)<_
  split
  ·omega
  ·exact H.hi k hk
 ·show(if k=j+i then _ else _)=_
  rw[if_neg Zo];exact H.out k Zo
 ·rw[Zio,if_pos Zo,Zaj g i,Za5]
  generalize x/1000000000=q at hq ⊢;generalize x%1000000000=r at hq he;generalize vf (win h j) (n+1)=V at hv ⊢;subst he;grind
theorem LessInv.last {R j n:Nat} {h0 g:Nat->Int} {d:Int} {h:Nat->Int} {b:Int} (H:LessInv R j n h0 g d n h b) {t e:Int} (ht:t=0∨t=1)
  (he:e=h (j+n)-b+t*1000000000) (e0:0<=e) (e1:e<1000000000) :
  vf (win (λk=>if k=j+n then e else h k) j) (n+1)=vf (win h0 j) (n+1)-d*vf g n+t*pw (n+1)∧(∀k,k<R->0<=(if k=j+n then e else h k))∧(∀k,k<R->(if k=j+n then e else h k)<1000000000)∧
   (∀k,k<j∨j+n<k->(if k=j+n then e else h k)=h0 k):=by
 have hv:=H.val;refine⟨?_,λk hk=>?_,λk hk=>?_,λk hk=>?_⟩
 ·rw[Zio,if_pos Zo,Za5]
  generalize vf (win h j) (n+1)=V at hv ⊢;subst he;grind
 ·split
  ·omega
  ·exact H.lo k hk
 ·split
  ·omega
  ·exact H.hi k hk
 ·rw[if_neg Zo];exact H.out k Zo
structure MoreInv (R j n:Nat) (h0 g:Nat->Int) (i:Nat) (h:Nat->Int) (c:Int):Prop where
 lo:∀k,k<R->0<=h k
 hi:∀k,k<R->h k<1000000000
 out:∀k,k<j∨j+i<=k->h k=h0 k
 c0:0<=c
 c1:c<=1
 val:vf (win h j) (n+1)+c*pw i=vf (win h0 j) (n+1)+vf g i
theorem MoreInv.start {R j n:Nat} {h0 g:Nat->Int} (lo:∀k,k<R->0<=h0 k) (hi:∀k,k<R->h0 k<1000000000):MoreInv R j n h0 g 0 h0 0:=
 ⟨lo,hi,λ_ _=>rfl,Zs,Zs,by simp[vf]⟩
theorem MoreInv.step {R j n:Nat} {h0 g:Nat->Int} {i:Nat} {h:Nat->Int} {c:Int} (H:MoreInv R j n h0 g i h c) (hi:i<n) (hR:j+n<R)
  (g0:0<=g i) (g1:g i<1000000000) :
  MoreInv R j n h0 g (i+1) (λk=>if k=j+i then(h (j+i)+g i+c)%1000000000 else h k) ((h (j+i)+g i+c)/1000000000):=by
 have c0:=H.c0;have c1:=H.c1;have hv:=H.val;have a0:=H.lo (j+i) Zo;have a1:=H.hi (j+i) Zo;generalize hx:h (j+i)+g i+c=x;have hq:x=1000000000*(x/1000000000)+x%1000000000:=(Ycf x 1000000000).symm;refine⟨λk hk=>?_,λk hk=>?_,λk hk=>?_,Zo,Zo,?_⟩
 ·show 0<=if k=j+i then _ else _
  split
  ·omega
  ·exact H.lo k hk
 ·show(if k=j+i then _ else _)<_
  split
  ·omega
  ·exact H.hi k hk
 ·show(if k=j+i then _ else _)=_
  rw[if_neg Zo];exact H.out k Zo
 ·rw[Zio,if_pos Zo,Zaj g i,Za5]
  generalize x/1000000000=q at hq ⊢;generalize x%1000000000=r at hq ⊢;generalize vf (win h j) (n+1)=V at hv ⊢;grind
theorem MoreInv.last {R j n:Nat} {h0 g:Nat->Int} {h:Nat->Int} {c:Int} (H:MoreInv R j n h0 g n h c) (hR:j+n<R) :
  ∃o:Int,vf (win (λk=>if k=j+n then(h (j+n)+c)%1000000000 else h k) j) (n+1)=vf (win h0 j) (n+1)+vf g n-o*pw (n+1)∧(∀k,k<R->0<=(if k=j+n then(h (j+n)+c)%1000000000 else h k))∧(∀k,k<R->(if k=j+n then(h (j+n)+c)%1000000000 else h k)<1000000000)∧
    (∀k,k<j∨j+n<k->(if k=j+n then(h (j+n)+c)%1000000000 else h k)=h0 k):=by
 have c0:=H.c0;have c1:=H.c1;have hv:=H.val;generalize hx:h (j+n)+c=x;have hq:x=1000000000*(x/1000000000)+x%1000000000:=(Ycf x 1000000000).symm;refine⟨x/1000000000,?_,λk hk=>?_,λk hk=>?_,λk hk=>?_⟩
 ·rw[Zio,if_pos Zo,Za5]
  generalize x/1000000000=q at hq ⊢;generalize x%1000000000=r at hq ⊢;generalize vf (win h j) (n+1)=V at hv ⊢;grind
 ·split
  ·omega
  ·exact H.lo k hk
 ·split
  ·omega
  ·exact H.hi k hk
 ·rw[if_neg Zo];exact H.out k Zo
theorem Zh4 {n:Nat} {U V d W:Int} {o t:Int} (hV0:0<V) (hVn:V<=pw n) (hd:U<(d+1)*V) (hd2:d*V<U+V) (ht:t=0∨t=1)
  (w0:0<=U-d*V+t*pw (n+1)) (w1:U-d*V+t*pw (n+1)<pw (n+1)) (hW:t=0->W=U-d*V) (hW1:t=1->W=U-d*V+pw (n+1)+V-o*pw (n+1)) (W0:0<=W) (W1:W<pw (n+1)) :
  0<=W∧W<V∧U=(d-t)*V+W:=by
 have hp:=Za5 n;have hp0:=Za8 n;have e1:(d+1)*V=d*V+V:=by grind
 rcases ht with rfl|rfl
 ·have:=hW rfl
  rw[Int.sub_zero];omega
 ·have h1:=hW1 rfl
  have e2:(d-1)*V=d*V-V:=by grind
  have h2:U-d*V<0:=Zo;have h3:W-(U-d*V+V)=(1-o)*pw (n+1):=by grind
  have h4:o=1:=by
   rcases Yen o 1 with h|h|h
   ·have:=mle (show 1<=1-o by omega) (Yap (Za8 (n+1)));omega
   ·exact h
   ·have:=mle (show 1-o<=-1 by omega) (Yap (Za8 (n+1)));omega
  subst h4;omega
end Go.Mono
