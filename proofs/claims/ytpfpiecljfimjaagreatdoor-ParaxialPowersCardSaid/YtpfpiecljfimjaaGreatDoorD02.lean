/- The drafted optics of chapter 13: what it is and that it is valid. Part 2 of 14. No condition beside the row. -/
import Derived.Maps.OwnIn
import Derived.Maps.AppendAt
import Derived.Test.YtpfpiecljfimjaaGreatDoorA03
import Derived.Test.YtpfpiecljfimjaaGreatDoorA06
import Derived.Test.YtpfpiecljfimjaaGreatDoorA09
import Derived.Test.YtpfpiecljfimjaaGreatDoorA23
import Derived.Test.YtpfpiecljfimjaaGreatDoorD01
set_option linter.unusedVariables false
set_option linter.unusedSimpArgs false
set_option maxRecDepth 100000
set_option maxHeartbeats 4000000
namespace Go.Mono
def nwt (a x:Nat):Nat:=(x+a/x)/2
theorem Zu4 {a x:Nat} (hx:0<x) (h:x<=nwt a x):x*x<=a:=by
 unfold nwt at h;have h1:x<=a/x:=by omega
 exact Nat.le_trans (Nat.mul_le_mul_right x h1) (Nat.div_mul_le_self a x)
theorem Zw7 (x q:Nat):4*(x*q)<=(x+q)*(x+q):=by
 have key:∀a b:Nat,a<=b->4*(a*b)<=(a+b)*(a+b):=λa b h=>by
  obtain⟨d,rfl⟩:=Nat.le.dest h;have e:(a+(a+d))*(a+(a+d))=4*(a*(a+d))+d*d:=by
   simp only[Nat.mul_add,Nat.add_mul];have:=Nat.mul_comm a d;omega
  rw[e];exact Nat.le_add_right _ _
 rcases Nat.le_total x q with h|h
 ·exact key x q h
 ·have:=key q x h
  rw[Nat.mul_comm x q,Nat.add_comm x q];exact this
theorem Zlk {a x:Nat} (hx:0<x):a<(nwt a x+1)*(nwt a x+1):=by
 have h1:a<x*(a/x+1):=by
  have:=Nat.lt_mul_div_succ a hx;simpa[Nat.mul_comm]using this
 have h2:x+(a/x+1)<=2*(nwt a x+1):=by unfold nwt;omega
 have h3:=Zw7 x (a/x+1);have h4:=Nat.mul_le_mul h2 h2;have h5:2*(nwt a x+1)*(2*(nwt a x+1))=4*((nwt a x+1)*(nwt a x+1)):=by
  rw[Nat.mul_mul_mul_comm]
 omega
theorem Zw8 {a x:Nat} (hx:0<x) (ha:0<a):0<nwt a x:=by
 have h:=Zlk (a:=a) hx;rcases Nat.eq_zero_or_pos (nwt a x) with e|e
 ·exfalso
  have h1:x=1:=by
   unfold nwt at e;generalize a/x=q at e;omega
  subst h1;unfold nwt at e;rw[Nat.div_one]at e;omega
 ·exact e
section
open Go.RowKit

end
end Go.Mono
namespace Go.Proofs.W
open Go.RowKit Go.Mono
theorem Zft {m1 m2:Nat} {v1 v2:Value} {z y:Int} (w:World) (h1:LgV m1 w v1 z) (h2:LgV m2 w v2 y) :
  Calls Tryz.prog 188 #[v1,v2] w λe w'=>e=.returned (.int .i64 (z-y).sign)∧Below w.heap.size w w':=by
 have hsame:=λ(W:World) (hW:Below w.heap.size w W)=>Ze4 W (h1.below hW) (h2.below hW);obtain⟨p,n,c,f,rfl,s1,d1,e1,_⟩:=h1;obtain⟨q,m,c',g,rfl,s2,d2,e2,_⟩:=h2;by_cases hzy:z=y
 ·subst hzy
  rw[Int.sub_self];rw[decide_eq_true rfl]at hsame;generalize decide (z<0)=s at *;go_enter Tryz.func188,Tryz.ntmps188
  go_wp2_with fail
  refine Zbj λW hB hs b0 b1=>?_;refine(hsame W hB).mono ?_;rintro e W1 ⟨rfl,hb⟩;replace hB:=Zaa hB hb;go_wp2
  go_ret
  exact⟨rfl,hB⟩
 ·rw[decide_eq_false hzy]at hsame
  have hless:=λ(W:World) (hW:Below w.heap.size w W)=>Ze3 p q n m c c' f g W (s1.ext (.of_below hW)) (s2.ext (.of_below hW)) d1 d2;rw[e1,e2]at hless;obtain⟨sg,hsg⟩:∃sg:Bool,decide (z<y)=sg:=⟨_,rfl⟩
  obtain⟨out,hout⟩:∃out:Int,(z-y).sign=out:=⟨_,rfl⟩
  rw[hout];have hres:out=if sg then -1 else 1:=by
   rw[<-hsg,<-hout];by_cases h:z<y
   ·rw[decide_eq_true h,if_pos rfl];exact Yep Zo
   ·rw[decide_eq_false h,if_neg Zs];exact Yeg Zo
  by_cases hst:decide (z<0)=decide (y<0)
  ·have hbel:(decide ((z.natAbs:Int)<y.natAbs) != decide (z<0))=sg:=by
    rw[<-hsg,Ycx,bne_iff_ne,ne_eq,decide_eq_decide,decide_eq_true_eq];have:(z<0↔y<0):=by simpa using hst
    omega
   rw[<-hst]at hsame ⊢;clear hst hsg hout;generalize decide ((z.natAbs:Int)<y.natAbs)=l at *;generalize decide (z<0)=s at *;cases l<;>cases s<;>cases sg
   all_goals try(exact absurd hbel Zd)
   all_goals
    clear hbel;subst hres;simp only[if_true,Ybq,if_false];go_enter Tryz.func188,Tryz.ntmps188
    go_wp2_with fail
    refine Zbj λW hB hs b0 b1=>?_;refine(hsame W hB).mono ?_;rintro e W1 ⟨rfl,hb⟩;replace hB:=Zaa hB hb;replace b0:=b0.below hb;replace b1:=b1.below hb;clear hsame hb;have cb0:=b0.cell;have lb0:=b0.lt;have fb0:=b0.frozen;have cb1:=b1.cell;have lb1:=b1.lt;have fb1:=b1.frozen;go_wp2
    refine wp_region_held_drew (S:=λw'=>(∀i,w'.cell? ⟨w.heap.size,i,none⟩=(#[.bool _,.slice p n c]:Array Value)[i]?)∧(∀i,w'.cell? ⟨w.heap.size+1,i,none⟩=(#[.bool _,.slice q m c']:Array Value)[i]?)∧Below w.heap.size w w') Zx ⟨cb0,cb1,hB.drew⟩ (λhHeld=>?_);generalize hX:W1.drew=X0 at *;refine tkf 0 (some 16) ?_;refine tkf 1 (some 17) ?_;refine tkf 2 (some 18) ?_;refine tkf 3 (some 19) ?_;refine tkf 5 (some 21) ?_;refine tkf 6 (some 22) ?_;refine Mono.stc 4 (some 20) (hless X0 hHeld.2.2) (λe X1 hR=>?_);obtain⟨rfl,k,rfl⟩:=hR;refine⟨(⟨hHeld.1,hHeld.2.1,below_drewN hHeld.2.2 k⟩),λhHeld=>Mono.pt ?_⟩;refine tkf 7 (some 23) ?_;refine tkf 8 (some 5) ?_;refine wpAnyH_done Zx ?_ _;have hB2:=hHeld.2.2;clear hHeld hX cb0 cb1 fb0 fb1 lb0 lb1 b0 b1;go_wp2
    go_ret
    exact⟨rfl,hB2⟩
  ·have hbel:decide (z<0)=sg:=by
    rw[<-hsg,decide_eq_decide];have:¬(z<0↔y<0):=by simpa using hst
    omega
   have hne:(decide (z<0)==decide (y<0))=false:=by simpa using hst
   clear hst hsg hout hless;rw[hbel]at hne hsame ⊢;clear hbel;generalize decide (y<0)=t at *;cases sg;all_goals
    subst hres;simp only[if_true,Ybq,if_false];go_enter Tryz.func188,Tryz.ntmps188
    go_wp2_with fail
    refine Zbj λW hB hs b0 b1=>?_;refine(hsame W hB).mono ?_;rintro e W1 ⟨rfl,hb⟩;replace hB:=Zaa hB hb;replace b0:=b0.below hb;replace b1:=b1.below hb;clear hsame hb;have cb0:=b0.cell;have lb0:=b0.lt;have fb0:=b0.frozen;have cb1:=b1.cell;have lb1:=b1.lt;have fb1:=b1.frozen;go_wp2
    go_ret
    exact⟨rfl,hB⟩
theorem Za7 (n lo hi:Int) (h1:lo<=n) (h2:n<=hi) (w:World) :
  Calls Tryz.prog 111 #[.int .i64 n,.int .i64 lo,.int .i64 hi] w λe w'=>e=.returned (.bool true)∧w'=w:=by
 go_enter Tryz.func111,Tryz.ntmps111
 go_wp2
 go_ret
 exact⟨rfl,rfl⟩
theorem Zaw (n m:Int) (m1:0<=m) (m2:m<=1000000000) (h1 : -m<=n) (h2:n<=m) (w:World) :
  Calls Tryz.prog 210 #[.int .i64 n,.int .i64 m] w λe w'=>e=.returned (.bool true)∧w'=w:=by
 have hw:IntKind.i64.wrap (-m) = -m:=by rw[Ybi];omega
 go_enter Tryz.func210,Tryz.ntmps210
 go_wp2
 go_ret
 exact⟨rfl,rfl⟩
end Go.Proofs.W
namespace Go.Mono
structure Srf.core (s:Srf):Prop where
 k1:1<=s.kind
 k2:s.kind<=4
 kept:s.kept=s
 curv:In 1000000000 s.curv
 curvx:In 1000000000 s.curvx
 thick:In 1000000000 s.thick
 dx:In 1000000000 s.dx
 dy:In 1000000000 s.dy
 a0:In 1000000000 s.a0
 a1:In 1000000000 s.a1
 a2:In 1000000000 s.a2
 a3:In 1000000000 s.a3
 p0:In 1000000000 s.p0
 p1:In 1000000000 s.p1
 conic:In 100000000 s.conic
 conicx:In 100000000 s.conicx
 ax:In 90000000 s.ax
 ay:In 90000000 s.ay
 az:In 90000000 s.az
 order:In 3 s.order
 semi1:s.semi<=1000000000
 hole0:0<=s.hole
 hole1:s.hole<=1000000000
 glass:s.glass = {data:=#[]}∨NameOk s.glass
 coats:s.co.length<=8
 films:∀f∈s.co,f.ok
def Srf.ring (s:Srf):Prop:=0<=s.semi∧(s.semi=0∨s.hole<s.semi)
instance (s:Srf):Decidable s.ring:=by unfold Srf.ring;infer_instance
theorem Srf.ok.core {s:Srf} (h:s.ok):s.core:=
 {k1:=h.k1,k2:=h.k2,kept:=h.kept,curv:=h.curv,curvx:=h.curvx,thick:=h.thick,dx:=h.dx,dy:=h.dy,a0:=h.a0,a1:=h.a1,a2:=h.a2,a3:=h.a3,p0:=h.p0,p1:=h.p1,conic:=h.conic,conicx:=h.conicx,ax:=h.ax,ay:=h.ay,az:=h.az,order:=h.order,semi1:=h.semi1,hole0:=h.hole0,hole1:=h.hole1,glass:=h.glass,coats:=h.coats,films:=h.films}
theorem Srf.ok.toRing {s:Srf} (h:s.ok):s.ring:=⟨h.semi0,h.ring⟩
theorem Srf.core.ok {s:Srf} (h:s.core) (r:s.ring):s.ok:=
 {k1:=h.k1,k2:=h.k2,kept:=h.kept,curv:=h.curv,curvx:=h.curvx,thick:=h.thick,dx:=h.dx,dy:=h.dy,a0:=h.a0,a1:=h.a1,a2:=h.a2,a3:=h.a3,p0:=h.p0,p1:=h.p1,conic:=h.conic,conicx:=h.conicx,ax:=h.ax,ay:=h.ay,az:=h.az,order:=h.order,semi0:=r.1,semi1:=h.semi1,hole0:=h.hole0,hole1:=h.hole1,ring:=r.2,glass:=h.glass,coats:=h.coats,films:=h.films}
def hasS (s:Srf) (p:Int):Bool:=
 decide (p=9) || (if s.kind=1 then decide (p=1) || decide (p=2) || (decide (5<=p)&&decide (p<9)) || decide (p=10) || ((decide (p=16) || decide (p=17))&&decide (s.order≠0))
  else if s.kind=2 then(decide (1<=p)&&decide (p<=4)) || decide (p=10)
  else if s.kind=3 then decide (11<=p)&&decide (p<=15)
  else decide (p=1) || decide (p=10))
def putS (s:Srf) (p v:Int):Srf:=
 if p=1 then {s with curv:=v} else if p=2 then {s with conic:=v} else if p=3 then {s with curvx:=v} else if p=4 then {s with conicx:=v}
 else if p=5 then {s with a0:=v} else if p=6 then {s with a1:=v} else if p=7 then {s with a2:=v} else if p=8 then {s with a3:=v}
 else if p=9 then {s with thick:=v} else if p=10 then {s with semi:=v} else if p=11 then {s with dx:=v} else if p=12 then {s with dy:=v}
 else if p=13 then {s with ax:=v} else if p=14 then {s with ay:=v} else if p=15 then {s with az:=v} else if p=16 then {s with p0:=v} else if p=17 then {s with p1:=v} else s
def setS (s:Srf) (p v:Int):Option Srf:=if hasS s p=true∧(putS s p v).ring then some (putS s p v) else none
theorem Zg8 {s:Srf} {p:Int} (h:hasS s p=true):p=1∨p=2∨p=3∨p=4∨p=5∨p=6∨p=7∨p=8∨p=9∨p=10∨p=11∨p=12∨p=13∨p=14∨p=15∨p=16∨p=17:=by
 unfold hasS at h;simp only[Ybo,Yam,decide_eq_true_eq]at h;rcases h with h|h
 ·omega
 ·split at h
  ·simp only[Ybo,Yam,decide_eq_true_eq]at h;omega
  ·split at h
   ·simp only[Ybo,Yam,decide_eq_true_eq]at h;omega
   ·split at h
    ·simp only[Ybo,Yam,decide_eq_true_eq]at h;omega
    ·simp only[Ybo,Yam,decide_eq_true_eq]at h;omega
theorem Zr7 (s:Srf) (p v:Int):(putS s p v).kind=s.kind:=by simp only[putS,apply_ite Srf.kind,ite_self]
theorem Zph (s:Srf) (p v:Int):(putS s p v).glass=s.glass:=by simp only[putS,apply_ite Srf.glass,ite_self]
theorem Zpi (s:Srf) (p v:Int):(putS s p v).order=s.order:=by simp only[putS,apply_ite Srf.order,ite_self]
theorem Zr8 (s:Srf) (p v:Int):(putS s p v).co=s.co:=by simp only[putS,apply_ite Srf.co,ite_self]
theorem Zpj (s:Srf) (p v:Int) (h:p≠9):(putS s p v).thick=s.thick:=by simp only[putS,apply_ite Srf.thick,if_neg h,ite_self]
theorem Zr9 {s:Srf} {p v:Int} (hk:s.kept=s) (k1:1<=s.kind) (k2:s.kind<=4) (h:hasS s p=true):(putS s p v).kept=putS s p v:=by
 have hc:=Zg8 h;obtain⟨kind,curv,conic,curvx,conicx,a0,a1,a2,a3,p0,p1,order,thick,glass,semi,hole,dx,dy,ax,ay,az,co⟩:=s;simp only at k1 k2;rcases(by omega:kind=1∨kind=2∨kind=3∨kind=4) with rfl|rfl|rfl|rfl
 ·by_cases ho : order ≠ 0 ∧ glass ≠ mirror
  ·simp[Srf.kept,ho]at hk
   obtain⟨rfl,rfl,rfl,rfl,rfl,rfl,rfl⟩:=hk;obtain⟨ho,hg⟩:=ho;rcases hc with rfl|rfl|rfl|rfl|rfl|rfl|rfl|rfl|rfl|rfl|rfl|rfl|rfl|rfl|rfl|rfl|rfl<;>simp[hasS]at h<;>simp[putS,Srf.kept,ho,hg]
  ·have ho':order≠0->glass=mirror:=λh1=>Classical.byContradiction λh2=>ho ⟨h1,h2⟩
   by_cases h0:order=0
   ·subst h0
    simp[Srf.kept]at hk;obtain⟨rfl,rfl,rfl,rfl,rfl,rfl,rfl,rfl,rfl⟩:=hk;rcases hc with rfl|rfl|rfl|rfl|rfl|rfl|rfl|rfl|rfl|rfl|rfl|rfl|rfl|rfl|rfl|rfl|rfl<;>simp[hasS]at h<;>simp[putS,Srf.kept]
   ·have hg:=ho' h0
    subst hg;simp[Srf.kept,h0]at hk;exact absurd hk.2.2.2.2.1.symm h0
 ·simp[Srf.kept]at hk
  obtain⟨rfl,rfl,rfl,rfl,rfl,rfl,rfl,rfl,rfl,rfl,rfl,rfl⟩:=hk;rcases hc with rfl|rfl|rfl|rfl|rfl|rfl|rfl|rfl|rfl|rfl|rfl|rfl|rfl|rfl|rfl|rfl|rfl<;>simp[hasS]at h<;>simp[putS,Srf.kept]
 ·simp[Srf.kept]at hk
  obtain⟨rfl,rfl,rfl,rfl,rfl,rfl,rfl,rfl,rfl,rfl,rfl,rfl,rfl,rfl,rfl⟩:=hk;rcases hc with rfl|rfl|rfl|rfl|rfl|rfl|rfl|rfl|rfl|rfl|rfl|rfl|rfl|rfl|rfl|rfl|rfl<;>simp[hasS]at h<;>simp[putS,Srf.kept]
 ·simp[Srf.kept]at hk
  obtain⟨rfl,rfl,rfl,rfl,rfl,rfl,rfl,rfl,rfl,rfl,rfl,rfl,rfl,rfl,rfl,rfl,rfl⟩:=hk;rcases hc with rfl|rfl|rfl|rfl|rfl|rfl|rfl|rfl|rfl|rfl|rfl|rfl|rfl|rfl|rfl|rfl|rfl<;>simp[hasS]at h<;>simp[putS,Srf.kept]
theorem Zk5 {s:Srf} {p v:Int} (hs:s.ok) (h:hasS s p=true) (hv:In 32768000 v):(putS s p v).core:=by
 have hb:=hs.core;have hk:=Zr9 (v:=v) hs.kept hs.k1 hs.k2 h;have i9:In 1000000000 v:=⟨by have:=hv.1;omega,by have:=hv.2;omega⟩
 have i8:In 100000000 v:=⟨by have:=hv.1;omega,by have:=hv.2;omega⟩
 have i7:In 90000000 v:=⟨by have:=hv.1;omega,by have:=hv.2;omega⟩
 rcases Zg8 h with rfl|rfl|rfl|rfl|rfl|rfl|rfl|rfl|rfl|rfl|rfl|rfl|rfl|rfl|rfl|rfl|rfl
 ·exact {hb with kept:=hk,curv:=i9}
 ·exact {hb with kept:=hk,conic:=i8}
 ·exact {hb with kept:=hk,curvx:=i9}
 ·exact {hb with kept:=hk,conicx:=i8}
 ·exact {hb with kept:=hk,a0:=i9}
 ·exact {hb with kept:=hk,a1:=i9}
 ·exact {hb with kept:=hk,a2:=i9}
 ·exact {hb with kept:=hk,a3:=i9}
 ·exact {hb with kept:=hk,thick:=i9}
 ·exact {hb with kept:=hk,semi1:=i9.2}
 ·exact {hb with kept:=hk,dx:=i9}
 ·exact {hb with kept:=hk,dy:=i9}
 ·exact {hb with kept:=hk,ax:=i7}
 ·exact {hb with kept:=hk,ay:=i7}
 ·exact {hb with kept:=hk,az:=i7}
 ·exact {hb with kept:=hk,p0:=i9}
 ·exact {hb with kept:=hk,p1:=i9}
structure SetR (s t:Srf):Prop where
 ok:t.ok
 kind:t.kind=s.kind
 glass:t.glass=s.glass
 order:t.order=s.order
 co:t.co=s.co
theorem Zwx {s t:Srf} {p v:Int} (hs:s.ok) (hv:In 32768000 v) (h:setS s p v=some t):SetR s t∧(p≠9->t.thick=s.thick):=by
 unfold setS at h;split at h
 ·rename_i hc
  cases h;exact⟨⟨(Zk5 hs hc.1 hv).ok hc.2,Zr7 ..,Zph ..,Zpi ..,Zr8 ..⟩,Zpj s p v⟩
 ·cases h
section
open Go.RowKit
theorem Box.ne {w:World} {B B':Nat} {T T':TypeId} {cs cs':Array Value} (b:Box w B T cs) (b':Box w B' T' cs') (h:T≠T'):B≠B':=by
 rintro rfl;have e:=b.blk.symm.trans b'.blk;simp at e;exact h e.2
theorem Zdr {W W':World} {base:Nat} {e:TypeId} {size n:Nat} {v:Value} {xs:List Value} (h:W.ownsRow base e size v n xs) (hs:∀g,v.ownBlock=some g->W'.heap[g]? = W.heap[g]?):W'.ownsRow base e size v n xs:=by
 refine⟨h.1,?_⟩;rcases h.2 with h2|⟨g,cap,cur,hv,hb,hg,h3⟩
 ·exact .inl h2
 ·exact .inr ⟨g,cap,cur,hv,hb,(hs g (by rw[hv];rfl)).trans hg,h3⟩
theorem Zbx {W:World} {base:Nat} {e:TypeId} {size n:Nat} {v:Value} {xs:List Value} (h:W.ownsRow base e size v n xs) {g:Nat} (hg:v.ownBlock=some g):g<W.heap.size∧base<=g∧∃cur,Box W g e cur:=by
 rcases h.2 with ⟨rfl,_⟩|⟨g',cap,cur,rfl,hb,hgb,_⟩
 ·cases hg
 ·obtain rfl:g'=g:=by simpa[Value.ownBlock]using hg
  exact⟨Zam hgb,hb,cur,⟨hgb⟩⟩
theorem Zak {W W':World} {base:Nat} {e:TypeId} {size n:Nat} {v:Value} {xs:List Value} (h:W.ownsRow base e size v n xs) (hB:Below W.heap.size W W'):W'.ownsRow base e size v n xs:=
 Zdr h λg hg=>hB.block g (Zbx h hg).1
theorem Zax {W W':World} {base:Nat} {e:TypeId} {size n:Nat} {v:Value} {xs:List Value} (h:W.ownsRow base e size v n xs) {R:Nat} {T:TypeId} {cs:Array Value} (b:Box W R T cs) (hT:T≠e) (hk:KeepBut R W.heap.size W W'):W'.ownsRow base e size v n xs:=
 Zdr h λg hg=>by
  obtain⟨h1,_,cur,h3⟩:=Zbx h hg;exact hk.block g h1 (λe'=>Box.ne b h3 hT e'.symm)
theorem Box.appended {W W':World} {base:Nat} {e:TypeId} {size n:Nat} {v:Value} {xs:List Value} (h:W.ownsRow base e size v n xs) (hg:W.grownBy W' v.ownBlock) {B:Nat} {T:TypeId} {cs:Array Value} (b:Box W B T cs) (hT:T≠e):Box W' B T cs:=by
 obtain⟨_,_,_,_,hb⟩:=hg;refine⟨(hb B b.lt λe'=>?_).trans b.blk⟩;obtain⟨_,_,cur,h3⟩:=Zbx h e'.symm;exact Box.ne b h3 hT rfl
theorem Ext.appended {W W':World} {base:Nat} {e:TypeId} {size n:Nat} {v:Value} {xs:List Value} (h:W.ownsRow base e size v n xs) (hg:W.grownBy W' v.ownBlock) (he:e≠3):Ext W W':=by
 obtain⟨_,_,_,hsz,hb⟩:=hg;refine⟨hsz,λk cs fr hk=>(hb k (Zam hk) λe'=>?_).trans hk⟩;obtain⟨_,_,cur,h3⟩:=Zbx h e'.symm;have:=h3.blk.symm.trans hk;simp at this;exact he this.2.1
theorem Below.appended {W W':World} {base:Nat} {e:TypeId} {size n:Nat} {v:Value} {xs:List Value} (h:W.ownsRow base e size v n xs) (hg:W.grownBy W' v.ownBlock) {w:World} (hB:Below w.heap.size w W) (hb:w.heap.size<=base):Below w.heap.size w W':=
 hB.grown hg hB.size λk e'=>by have:=(Zbx h e').2.1;omega
theorem KeepsOthers.appended {W W':World} {base:Nat} {e:TypeId} {size n:Nat} {v:Value} {xs:List Value} (h:W.ownsRow base e size v n xs) (hg:W.grownBy W' v.ownBlock):KeepsOthers W W':=by
 obtain⟨_,_,_,hsz,hb⟩:=hg;refine⟨hsz,λk o hk ho=>(hb k (Zam hk) λe'=>?_).trans hk⟩;obtain⟨_,_,cur,h3⟩:=Zbx h e'.symm;have:=h3.blk.symm.trans hk;cases (Yej this);cases ho
end
end Go.Mono
namespace Go.Proofs.W
open Go.RowKit Go.Mono
section
open Go.Ex
variable {K:Nat->Value} {hK:∀i,(K i).oneCell'=true}
def Side.over (S:Side) (a b:Rat):Option (List Prop):=
 match S.pos b,S.fit (a/b) with
 | some L,some M=>some (L++M)
 | _,_=>none
def cR4Div (S:Side) (w0:World) (X:Nat->Prop):Ctr (qDen K hK) Tryz.prog w0 X:=binSpec S.cl w0 X 96 (λa b=>a/b) (Side.over S) λa b u v L w hs hL h1 h2=>by
 unfold Side.over at hs;split at hs
 ·rename_i L1 L2 e1 e2
  cases hs;exact(Zu3 w h1.qt h2.qt (S.hpos _ _ e1 λp hp=>hL p (Ycy _ hp)) (S.hfit _ _ e2 λp hp=>hL p (Ydv _ hp))).mono λe w' ⟨C,e1,hC,hb⟩=>⟨_,e1,hC.qv,hb⟩
 ·cases hs
end
end Go.Proofs.W
namespace Go.Mono
theorem Zsr {a r s:Nat} (h1:r*r<=a) (h2:a<(r+1)*(r+1)) (g1:s*s<=a) (g2:a<(s+1)*(s+1)):r=s:=by
 rcases Nat.lt_trichotomy r s with h|h|h
 ·have:=Nat.mul_le_mul (show r+1<=s from h) (show r+1<=s from h)
  omega
 ·exact h
 ·have:=Nat.mul_le_mul (show s+1<=r from h) (show s+1<=r from h)
  omega
noncomputable def rtN (a:Nat):Nat:=Classical.epsilon λr=>r*r<=a∧a<(r+1)*(r+1)
theorem Zst {a r:Nat} (h1:r*r<=a) (h2:a<(r+1)*(r+1)):rtN a=r:=by
 have h:=Classical.epsilon_spec (p:=λr=>r*r<=a∧a<(r+1)*(r+1)) ⟨r,h1,h2⟩;exact Zsr h.1 h.2 h1 h2
theorem Zvm:∀a:Nat,∃r,r*r<=a∧a<(r+1)*(r+1)
 | 0=>⟨0,by decide,by decide⟩
 | a + 1 => by
   obtain⟨r,h1,h2⟩:=Zvm a;by_cases h:a+1<(r+1)*(r+1)
   ·exact⟨r,by omega,h⟩
   ·refine⟨r+1,by omega,?_⟩
    have:(r+1+1)*(r+1+1)=(r+1)*(r+1)+2*(r+1)+1:=by
     simp only[Nat.mul_add,Nat.add_mul];omega
    omega
theorem Zoa (a:Nat):rtN a*rtN a<=a∧a<(rtN a+1)*(rtN a+1):=by
 obtain⟨r,h1,h2⟩:=Zvm a;rw[Zst h1 h2];exact⟨h1,h2⟩
theorem Zx8 {a b:Nat} (h:a<(b+1)*(b+1)):rtN a<=b:=by
 have h1:=(Zoa a).1;by_cases hb:rtN a<=b
 ·exact hb
 ·have:=Nat.mul_le_mul (show b+1<=rtN a by omega) (show b+1<=rtN a by omega)
  omega
theorem Zx9 {a b:Nat} (h:b*b<=a):b<=rtN a:=by
 have h1:=(Zoa a).2;by_cases hb:b<=rtN a
 ·exact hb
 ·have:=Nat.mul_le_mul (show rtN a+1<=b by omega) (show rtN a+1<=b by omega)
  omega
end Go.Mono
