/- The drafted optics of chapter 13: what it is and that it is valid. Part 2 of 16. No condition beside the row. -/
import Derived.Maps.OwnIn
import Derived.Maps.AppendAt
import Derived.Laws.AppendOwn
import Derived.Laws.AppendOwnNone
import Derived.Great.BuildSlice
import Derived.Great.FillDense
import Derived.Test.YtgkmjekkefmejaaGreatDoorA02
import Derived.Test.YtgkmjekkefmejaaGreatDoorA08
import Derived.Test.YtgkmjekkefmejaaGreatDoorA14
import Derived.Test.YtgkmjekkefmejaaGreatDoorA25
import Derived.Test.YtgkmjekkefmejaaGreatDoorD01
set_option linter.unusedVariables false
set_option linter.unusedSimpArgs false
set_option maxRecDepth 100000
set_option maxHeartbeats 4000000
namespace Go.Proofs.W
open Go.RowKit Go.Mono
theorem Za5 (n lo hi:Int) (h1:lo<=n) (h2:n<=hi) (w:World) :
  Calls Tryz.prog 174 #[.int .i64 n,.int .i64 lo,.int .i64 hi] w λe w'=>e=.returned (.bool true)∧w'=w:=by
 go_enter Tryz.func174,Tryz.ntmps174
 go_wp2
 go_ret
 exact⟨rfl,rfl⟩
theorem Zaw (n m:Int) (m1:0<=m) (m2:m<=1000000000) (h1 : -m<=n) (h2:n<=m) (w:World) :
  Calls Tryz.prog 247 #[.int .i64 n,.int .i64 m] w λe w'=>e=.returned (.bool true)∧w'=w:=by
 have hw:IntKind.i64.wrap (-m) = -m:=by rw[Ybi];omega
 go_enter Tryz.func247,Tryz.ntmps247
 go_wp2
 go_ret
 exact⟨rfl,rfl⟩
end Go.Proofs.W
namespace Go.Mono
structure Srf.core (s:Srf):Prop where
 k1:1<=s.kind
 k2:s.kind<=4
 kept:s.kept=s
 curv:In 1000000000 s.curv
 curvx:In 1000000000 s.curvx
 thick:In 1000000000 s.thick
 dx:In 1000000000 s.dx
 dy:In 1000000000 s.dy
 a0:In 1000000000 s.a0
 a1:In 1000000000 s.a1
 a2:In 1000000000 s.a2
 a3:In 1000000000 s.a3
 p0:In 1000000000 s.p0
 p1:In 1000000000 s.p1
 conic:In 100000000 s.conic
 conicx:In 100000000 s.conicx
 ax:In 90000000 s.ax
 ay:In 90000000 s.ay
 az:In 90000000 s.az
 order:In 3 s.order
 semi1:s.semi<=1000000000
 hole0:0<=s.hole
 hole1:s.hole<=1000000000
 glass:s.glass = {data:=#[]}∨NameOk s.glass
 coats:s.co.length<=8
 films:∀f∈s.co,f.ok
def Srf.ring (s:Srf):Prop:=0<=s.semi∧(s.semi=0∨s.hole<s.semi)
instance (s:Srf):Decidable s.ring:=by unfold Srf.ring;infer_instance
theorem Srf.ok.core {s:Srf} (h:s.ok):s.core:=
 {k1:=h.k1,k2:=h.k2,kept:=h.kept,curv:=h.curv,curvx:=h.curvx,thick:=h.thick,dx:=h.dx,dy:=h.dy,a0:=h.a0,a1:=h.a1,a2:=h.a2,a3:=h.a3,p0:=h.p0,p1:=h.p1,conic:=h.conic,conicx:=h.conicx,ax:=h.ax,ay:=h.ay,az:=h.az,order:=h.order,semi1:=h.semi1,hole0:=h.hole0,hole1:=h.hole1,glass:=h.glass,coats:=h.coats,films:=h.films}
theorem Srf.ok.toRing {s:Srf} (h:s.ok):s.ring:=⟨h.semi0,h.ring⟩
theorem Srf.core.ok {s:Srf} (h:s.core) (r:s.ring):s.ok:=
 {k1:=h.k1,k2:=h.k2,kept:=h.kept,curv:=h.curv,curvx:=h.curvx,thick:=h.thick,dx:=h.dx,dy:=h.dy,a0:=h.a0,a1:=h.a1,a2:=h.a2,a3:=h.a3,p0:=h.p0,p1:=h.p1,conic:=h.conic,conicx:=h.conicx,ax:=h.ax,ay:=h.ay,az:=h.az,order:=h.order,semi0:=r.1,semi1:=h.semi1,hole0:=h.hole0,hole1:=h.hole1,ring:=r.2,glass:=h.glass,coats:=h.coats,films:=h.films}
def hasS (s:Srf) (p:Int):Bool:=
 decide (p=9) || (if s.kind=1 then decide (p=1) || decide (p=2) || (decide (5<=p)&&decide (p<9)) || decide (p=10) || ((decide (p=16) || decide (p=17))&&decide (s.order≠0))
  else if s.kind=2 then(decide (1<=p)&&decide (p<=4)) || decide (p=10)
  else if s.kind=3 then decide (11<=p)&&decide (p<=15)
  else decide (p=1) || decide (p=10))
def putS (s:Srf) (p v:Int):Srf:=
 if p=1 then {s with curv:=v} else if p=2 then {s with conic:=v} else if p=3 then {s with curvx:=v} else if p=4 then {s with conicx:=v}
 else if p=5 then {s with a0:=v} else if p=6 then {s with a1:=v} else if p=7 then {s with a2:=v} else if p=8 then {s with a3:=v}
 else if p=9 then {s with thick:=v} else if p=10 then {s with semi:=v} else if p=11 then {s with dx:=v} else if p=12 then {s with dy:=v}
 else if p=13 then {s with ax:=v} else if p=14 then {s with ay:=v} else if p=15 then {s with az:=v} else if p=16 then {s with p0:=v} else if p=17 then {s with p1:=v} else s
def setS (s:Srf) (p v:Int):Option Srf:=if hasS s p=true∧(putS s p v).ring then some (putS s p v) else none
theorem Zhi {s:Srf} {p:Int} (h:hasS s p=true):p=1∨p=2∨p=3∨p=4∨p=5∨p=6∨p=7∨p=8∨p=9∨p=10∨p=11∨p=12∨p=13∨p=14∨p=15∨p=16∨p=17:=by
 unfold hasS at h;simp only[Ybo,Yam,decide_eq_true_eq]at h;rcases h with h|h
 ·omega
 ·split at h
  ·simp only[Ybo,Yam,decide_eq_true_eq]at h;omega
  ·split at h
   ·simp only[Ybo,Yam,decide_eq_true_eq]at h;omega
   ·split at h
    ·simp only[Ybo,Yam,decide_eq_true_eq]at h;omega
    ·simp only[Ybo,Yam,decide_eq_true_eq]at h;omega
theorem Zs3 (s:Srf) (p v:Int):(putS s p v).kind=s.kind:=by simp only[putS,apply_ite Srf.kind,ite_self]
theorem Zp8 (s:Srf) (p v:Int):(putS s p v).glass=s.glass:=by simp only[putS,apply_ite Srf.glass,ite_self]
theorem Zp9 (s:Srf) (p v:Int):(putS s p v).order=s.order:=by simp only[putS,apply_ite Srf.order,ite_self]
theorem Zs4 (s:Srf) (p v:Int):(putS s p v).co=s.co:=by simp only[putS,apply_ite Srf.co,ite_self]
theorem Zqa (s:Srf) (p v:Int) (h:p≠9):(putS s p v).thick=s.thick:=by simp only[putS,apply_ite Srf.thick,if_neg h,ite_self]
theorem Zs5 {s:Srf} {p v:Int} (hk:s.kept=s) (k1:1<=s.kind) (k2:s.kind<=4) (h:hasS s p=true):(putS s p v).kept=putS s p v:=by
 have hc:=Zhi h;obtain⟨kind,curv,conic,curvx,conicx,a0,a1,a2,a3,p0,p1,order,thick,glass,semi,hole,dx,dy,ax,ay,az,co⟩:=s;simp only at k1 k2;rcases(by omega:kind=1∨kind=2∨kind=3∨kind=4) with rfl|rfl|rfl|rfl
 ·by_cases ho : order ≠ 0 ∧ glass ≠ mirror
  ·simp[Srf.kept,ho]at hk
   obtain⟨rfl,rfl,rfl,rfl,rfl,rfl,rfl⟩:=hk;obtain⟨ho,hg⟩:=ho;rcases hc with rfl|rfl|rfl|rfl|rfl|rfl|rfl|rfl|rfl|rfl|rfl|rfl|rfl|rfl|rfl|rfl|rfl<;>simp[hasS]at h<;>simp[putS,Srf.kept,ho,hg]
  ·have ho':order≠0->glass=mirror:=λh1=>Classical.byContradiction λh2=>ho ⟨h1,h2⟩
   by_cases h0:order=0
   ·subst h0
    simp[Srf.kept]at hk;obtain⟨rfl,rfl,rfl,rfl,rfl,rfl,rfl,rfl,rfl⟩:=hk;rcases hc with rfl|rfl|rfl|rfl|rfl|rfl|rfl|rfl|rfl|rfl|rfl|rfl|rfl|rfl|rfl|rfl|rfl<;>simp[hasS]at h<;>simp[putS,Srf.kept]
   ·have hg:=ho' h0
    subst hg;simp[Srf.kept,h0]at hk;exact absurd hk.2.2.2.2.1.symm h0
 ·simp[Srf.kept]at hk
  obtain⟨rfl,rfl,rfl,rfl,rfl,rfl,rfl,rfl,rfl,rfl,rfl,rfl⟩:=hk;rcases hc with rfl|rfl|rfl|rfl|rfl|rfl|rfl|rfl|rfl|rfl|rfl|rfl|rfl|rfl|rfl|rfl|rfl<;>simp[hasS]at h<;>simp[putS,Srf.kept]
 ·simp[Srf.kept]at hk
  obtain⟨rfl,rfl,rfl,rfl,rfl,rfl,rfl,rfl,rfl,rfl,rfl,rfl,rfl,rfl,rfl⟩:=hk;rcases hc with rfl|rfl|rfl|rfl|rfl|rfl|rfl|rfl|rfl|rfl|rfl|rfl|rfl|rfl|rfl|rfl|rfl<;>simp[hasS]at h<;>simp[putS,Srf.kept]
 ·simp[Srf.kept]at hk
  obtain⟨rfl,rfl,rfl,rfl,rfl,rfl,rfl,rfl,rfl,rfl,rfl,rfl,rfl,rfl,rfl,rfl,rfl⟩:=hk;rcases hc with rfl|rfl|rfl|rfl|rfl|rfl|rfl|rfl|rfl|rfl|rfl|rfl|rfl|rfl|rfl|rfl|rfl<;>simp[hasS]at h<;>simp[putS,Srf.kept]
theorem Zlv {s:Srf} {p v:Int} (hs:s.ok) (h:hasS s p=true) (hv:In 32768000 v):(putS s p v).core:=by
 have hb:=hs.core;have hk:=Zs5 (v:=v) hs.kept hs.k1 hs.k2 h;have i9:In 1000000000 v:=⟨by have:=hv.1;omega,by have:=hv.2;omega⟩
 have i8:In 100000000 v:=⟨by have:=hv.1;omega,by have:=hv.2;omega⟩
 have i7:In 90000000 v:=⟨by have:=hv.1;omega,by have:=hv.2;omega⟩
 rcases Zhi h with rfl|rfl|rfl|rfl|rfl|rfl|rfl|rfl|rfl|rfl|rfl|rfl|rfl|rfl|rfl|rfl|rfl
 ·exact {hb with kept:=hk,curv:=i9}
 ·exact {hb with kept:=hk,conic:=i8}
 ·exact {hb with kept:=hk,curvx:=i9}
 ·exact {hb with kept:=hk,conicx:=i8}
 ·exact {hb with kept:=hk,a0:=i9}
 ·exact {hb with kept:=hk,a1:=i9}
 ·exact {hb with kept:=hk,a2:=i9}
 ·exact {hb with kept:=hk,a3:=i9}
 ·exact {hb with kept:=hk,thick:=i9}
 ·exact {hb with kept:=hk,semi1:=i9.2}
 ·exact {hb with kept:=hk,dx:=i9}
 ·exact {hb with kept:=hk,dy:=i9}
 ·exact {hb with kept:=hk,ax:=i7}
 ·exact {hb with kept:=hk,ay:=i7}
 ·exact {hb with kept:=hk,az:=i7}
 ·exact {hb with kept:=hk,p0:=i9}
 ·exact {hb with kept:=hk,p1:=i9}
structure SetR (s t:Srf):Prop where
 ok:t.ok
 kind:t.kind=s.kind
 glass:t.glass=s.glass
 order:t.order=s.order
 co:t.co=s.co
theorem Zx5 {s t:Srf} {p v:Int} (hs:s.ok) (hv:In 32768000 v) (h:setS s p v=some t):SetR s t∧(p≠9->t.thick=s.thick):=by
 unfold setS at h;split at h
 ·rename_i hc
  cases h;exact⟨⟨(Zlv hs hc.1 hv).ok hc.2,Zs3 ..,Zp8 ..,Zp9 ..,Zs4 ..⟩,Zqa s p v⟩
 ·cases h
section
open Go.RowKit
theorem Box.ne {w:World} {B B':Nat} {T T':TypeId} {cs cs':Array Value} (b:Box w B T cs) (b':Box w B' T' cs') (h:T≠T'):B≠B':=by
 rintro rfl;have e:=b.blk.symm.trans b'.blk;simp at e;exact h e.2
theorem Zds {W W':World} {base:Nat} {e:TypeId} {size n:Nat} {v:Value} {xs:List Value} (h:W.ownsRow base e size v n xs) (hs:∀g,v.ownBlock=some g->W'.heap[g]? = W.heap[g]?):W'.ownsRow base e size v n xs:=by
 refine⟨h.1,?_⟩;rcases h.2 with h2|⟨g,cap,cur,hv,hb,hg,h3⟩
 ·exact .inl h2
 ·exact .inr ⟨g,cap,cur,hv,hb,(hs g (by rw[hv];rfl)).trans hg,h3⟩
theorem Zbw {W:World} {base:Nat} {e:TypeId} {size n:Nat} {v:Value} {xs:List Value} (h:W.ownsRow base e size v n xs) {g:Nat} (hg:v.ownBlock=some g):g<W.heap.size∧base<=g∧∃cur,Box W g e cur:=by
 rcases h.2 with ⟨rfl,_⟩|⟨g',cap,cur,rfl,hb,hgb,_⟩
 ·cases hg
 ·obtain rfl:g'=g:=by simpa[Value.ownBlock]using hg
  exact⟨Zam hgb,hb,cur,⟨hgb⟩⟩
theorem Zai {W W':World} {base:Nat} {e:TypeId} {size n:Nat} {v:Value} {xs:List Value} (h:W.ownsRow base e size v n xs) (hB:Below W.heap.size W W'):W'.ownsRow base e size v n xs:=
 Zds h λg hg=>hB.block g (Zbw h hg).1
theorem Zay {W W':World} {base:Nat} {e:TypeId} {size n:Nat} {v:Value} {xs:List Value} (h:W.ownsRow base e size v n xs) {R:Nat} {T:TypeId} {cs:Array Value} (b:Box W R T cs) (hT:T≠e) (hk:KeepBut R W.heap.size W W'):W'.ownsRow base e size v n xs:=
 Zds h λg hg=>by
  obtain⟨h1,_,cur,h3⟩:=Zbw h hg;exact hk.block g h1 (λe'=>Box.ne b h3 hT e'.symm)
theorem Box.appended {W W':World} {base:Nat} {e:TypeId} {size n:Nat} {v:Value} {xs:List Value} (h:W.ownsRow base e size v n xs) (hg:W.grownBy W' v.ownBlock) {B:Nat} {T:TypeId} {cs:Array Value} (b:Box W B T cs) (hT:T≠e):Box W' B T cs:=by
 obtain⟨_,_,_,_,hb⟩:=hg;refine⟨(hb B b.lt λe'=>?_).trans b.blk⟩;obtain⟨_,_,cur,h3⟩:=Zbw h e'.symm;exact Box.ne b h3 hT rfl
theorem Ext.appended {W W':World} {base:Nat} {e:TypeId} {size n:Nat} {v:Value} {xs:List Value} (h:W.ownsRow base e size v n xs) (hg:W.grownBy W' v.ownBlock) (he:e≠3):Ext W W':=by
 obtain⟨_,_,_,hsz,hb⟩:=hg;refine⟨hsz,λk cs fr hk=>(hb k (Zam hk) λe'=>?_).trans hk⟩;obtain⟨_,_,cur,h3⟩:=Zbw h e'.symm;have:=h3.blk.symm.trans hk;simp at this;exact he this.2.1
theorem Below.appended {W W':World} {base:Nat} {e:TypeId} {size n:Nat} {v:Value} {xs:List Value} (h:W.ownsRow base e size v n xs) (hg:W.grownBy W' v.ownBlock) {w:World} (hB:Below w.heap.size w W) (hb:w.heap.size<=base):Below w.heap.size w W':=
 hB.grown hg hB.size λk e'=>by have:=(Zbw h e').2.1;omega
theorem KeepsOthers.appended {W W':World} {base:Nat} {e:TypeId} {size n:Nat} {v:Value} {xs:List Value} (h:W.ownsRow base e size v n xs) (hg:W.grownBy W' v.ownBlock):KeepsOthers W W':=by
 obtain⟨_,_,_,hsz,hb⟩:=hg;refine⟨hsz,λk o hk ho=>(hb k (Zam hk) λe'=>?_).trans hk⟩;obtain⟨_,_,cur,h3⟩:=Zbw h e'.symm;have:=h3.blk.symm.trans hk;cases (Yej this);cases ho
end
theorem Ztm {a r s:Nat} (h1:r*r<=a) (h2:a<(r+1)*(r+1)) (g1:s*s<=a) (g2:a<(s+1)*(s+1)):r=s:=by
 rcases Nat.lt_trichotomy r s with h|h|h
 ·have:=Nat.mul_le_mul (show r+1<=s from h) (show r+1<=s from h)
  omega
 ·exact h
 ·have:=Nat.mul_le_mul (show s+1<=r from h) (show s+1<=r from h)
  omega
noncomputable def rtN (a:Nat):Nat:=Classical.epsilon λr=>r*r<=a∧a<(r+1)*(r+1)
theorem Ztn {a r:Nat} (h1:r*r<=a) (h2:a<(r+1)*(r+1)):rtN a=r:=by
 have h:=Classical.epsilon_spec (p:=λr=>r*r<=a∧a<(r+1)*(r+1)) ⟨r,h1,h2⟩;exact Ztm h.1 h.2 h1 h2
theorem Zwm:∀a:Nat,∃r,r*r<=a∧a<(r+1)*(r+1)
 | 0=>⟨0,by decide,by decide⟩
 | a + 1 => by
   obtain⟨r,h1,h2⟩:=Zwm a;by_cases h:a+1<(r+1)*(r+1)
   ·exact⟨r,by omega,h⟩
   ·refine⟨r+1,by omega,?_⟩
    have:(r+1+1)*(r+1+1)=(r+1)*(r+1)+2*(r+1)+1:=by
     simp only[Nat.mul_add,Nat.add_mul];omega
    omega
theorem Zou (a:Nat):rtN a*rtN a<=a∧a<(rtN a+1)*(rtN a+1):=by
 obtain⟨r,h1,h2⟩:=Zwm a;rw[Ztn h1 h2];exact⟨h1,h2⟩
theorem Zzl {a b:Nat} (h:a<(b+1)*(b+1)):rtN a<=b:=by
 have h1:=(Zou a).1;by_cases hb:rtN a<=b
 ·exact hb
 ·have:=Nat.mul_le_mul (show b+1<=rtN a by omega) (show b+1<=rtN a by omega)
  omega
theorem Zzm {a b:Nat} (h:b*b<=a):b<=rtN a:=by
 have h1:=(Zou a).2;by_cases hb:b<=rtN a
 ·exact hb
 ·have:=Nat.mul_le_mul (show rtN a+1<=b by omega) (show rtN a+1<=b by omega)
  omega
section
open Go.RowKit
def crow (C:Nat->List Value):Nat->List Value
 | 0=>[]
 | n+1=>crow C n++C n
theorem Zbl {C:Nat->List Value} {sz:Nat} (h:∀i,(C i).length=sz):∀n,(crow C n).length=n*sz
 | 0=>by simp[crow]
 | n+1=>by rw[crow,Yay,Zbl h n,h n,Yeb]
theorem Zgl {C:Nat->List Value} {sz:Nat} (h:∀i,(C i).length=sz):∀(n i j:Nat),i<n->j<sz->(crow C n)[i*sz+j]? = (C i)[j]?
 | 0,i,j,hi,hj=>Zo
 | n + 1, i, j, hi, hj => by
   rw[crow];by_cases hin:i<n
   ·have:i*sz+j<n*sz:=by
     have:=Ybd sz (show i+1<=n by omega);rw[Yeb]at this;omega
    rw[Ybb (by rw[Zbl h];exact this)];exact Zgl h n i j hin hj
   ·obtain rfl:i=n:=by omega
    rw[Ybc (by rw[Zbl h];omega),Zbl h,Nat.add_sub_cancel_left]
theorem Zas {C D:Nat->List Value}:∀{n:Nat},(∀i,i<n->C i=D i)->crow C n=crow D n
 | 0,_=>rfl
 | n+1,h=>by rw[crow,crow,Zas λi hi=>h i Zo,h n Zo]
def ccat (C:Nat->List Value) (n:Nat) (H:Nat->List Value) (i:Nat):List Value:=if i<n then C i else H (i-n)
theorem Zoo (C H:Nat->List Value) (n:Nat):∀m,crow C n++crow H m=crow (ccat C n H) (n+m)
 | 0 => by
   rw[Zas (C:=C) (D:=ccat C n H) (λi hi=>by unfold ccat;rw[if_pos hi])];simp[crow]
 | m + 1 => by
   show crow C n++(crow H m++H m)=crow (ccat C n H) (n+m)++ccat C n H (n+m);rw[<-Ybx,Zoo C H n m];congr 1
   unfold ccat;rw[if_neg Zo,Nat.add_sub_cancel_left]
theorem Zop {C:Nat->List Value}:∀{n:Nat},(∀i,i<n->∀u∈C i,u.oneCell'=true)->∀u∈crow C n,u.oneCell'=true
 | 0,_,u,hu=>by cases hu
 | n + 1, h, u, hu => by
   rw[crow,Ycn]at hu;rcases hu with hu|hu
   ·exact Zop (λi hi=>h i Zo) u hu
   ·exact h n Zo u hu
theorem Zed {w:World} {base:Nat} {p:Option Addr} {n cap sz:Nat} {e:TypeId} {C:Nat->List Value} (hC:∀i,(C i).length=sz) (h:w.ownsRow base e sz (.slice p n cap) n (crow C n)) (hn:n<=1000):RdC w p n cap sz (λi j=>(C i).getD j undef):=by
 obtain⟨hl,h⟩:=h;rcases h with ⟨h1,h0⟩|⟨g',cap',cur,hv,hb,hg,h1,h2,h3,h4⟩
 ·cases h1
  exact⟨Yab _,Zo,λh=>Zo⟩
 ·cases hv
  refine⟨h1,Zo,λ_=>⟨g',0,rfl,Zam hg,λi j hi hj=>?_⟩⟩;have hc:=(Box.mk hg).cell (0+i*sz+j);rw[hc,<-Yaq,Yba];have:=Zgl hC n i j hi hj;have hlt:i*sz+j<n*sz:=by
   have:=Ybd sz (show i+1<=n by omega);rw[Yeb]at this;omega
  rw[<-h4,List.getElem?_take_of_lt hlt]at this;dsimp only;rw[this,Yac,Yao (by rw[hC];exact hj)];rfl
theorem Zaz {w:World} {base:Nat} {p:Option Addr} {n cap sz:Nat} {e:TypeId} {C:Nat->List Value} {f:Nat->Nat->Value} (hC:∀i,(C i).length=sz) (hf:∀i j,i<n->j<sz->(C i).getD j undef=f i j) (h:w.ownsRow base e sz (.slice p n cap) n (crow C n)) (hn:n<=1000):RdC w p n cap sz f:=by
 obtain⟨h1,h2,h3⟩:=Zed hC h hn;refine⟨h1,h2,λh0=>?_⟩;obtain⟨b,off,hp,hb,hc⟩:=h3 h0;exact⟨b,off,hp,hb,λi j hi hj=>by
  rw[hc i j hi hj];exact congrArg some (hf i j hi hj)⟩
theorem Ziv {w:World} {base n size:Nat} {v:Value} {e:TypeId} {vals:List Value} (h:w.ownsRow base e size v n vals):∃p c,v=.slice p n c∧(p=none->n=0∧c=0):=by
 obtain⟨hl,h⟩:=h;rcases h with ⟨h1,h0⟩|⟨g,cap,cur,hv,_⟩
 ·exact⟨none,0,by rw[h1,h0],λ_=>⟨h0,rfl⟩⟩
 ·exact⟨_,_,hv,λh=>by cases h⟩
theorem Zvu {w:World} {b:Addr} {m c sz:Nat} {H:Nat->List Value} (hH:∀i,(H i).length=sz) (h:RdC w (some b) m c sz (λi j=>(H i).getD j undef)) (hsz:0<sz):∀j u,(crow H m)[j]? = some u->w.cell? (b.add j)=some u:=by
 intro j u hj;have hl:j<(crow H m).length:=(Yan.1 hj).1;rw[Zbl hH]at hl;have hm:0<m:=Yck λe=>by rw[e,Yez]at hl;omega
 obtain⟨b',off,hp,hb,hc⟩:=h.2.2 hm;cases hp;have hd:j/sz<m:=Nat.div_lt_of_lt_mul (by rw[Ycu];exact hl);have hr:j%sz<sz:=Nat.mod_lt _ hsz;have h1:=hc (j/sz) (j%sz) hd hr;have h2:=Zgl hH m (j/sz) (j%sz) hd hr;rw[show j/sz*sz+j%sz=j by rw[Ycu];exact Nat.div_add_mod j sz]at h2;rw[h2]at hj;have h3:(H (j/sz)).getD (j%sz) undef=u:=by rw[Yac,hj];rfl
 dsimp only at h1;rw[h3]at h1;rw[Addr.add_lit,<-h1];congr 2
 have:=Nat.div_add_mod j sz;rw[Ycu]at this;omega
theorem Zs7 {P:Program} {ts te:TypeId} {i:TypeInfo} {z:Value} {sz bytes:Nat} (h1:P.underlying ts=some (.slice te)) (h2:P.info? te=some i) (h3:i.zero=some z) (h4:i.size=sz) (h5:i.bytes=bytes) (h6:z.cells.size=sz) (h7:0<sz)
  (ty:TypeId) {V:World} {base:Nat} {v:Value} {n:Nat} {C:Nat->List Value} (hown:V.ownsRow base te sz v n (crow C n)) {q:Option Addr} {m c:Nat} {H:Nat->List Value} (hH:∀i,(H i).length=sz) (hH1:∀i,i<m->∀u∈H i,u.oneCell'=true)
  (hq:RdC V q m c sz (λi j=>(H i).getD j undef)) (hnil:q=none->m=0∧c=0) (hbase:base<=V.heap.size) (hnm:n+m<=1000) (hby:(n+m)*bytes<=140737488355328) :
  ∃p' c' W,(Builtin.append_ #[ts,ts] ty #[v,.slice q m c]).run P V=.ok (.slice p' (n+m) c') W∧W.ownsRow base te sz (.slice p' (n+m) c') (n+m) (crow (ccat C n H) (n+m))∧V.grownBy W v.ownBlock∧(p'=none->n+m=0∧c'=0):=by
 have hf:=Zoo C H n m;cases q with
 | none =>
   obtain⟨rfl,rfl⟩:=hnil rfl;have hrun:=run_append_owned_none (P:=P) (w:=V) base ts ty te i sz h1 h2 v n _ hown;obtain⟨p',c',rfl,hn⟩:=Ziv hown;refine⟨p',c',V,hrun,?_,⟨rfl,rfl,rfl,Yab _,λ_ _ _=>rfl⟩,hn⟩;rw[<-hf];simpa[crow]using hown
 | some b =>
   obtain⟨v',W,hr,g1,g2,_⟩:=run_append_own (P:=P) V base ts ty te i z sz bytes h1 h2 h3 h4 h5 h6 h7 v n _ hown b m c (crow H m) (Zbl hH m) (Zvu hH hq h7) (Zop hH1) (by simp[maxLen];omega) hby hbase;obtain⟨p',c',rfl,hn⟩:=Ziv g1;rw[hf]at g1;exact⟨p',c',W,hr,g1,g2,hn⟩
theorem Zbt {P:Program} {w w':World} {o:Oper} {a:Act} {v':Value} (s x:Operand) (t tn:TypeId) (ho:o.op=.call {callee:=.builtin .append,args:=#[s,x],argTypes:=#[t,tn]}) (vs vx:Value) (hs:a.eval s=vs) (hx:a.eval x=vx)
  (hr:(Builtin.append_ #[t,tn] o.type #[vs,vx]).run P w=.ok v' w'):(execOp a.eval o).run P w=.ok (.value v') w':=by
 unfold execOp;simp only[ho,resolve,invoke,builtin,Yar,Yau,Yag,Yev,Ybz,Yfp,hs,hx,hr]
theorem Zlx {P:Program} {ops:Array Oper} {Q:Exit->Act->World->Prop} {o:Oper} {rest:List Oper} {a:Act} {w w':World} {v:Value} (hg:o.guard=none) (hx:(execOp a.eval o).run P w=.ok (.value v) w') (h:wpList P ops Q rest (a.put o.dst v) w'):wpList P ops Q (o::rest) a w:=by
 refine wpList_plain hg λK hK=>?_;unfold Oper.wp;rw[hx,Oper.upon_value];exact hK _ _ h
theorem Zcu {w:World} {T:TypeId} {B n sz base:Nat} {cs:Array Value} {C:Nat->List Value} (b:Box w B T cs) (hb:base<=B) (hn:n<=1000) (hC:∀i,(C i).length=sz) (hcs:cs.toList=crow C n):w.ownsRow base T sz (.slice (some ⟨B,0,none⟩) n n) n (crow C n):=by
 have hl:=Zbl hC n;refine⟨hl,.inr ⟨B,n,cs,rfl,hb,b.blk,Yab _,by simp[maxLen];omega,?_,?_⟩⟩
 ·rw[<-Yaz,hcs,hl]
 ·rw[hcs,Ycm Zo]
theorem Zdt {P:Program} {ts te:TypeId} {i:TypeInfo} {z:Value} {sz:Nat} (h1:P.underlying ts=some (.slice te)) (h2:P.info? te=some i) (h3:i.zero=some z) (h4:i.size=sz) (h7:0<sz) (h8:sz<=1000) (A:Array Value) (hA:A.size=sz) (w:World) :
  (Instr.buildSlice ts 1 #[(0,.agg A)]).run P w=.ok (.slice (some ⟨w.heap.size,0,none⟩) 1 1) (w.alloc (.cells A te)):=by
 subst h4;refine Go.run_buildSlice w ts te 1 _ A i z h1 h2 h3 Zo Zo ?_;have:=Go.Great.fill_whole (s:=i.size) h7 [.agg A] ((Array.range (1*i.size)).map (z.cells[· % z.cells.size]!)) (λv hv=>by obtain rfl:=Ycd.1 hv;exact hA) Zs;simpa[List.zipIdx,Value.cells]using this
theorem Za0 {P:Program} {ops:Array Oper} {Q:Exit->Act->World->Prop} {op:Oper} {rest:List Oper} {a:Act} {w:World} (T:TypeId) (m:Nat) (parts:Array (Nat×Operand)) (hg:op.guard=none) (ho:op.op=.buildSlice T m parts) {ps:Array (Nat×Value)} (hp:parts.map (λ(i,x)=>(i,a.eval x))=ps) {E:TypeId} {zs:Array Value} {n c:Nat}
  (hrun:∀w,(Instr.buildSlice T m ps).run P w=.ok (.slice (some ⟨w.heap.size,0,none⟩) n c) (w.alloc (.cells zs E)))
  (h:∀V B,w.heap.size<=B->Below w.heap.size w V->Box V B E zs->wpList P ops Q rest (a.put op.dst (.slice (some ⟨B,0,none⟩) n c)) V):wpList P ops Q (op::rest) a w:=
 wpList_step λK hK=>by
  have hw:Region.wanted op (yielded ops a.tmps)=true:=by simp[Region.wanted,hg]
  simp only[hw,if_true];unfold Oper.wp execOp;simp only[ho,hp,Yar,hrun,Yag,Yau];exact hK _ _ (h _ _ (Yab _) ((Yae _ _).alloc (Yab _) _) (Box.new _ _ _))
def cupd (C:Nat->List Value) (i:Nat) (t:List Value) (k:Nat):List Value:=if k=i then t else C k
theorem Zoq {C:Nat->List Value} {sz i:Nat} {t:List Value} (hC:∀k,(C k).length=sz) (ht:t.length=sz):∀n,i<n->(crow C n).take (i*sz)++t++(crow C n).drop (i*sz+sz)=crow (cupd C i t) n
 | 0,h=>Zo
 | n + 1, h => by
   have hl:=Zbl hC n;have hv:=hC n;by_cases e:i=n
   ·subst e
    show(crow C i++C i).take (i*sz)++t++(crow C i++C i).drop (i*sz+sz)=crow (cupd C i t) i++cupd C i t i;rw[List.take_left' hl,Yfi (by rw[Yay,hl,hv];exact Yab _),Ydg];rw[Zas (C:=C) (D:=cupd C i t) (λk hk=>by unfold cupd;rw[if_neg (show ¬k=i by omega)])];simp[cupd]
   ·have ih:=Zoq (i:=i) hC ht n Zo
    have h1:i*sz+sz<=n*sz:=by
     have:=Ybd sz (show i+1<=n by omega);rw[Yeb]at this;exact this
    show(crow C n++C n).take (i*sz)++t++(crow C n++C n).drop (i*sz+sz)=crow (cupd C i t) n++cupd C i t n;rw[Yfr (show i*sz<=(crow C n).length by omega),List.drop_append_of_le_length (show i*sz+sz<=(crow C n).length by omega),<-Ybx,ih];congr 1
    unfold cupd;rw[if_neg (show ¬n=i by omega)]
theorem Zhk {W W':World} {base g n cap sz i:Nat} {e:TypeId} {C:Nat->List Value} {t:List Value} {cur new:Array Value} (hC:∀k,(C k).length=sz) (ht:t.length=sz) (h:W.ownsRow base e sz (.slice (some ⟨g,0,none⟩) n cap) n (crow C n)) (b:Box W g e cur) (hi:i<n)
  (hnew:cur.toList.take (i*sz)++t++cur.toList.drop (i*sz+sz)=new.toList) (b':Box W' g e new):W'.ownsRow base e sz (.slice (some ⟨g,0,none⟩) n cap) n (crow (cupd C i t) n):=by
 obtain⟨hl,h⟩:=h;rcases h with ⟨h1,h0⟩|⟨g',cap',cur',hv,hb,hg,h1,h2,h3,h4⟩
 ·cases h1
 ·cases hv
  have hc:cur'=cur:=by
   have:=hg.symm.trans b.blk;simpa using this
  subst hc;have hlen:(i*sz+sz)<=n*sz:=by
   have:=Ybd sz (show i+1<=n by omega);rw[Yeb]at this;exact this
  have hcl:cur'.toList.length=cap*sz:=by rw[Yaz];exact h3
  have hcn:n*sz<=cap*sz:=Ybd sz h1;have hC':∀k,(cupd C i t k).length=sz:=λk=>by unfold cupd;split;exact ht;exact hC k
  refine⟨Zbl hC' n,.inr ⟨g,cap,new,rfl,hb,b'.blk,h1,h2,?_,?_⟩⟩
  ·rw[<-Yaz,<-hnew,Yay,Yay,Ycq,Yfs,hcl,ht]
   omega
  ·rw[<-hnew,<-Zoq hC ht n hi,<-h4]
   have hl1:(cur'.toList.take (i*sz)).length=i*sz:=by rw[Ycq,hcl];omega
   rw[List.take_append,Ycm (by rw[Yay,hl1,ht];exact hlen),Yay,hl1,ht,List.take_take,List.drop_take,Nat.min_eq_left Zo]
theorem Zan {P:Program} {ops:Array Oper} {Q:Exit->Act->World->Prop} {o:Oper} {rest:List Oper} {a:Act} {V:World} (hg:o.guard=none) (s x:Operand) {ts te:TypeId} (ho:o.op=.call {callee:=.builtin .append,args:=#[s,x],argTypes:=#[ts,ts]})
  {i:TypeInfo} {z:Value} {sz bytes:Nat} (h1:P.underlying ts=some (.slice te)) (h2:P.info? te=some i) (h3:i.zero=some z) (h4:i.size=sz) (h5:i.bytes=bytes) (h6:z.cells.size=sz) (h7:0<sz)
  {base:Nat} {v:Value} {n:Nat} {C:Nat->List Value} (hs:a.eval s=v) {q:Option Addr} {m c:Nat} (hx:a.eval x=.slice q m c) (hown:V.ownsRow base te sz v n (crow C n)) {H:Nat->List Value} (hH:∀i,(H i).length=sz) (hH1:∀i,i<m->∀u∈H i,u.oneCell'=true)
  (hq:RdC V q m c sz (λi j=>(H i).getD j undef)) (hnil:q=none->m=0∧c=0) (hbase:base<=V.heap.size) (hnm:n+m<=1000) (hby:(n+m)*bytes<=140737488355328)
  (hK:∀p' c' W,W.ownsRow base te sz (.slice p' (n+m) c') (n+m) (crow (ccat C n H) (n+m))->V.grownBy W v.ownBlock->(p'=none->n+m=0∧c'=0)->wpList P ops Q rest (a.put o.dst (.slice p' (n+m) c')) W) :
  wpList P ops Q (o::rest) a V:=by
 obtain⟨p',c',W,hr,g1,g2,g3⟩:=Zs7 (P:=P) h1 h2 h3 h4 h5 h6 h7 o.type hown hH hH1 hq hnil hbase hnm hby;exact Zlx hg (Zbt s x ts ts ho v (.slice q m c) hs hx hr) (hK p' c' W g1 g2 g3)
end
abbrev Chg:=Nat×Int×Int
def withS (l:List Srf) (c:Chg):Option (List Srf):=
 match l[c.1]? with
 | none=>none
 | some s=>if c.2.1=9∧c.1+1=l.length then none else(setS s c.2.1 c.2.2).map λt=>l.set c.1 t
def dupS (cs:List Chg) (n:Nat):Prop:=∃k,k<n∧(cs.getD k (0,0,0)).1=(cs.getD n (0,0,0)).1∧(cs.getD k (0,0,0)).2.1=(cs.getD n (0,0,0)).2.1
noncomputable def madeN (l:List Srf) (cs:List Chg):Nat->Option (List Srf)
 | 0=>some l
 | n+1=>open Classical in (madeN l cs n).bind λm=>if dupS cs n then none else withS m (cs.getD n (0,0,0))
noncomputable def madeS (l:List Srf) (cs:List Chg):Option (List Srf):=madeN l cs cs.length
theorem Zfp {l:List Srf} {cs:List Chg}:∀{n m:Nat},n<=m->madeN l cs n=none->madeN l cs m=none
 | n, 0, h, e => by obtain rfl : n = 0 := by omega
                    exact e
 | n, m + 1, h, e => by
   rcases Ydu n (m+1) with h1|h1
   ·unfold madeN
    rw[Zfp (by omega:n<=m) e];rfl
   ·obtain rfl:n=m+1:=by omega
    exact e
structure KeptL (l m:List Srf):Prop where
 len:m.length=l.length
 ok:∀s∈m,s.ok
 all:∀i s,l[i]? = some s->∃t,m[i]? = some t∧t.kind=s.kind∧t.glass=s.glass∧t.order=s.order∧t.co=s.co∧(i+1=l.length->t.thick=s.thick)
theorem KeptL.refl {l:List Srf} (h:∀s∈l,s.ok):KeptL l l:=⟨rfl,h,λi s hs=>⟨s,hs,rfl,rfl,rfl,rfl,λ_=>rfl⟩⟩
theorem KeptL.with {l m n:List Srf} {c:Chg} (h:KeptL l m) (hv:In 32768000 c.2.2) (e:withS m c=some n):KeptL l n:=by
 unfold withS at e;split at e
 ·cases e
 ·rename_i s hs
  split at e
  ·cases e
  ·rename_i hc
   obtain⟨t,ht,rfl⟩:=Yad.1 e;have hlt:c.1<m.length:=(Yan.1 hs).1;have hsm:s∈m:=Ych hs;obtain⟨⟨h1,h2,h3,h4,h5⟩,h6⟩:=Zx5 (h.ok s hsm) hv ht;refine⟨by rw[List.length_set,h.len],λu hu=>?_,λi u hu=>?_⟩
   ·rcases Ygf hu with hu|rfl
    ·exact h.ok u hu
    ·exact h1
   ·obtain⟨t',ht',g1,g2,g3,g4,g5⟩:=h.all i u hu
    by_cases hi:c.1=i
    ·subst hi
     obtain rfl:t'=s:=by rw[hs]at ht';exact(Yej ht').symm
     refine⟨t,by rw[List.getElem?_set_self hlt],by rw[h2,g1],by rw[h3,g2],by rw[h4,g3],by rw[h5,g4],λhl=>?_⟩;rw[h6 λh9=>hc ⟨h9,by rw[h.len];exact hl⟩,g5 hl]
    ·exact⟨t',by rw[List.getElem?_set_ne hi];exact ht',g1,g2,g3,g4,g5⟩
theorem Zfq {l:List Srf} (hl:∀s∈l,s.ok) {cs:List Chg} (hv:∀i,i<cs.length->In 32768000 (cs.getD i (0,0,0)).2.2):∀{n:Nat} {m:List Srf},n<=cs.length->madeN l cs n=some m->KeptL l m
 | 0, m, _, e => by
   cases e;exact KeptL.refl hl
 | n + 1, m, hn, e => by
   unfold madeN at e;obtain⟨k,hk,e⟩:=Ybg.1 e;split at e
   ·cases e
   ·exact(Zfq hl hv Zo hk).with (hv n Zo) e
theorem Ziw {l:List Srf} (hl:∀s∈l,s.ok) {cs:List Chg} (hv:∀i,i<cs.length->In 32768000 (cs.getD i (0,0,0)).2.2) {m:List Srf} (e:madeS l cs=some m):KeptL l m:=
 Zfq hl hv (Yab _) e
noncomputable def dConf (l:List Srf):List Chg->List Chg->List Chg
 | done,[]=>done
 | done,c::r=>open Classical in if(madeS l (done++[c])).isSome then dConf l (done++[c]) r else dConf l done r
end Go.Mono
namespace Go.Proofs.W
open Go.RowKit Go.Mono
section
open Go.Ex
variable {K:Nat->Value} {hK:∀i,(K i).oneCell'=true}
def Side.over (S:Side) (a b:Rat):Option (List Prop):=
 match S.pos b,S.fit (a/b) with
 | some L,some M=>some (L++M)
 | _,_=>none
def cR4Div (S:Side) (w0:World) (X:Nat->Prop):Ctr (qDen K hK) Tryz.prog w0 X:=binSpec S.cl w0 X 279 (λa b=>a/b) (Side.over S) λa b u v L w hs hL h1 h2=>by
 unfold Side.over at hs;split at hs
 ·rename_i L1 L2 e1 e2
  cases hs;exact(Zv5 w h1.qt h2.qt (S.hpos _ _ e1 λp hp=>hL p (Ycy _ hp)) (S.hfit _ _ e2 λp hp=>hL p (Ydv _ hp))).mono λe w' ⟨C,e1,hC,hb⟩=>⟨_,e1,hC.qv,hb⟩
 ·cases hs
end
end Go.Proofs.W
namespace Go.Mono
structure LD where
 surfs:List SD
 stop:Int
 far:Int
 pupil:Int
 fields:List Int
 waves:List Int
 primary:Int
 image:Int
 configs:List (List (Int×Int×Int))
structure LD.ok (d:LD):Prop where
 surfs:∀s∈d.surfs,s.ok
 stop:U8 d.stop
 far:U16 d.far
 pupil:U8 d.pupil
 fields:∀z∈d.fields,U8 z
 waves:∀z∈d.waves,U8 z
 primary:U8 d.primary
 image:R16 d.image
 configs:∀l∈d.configs,∀c∈l,U8 c.1∧U8 c.2.1∧R16 c.2.2
def LD.farM (d:LD):Int:=100000*(d.far%10001)
def LD.fieldM (d:LD) (n:Int):Int×Int:=if 0<d.farM then(500000*(n/16),-500000*(n%16)) else(10000*(n/16),10000*(n%16))
def LD.fieldsM (d:LD):Nat->List (Int×Int)
 | 0=>[(0,0)]
 | k+1=>if d.fieldM (d.fields.getD k 0)∈d.fieldsM k then d.fieldsM k else d.fieldsM k++[d.fieldM (d.fields.getD k 0)]
def LD.waveL (d:LD):Nat->Int
 | 0=>400000
 | k+1=>d.waveL k+200*d.waves.getD k 0+1000
def LD.nw (d:LD):Nat:=if d.waves=[] then 1 else min d.waves.length 5
def LD.lenW (d:LD) (i:Nat):Int:=if d.waves=[] then 550000 else d.waveL (i+1)
def LD.wgtW (d:LD) (i:Nat):Int:=if d.waves=[] then 1 else 1+d.waves.getD i 0%5
def stdS (thick:Int):Srf:=
 {kind:=1,curv:=0,conic:=0,curvx:=0,conicx:=0,a0:=0,a1:=0,a2:=0,a3:=0,p0:=0,p1:=0,order:=0,thick:=thick,glass:=nmNone,semi:=0,hole:=0,dx:=0,dy:=0,ax:=0,ay:=0,az:=0}
def imgS (curv:Int):Srf:={stdS 0 with curv:=curv}
def LD.raw (d:LD):List Srf:=if d.surfs=[] then[stdS 10000000] else(d.surfs.take 5).map SD.srf
def LD.st (d:LD):Nat:=(d.stop%(d.raw.length:Int)).toNat
def LD.front (d:LD):List Srf:=if(d.raw.getD d.st (stdS 0)).kind=3 then d.raw.set d.st (stdS (d.raw.getD d.st (stdS 0)).thick) else d.raw
def LD.srfs (d:LD):List Srf:=d.front++[imgS (1000*d.image)]
def LD.chg (d:LD) (c:Int×Int×Int):Chg:=((c.1%(d.srfs.length:Int)).toNat,1+c.2.1%17,1000*c.2.2)
noncomputable def LD.conf (d:LD) (l:List (Int×Int×Int)):List Chg:=dConf d.srfs [] ((l.take 4).map d.chg)
theorem Znd {t:Int} (h:In 1000000000 t):(stdS t).ok:=by
 have z0:∀m:Int,0<=m->In m 0:=λm hm=>⟨Zo,hm⟩
 exact {k1:=(by decide:(1:Int)<=1),k2:=(by decide:(1:Int)<=4),kept:=by simp[Srf.kept,stdS,nmNone],curv:=z0 _ Zd,curvx:=z0 _ Zd,thick:=h,dx:=z0 _ Zd,dy:=z0 _ Zd,a0:=z0 _ Zd,a1:=z0 _ Zd,a2:=z0 _ Zd,a3:=z0 _ Zd,p0:=z0 _ Zd,p1:=z0 _ Zd,conic:=z0 _ Zd,conicx:=z0 _ Zd,ax:=z0 _ Zd,ay:=z0 _ Zd,az:=z0 _ Zd,order:=z0 _ Zd,semi0:=Yek 0,semi1:=(by decide:(0:Int)<=1000000000),hole0:=Yek 0,hole1:=(by decide:(0:Int)<=1000000000),ring:=.inl rfl,glass:=.inl rfl,coats:=by simp[stdS],films:=by simp[stdS]}
theorem Zya {c:Int} (h:In 1000000000 c):(imgS c).ok:=by
 have hb:=Znd (t:=0) ⟨Zd,Zd⟩;exact {hb with kept:=by simp[Srf.kept,stdS,imgS,nmNone],curv:=h}
theorem LD.raw_ok {d:LD} (h:d.ok):(∀s∈d.raw,s.ok)∧1<=d.raw.length∧d.raw.length<=5:=by
 unfold LD.raw;split
 ·refine⟨λs hs=>?_,Zs,Zs⟩
  obtain rfl:=Ycd.1 hs;exact Znd ⟨Zd,Zd⟩
 ·rename_i hn
  refine⟨λs hs=>?_,?_,?_⟩
  ·obtain⟨x,hx,rfl⟩:=Ydl.1 hs
   exact SD.srf_ok (h.surfs x (Yfu hx))
  ·have:=List.length_pos_iff.2 hn
   simp only[Ybt,Ycq];omega
  ·simp only[Ybt,Ycq];omega
theorem LD.st_lt {d:LD} (h:d.ok):d.st<d.raw.length:=by
 have h1:=(LD.raw_ok h).2.1;unfold LD.st;have h2:=Ybu d.stop (show(0:Int)<d.raw.length by omega);have h3:=Ycc d.stop (show(d.raw.length:Int)≠0 by omega);omega
theorem LD.front_ok {d:LD} (h:d.ok):(∀s∈d.front,s.ok)∧d.front.length=d.raw.length∧(d.front.getD d.st (stdS 0)).kind≠3:=by
 have hr:=LD.raw_ok h;have hs:=LD.st_lt h;unfold LD.front;split
 ·refine⟨λs hs'=>?_,Zs,?_⟩
  ·rcases Ygf hs' with hs'|rfl
   ·exact hr.1 s hs'
   ·refine Znd (hr.1 _ ?_).thick
    rw[Yac,Yao hs];exact Ybw hs
  ·rw[Yac,List.getElem?_set_self hs]
   show(1:Int)≠3;decide
 ·rename_i hk
  exact⟨hr.1,rfl,hk⟩
theorem LD.srfs_ok {d:LD} (h:d.ok):(∀s∈d.srfs,s.ok)∧d.srfs.length=d.raw.length+1∧d.srfs[d.raw.length]? = some (imgS (1000*d.image))∧∃s,d.srfs[d.st]? = some s∧s.kind≠3:=by
 obtain⟨h1,h2,h3⟩:=LD.front_ok h;have hs:=LD.st_lt h;unfold LD.srfs;refine⟨λs hs'=>?_,by simp[h2],?_,?_⟩
 ·rcases Ycn.1 hs' with hs'|hs'
  ·exact h1 s hs'
  ·obtain rfl:=Ycd.1 hs'
   obtain⟨i1,i2⟩:=h.image;exact Zya ⟨Zo,Zo⟩
 ·rw[Ybc Zo,h2,Ydt]
  rfl
 ·rw[Ybb Zo]
  refine⟨_,Yao Zo,?_⟩;rw[Yac,Yao Zo]at h3;exact h3
end Go.Mono
namespace Go.Proofs.W
open Go.RowKit Go.Mono
theorem Zhj (s:ByteArray) (hs:NameOk s) (w:World) :
  Calls Tryz.prog 173 #[.string s] w λe w'=>e=.returned (.bool true)∧w'=w:=by
 obtain⟨h0,h1,hl⟩:=hs;go_enter Tryz.func173,Tryz.ntmps173
 go_wp2
 go_loopw [3] (λx wr=>∃k:Nat,k<=s.size∧x=.int .i64 (k:Int)∧wr=w) (λx _=>(s.size-intOf x).toNat)
 case atStart=>exact⟨0,Yat _,rfl,rfl⟩
 case round=>
  obtain⟨k,hk,rfl,rfl⟩:=hrel;by_cases hks:k<s.size
  ·have hlk:=hl k hks
   have h0':(k:Int)<s.size:=Zo;have hg:s.data[k]? = some s[k]:=by
    rw[Yby (by exact hks)];rfl
   clear hl;generalize hz:(s[k].toNat:Int)=z at *;rcases hlk with ⟨h1,h2⟩|⟨h1,h2⟩|⟨h1,h2⟩|h1|h1
   ·go_wp2
    go_roundw
    case rel=>refine⟨k+1,Zo,?_⟩;simp
    case measure=>simp[intOf];omega
   ·have h3:65<=z:=by omega
    have h4:¬(z<=90):=Zo;go_wp2
    go_roundw
    case rel=>refine⟨k+1,Zo,?_⟩;simp
    case measure=>simp[intOf];omega
   ·have h3:¬(65<=z):=by omega
    have h4:¬(97<=z):=Zo;go_wp2
    go_roundw
    case rel=>refine⟨k+1,Zo,?_⟩;simp
    case measure=>simp[intOf];omega
   ·subst h1
    go_wp2
    go_roundw
    case rel=>refine⟨k+1,Zo,?_⟩;simp
    case measure=>simp[intOf];omega
   ·subst h1
    go_wp2
    go_roundw
    case rel=>refine⟨k+1,Zo,?_⟩;simp
    case measure=>simp[intOf];omega
  ·obtain rfl:k=s.size:=by omega
   have h0':(1:Int)<=s.size:=Zo;have h1':(s.size:Int)<=16:=Zo;go_wp2
   go_ret
   exact⟨rfl,rfl⟩
theorem Zs6 (f:Flm) (hf:f.ok) (w:World) :
  Calls Tryz.prog 248 #[.agg f.vals] w λe w'=>e=.returned (.bool true)∧Below w.heap.size w w':=by
 obtain⟨h1,h2,h3,h4,h5,h6⟩:=hf;unfold Flm.vals;go_enter Tryz.func248,Tryz.ntmps248
 go_wp2
 go_ret
 exact⟨rfl,Zad (Yae _ _) _⟩
end Go.Proofs.W
namespace Go.Mono
theorem Zfr {l:List Srf}:∀(r done:List Chg),madeS l done≠none->madeS l (dConf l done r)≠none
 | [],done,h=>by unfold dConf;exact h
 | c :: r, done, h => by
   unfold dConf;split
   ·rename_i hs
    exact Zfr r _ λe=>by rw[e]at hs;cases hs
   ·exact Zfr r _ h
theorem Ze5 {l:List Srf}:∀(r done:List Chg),(dConf l done r).length<=done.length+r.length
 | [],done=>by unfold dConf;simp
 | c :: r, done => by
   unfold dConf;split
   ·have:=Ze5 (l:=l) r (done++[c])
    simp only[Yay,Ybm,Ydf]at this ⊢;omega
   ·have:=Ze5 (l:=l) r done
    simp only[Ybm];omega
theorem Ze6 {l:List Srf}:∀(r done:List Chg) (x:Chg),x∈dConf l done r->x∈done∨x∈r
 | [],done,x,h=>by unfold dConf at h;exact .inl h
 | c :: r, done, x, h => by
   unfold dConf at h;split at h
   ·rcases Ze6 r _ x h with h|h
    ·rcases Ycn.1 h with h|h
     ·exact .inl h
     ·exact .inr (by rw[Ycd.1 h];exact Ycl ..)
    ·exact .inr (Ybs _ h)
   ·rcases Ze6 r _ x h with h|h
    ·exact .inl h
    ·exact .inr (Ybs _ h)
theorem LD.fieldM_in {d:LD} {z:Int} (hz:U8 z):In (if d.farM=0 then 1000000 else 1000000000) (d.fieldM z).1∧In (if d.farM=0 then 1000000 else 1000000000) (d.fieldM z).2:=by
 obtain⟨h0,h1⟩:=hz;unfold LD.fieldM;by_cases h:d.farM=0
 ·rw[if_pos h,if_neg Zo]
  exact⟨⟨by dsimp only;omega,by dsimp only;omega⟩,⟨by dsimp only;omega,by dsimp only;omega⟩⟩
 ·rw[if_neg h]
  split
  ·exact⟨⟨by dsimp only;omega,by dsimp only;omega⟩,⟨by dsimp only;omega,by dsimp only;omega⟩⟩
  ·exact⟨⟨by dsimp only;omega,by dsimp only;omega⟩,⟨by dsimp only;omega,by dsimp only;omega⟩⟩
theorem LD.fieldsM_in {d:LD} (hu:∀z∈d.fields,U8 z):∀k,k<=d.fields.length->∀f∈d.fieldsM k,In (if d.farM=0 then 1000000 else 1000000000) f.1∧In (if d.farM=0 then 1000000 else 1000000000) f.2
 | 0, _, f, hf => by
   obtain rfl:=Ycd.1 hf;have:(0:Int)<=if d.farM=0 then 1000000 else 1000000000:=by split<;>decide
   exact⟨⟨by dsimp only;omega,by dsimp only;omega⟩,⟨by dsimp only;omega,by dsimp only;omega⟩⟩
 | k + 1, hk, f, hf => by
   unfold LD.fieldsM at hf;split at hf
   ·exact LD.fieldsM_in hu k Zo f hf
   ·rcases Ycn.1 hf with hf|hf
    ·exact LD.fieldsM_in hu k Zo f hf
    ·rw[Ycd.1 hf]
     exact LD.fieldM_in (hu _ (by rw[Yac,Yao Zo];exact Ybw Zo))
theorem LD.fieldsM_nodup {d:LD}:∀k,(d.fieldsM k).Nodup
 | 0=>by simp[LD.fieldsM]
 | k + 1 => by
   unfold LD.fieldsM;split
   ·exact LD.fieldsM_nodup k
   ·rename_i h
    rw[List.nodup_append];exact⟨LD.fieldsM_nodup k,Zs,λa ha b hb e=>h (by rw[<-Ycd.1 hb,<-e];exact ha)⟩
end Go.Mono
namespace Go.Proofs.W
open Go.RowKit Go.Mono
theorem Zto {v1:Value} {a:Rat} (w:World) (h1:QtV 600 w v1 a) :
  Calls Tryz.prog 225 #[v1] w λe w'=>e=.returned (.tuple #[.int .i64 a.num.sign,.int .i64 0])∧Below w.heap.size w w':=by
 have hr1:=λ(X:World) (hX:Ext w X)=>Zb4 X (h1.ext hX);obtain⟨s1,p1,n1,c1,t1,q1,m1,d1,rfl,x1,x2⟩:=h1;go_enter Tryz.func225,Tryz.ntmps225
 go_wp2_with fail
 refine Zbz λW hB hs b0=>?_;refine(hr1 W (.of_below hB)).mono ?_;rintro e W2 ⟨rfl,hb⟩;replace b0:=b0.below hb;replace hB:=Zaa hB hb;clear hb hr1 hs;go_wp2_with fail
 refine wp_region_held_drew (S:=λw'=>(∀b o,b<W2.heap.size->w'.cell? ⟨b,o,none⟩=W2.cell? ⟨b,o,none⟩)∧Below W2.heap.size W2 w') Zx (Za2 (Yae _ _).drew) (λhHeld=>?_);have hBel:Below W2.heap.size W2 W2.drew:=(Yae _ _).drew;have hpre:∀w',Below W2.heap.size W2 w'->w'.rangeAt w.heap.size 0 (#[Value.bool s1,Value.slice p1 n1 c1]:Array Value).toList:=λw' h j v hj=>by
  have hc:=(b0.below h).cell (0+j);match j,hj with
  | 0,hj=>cases hj;exact hc
  | 1,hj=>cases hj;exact hc
  | j+2,hj=>simp at hj
 refine tk 0 (some 7) ?_;refine tl 1 (some 8) rfl (.agg #[.bool s1,.slice p1 n1 c1]) (Zaj 45 _ rfl w.heap.size 0 rfl #[.bool s1,.slice p1 n1 c1] (λw' h=>hpre w' h.2) _ Tryz.underlying45 rfl Zae) ?_;refine Mono.stc 2 (some 9) (Zea 0 _ Zd Zd) (λe Wn2 hR=>?_);obtain⟨V2,rfl,R2,hb2⟩:=hR;replace hBel:=Zaa hBel hb2;refine⟨Za2 (Zaa hHeld.2 hb2),λhHeld=>Mono.pt ?_⟩;refine Mono.stc 3 (some 10) (Zft _ (x1.ext ((Ext.of_below hB).trans (.of_below hBel))) R2) (λe Wn3 hR=>?_);obtain⟨rfl,hb3⟩:=hR;replace hBel:=Zaa hBel hb3;refine⟨Za2 (Zaa hHeld.2 hb3),λhHeld=>Mono.pt ?_⟩;refine tk 4 (some 2) ?_;refine tk 5 (some 3) ?_;refine wpAnyH_done Zx ?_ _;go_wp2
 go_ret2
 exact⟨Zs,Zaa hB hBel⟩
end Go.Proofs.W
