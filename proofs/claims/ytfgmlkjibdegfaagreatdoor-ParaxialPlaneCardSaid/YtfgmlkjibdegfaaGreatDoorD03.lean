/- The drafted optics of chapter 13: what it is and that it is valid. Part 3 of 19. No condition beside the row. -/
import Derived.LaidOnce
import Derived.LaidMore
import Derived.ProofKit
import Derived.Stop.Joined
import Derived.Deep.Slices
import Derived.Deep.Strs
import Derived.OpenShut
import Derived.Carry
import Derived.SizedLaws
import Derived.Test.YtfgmlkjibdegfaaGreatDoorA05
import Derived.Test.YtfgmlkjibdegfaaGreatDoorA09
import Derived.Test.YtfgmlkjibdegfaaGreatDoorA15
import Derived.Test.YtfgmlkjibdegfaaGreatDoorA25
import Derived.Test.YtfgmlkjibdegfaaGreatDoorD01
import Derived.Test.YtfgmlkjibdegfaaGreatDoorD02
set_option linter.unusedVariables false
set_option linter.unusedSimpArgs false
set_option maxRecDepth 100000
set_option maxHeartbeats 4000000
namespace Go.Mono
open Go.RowKit

end Go.Mono
namespace Go.Proofs.W
open Go.RowKit Go.Mono
theorem Zfq {m1 m2:Nat} {v1 v2:Value} {z y:Int} (w:World) (h1:LgV m1 w v1 z) (h2:LgV m2 w v2 y) :
  Calls Tryz.prog 201 #[v1,v2] w λe w'=>e=.returned (.int .i64 (z-y).sign)∧Below w.heap.size w w':=by
 have hsame:=λ(W:World) (hW:Below w.heap.size w W)=>Zkj W (h1.below hW) (h2.below hW);obtain⟨p,n,c,f,rfl,s1,d1,e1,_⟩:=h1;obtain⟨q,m,c',g,rfl,s2,d2,e2,_⟩:=h2;by_cases hzy:z=y
 ·subst hzy
  rw[Int.sub_self];rw[decide_eq_true rfl]at hsame;generalize decide (z<0)=s at *;go_enter Tryz.func201,Tryz.ntmps201
  go_wp2_with fail
  refine Zbi λW hB hs b0 b1=>?_;refine(hsame W hB).mono ?_;rintro e W1 ⟨rfl,hb⟩;replace hB:=Zaa hB hb;go_wp2
  go_ret
  exact⟨rfl,hB⟩
 ·rw[decide_eq_false hzy]at hsame
  have hless:=λ(W:World) (hW:Below w.heap.size w W)=>Ze0 p q n m c c' f g W (s1.ext (.of_below hW)) (s2.ext (.of_below hW)) d1 d2;rw[e1,e2]at hless;obtain⟨sg,hsg⟩:∃sg:Bool,decide (z<y)=sg:=⟨_,rfl⟩
  obtain⟨out,hout⟩:∃out:Int,(z-y).sign=out:=⟨_,rfl⟩
  rw[hout];have hres:out=if sg then -1 else 1:=by
   rw[<-hsg,<-hout];by_cases h:z<y
   ·rw[decide_eq_true h,if_pos rfl];exact Yep Zo
   ·rw[decide_eq_false h,if_neg Zs];exact Yeg Zo
  by_cases hst:decide (z<0)=decide (y<0)
  ·have hbel:(decide ((z.natAbs:Int)<y.natAbs) != decide (z<0))=sg:=by
    rw[<-hsg,Ycx,bne_iff_ne,ne_eq,decide_eq_decide,decide_eq_true_eq];have:(z<0↔y<0):=by simpa using hst
    omega
   rw[<-hst]at hsame ⊢;clear hst hsg hout;generalize decide ((z.natAbs:Int)<y.natAbs)=l at *;generalize decide (z<0)=s at *;cases l<;>cases s<;>cases sg
   all_goals try(exact absurd hbel Zd)
   all_goals
    clear hbel;subst hres;simp only[if_true,Ybq,if_false];go_enter Tryz.func201,Tryz.ntmps201
    go_wp2_with fail
    refine Zbi λW hB hs b0 b1=>?_;refine(hsame W hB).mono ?_;rintro e W1 ⟨rfl,hb⟩;replace hB:=Zaa hB hb;replace b0:=b0.below hb;replace b1:=b1.below hb;clear hsame hb;have cb0:=b0.cell;have lb0:=b0.lt;have fb0:=b0.frozen;have cb1:=b1.cell;have lb1:=b1.lt;have fb1:=b1.frozen;go_wp2
    refine wp_region_held_drew (S:=λw'=>(∀i,w'.cell? ⟨w.heap.size,i,none⟩=(#[.bool _,.slice p n c]:Array Value)[i]?)∧(∀i,w'.cell? ⟨w.heap.size+1,i,none⟩=(#[.bool _,.slice q m c']:Array Value)[i]?)∧Below w.heap.size w w') Zx ⟨cb0,cb1,hB.drew⟩ (λhHeld=>?_);generalize hX:W1.drew=X0 at *;refine tkf 0 (some 16) ?_;refine tkf 1 (some 17) ?_;refine tkf 2 (some 18) ?_;refine tkf 3 (some 19) ?_;refine tkf 5 (some 21) ?_;refine tkf 6 (some 22) ?_;refine Mono.stc 4 (some 20) (hless X0 hHeld.2.2) (λe X1 hR=>?_);obtain⟨rfl,k,rfl⟩:=hR;refine⟨(⟨hHeld.1,hHeld.2.1,below_drewN hHeld.2.2 k⟩),λhHeld=>Mono.pt ?_⟩;refine tkf 7 (some 23) ?_;refine tkf 8 (some 5) ?_;refine wpAnyH_done Zx ?_ _;have hB2:=hHeld.2.2;clear hHeld hX cb0 cb1 fb0 fb1 lb0 lb1 b0 b1;go_wp2
    go_ret
    exact⟨rfl,hB2⟩
  ·have hbel:decide (z<0)=sg:=by
    rw[<-hsg,decide_eq_decide];have:¬(z<0↔y<0):=by simpa using hst
    omega
   have hne:(decide (z<0)==decide (y<0))=false:=by simpa using hst
   clear hst hsg hout hless;rw[hbel]at hne hsame ⊢;clear hbel;generalize decide (y<0)=t at *;cases sg;all_goals
    subst hres;simp only[if_true,Ybq,if_false];go_enter Tryz.func201,Tryz.ntmps201
    go_wp2_with fail
    refine Zbi λW hB hs b0 b1=>?_;refine(hsame W hB).mono ?_;rintro e W1 ⟨rfl,hb⟩;replace hB:=Zaa hB hb;replace b0:=b0.below hb;replace b1:=b1.below hb;clear hsame hb;have cb0:=b0.cell;have lb0:=b0.lt;have fb0:=b0.frozen;have cb1:=b1.cell;have lb1:=b1.lt;have fb1:=b1.frozen;go_wp2
    go_ret
    exact⟨rfl,hB⟩
end Go.Proofs.W
namespace Go.Mono
structure Srf.core (s:Srf):Prop where
 k1:1<=s.kind
 k2:s.kind<=4
 kept:s.kept=s
 curv:In 1000000000 s.curv
 curvx:In 1000000000 s.curvx
 thick:In 1000000000 s.thick
 dx:In 1000000000 s.dx
 dy:In 1000000000 s.dy
 a0:In 1000000000 s.a0
 a1:In 1000000000 s.a1
 a2:In 1000000000 s.a2
 a3:In 1000000000 s.a3
 p0:In 1000000000 s.p0
 p1:In 1000000000 s.p1
 conic:In 100000000 s.conic
 conicx:In 100000000 s.conicx
 ax:In 90000000 s.ax
 ay:In 90000000 s.ay
 az:In 90000000 s.az
 order:In 3 s.order
 semi1:s.semi<=1000000000
 hole0:0<=s.hole
 hole1:s.hole<=1000000000
 glass:s.glass = {data:=#[]}∨NameOk s.glass
 coats:s.co.length<=8
 films:∀f∈s.co,f.ok
def Srf.ring (s:Srf):Prop:=0<=s.semi∧(s.semi=0∨s.hole<s.semi)
instance (s:Srf):Decidable s.ring:=by unfold Srf.ring;infer_instance
theorem Srf.ok.core {s:Srf} (h:s.ok):s.core:=
 {k1:=h.k1,k2:=h.k2,kept:=h.kept,curv:=h.curv,curvx:=h.curvx,thick:=h.thick,dx:=h.dx,dy:=h.dy,a0:=h.a0,a1:=h.a1,a2:=h.a2,a3:=h.a3,p0:=h.p0,p1:=h.p1,conic:=h.conic,conicx:=h.conicx,ax:=h.ax,ay:=h.ay,az:=h.az,order:=h.order,semi1:=h.semi1,hole0:=h.hole0,hole1:=h.hole1,glass:=h.glass,coats:=h.coats,films:=h.films}
theorem Srf.ok.toRing {s:Srf} (h:s.ok):s.ring:=⟨h.semi0,h.ring⟩
theorem Srf.core.ok {s:Srf} (h:s.core) (r:s.ring):s.ok:=
 {k1:=h.k1,k2:=h.k2,kept:=h.kept,curv:=h.curv,curvx:=h.curvx,thick:=h.thick,dx:=h.dx,dy:=h.dy,a0:=h.a0,a1:=h.a1,a2:=h.a2,a3:=h.a3,p0:=h.p0,p1:=h.p1,conic:=h.conic,conicx:=h.conicx,ax:=h.ax,ay:=h.ay,az:=h.az,order:=h.order,semi0:=r.1,semi1:=h.semi1,hole0:=h.hole0,hole1:=h.hole1,ring:=r.2,glass:=h.glass,coats:=h.coats,films:=h.films}
def hasS (s:Srf) (p:Int):Bool:=
 decide (p=9) || (if s.kind=1 then decide (p=1) || decide (p=2) || (decide (5<=p)&&decide (p<9)) || decide (p=10) || ((decide (p=16) || decide (p=17))&&decide (s.order≠0))
  else if s.kind=2 then(decide (1<=p)&&decide (p<=4)) || decide (p=10)
  else if s.kind=3 then decide (11<=p)&&decide (p<=15)
  else decide (p=1) || decide (p=10))
def putS (s:Srf) (p v:Int):Srf:=
 if p=1 then {s with curv:=v} else if p=2 then {s with conic:=v} else if p=3 then {s with curvx:=v} else if p=4 then {s with conicx:=v}
 else if p=5 then {s with a0:=v} else if p=6 then {s with a1:=v} else if p=7 then {s with a2:=v} else if p=8 then {s with a3:=v}
 else if p=9 then {s with thick:=v} else if p=10 then {s with semi:=v} else if p=11 then {s with dx:=v} else if p=12 then {s with dy:=v}
 else if p=13 then {s with ax:=v} else if p=14 then {s with ay:=v} else if p=15 then {s with az:=v} else if p=16 then {s with p0:=v} else if p=17 then {s with p1:=v} else s
def setS (s:Srf) (p v:Int):Option Srf:=if hasS s p=true∧(putS s p v).ring then some (putS s p v) else none
theorem Zg6 {s:Srf} {p:Int} (h:hasS s p=true):p=1∨p=2∨p=3∨p=4∨p=5∨p=6∨p=7∨p=8∨p=9∨p=10∨p=11∨p=12∨p=13∨p=14∨p=15∨p=16∨p=17:=by
 unfold hasS at h;simp only[Ybo,Yam,decide_eq_true_eq]at h;rcases h with h|h
 ·omega
 ·split at h
  ·simp only[Ybo,Yam,decide_eq_true_eq]at h;omega
  ·split at h
   ·simp only[Ybo,Yam,decide_eq_true_eq]at h;omega
   ·split at h
    ·simp only[Ybo,Yam,decide_eq_true_eq]at h;omega
    ·simp only[Ybo,Yam,decide_eq_true_eq]at h;omega
theorem Zrl (s:Srf) (p v:Int):(putS s p v).kind=s.kind:=by simp only[putS,apply_ite Srf.kind,ite_self]
theorem Zo1 (s:Srf) (p v:Int):(putS s p v).glass=s.glass:=by simp only[putS,apply_ite Srf.glass,ite_self]
theorem Zo2 (s:Srf) (p v:Int):(putS s p v).order=s.order:=by simp only[putS,apply_ite Srf.order,ite_self]
theorem Zrm (s:Srf) (p v:Int):(putS s p v).co=s.co:=by simp only[putS,apply_ite Srf.co,ite_self]
theorem Zo3 (s:Srf) (p v:Int) (h:p≠9):(putS s p v).thick=s.thick:=by simp only[putS,apply_ite Srf.thick,if_neg h,ite_self]
theorem Zrn {s:Srf} {p v:Int} (hk:s.kept=s) (k1:1<=s.kind) (k2:s.kind<=4) (h:hasS s p=true):(putS s p v).kept=putS s p v:=by
 have hc:=Zg6 h;obtain⟨kind,curv,conic,curvx,conicx,a0,a1,a2,a3,p0,p1,order,thick,glass,semi,hole,dx,dy,ax,ay,az,co⟩:=s;simp only at k1 k2;rcases(by omega:kind=1∨kind=2∨kind=3∨kind=4) with rfl|rfl|rfl|rfl
 ·by_cases ho : order ≠ 0 ∧ glass ≠ mirror
  ·simp[Srf.kept,ho]at hk
   obtain⟨rfl,rfl,rfl,rfl,rfl,rfl,rfl⟩:=hk;obtain⟨ho,hg⟩:=ho;rcases hc with rfl|rfl|rfl|rfl|rfl|rfl|rfl|rfl|rfl|rfl|rfl|rfl|rfl|rfl|rfl|rfl|rfl<;>simp[hasS]at h<;>simp[putS,Srf.kept,ho,hg]
  ·have ho':order≠0->glass=mirror:=λh1=>Classical.byContradiction λh2=>ho ⟨h1,h2⟩
   by_cases h0:order=0
   ·subst h0
    simp[Srf.kept]at hk;obtain⟨rfl,rfl,rfl,rfl,rfl,rfl,rfl,rfl,rfl⟩:=hk;rcases hc with rfl|rfl|rfl|rfl|rfl|rfl|rfl|rfl|rfl|rfl|rfl|rfl|rfl|rfl|rfl|rfl|rfl<;>simp[hasS]at h<;>simp[putS,Srf.kept]
   ·have hg:=ho' h0
    subst hg;simp[Srf.kept,h0]at hk;exact absurd hk.2.2.2.2.1.symm h0
 ·simp[Srf.kept]at hk
  obtain⟨rfl,rfl,rfl,rfl,rfl,rfl,rfl,rfl,rfl,rfl,rfl,rfl⟩:=hk;rcases hc with rfl|rfl|rfl|rfl|rfl|rfl|rfl|rfl|rfl|rfl|rfl|rfl|rfl|rfl|rfl|rfl|rfl<;>simp[hasS]at h<;>simp[putS,Srf.kept]
 ·simp[Srf.kept]at hk
  obtain⟨rfl,rfl,rfl,rfl,rfl,rfl,rfl,rfl,rfl,rfl,rfl,rfl,rfl,rfl,rfl⟩:=hk;rcases hc with rfl|rfl|rfl|rfl|rfl|rfl|rfl|rfl|rfl|rfl|rfl|rfl|rfl|rfl|rfl|rfl|rfl<;>simp[hasS]at h<;>simp[putS,Srf.kept]
 ·simp[Srf.kept]at hk
  obtain⟨rfl,rfl,rfl,rfl,rfl,rfl,rfl,rfl,rfl,rfl,rfl,rfl,rfl,rfl,rfl,rfl,rfl⟩:=hk;rcases hc with rfl|rfl|rfl|rfl|rfl|rfl|rfl|rfl|rfl|rfl|rfl|rfl|rfl|rfl|rfl|rfl|rfl<;>simp[hasS]at h<;>simp[putS,Srf.kept]
theorem Zkq {s:Srf} {p v:Int} (hs:s.ok) (h:hasS s p=true) (hv:In 32768000 v):(putS s p v).core:=by
 have hb:=hs.core;have hk:=Zrn (v:=v) hs.kept hs.k1 hs.k2 h;have i9:In 1000000000 v:=⟨by have:=hv.1;omega,by have:=hv.2;omega⟩
 have i8:In 100000000 v:=⟨by have:=hv.1;omega,by have:=hv.2;omega⟩
 have i7:In 90000000 v:=⟨by have:=hv.1;omega,by have:=hv.2;omega⟩
 rcases Zg6 h with rfl|rfl|rfl|rfl|rfl|rfl|rfl|rfl|rfl|rfl|rfl|rfl|rfl|rfl|rfl|rfl|rfl
 ·exact {hb with kept:=hk,curv:=i9}
 ·exact {hb with kept:=hk,conic:=i8}
 ·exact {hb with kept:=hk,curvx:=i9}
 ·exact {hb with kept:=hk,conicx:=i8}
 ·exact {hb with kept:=hk,a0:=i9}
 ·exact {hb with kept:=hk,a1:=i9}
 ·exact {hb with kept:=hk,a2:=i9}
 ·exact {hb with kept:=hk,a3:=i9}
 ·exact {hb with kept:=hk,thick:=i9}
 ·exact {hb with kept:=hk,semi1:=i9.2}
 ·exact {hb with kept:=hk,dx:=i9}
 ·exact {hb with kept:=hk,dy:=i9}
 ·exact {hb with kept:=hk,ax:=i7}
 ·exact {hb with kept:=hk,ay:=i7}
 ·exact {hb with kept:=hk,az:=i7}
 ·exact {hb with kept:=hk,p0:=i9}
 ·exact {hb with kept:=hk,p1:=i9}
structure SetR (s t:Srf):Prop where
 ok:t.ok
 kind:t.kind=s.kind
 glass:t.glass=s.glass
 order:t.order=s.order
 co:t.co=s.co
theorem Zv4 {s t:Srf} {p v:Int} (hs:s.ok) (hv:In 32768000 v) (h:setS s p v=some t):SetR s t∧(p≠9->t.thick=s.thick):=by
 unfold setS at h;split at h
 ·rename_i hc
  cases h;exact⟨⟨(Zkq hs hc.1 hv).ok hc.2,Zrl ..,Zo1 ..,Zo2 ..,Zrm ..⟩,Zo3 s p v⟩
 ·cases h
end Go.Mono
namespace Go.Proofs.W
open Go.RowKit Go.Mono
section
open Go Go.ChangeShapes Go.WideShapes Go.ChangeAt
theorem Zrw:laidOutB Tryz.prog=true:=Zk
theorem Zhe {P:Program} (hl:laidOutB P=true) {H:Type} {enc:TypeId×Value->H} {W W':World} (hb:Below W.heap.size W W'):∀(ts:List TypeId) (vs:List Value) (ds:List (DataW H)) (ps:List MemPlace),
  (ts.all λt=>P.readableRec t&&decide (t<P.types.size))=true->DataW.TrodAll enc P W 0 (λ_=>true) true ts vs ds ps->(∀x∈ps,x.block<W.heap.size)->DataW.TrodAll enc P W' 0 (λb=>decide (b<W.heap.size)) true ts vs ds ps:=by
 intro ts;induction ts with
 | nil =>
   intro vs ds ps _ h _;obtain⟨rfl,rfl,rfl⟩:=trodAll_nil h;exact rfl
 | cons t ts ih =>
   intro vs ds ps hr h hlt;obtain⟨v,vs1,d,ds1,a,b,rfl,rfl,rfl,h1,h2⟩:=trodAll_cons h;rw[List.all_cons,Yam,Yam,decide_eq_true_eq]at hr;exact⟨a,b,Below.trod hl hr.1.1 hr.1.2 h1 hb (λx hx=>hlt x (Ycy _ hx)),ih _ _ _ hr.2 h2 (λx hx=>hlt x (Ydv _ hx)),rfl⟩
theorem cell_lt18 {w:World} {a:Addr} {u:Value} (h:w.cell? a=some u):a.block<w.heap.size:=by
 by_cases hb:a.block<w.heap.size
 ·exact hb
 ·rw[World.cell?,Yfj Zo]at h
  cases h
section
variable {H:Type} {enc:TypeId×Value->H} {W:World} {base:Nat} {r:Reach} {v:Value} {d:DataW H} {p:List MemPlace} {fuel:Nat} {cs:List Value} {x:DataW H×List MemPlace}
theorem Zrx (h:DataW.trod enc Tryz.prog W 0 (λ_=>true) true fuel 32 cs=some x):∃n d:Int,(-32768<=n∧n<=32767)∧(0<=d∧d<=255)∧cs=[.int .i16 n,.int .u8 d]:=by
 have hc:Tryz.prog.cellsOf 32=2:=Zk;have h1:Tryz.prog.cellsOf 25=1:=Zk;have h2:Tryz.prog.cellsOf 5=1:=Zk;obtain⟨xs,m,rfl,_,hl,hx,hel⟩:=Yfn Tryz.underlying32 h;rw[hc]at hl;match cs,hl,xs,hx with
 | [c0, c1], _, [x0, x1], _ =>
   have e0:=hel 0 _ rfl;have e1:=hel 1 _ rfl;simp[h1,h2]at e0 e1;obtain⟨s0,k0,_,w0⟩:=Ybh Tryz.underlying25 e0;obtain⟨s1,k1,_,w1⟩:=Ybh Tryz.underlying5 e1;cases k0;cases k1;exact⟨s0,s1,bounds_i16 w0,bounds_u8 w1,rfl⟩
end
end
section
open Go.Ex
variable {K:Nat->Value} {hK:∀i,(K i).oneCell'=true}
def Side.over (S:Side) (a b:Rat):Option (List Prop):=
 match S.pos b,S.fit (a/b) with
 | some L,some M=>some (L++M)
 | _,_=>none
def cR4Div (S:Side) (w0:World) (X:Nat->Prop):Ctr (qDen K hK) Tryz.prog w0 X:=binSpec S.cl w0 X 99 (λa b=>a/b) (Side.over S) λa b u v L w hs hL h1 h2=>by
 unfold Side.over at hs;split at hs
 ·rename_i L1 L2 e1 e2
  cases hs;exact(Zuf w h1.qt h2.qt (S.hpos _ _ e1 λp hp=>hL p (Ycy _ hp)) (S.hfit _ _ e2 λp hp=>hL p (Ydv _ hp))).mono λe w' ⟨C,e1,hC,hb⟩=>⟨_,e1,hC.qv,hb⟩
 ·cases hs
end
end Go.Proofs.W
