/- The law PupilInvariant: the marginal and the chief ray have the Lagrange invariant at every surface;its contracts,its walk and its card. Part 8 of 11. No condition beside the row. -/
import Derived.Test.YtgkmjekkefmejaaGreatDoorI02
import Derived.Test.YtgkmjekkefmejaaGreatDoorI07
set_option linter.unusedVariables false
set_option linter.unusedSimpArgs false
set_option maxRecDepth 100000
set_option maxHeartbeats 4000000
namespace Go.Proofs.W
open Go.RowKit Go.Mono
section
open Go.Ex
section
variable (a:Lns) (q:Plc) (ns kb:Nat)
def obS0 (L:List Prop):List Prop:=(optU a q ns kb=optU a q ns kb)::(srfB a q ns=srfB a q ns)::L
def obWv (k:Int) (L:List Prop):List Prop:=(decide (k<0)=false)::(decide (k>=(a.nw:Int))=false)::L
def obFd (f:Int) (L:List Prop):List Prop:=(decide (f<0)=false)::(decide (f>=(a.nf:Int))=false)::L
def obDi (b:Bool) (L:List Prop):List Prop:=(decide (a.di>0)=b)::L
def obEz (b:Bool) (L:List Prop):List Prop:=obS0 a q ns kb (obOf 0 1 ((decide (a.ahA=Rat.divInt 0 1)=b)::L))
def obZ (L:List Prop):List Prop:=(a.ahA.num≠0)::Fits (a.ahB/a.ahA)::L
def obMar (near e1 e2:Bool) (L:List Prop):List Prop:=
 match near,e1,e2 with
 | false,true,_=>obEz a q ns kb true L
 | false,false,_=>obEz a q ns kb false (obZ a (obOf a.pu 2000000 (obOf 0 1 L)))
 | true,true,_=>obOf a.di 1000000 (obOf a.pu 2000000 (obEz a q ns kb true L))
 | true,false,true=>obOf a.di 1000000 (obOf a.pu 2000000 (obEz a q ns kb false (obZ a (Fits (a.far+a.enZ)::obOf 0 1 ((decide (a.far+a.enZ=Rat.divInt 0 1)=true)::L)))))
 | true,false,false=>obOf a.di 1000000 (obOf a.pu 2000000 (obEz a q ns kb false (obZ a (Fits (a.far+a.enZ)::obOf 0 1 ((decide (a.far+a.enZ=Rat.divInt 0 1)=false)::((a.far+a.enZ).num≠0)::Fits (a.enR/(a.far+a.enZ))::Fits (a.far*(a.enR/(a.far+a.enZ)))::L)))))
def obChf (near e1 e2:Bool) (f:Int) (L:List Prop):List Prop:=
 obS0 a q ns kb ((0<=f∧f<(a.nf:Int))::(decide (a.ahA=Rat.divInt 0 1)=e1)::(match near,e1 with
  | true,false=>(decide (a.far+a.enZ=Rat.divInt 0 1)=e2)::L
  | _,_=>L))
def Lns.mar (a:Lns):Bool->Rat×Rat
 | true=>a.axi
 | false=>a.par
def Lns.chf (a:Lns) (f:Nat):Bool->Rat×Rat
 | true=>a.out f
 | false=>a.sla f
variable (k f:Int) (near:Bool)
def obPinO:List Prop:=
 obS0 a q ns kb (obFd a f (obDi a near (obMar a q ns kb near false false (obChf a q ns kb near false false f (obCr (Lns.mar a near) (Lns.chf a f.toNat near)
 (obS0 a q ns kb (obWv a k (obDi a near (obMar a q ns kb near false false (obS a q ns kb k (TrFits a k.toNat (Lns.mar a near).1 (Lns.mar a near).2::
 obS0 a q ns kb (obWv a k (obFd a f (obDi a near (obChf a q ns kb near false false f (obS a q ns kb k (TrFits a k.toNat (Lns.chf a f.toNat near).1 (Lns.chf a f.toNat near).2::obInvL a k.toNat (Lns.mar a near) (Lns.chf a f.toNat near) 0 ns)))))))))))))))))
def obPinE (e1 e2:Bool):List Prop:=
 obS0 a q ns kb (obFd a f (obDi a near (obMar a q ns kb near e1 e2 (obS0 a q ns kb (obWv a k (obDi a near (obMar a q ns kb near e1 e2 (obS0 a q ns kb (obWv a k (obFd a f (obDi a near (obChf a q ns kb near e1 e2 f []))))))))))))
end
section
variable {a:Lns} (ha:a.opt) {ns:Nat} (hns:a.ns=ns) (h6:2<=ns∧ns<=6) {q:Plc} {kb:Nat} {k f:Int} (hk:0<=k∧k<a.nw) (hf:0<=f∧f<a.nf)
theorem Zcv {L:List Prop} (hL:AllP L):AllP (obS0 a q ns kb L):=⟨rfl,rfl,hL⟩
include hk in
theorem Zkk {L:List Prop} (hL:AllP L):AllP (obWv a k L):=⟨decide_eq_false Zo,decide_eq_false Zo,hL⟩
include hf in
theorem Zkl {L:List Prop} (hL:AllP L):AllP (obFd a f L):=⟨decide_eq_false Zo,decide_eq_false Zo,hL⟩
theorem Zh3 {b:Bool} (h:decide (a.ahA=Rat.divInt 0 1)=b) {L:List Prop} (hL:AllP L):AllP (obEz a q ns kb b L):=Zcv (Zau okN ⟨h,hL⟩)
include ha in
theorem Zwh:inR a.pu:=by have:=ha.base.pu;exact⟨Zo,Zo⟩
section
variable (h7:a.ns<=6)
include ha h7
theorem Zua (h:decide (a.ahA=Rat.divInt 0 1)=false) {L:List Prop} (hL:AllP L):AllP (obZ a L):=⟨Zoy h,(ha.enZ_hs h7).fits Zd,hL⟩
theorem Zgo {near e1 e2:Bool} (g1:decide (a.ahA=Rat.divInt 0 1)=e1) (g2:near=true->e1=false->decide (a.far+a.enZ=Rat.divInt 0 1)=e2) {L:List Prop} (hL:AllP L):AllP (obMar a q ns kb near e1 e2 L):=by
 match near,e1,e2,g1,g2 with
 | false,true,_,g1,_=>exact Zh3 g1 hL
 | false,false,_,g1,_=>exact Zh3 g1 (Zua ha h7 g1 (Zau (Zwh ha) (Zau okN hL)))
 | true,true,_,g1,_=>exact Zau (Zwf ha) (Zau (Zwh ha) (Zh3 g1 hL))
 | true,false,true,g1,g2=>exact Zau (Zwf ha) (Zau (Zwh ha) (Zh3 g1 (Zua ha h7 g1 ⟨(ha.fz_hs h7).fits Zd,Zau okN ⟨g2 rfl rfl,hL⟩⟩)))
 | true,false,false,g1,g2=>exact Zau (Zwf ha) (Zau (Zwh ha) (Zh3 g1 (Zua ha h7 g1 ⟨(ha.fz_hs h7).fits Zd,Zau okN ⟨g2 rfl rfl,Zoy (g2 rfl rfl),(ha.rw_hs h7).fits Zd,(ha.far_hs.mul (ha.rw_hs h7)).fits Zd,hL⟩⟩)))
omit ha h7
include hf in
theorem Zkm {near e1 e2:Bool} (g1:decide (a.ahA=Rat.divInt 0 1)=e1) (g2:near=true->e1=false->decide (a.far+a.enZ=Rat.divInt 0 1)=e2) {L:List Prop} (hL:AllP L):AllP (obChf a q ns kb near e1 e2 f L):=by
 match near,e1,g1,g2 with
 | true,false,g1,g2=>exact Zcv ⟨hf,g1,g2 rfl rfl,hL⟩
 | true,true,g1,_=>exact Zcv ⟨hf,g1,hL⟩
 | false,true,g1,_=>exact Zcv ⟨hf,g1,hL⟩
 | false,false,g1,_=>exact Zcv ⟨hf,g1,hL⟩
include ha h7
theorem Zzt (near:Bool):Hs 900 (Lns.mar a near).1∧Hs 900 (Lns.mar a near).2:=by
 cases near with
 | false=>exact⟨ha.enR_hs.mono Zd,(Hs.divInt (k:=1) 0 1 Zd Zd Zd).mono Zd⟩
 | true=>exact⟨(ha.far_hs.mul (ha.rw_hs h7)).mono Zd,(ha.rw_hs h7).mono Zd⟩
theorem Zzu (near:Bool) {f:Nat} (hf:f<a.nf):Hs 900 (Lns.chf a f near).1∧Hs 900 (Lns.chf a f near).2:=by
 cases near with
 | false=>exact⟨(ha.zt_hs h7 hf).neg.mono Zd,(ha.fY_hs hf).mono Zd⟩
 | true=>exact⟨((ha.enZ_hs h7).mul (ha.tw_hs h7 hf)).mono Zd,(ha.tw_hs h7 hf).neg.mono Zd⟩
theorem Zoz {k:Nat} (hk:k<a.nw) {x y:Rat×Rat} (hx:Hs 900 x.1∧Hs 900 x.2) (hy:Hs 900 y.1∧Hs 900 y.2) {s:Nat} (hs:s<=a.ns) :
  Fits ((a.tr k x.1 x.2 s).1*(a.tr k y.1 y.2 s).2)∧Fits ((a.tr k y.1 y.2 s).1*(a.tr k x.1 x.2 s).2)∧Fits ((a.tr k x.1 x.2 s).1*(a.tr k y.1 y.2 s).2-(a.tr k y.1 y.2 s).1*(a.tr k x.1 x.2 s).2):=by
 obtain⟨D,hD,d1,d2⟩:=Hs.two hx.1 hx.2;obtain⟨E,hE,e1,e2⟩:=Hs.two hy.1 hy.2;obtain⟨D',hD',t1,t2⟩:=ha.tr_ov hk hD d1 d2 s hs;obtain⟨E',hE',u1,u2⟩:=ha.tr_ov hk hE e1 e2 s hs;refine Zwg (k:=900+900+37*s+(900+900+37*s)+1) t1 t2 u1 u2 Zo ?_ ?_
 ·rw[<-Ydn,Nat.pow_succ]
  omega
 ·have h1:=Ybv hD' hE'
  rw[<-Ydn]at h1;exact Yak h1 (Zbs Zo)
theorem Zmg {k:Nat} (hk:k<a.nw) {x y:Rat×Rat} (hx:Hs 900 x.1∧Hs 900 x.2) (hy:Hs 900 y.1∧Hs 900 y.2):∀n s,s+n<=a.ns->AllP (obInvL a k x y s n)
 | 0,_,_=>trivial
 | n + 1, s, hs => by
   obtain⟨f1,f2,f3⟩:=Zoz ha h7 hk hx hy (s:=s+1) Zo;exact⟨f1,f2,f3,decide_eq_true (Zwt a k x y (s+1)),Zmg hk hx hy n (s+1) Zo⟩
end
include ha hns h6 hk hf
theorem Zmh {near:Bool} (g0:decide (a.di>0)=near) (g1:decide (a.ahA=Rat.divInt 0 1)=false) (g2:near=true->false=false->decide (a.far+a.enZ=Rat.divInt 0 1)=false):AllP (obPinO a q ns kb k f near):=by
 have h7:a.ns<=6:=Zo;have hx:=Zzt ha h7 near;have hy:=Zzu ha h7 near (f:=f.toNat) Zo;obtain⟨f1,f2,f3⟩:=Zoz ha h7 (k:=k.toNat) Zo hx hy (s:=0) Zo;exact Zcv (Zkl hf ⟨g0,Zgo ha h7 g1 g2 (Zkm hf g1 g2 ⟨f1,f2,f3,Zcv (Zkk hk ⟨g0,Zgo ha h7 g1 g2 (Zc1 hk ⟨Zlt ha Zo (K:=900) Zd hx.1 hx.2,
  Zcv (Zkk hk (Zkl hf ⟨g0,Zkm hf g1 g2 (Zc1 hk ⟨Zlt ha Zo (K:=900) Zd hy.1 hy.2,Zmg ha h7 Zo hx hy ns 0 Zo⟩)⟩))⟩)⟩)⟩)⟩)
theorem Zh4 {near e1 e2:Bool} (g0:decide (a.di>0)=near) (g1:decide (a.ahA=Rat.divInt 0 1)=e1) (g2:near=true->e1=false->decide (a.far+a.enZ=Rat.divInt 0 1)=e2):AllP (obPinE a q ns kb k f near e1 e2):=by
 have h7:a.ns<=6:=Zo;exact Zcv (Zkl hf ⟨g0,Zgo ha h7 g1 g2 (Zcv (Zkk hk ⟨g0,Zgo ha h7 g1 g2 (Zcv (Zkk hk (Zkl hf ⟨g0,Zkm hf g1 g2 trivial⟩)))⟩))⟩)
end
end
end Go.Proofs.W
