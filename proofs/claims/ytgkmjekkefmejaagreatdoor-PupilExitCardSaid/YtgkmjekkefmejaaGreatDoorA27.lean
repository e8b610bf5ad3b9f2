/- Contracts of package matrix,and a verified evaluator. Part 27 of 27. No condition beside the row. -/
import Derived.Test.YtgkmjekkefmejaaGreatDoorA26
set_option linter.unusedVariables false
set_option linter.unusedSimpArgs false
set_option maxRecDepth 100000
set_option maxHeartbeats 4000000
namespace Go.Proofs.W
open Go.RowKit Go.Mono
section
open Go.Ex
section
variable {a:Lns} (ha:a.opt) {ns m:Nat} (hns:a.ns=ns) (h6:2<=ns∧ns<=6) {w:World} {q:Plc} (ho:OptAt w a q) (hp:PowsAt w m) (k:Int)
noncomputable def runX (f:FuncId) (args:List SA) (orc:List (Option Bool)):Option (SV×List Prop×List (Nat×Blk)×Option Value):=
 (evF Tryz.prog (spX ha hns h6 ho hp) [] 24 [] f (.agg (optU a q ns 0)::.one (.sym k)::args) [(0,srfB a q ns)] 1 1 orc).map λr=>(r.v,r.obl,r.wr,r.pan)
def obSurM (a:Lns) (q:Plc) (ns:Nat) (k s:Int):List Prop:=obOf 0 1 (obS a q ns 0 k ((0<=s∧s<(ns:Int))::PowFits a k.toNat s.toNat::obOf 1 1 (obOf 1 1 [])))
def obGapM (a:Lns) (q:Plc) (ns:Nat) (k:Int) (s:Nat):List Prop:=obIx a q ns 0 k s (obOf (a.S s).thick 1000000 (((a.nI k.toNat s).num≠0)::Fits (Rat.divInt (a.S s).thick 1000000/a.nI k.toNat s)::obOf 0 1 (obOf 1 1 (obOf 1 1 []))))
noncomputable def surRun (s:Int):Prop:=runX ha hns h6 ho hp k 187 [.one (.sym s)] []=some (.a (m22U (a.surM k.toNat s.toNat)),obSurM a q ns k s,[],none)
noncomputable def gapRun (s:Nat):Prop:=runX ha hns h6 ho hp k 153 [.one (.val (.int .i64 (s:Int)))] []=some (.a (m22U (a.gapM k.toNat s)),obGapM a q ns k s,[],none)
end
section
set_option maxRecDepth 100000
variable {a:Lns} (ha:a.opt) {m:Nat} {w:World} {q:Plc} (ho:OptAt w a q) (hp:PowsAt w m) (k:Int)
theorem Zx0:∀{ns:Nat} (hns:a.ns=ns) (h6:2<=ns∧ns<=6) (s:Int),surRun ha hns h6 ho hp k s
 | 0,_,h,_=>absurd h.1 Zd
 | 1,_,h,_=>absurd h.1 Zd
 | 2,hns,h6,s=>by unfold surRun;kernel_rfl
 | 3,hns,h6,s=>by unfold surRun;kernel_rfl
 | 4,hns,h6,s=>by unfold surRun;kernel_rfl
 | 5,hns,h6,s=>by unfold surRun;kernel_rfl
 | 6,hns,h6,s=>by unfold surRun;kernel_rfl
 | n+7,_,h,_=>absurd h.2 Zo
theorem Zx1:∀{ns:Nat} (hns:a.ns=ns) (h6:2<=ns∧ns<=6) (s:Nat),s+1<ns->gapRun ha hns h6 ho hp k s
 | 2,hns,h6,0,_=>by unfold gapRun;kernel_rfl
 | 3,hns,h6,0,_=>by unfold gapRun;kernel_rfl
 | 3,hns,h6,1,_=>by unfold gapRun;kernel_rfl
 | 4,hns,h6,0,_=>by unfold gapRun;kernel_rfl
 | 4,hns,h6,1,_=>by unfold gapRun;kernel_rfl
 | 4,hns,h6,2,_=>by unfold gapRun;kernel_rfl
 | 5,hns,h6,0,_=>by unfold gapRun;kernel_rfl
 | 5,hns,h6,1,_=>by unfold gapRun;kernel_rfl
 | 5,hns,h6,2,_=>by unfold gapRun;kernel_rfl
 | 5,hns,h6,3,_=>by unfold gapRun;kernel_rfl
 | 6,hns,h6,0,_=>by unfold gapRun;kernel_rfl
 | 6,hns,h6,1,_=>by unfold gapRun;kernel_rfl
 | 6,hns,h6,2,_=>by unfold gapRun;kernel_rfl
 | 6,hns,h6,3,_=>by unfold gapRun;kernel_rfl
 | 6,hns,h6,4,_=>by unfold gapRun;kernel_rfl
 | n+7,_,h,_,_=>absurd h.2 Zo
 | 6,_,_,n+5,h=>absurd h Zo
 | 5,_,_,n+4,h=>absurd h Zo
 | 4,_,_,n+3,h=>absurd h Zo
 | 3,_,_,n+2,h=>absurd h Zo
 | 2,_,_,n+1,h=>absurd h Zo
 | 1,_,_,_,h=>absurd h Zo
 | 0,_,_,_,h=>absurd h Zo
end
section
variable {a:Lns} (ha:a.opt) {ns m:Nat} (hns:a.ns=ns) (h6:2<=ns∧ns<=6) {w0:World} {q:Plc} (ho:OptAt w0 a q) (hp:PowsAt w0 m)
theorem Zsx {q:Plc} {k s:Int} (hk:0<=k∧k<a.nw) (hs:0<=s∧s<(ns:Int)) (hf:PowFits a k.toNat s.toNat):AllP (obSurM a q ns k s):=
 Zau ⟨Zd,Zd⟩ (Zc1 hk ⟨hs,hf,Zau ⟨Zd,Zd⟩ (Zau ⟨Zd,Zd⟩ trivial)⟩)
include ha hns
theorem Zsy {q:Plc} {k:Int} {s:Nat} (hk:0<=k∧k<a.nw) (hs:s+1<ns):AllP (obGapM a q ns k s):=by
 obtain⟨D,_,h1,h2⟩:=ha.gapM_ov (k:=k.toNat) (s:=s) Zo Zo;have ht:=Ze4 ha (s:=s) Zo 1 (.inl rfl);rw[Yga]at ht;exact Zm9 hk Zo (Zau ht ⟨ha.nI_num Zo Zo,h2.b.fits (k:=16) Zd (Yab _) (Yak h1 Zd),Zau ⟨Zd,Zd⟩ (Zau ⟨Zd,Zd⟩ (Zau ⟨Zd,Zd⟩ trivial))⟩)
omit ha hns
def cSurM:Ctr DO Tryz.prog w0 (λ_=>False):=cView ha hns ho hp 187 (λk l=>match l with
    | [s]=>some (.a (m22U (a.surM k.toNat s.toNat)),[0<=s∧s<(ns:Int)])
    | _=>none)<|by
 intro w q ho hp k l V L hr hk hL;split at hr
 ·rename_i s
  cases hr;have hs:=hL (0<=s∧s<(ns:Int)) Zs;exact Zfo ha hns ho _ (Zx0 ha ho hp k hns h6 s) (Zsx hk hs (Zd8 ha Zo Zo)) rfl (vals:=[.int .i64 k,.int .i64 s]) (ρ0:=λ_=>none) rfl ⟨_,_,rfl,rfl,_,_,rfl,rfl,rfl⟩
 ·cases hr
def cGapM:Ctr DO Tryz.prog w0 (λ_=>False):=cView ha hns ho hp 153 (λk l=>match l with
    | [s]=>some (.a (m22U (a.gapM k.toNat s.toNat)),[0<=s∧s+1<(ns:Int)])
    | _=>none)<|by
 intro w q ho hp k l V L hr hk hL;split at hr
 ·rename_i s
  cases hr;obtain⟨h1,h2⟩:=hL (0<=s∧s+1<(ns:Int)) Zs;obtain⟨t,rfl⟩:∃t:Nat,s=t:=⟨s.toNat,Zo⟩
  rw[Ycb];exact Zfo ha hns ho _ (Zx1 ha ho hp k hns h6 t Zo) (Zsy ha hns hk Zo) rfl (vals:=[.int .i64 k,.int .i64 t]) (ρ0:=λ_=>none) rfl ⟨_,_,rfl,rfl,_,_,rfl,⟨rfl,rfl⟩,rfl⟩
 ·cases hr
noncomputable def spY:List (Ctr DO Tryz.prog w0 (λ_=>False)):=cSurM ha hns h6 ho hp::cGapM ha hns h6 ho hp::spX ha hns h6 ho hp
end
end
section
open Go.Ex
theorem Zgk {a b c d D E:Nat} (k:Nat) {x y:M22} (hx:x.Ov (10 ^ a) D) (hD:D<=10 ^ c) (hy:y.Ov (10 ^ b) E) (hE:E<=10 ^ d) (h1:1+a+b<=k) (h2:c+d<=k) (hk:k<=5399):MFits x y:=by
 refine Zvp (k:=k) hx hy ?_ ?_ hk
 ·refine Yak ?_ (Zbs h1)
  rw[Ydn,Ydn,<-Yfv];exact Ybd _ (Ybd _ Zd)
 ·refine Yak ?_ (Zbs h2)
  rw[Ydn];exact Ybv hD hE
def posZ (i:Int):Nat->Int
 | 0=>i
 | t+1=>posZ i t+1
def sysZ (a:Lns) (k:Nat) (i:Int):Nat->M22
 | 0=>(a.surM k i.toNat).mul .one
 | t+1=>(a.surM k (posZ i (t+1)).toNat).mul ((a.gapM k (posZ i (t+1)-1).toNat).mul (sysZ a k i t))
theorem Zj5 (i:Int):∀t,posZ i t=i+t
 | 0=>by unfold posZ;omega
 | t+1=>by unfold posZ;rw[Zj5 i t];omega
theorem Znb (a:Lns) (k:Nat) {i:Int} (h:0<=i):∀t,sysZ a k i t=a.sysM k i.toNat t
 | 0=>rfl
 | t + 1 => by
   unfold sysZ;rw[Znb a k h t,Zj5,a.sysM_s,show(i+((t+1:Nat):Int)).toNat=i.toNat+t+1 by omega,show(i+((t+1:Nat):Int)-1).toNat=i.toNat+t by omega]
section
variable (a:Lns) (q:Plc) (ns:Nat) (k i j:Int)
def obSysL:Nat->Nat->List Prop
 | 0,t=>inK .i64 (posZ i (t+1))::(decide (posZ i (t+1)<=j)=false)::[]
 | n+1,t=>inK .i64 (posZ i (t+1))::(decide (posZ i (t+1)<=j)=true)::(decide (posZ i (t+1)>i)=true)::inK .i64 (posZ i (t+1)-1)::
     obS a q ns 0 k ((0<=posZ i (t+1)-1∧posZ i (t+1)-1+1<(ns:Int))::MFits (a.gapM k.toNat (posZ i (t+1)-1).toNat) (sysZ a k.toNat i t)::
      obS a q ns 0 k ((0<=posZ i (t+1)∧posZ i (t+1)<(ns:Int))::MFits (a.surM k.toNat (posZ i (t+1)).toNat) ((a.gapM k.toNat (posZ i (t+1)-1).toNat).mul (sysZ a k.toNat i t))::obSysL n (t+1)))
def obSys (L:Nat):List Prop:=obOf 0 1 (obOf 0 1 (obOf 1 1 (obOf 1 1 ((decide (i<=j)=true)::(decide (i>i)=false)::obS a q ns 0 k ((0<=i∧i<(ns:Int))::MFits (a.surM k.toNat i.toNat) .one::obSysL a q ns k i j L 0)))))
end
def orcSysL:Nat->List (Option Bool)
 | 0=>[some false]
 | n+1=>some true::some true::orcSysL n
def orcSys (L:Nat):List (Option Bool):=some true::some false::orcSysL L
section
variable {a:Lns} (ha:a.opt) {ns m:Nat} (hns:a.ns=ns) (h6:2<=ns∧ns<=6) {w:World} {q:Plc} (ho:OptAt w a q) (hp:PowsAt w m) (k:Int)
noncomputable def runY (f:FuncId) (args:List SA) (orc:List (Option Bool)):Option (SV×List Prop×List (Nat×Blk)×Option Value):=
 (evF Tryz.prog (spY ha hns h6 ho hp) [] 24 [] f (.agg (optU a q ns 0)::.one (.sym k)::args) [(0,srfB a q ns)] 1 1 orc).map λr=>(r.v,r.obl,r.wr,r.pan)
noncomputable def sysRun (i j:Int) (L:Nat):Prop:=runY ha hns h6 ho hp k 101 [.one (.sym i),.one (.sym j)] (orcSys L)=some (.a (m22U (sysZ a k.toNat i L)),obSys a q ns k i j L,[],none)
end
section
set_option maxRecDepth 100000
variable {a:Lns} (ha:a.opt) {m:Nat} {w:World} {q:Plc} (ho:OptAt w a q) (hp:PowsAt w m) (k i j:Int)
theorem Zx2:∀{ns:Nat} (hns:a.ns=ns) (h6:2<=ns∧ns<=6) (L:Nat),L<ns->sysRun ha hns h6 ho hp k i j L
 | 2,hns,h6,0,_=>by unfold sysRun;kernel_rfl
 | 2,hns,h6,1,_=>by unfold sysRun;kernel_rfl
 | 3,hns,h6,0,_=>by unfold sysRun;kernel_rfl
 | 3,hns,h6,1,_=>by unfold sysRun;kernel_rfl
 | 3,hns,h6,2,_=>by unfold sysRun;kernel_rfl
 | 4,hns,h6,0,_=>by unfold sysRun;kernel_rfl
 | 4,hns,h6,1,_=>by unfold sysRun;kernel_rfl
 | 4,hns,h6,2,_=>by unfold sysRun;kernel_rfl
 | 4,hns,h6,3,_=>by unfold sysRun;kernel_rfl
 | 5,hns,h6,0,_=>by unfold sysRun;kernel_rfl
 | 5,hns,h6,1,_=>by unfold sysRun;kernel_rfl
 | 5,hns,h6,2,_=>by unfold sysRun;kernel_rfl
 | 5,hns,h6,3,_=>by unfold sysRun;kernel_rfl
 | 5,hns,h6,4,_=>by unfold sysRun;kernel_rfl
 | 6,hns,h6,0,_=>by unfold sysRun;kernel_rfl
 | 6,hns,h6,1,_=>by unfold sysRun;kernel_rfl
 | 6,hns,h6,2,_=>by unfold sysRun;kernel_rfl
 | 6,hns,h6,3,_=>by unfold sysRun;kernel_rfl
 | 6,hns,h6,4,_=>by unfold sysRun;kernel_rfl
 | 6,hns,h6,5,_=>by unfold sysRun;kernel_rfl
 | n+7,_,h,_,_=>absurd h.2 Zo
 | 6,_,_,n+6,h=>absurd h Zo
 | 5,_,_,n+5,h=>absurd h Zo
 | 4,_,_,n+4,h=>absurd h Zo
 | 3,_,_,n+3,h=>absurd h Zo
 | 2,_,_,n+2,h=>absurd h Zo
 | 1,_,h,_,_=>absurd h.1 Zd
 | 0,_,h,_,_=>absurd h.1 Zd
end
section
variable {a:Lns} (ha:a.opt) {ns m:Nat} (hns:a.ns=ns) (h6:2<=ns∧ns<=6) {w0:World} {q:Plc} (ho:OptAt w0 a q) (hp:PowsAt w0 m)
include ha hns in
theorem Zls {q:Plc} {k i j:Int} (hk:0<=k∧k<a.nw) (hi:0<=i) (hn:ns<=6) (hj:j<(ns:Int)):∀(n t:Nat),i+(t:Int)+(n:Int)=j->AllP (obSysL a q ns k i j n t)
 | 0, t, h => by
   unfold obSysL;rw[Zj5];exact⟨(⟨Zo,Zo⟩:inR _),decide_eq_false Zo,trivial⟩
 | n + 1, t, h => by
   unfold obSysL;have e:=Zj5 i (t+1);have ih:=Zls (q:=q) hk hi hn hj n (t+1) Zo;obtain⟨D,h1,h2⟩:=ha.sysM_ov (k:=k.toNat) Zo (i:=i.toNat) t Zo;rw[<-Znb a k.toNat hi t]at h2;obtain⟨D1,h3,h4⟩:=ha.gapS_ov (s:=(posZ i (t+1)-1).toNat) (k:=k.toNat) Zo Zo h2 h1;obtain⟨E,_,g1,g2⟩:=ha.gapM_ov (s:=(posZ i (t+1)-1).toNat) (k:=k.toNat) Zo Zo;exact⟨(⟨Zo,Zo⟩:inR _),decide_eq_true Zo,decide_eq_true Zo,(⟨Zo,Zo⟩:inR _),
    Zc1 hk ⟨⟨Zo,Zo⟩,Zgk 1000 g2 g1 h2 h1 Zo Zo Zd,Zc1 hk ⟨⟨Zo,Zo⟩,Zgk 1000 (ha.surM_ov Zo Zo) (Yab _) h4 h3 Zo Zo Zd,ih⟩⟩⟩
include ha hns in
theorem Zvq {q:Plc} {k i j:Int} (hk:0<=k∧k<a.nw) (hi:0<=i) (hn:ns<=6) (hij:i<=j) (hj:j<(ns:Int)):AllP (obSys a q ns k i j (j-i).toNat):=
 Zau ⟨Zd,Zd⟩ (Zau ⟨Zd,Zd⟩ (Zau ⟨Zd,Zd⟩ (Zau ⟨Zd,Zd⟩ ⟨decide_eq_true hij,decide_eq_false Zo,Zc1 hk ⟨⟨hi,Zo⟩,
  Zgk 100 (ha.surM_ov Zo Zo) (Yab _) (a:=19) (b:=0) (d:=0) M22.one_ov (Yab _) Zd Zd Zd,Zls ha hns hk hi hn hj (j-i).toNat 0 Zo⟩⟩)))
def cSysM:Ctr DO Tryz.prog w0 (λ_=>False):=cView ha hns ho hp 101 (λk l=>match l with
    | [i,j]=>some (.a (m22U (a.sysM k.toNat i.toNat (j-i).toNat)),[0<=i∧i<=j∧j<(ns:Int)])
    | _=>none)<|by
 intro w q ho hp k l V L hr hk hL;split at hr
 ·rename_i i j
  cases hr;obtain⟨h1,h2,h3⟩:=hL (0<=i∧i<=j∧j<(ns:Int)) Zs;rw[<-Znb a k.toNat h1];exact Zfo ha hns ho _ (Zx2 ha ho hp k i j hns h6 (j-i).toNat Zo) (Zvq ha hns hk h1 h6.2 h2 h3) rfl (vals:=[.int .i64 k,.int .i64 i,.int .i64 j]) (ρ0:=λ_=>none) rfl ⟨_,_,rfl,rfl,_,_,rfl,rfl,_,_,rfl,rfl,rfl⟩
 ·cases hr
noncomputable def spMx:List (Ctr DO Tryz.prog w0 (λ_=>False)):=cSysM ha hns h6 ho hp::cTraceX ha hns h6 ho hp::spY ha hns h6 ho hp
end
end
section
open Go.Ex
section
variable (a:Lns) (q:Plc) (ns kb:Nat) (k:Int)
def obLk (L:List Prop):List Prop:=(optU a q ns kb=optU a q ns kb)::(srfB a q ns=srfB a q ns)::(decide (k<0)=false)::(decide (k>=(a.nw:Int))=false)::L
def obSm (i j:Int) (L:List Prop):List Prop:=obS a q ns kb k ((0<=i∧i<=j∧j<(ns:Int))::L)
theorem Zsz {a:Lns} {q:Plc} {ns kb:Nat} {k:Int} (hk:0<=k∧k<a.nw) {L:List Prop} (hL:AllP L):AllP (obLk a q ns kb k L):=⟨rfl,rfl,decide_eq_false Zo,decide_eq_false Zo,hL⟩
theorem Zx3 {a:Lns} {q:Plc} {ns kb:Nat} {k i j:Int} (hk:0<=k∧k<a.nw) (h:0<=i∧i<=j∧j<(ns:Int)) {L:List Prop} (hL:AllP L):AllP (obSm a q ns kb k i j L):=Zc1 hk ⟨h,hL⟩
section
variable (s:Nat)
end
end
theorem okN:∀{n:Int},(h:n=0∨n=1∨n = -1:=by decide)->inR n:=λh=>⟨Zo,Zo⟩
section
variable {a:Lns} {q:Plc} {ns kb:Nat} {k:Int} (hk:0<=k∧k<a.nw) {s:Nat} (hs:s<ns)
include hk hs
end
end
end Go.Proofs.W
