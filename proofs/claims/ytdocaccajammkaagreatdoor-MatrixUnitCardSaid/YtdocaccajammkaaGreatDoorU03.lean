/- The law MatrixUnit: its walk and its card. Part 3 of 5. No condition beside the row. -/
import Derived.Test.YtdocaccajammkaaGreatDoorU02
set_option linter.unusedVariables false
set_option linter.unusedSimpArgs false
set_option maxRecDepth 100000
set_option maxHeartbeats 4000000
namespace Go.Proofs.W
open Go.RowKit Go.Mono
section
open Go.Ex
set_option maxRecDepth 100000
def bkMun (a:Lns) (q:Plc) (ns:Nat):List (Nat×Blk):=[(0,optBN a q ns 1),(1,srfB a q ns)]
def tmMun (ns:Nat) (k i j l:Int):List (Nat×SV):=[(2,.a (.one (.sml .u8 i))),(3,.a (.one (.sml .u8 j))),(4,.a (.one (.sml .u8 l))),(11,.a (.one (.ptr 0 0))),(12,.a (.one (.sym k))),(13,.a (.one (.sym ns)))]
noncomputable def cdMun:Code:=codeR (codeR (codeR (codeR (Tryz.f4.body.getD .skip))))
def bF:Option Bool:=some false
def bT:Option Bool:=some true
def orcMunE (b:Bool):List (Option Bool):=[some b,some b,bF,bF,bT,bT,bT,bT,bT,bF,bF,bT,bT,bT,bT,bT,bT]
def orcMunD (b:Bool):List (Option Bool):=[some b,some b,bF,bF,bT,bT,bT,bT,bF,bF,bF,bT,bT,bT,bF,bF,bT,bT,bF,bF,bT,bT,bT,bT,bT,bT,bT]
section
variable {a:Lns} (ha:a.opt) {ns m:Nat} (hns:a.ns=ns) (h6:2<=ns∧ns<=6) {w0:World} (q:Plc) (ho:OptAt w0 a q) (hp:PowsAt w0 m) (k i j l:Int)
noncomputable def runMun (orc:List (Option Bool)):Option (Ot×List DF×Option SV×List Prop):=
 (evC Tryz.prog ⟨evF Tryz.prog (spMx ha hns h6 ho hp) [] 24,fctRun ([]:List (Fct DO Tryz.prog w0 (λ_=>False)))⟩ [] 165 FU false cdMun ⟨tmMun ns k i j l,bkMun a q ns,2,2,orc,[]⟩).map (λr=>(r.1,r.2.1.df,r.2.1.tm.look 10,r.2.2))
def yesM (L:List Prop):Option (Ot×List DF×Option SV×List Prop):=some (.ret,[],some (.a (.one (.val (.bool true)))),L)
noncomputable def munP (n:Int):Prop:=
 (runMun ha hns h6 q ho hp k i j l (orcMunE true)=yesM (obMun0 ns i j (i.tmod n<=j.tmod n) (obMunE a q ns 1 k (i.tmod n) (j.tmod n)))∧
 runMun ha hns h6 q ho hp k i j l (orcMunD true)=yesM (obMun0 ns i j (i.tmod n<=j.tmod n) (obMunD a q ns 1 k l (i.tmod n) (j.tmod n))))∧
 runMun ha hns h6 q ho hp k i j l (orcMunD false)=yesM (obMun0 ns i j (j.tmod n<=i.tmod n) (obMunD a q ns 1 k l (j.tmod n) (i.tmod n)))
end
section
variable {a:Lns} (ha:a.opt) {m:Nat} {w0:World} (q:Plc) (ho:OptAt w0 a q) (hp:PowsAt w0 m) (k i j l:Int)
theorem Zyu:∀{ns:Nat} (hns:a.ns=ns) (h6:2<=ns∧ns<=6),munP ha hns h6 q ho hp k i j l ns
 | 0,_,h=>absurd h.1 Zd
 | 1,_,h=>absurd h.1 Zd
 | 2,hns,h6=>⟨⟨Zk,Zk⟩,Zk⟩
 | 3,hns,h6=>⟨⟨Zk,Zk⟩,Zk⟩
 | 4,hns,h6=>⟨⟨Zk,Zk⟩,Zk⟩
 | 5,hns,h6=>⟨⟨Zk,Zk⟩,Zk⟩
 | 6,hns,h6=>⟨⟨Zk,Zk⟩,Zk⟩
 | n+7,_,h=>absurd h.2 Zo
end
theorem Zxp {a:Lns} (ha:a.opt) {ns m:Nat} (hns:a.ns=ns) (h6:2<=ns∧ns<=6) {w0:World} (q:Plc) (ho:OptAt w0 a q) (hp:PowsAt w0 m) (k:Int) (hk:0<=k∧k<a.nw) (i j l:Int) (hi:U8 i) (hj:U8 j) (hl:U8 l) :
  ∃orc V L,runMun ha hns h6 q ho hp k i j l orc=some (.ret,[],some V,L)∧AllP L∧V=.a (.one (.val (.bool true))):=by
 obtain⟨⟨p1,p2⟩,p3⟩:=Zyu ha q ho hp k i j l hns h6;have ei:=Ybr (b:=(ns:Int)) hi.1;have ej:=Ybr (b:=(ns:Int)) hj.1;have i0:=Ycc i (show(ns:Int)≠0 by omega);have i1:=Ybu i (show(0:Int)<ns by omega);have j0:=Ycc j (show(ns:Int)≠0 by omega);have j1:=Ybu j (show(0:Int)<ns by omega);rw[<-ei]at i0 i1;rw[<-ej]at j0 j1;by_cases h:i.tmod ns=j.tmod ns
 ·exact⟨_,_,_,p1,Zh5 Zo hi hj Zo (Ztq ha hns h6.2 hk i0 h j1),rfl⟩
 ·by_cases h2:i.tmod ns<=j.tmod ns
  ·exact⟨_,_,_,p2,Zh5 Zo hi hj h2 (Zl5 ha hns h6.2 hk i0 Zo j1 hl),rfl⟩
  ·exact⟨_,_,_,p3,Zh5 Zo hi hj Zo (Zl5 ha hns h6.2 hk j0 Zo i1 hl),rfl⟩
end
end Go.Proofs.W
