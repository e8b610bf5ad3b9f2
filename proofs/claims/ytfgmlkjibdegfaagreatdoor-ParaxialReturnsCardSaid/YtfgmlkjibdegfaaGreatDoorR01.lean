/- The law ParaxialReturns: its walk and its card. Part 1 of 3. No condition beside the row. -/
import Derived.Test.YtfgmlkjibdegfaaGreatDoorA28
set_option linter.unusedVariables false
set_option linter.unusedSimpArgs false
set_option maxRecDepth 100000
set_option maxHeartbeats 4000000
namespace Go.Proofs.W
open Go.RowKit Go.Mono
section
open Go.Ex
def obRet (a:Lns) (q:Plc) (ns kb:Nat) (k n1 d1 n2 d2:Int):List Prop:=
 obNum n1 d1 (obNum n2 d2 (obTrace a q ns kb k (nq n1 d1) (nq n2 d2) (obBack a q ns kb k (a.tr k.toNat (nq n1 d1) (nq n2 d2) ns).1 (a.tr k.toNat (nq n1 d1) (nq n2 d2) ns).2 (obNum n1 d1 (obNum n2 d2 (obBack a q ns kb k (nq n1 d1) (nq n2 d2)
  (obTrace a q ns kb k (a.bkn ns k.toNat (nq n1 d1) (nq n2 d2) ns).1 (a.bkn ns k.toNat (nq n1 d1) (nq n2 d2) ns).2
   (obNum n1 d1 ((decide ((a.bkn ns k.toNat (a.tr k.toNat (nq n1 d1) (nq n2 d2) ns).1 (a.tr k.toNat (nq n1 d1) (nq n2 d2) ns).2 ns).1=nq n1 d1)=true)::
   (obNum n2 d2 ((decide ((a.bkn ns k.toNat (a.tr k.toNat (nq n1 d1) (nq n2 d2) ns).1 (a.tr k.toNat (nq n1 d1) (nq n2 d2) ns).2 ns).2=nq n2 d2)=true)::
   (obNum n1 d1 ((decide ((a.tr k.toNat (a.bkn ns k.toNat (nq n1 d1) (nq n2 d2) ns).1 (a.bkn ns k.toNat (nq n1 d1) (nq n2 d2) ns).2 ns).1=nq n1 d1)=true)::
   (obNum n2 d2 ((decide ((a.tr k.toNat (a.bkn ns k.toNat (nq n1 d1) (nq n2 d2) ns).1 (a.bkn ns k.toNat (nq n1 d1) (nq n2 d2) ns).2 ns).2=nq n2 d2)=true)::[])))))))))))))))
theorem Zyn {a:Lns} (ha:a.opt) {q:Plc} {ns kb:Nat} (hns:a.ns=ns) {k n1 d1 n2 d2:Int} (hk:0<=k∧k<a.nw) (h1:NumD n1 d1) (h2:NumD n2 d2):AllP (obRet a q ns kb k n1 d1 n2 d2):=by
 have q1:=Zt1 h1.1 h1.2;have q2:=Zt1 h2.1 h2.2;obtain⟨D,hD,e1,e2⟩:=Hs.two q1 q2;have hn:=ha.base.ns.2;have hk':k.toNat<a.nw:=Zo;obtain⟨D1,hD1,t1,t2⟩:=ha.tr_ov hk' hD e1 e2 a.ns (Yab _);obtain⟨D2,hD2,b1,b2⟩:=ha.bk_ov hk' hD e1 e2 a.ns (Yab _);have l1:=Yak hD1 (Zgh (show 5+5+30*a.ns<=5+5+37*a.ns by omega));have l2:=Yak hD2 (Zgh (show 5+5+30*a.ns<=5+5+37*a.ns by omega));have f1:=Zoz ha hk' Zo hD e1 e2;have f2:=Zx2 ha hk' Zo l1 t1 t2;have f3:=Zx2 ha hk' Zo hD e1 e2;have f4:=Zoz ha hk' Zo l2 b1 b2;have r1:=a.bk_tr k.toNat (nq n1 d1) (nq n2 d2) a.ns (Yab _);have r2:=a.tr_bk k.toNat (nq n1 d1) (nq n2 d2) a.ns (Yab _);rw[Ydt]at r1 r2;unfold obRet;subst hns;exact Zc5 h1 (Zc5 h2 (Zxw ha rfl hk f1 (Zx5 ha rfl hk f2 (Zc5 h1 (Zc5 h2 (Zx5 ha rfl hk f3 (Zxw ha rfl hk f4
  (Zc5 h1 ⟨decide_eq_true (congrArg Prod.fst r1),Zc5 h2 ⟨decide_eq_true (congrArg Prod.snd r1),Zc5 h1 ⟨decide_eq_true (congrArg Prod.fst r2),Zc5 h2 ⟨decide_eq_true (congrArg Prod.snd r2),trivial⟩⟩⟩⟩))))))))
def orcRet (_:Nat):List (Option Bool):=List.replicate 4 (some true)
end
section
open Go.Ex
set_option maxRecDepth 100000
section
variable (a:Lns) (q:Plc)
def bkRet (ns:Nat) (n1 d1 n2 d2:Int):List (Nat×Blk):=[(0,numB n1 d1),(1,numB n2 d2),(2,optBN a q ns 3),(3,srfB a q ns)]
def tmRet (k:Int):List (Nat×SV):=[(6,.a (.one (.ptr 0 0))),(7,.a (.one (.ptr 1 0))),(9,.a (.one (.ptr 2 0))),(10,.a (.one (.sym k)))]
end
noncomputable def cdRet:Code:=codeR (codeR (codeR (codeR (Tryz.f8.body.getD .skip))))
noncomputable def runRet {a:Lns} (ha:a.opt) (q:Plc) {ns m:Nat} (hns:a.ns=ns) {w0:World} (ho:OptAt w0 a q) (hp:PowsAt w0 m) (k n1 d1 n2 d2:Int):Option (Ot×List DF×Option SV×List Prop):=
 (evC Tryz.prog ⟨evF Tryz.prog (spN ha hns ho hp) [] 24,fctRun ([]:List (Fct (qDen kO kO1) Tryz.prog w0 (λ_=>False)))⟩ [] 145 FU false cdRet ⟨tmRet k,bkRet a q ns n1 d1 n2 d2,4,4,orcRet ns,[]⟩).map (λr=>(r.1,r.2.1.df,r.2.1.tm.look 8,r.2.2))
section
variable {a:Lns} (ha:a.opt) (q:Plc) {m:Nat} {w0:World} (ho:OptAt w0 a q) (hp:PowsAt w0 m) (k n1 d1 n2 d2:Int)
theorem Zyy (hns:a.ns=2):runRet ha q hns ho hp k n1 d1 n2 d2=some (.ret,[],some (.a (.one (.val (.bool true)))),obRet a q 2 3 k n1 d1 n2 d2):=Zk
theorem Zyz (hns:a.ns=3):runRet ha q hns ho hp k n1 d1 n2 d2=some (.ret,[],some (.a (.one (.val (.bool true)))),obRet a q 3 3 k n1 d1 n2 d2):=Zk
theorem Zy0 (hns:a.ns=4):runRet ha q hns ho hp k n1 d1 n2 d2=some (.ret,[],some (.a (.one (.val (.bool true)))),obRet a q 4 3 k n1 d1 n2 d2):=Zk
theorem Zy1 (hns:a.ns=5):runRet ha q hns ho hp k n1 d1 n2 d2=some (.ret,[],some (.a (.one (.val (.bool true)))),obRet a q 5 3 k n1 d1 n2 d2):=Zk
theorem Zy2 (hns:a.ns=6):runRet ha q hns ho hp k n1 d1 n2 d2=some (.ret,[],some (.a (.one (.val (.bool true)))),obRet a q 6 3 k n1 d1 n2 d2):=Zk
theorem Zy3 {ns:Nat} (h2:2<=ns) (h6:ns<=6) (hns:a.ns=ns):runRet ha q hns ho hp k n1 d1 n2 d2=some (.ret,[],some (.a (.one (.val (.bool true)))),obRet a q ns 3 k n1 d1 n2 d2):=by
 rcases(by omega:ns=2∨ns=3∨ns=4∨ns=5∨ns=6) with rfl|rfl|rfl|rfl|rfl
 ·exact Zyy ha q ho hp k n1 d1 n2 d2 hns
 ·exact Zyz ha q ho hp k n1 d1 n2 d2 hns
 ·exact Zy0 ha q ho hp k n1 d1 n2 d2 hns
 ·exact Zy1 ha q ho hp k n1 d1 n2 d2 hns
 ·exact Zy2 ha q ho hp k n1 d1 n2 d2 hns
end
end
end Go.Proofs.W
