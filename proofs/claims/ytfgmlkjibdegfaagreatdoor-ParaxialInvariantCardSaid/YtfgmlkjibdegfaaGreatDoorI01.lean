/- The law ParaxialInvariant: its walk and its card. Part 1 of 3. No condition beside the row. -/
import Derived.Test.YtfgmlkjibdegfaaGreatDoorA28
set_option linter.unusedVariables false
set_option linter.unusedSimpArgs false
set_option maxRecDepth 100000
set_option maxHeartbeats 4000000
namespace Go.Mono
def crs (a b:Rat×Rat):Rat:=a.1*b.2-b.1*a.2
theorem Zus (a:Lns) (k:Nat) (x y:Rat×Rat):∀s,crs (a.tr k x.1 x.2 s) (a.tr k y.1 y.2 s)=crs x y
 | 0=>rfl
 | s + 1 => by
   rw[<-Zus a k x y s];have e:∀(x:Rat×Rat),a.tr k x.1 x.2 (s+1)=(if s=0 then(a.tr k x.1 x.2 s).1 else(a.tr k x.1 x.2 s).1+(Rat.divInt (1*(a.S (s-1)).thick) 1000000*(a.tr k x.1 x.2 s).2)/a.nI k (s-1),(a.tr k x.1 x.2 s).2-Rat.divInt 1 1*((if s=0 then(a.tr k x.1 x.2 s).1 else(a.tr k x.1 x.2 s).1+(Rat.divInt (1*(a.S (s-1)).thick) 1000000*(a.tr k x.1 x.2 s).2)/a.nI k (s-1))*a.pow k s)):=λ_=>rfl;rw[e x,e y];unfold crs;rw[show Rat.divInt 1 1=1 by decide +kernel];simp only[Yew];generalize a.tr k x.1 x.2 s=r;generalize a.tr k y.1 y.2 s=t;generalize a.pow k s=p;generalize (a.nI k (s-1))⁻¹=n;generalize Rat.divInt (1*(a.S (s-1)).thick) 1000000=g;split<;>grind
theorem Zt0 {N D M E k:Nat} {a b:Rat×Rat} (h1:Ov N D a.1) (h2:Ov N D a.2) (g1:Ov M E b.1) (g2:Ov M E b.2) (hk:k<=5399) (hN:N*M+N*M<=10 ^ k) (hD:D*E<=10 ^ k):Fits (a.1*b.2)∧Fits (b.1*a.2)∧Fits (a.1*b.2-b.1*a.2):=by
 have m1:=h1.mul g2;have m2:=(g1.mul h2).cast (Ycu E D);rw[Ycu M N]at m2;exact⟨m1.fits hk Zo hD,m2.fits hk Zo hD,(m1.sub_same m2).fits hk hN hD⟩
end Go.Mono
namespace Go.Proofs.W
open Go.RowKit Go.Mono
section
open Go.Ex
theorem Zng {a:Lns} (ha:a.opt) {k:Nat} (hk:k<a.nw) {x y:Rat×Rat} (hx1:Hs 5 x.1) (hx2:Hs 5 x.2) (hy1:Hs 5 y.1) (hy2:Hs 5 y.2) {s:Nat} (hs:s<=a.ns) :
  Fits ((a.tr k x.1 x.2 s).1*(a.tr k y.1 y.2 s).2)∧Fits ((a.tr k y.1 y.2 s).1*(a.tr k x.1 x.2 s).2)∧Fits ((a.tr k x.1 x.2 s).1*(a.tr k y.1 y.2 s).2-(a.tr k y.1 y.2 s).1*(a.tr k x.1 x.2 s).2):=by
 obtain⟨D,hD,d1,d2⟩:=Hs.two hx1 hx2;obtain⟨E,hE,e1,e2⟩:=Hs.two hy1 hy2;obtain⟨D',hD',t1,t2⟩:=ha.tr_ov hk hD d1 d2 s hs;obtain⟨E',hE',u1,u2⟩:=ha.tr_ov hk hE e1 e2 s hs;have hn:=ha.base.ns.2;refine Zt0 (k:=5+5+37*s+(5+5+37*s)+1) t1 t2 u1 u2 Zo ?_ ?_
 ·rw[<-Ydn,Nat.pow_succ]
  omega
 ·have h1:=Ybv hD' hE'
  rw[<-Ydn]at h1;exact Yak h1 (Zgh Zo)
def obCr (a b:Rat×Rat) (L:List Prop):List Prop:=Fits (a.1*b.2)::Fits (b.1*a.2)::Fits (a.1*b.2-b.1*a.2)::L
def obInvL (a:Lns) (k:Nat) (x y:Rat×Rat):Nat->Nat->List Prop
 | _,0=>[]
 | s,n+1=>obCr (a.tr k x.1 x.2 (s+1)) (a.tr k y.1 y.2 (s+1)) ((decide (crs (a.tr k x.1 x.2 (s+1)) (a.tr k y.1 y.2 (s+1))=crs x y)=true)::obInvL a k x y (s+1) n)
def obInv (a:Lns) (q:Plc) (ns kb:Nat) (k n1 d1 n2 d2 n3 d3 n4 d4:Int):List Prop:=
 obNum n1 d1 (obNum n2 d2 (obTrace a q ns kb k (nq n1 d1) (nq n2 d2) (obNum n3 d3 (obNum n4 d4 (obTrace a q ns kb k (nq n3 d3) (nq n4 d4) (obNum n1 d1 (obNum n2 d2 (obNum n3 d3 (obNum n4 d4 (obCr (nq n1 d1,nq n2 d2) (nq n3 d3,nq n4 d4) (obInvL a k.toNat (nq n1 d1,nq n2 d2) (nq n3 d3,nq n4 d4) 0 ns)))))))))))
theorem Zkp {a:Lns} (ha:a.opt) {k:Nat} (hk:k<a.nw) {x y:Rat×Rat} (hx1:Hs 5 x.1) (hx2:Hs 5 x.2) (hy1:Hs 5 y.1) (hy2:Hs 5 y.2):∀n s,s+n<=a.ns->AllP (obInvL a k x y s n)
 | 0,_,_=>trivial
 | n + 1, s, hs => by
   obtain⟨f1,f2,f3⟩:=Zng ha hk hx1 hx2 hy1 hy2 (s:=s+1) Zo;exact⟨f1,f2,f3,decide_eq_true (Zus a k x y (s+1)),Zkp ha hk hx1 hx2 hy1 hy2 n (s+1) Zo⟩
theorem Zt2 {a:Lns} (ha:a.opt) {q:Plc} {ns kb:Nat} (hns:a.ns=ns) {k n1 d1 n2 d2 n3 d3 n4 d4:Int} (hk:0<=k∧k<a.nw) (h1:NumD n1 d1) (h2:NumD n2 d2) (h3:NumD n3 d3) (h4:NumD n4 d4):AllP (obInv a q ns kb k n1 d1 n2 d2 n3 d3 n4 d4):=by
 have q1:=Zt1 h1.1 h1.2;have q2:=Zt1 h2.1 h2.2;have q3:=Zt1 h3.1 h3.2;have q4:=Zt1 h4.1 h4.2;obtain⟨f1,f2,f3⟩:=Zng ha (k:=k.toNat) Zo (x:=(nq n1 d1,nq n2 d2)) (y:=(nq n3 d3,nq n4 d4)) q1 q2 q3 q4 (s:=0) Zo;unfold obInv;exact Zc5 h1 (Zc5 h2 (Zxw ha hns hk (Zy5 ha Zo (K:=5) Zd q1 q2) (Zc5 h3 (Zc5 h4 (Zxw ha hns hk (Zy5 ha Zo (K:=5) Zd q3 q4) (Zc5 h1 (Zc5 h2 (Zc5 h3 (Zc5 h4 ⟨f1,f2,f3,Zkp ha Zo q1 q2 q3 q4 ns 0 Zo⟩)))))))))
def orcInv (ns:Nat):List (Option Bool):=List.replicate ns (some true)
end
section
open Go.Ex
set_option maxRecDepth 100000
section
variable (a:Lns) (q:Plc)
def bkInv (ns:Nat) (n1 d1 n2 d2 n3 d3 n4 d4:Int):List (Nat×Blk):=[(0,numB n1 d1),(1,numB n2 d2),(2,numB n3 d3),(3,numB n4 d4),(4,optBN a q ns 5),(5,srfB a q ns)]
def tmInv (k:Int):List (Nat×SV):=[(8,.a (.one (.ptr 0 0))),(9,.a (.one (.ptr 1 0))),(10,.a (.one (.ptr 2 0))),(11,.a (.one (.ptr 3 0))),(13,.a (.one (.ptr 4 0))),(14,.a (.one (.sym k)))]
end
noncomputable def cdInv:Code:=codeR (codeR (codeR (codeR (Tryz.f6.body.getD .skip))))
noncomputable def runInv {a:Lns} (ha:a.opt) (q:Plc) {ns m:Nat} (hns:a.ns=ns) {w0:World} (ho:OptAt w0 a q) (hp:PowsAt w0 m) (k n1 d1 n2 d2 n3 d3 n4 d4:Int):Option (Ot×List DF×Option SV×List Prop):=
 (evC Tryz.prog ⟨evF Tryz.prog (spN ha hns ho hp) [] 24,fctRun ([]:List (Fct (qDen kO kO1) Tryz.prog w0 (λ_=>False)))⟩ [] 120 FU false cdInv ⟨tmInv k,bkInv a q ns n1 d1 n2 d2 n3 d3 n4 d4,6,6,orcInv ns,[]⟩).map (λr=>(r.1,r.2.1.df,r.2.1.tm.look 12,r.2.2))
section
variable {a:Lns} (ha:a.opt) (q:Plc) {m:Nat} {w0:World} (ho:OptAt w0 a q) (hp:PowsAt w0 m) (k n1 d1 n2 d2 n3 d3 n4 d4:Int)
theorem Zwk (hns:a.ns=2):runInv ha q hns ho hp k n1 d1 n2 d2 n3 d3 n4 d4=some (.ret,[],some (.a (.one (.val (.bool true)))),obInv a q 2 5 k n1 d1 n2 d2 n3 d3 n4 d4):=Zk
theorem Zwl (hns:a.ns=3):runInv ha q hns ho hp k n1 d1 n2 d2 n3 d3 n4 d4=some (.ret,[],some (.a (.one (.val (.bool true)))),obInv a q 3 5 k n1 d1 n2 d2 n3 d3 n4 d4):=Zk
theorem Zwm (hns:a.ns=4):runInv ha q hns ho hp k n1 d1 n2 d2 n3 d3 n4 d4=some (.ret,[],some (.a (.one (.val (.bool true)))),obInv a q 4 5 k n1 d1 n2 d2 n3 d3 n4 d4):=Zk
theorem Zwn (hns:a.ns=5):runInv ha q hns ho hp k n1 d1 n2 d2 n3 d3 n4 d4=some (.ret,[],some (.a (.one (.val (.bool true)))),obInv a q 5 5 k n1 d1 n2 d2 n3 d3 n4 d4):=Zk
theorem Zwo (hns:a.ns=6):runInv ha q hns ho hp k n1 d1 n2 d2 n3 d3 n4 d4=some (.ret,[],some (.a (.one (.val (.bool true)))),obInv a q 6 5 k n1 d1 n2 d2 n3 d3 n4 d4):=Zk
theorem Zwp {ns:Nat} (h2:2<=ns) (h6:ns<=6) (hns:a.ns=ns):runInv ha q hns ho hp k n1 d1 n2 d2 n3 d3 n4 d4=some (.ret,[],some (.a (.one (.val (.bool true)))),obInv a q ns 5 k n1 d1 n2 d2 n3 d3 n4 d4):=by
 rcases(by omega:ns=2∨ns=3∨ns=4∨ns=5∨ns=6) with rfl|rfl|rfl|rfl|rfl
 ·exact Zwk ha q ho hp k n1 d1 n2 d2 n3 d3 n4 d4 hns
 ·exact Zwl ha q ho hp k n1 d1 n2 d2 n3 d3 n4 d4 hns
 ·exact Zwm ha q ho hp k n1 d1 n2 d2 n3 d3 n4 d4 hns
 ·exact Zwn ha q ho hp k n1 d1 n2 d2 n3 d3 n4 d4 hns
 ·exact Zwo ha q ho hp k n1 d1 n2 d2 n3 d3 n4 d4 hns
end
end
end Go.Proofs.W
