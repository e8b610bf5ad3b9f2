/- The law ParaxialLinear: its walk and its card. Part 1 of 3. No condition beside the row. -/
import Derived.Test.YtfgmlkjibdegfaaGreatDoorA28
set_option linter.unusedVariables false
set_option linter.unusedSimpArgs false
set_option maxRecDepth 100000
set_option maxHeartbeats 4000000
namespace Go.Mono
theorem Zyp (a:Lns) (k:Nat) (c:Rat) (x y:Rat×Rat):∀s,a.tr k (c*x.1+y.1) (c*x.2+y.2) s=(c*(a.tr k x.1 x.2 s).1+(a.tr k y.1 y.2 s).1,c*(a.tr k x.1 x.2 s).2+(a.tr k y.1 y.2 s).2)
 | 0=>rfl
 | s + 1 => by
   rw[a.tr_stp,a.tr_stp,a.tr_stp,Zyp a k c x y s];unfold Lns.stp;dsimp only;rw[show Rat.divInt 1 1=1 by decide +kernel];simp only[Yew];generalize a.tr k x.1 x.2 s=r;generalize a.tr k y.1 y.2 s=t;generalize a.pow k s=p;generalize (a.nI k (s-1))⁻¹=n;generalize Rat.divInt (1*(a.S (s-1)).thick) 1000000=g;split
   ·congr 1;grind
   ·congr 1<;>grind
theorem Zyc {c x y:Rat} {N D M E:Nat} (k:Nat) (hc:Hs 5 c) (h:Ov N D x) (g:Ov M E y) (hk:k<=1300) (hN:N<=10 ^ k) (hD:D<=10 ^ k) (hM:M<=10 ^ k) (hE:E<=10 ^ k):Fits (c*x)∧Fits (c*x+y):=by
 have m:=hc.ov.mul h;have h1:10 ^ 5*N<=10 ^ (5+k):=by rw[Ydn];exact Yci _ hN
 have h2:c.den*D<=10 ^ (5+k):=by rw[Ydn];exact Ybv hc.2 hD
 refine⟨m.fits (k:=5+k) Zo h1 h2,(m.add g).fits (k:=5+k+k+1) Zo ?_ ?_⟩
 ·have e1:=Ybv h1 hE
  have e2:=Ybv hM h2;rw[Ycu (10 ^ k),<-Ydn]at e2;rw[<-Ydn]at e1;rw[Nat.pow_succ 10 (5+k+k)];omega
 ·have e1:=Ybv h2 hE
  rw[<-Ydn]at e1;exact Yak e1 (Nat.pow_le_pow_right Zd Zo)
end Go.Mono
namespace Go.Proofs.W
open Go.RowKit Go.Mono
section
open Go.Ex
def obBoth (n d:Int) (x y:Rat) (L:List Prop):List Prop:=obNum n d (Fits (nq n d*x)::Fits (nq n d*x+y)::L)
def obLinL (a:Lns) (k:Nat) (n d:Int) (x y z:Rat×Rat):Nat->Nat->List Prop
 | _,0=>[]
 | s,m+1=>obBoth n d (a.tr k x.1 x.2 (s+1)).1 (a.tr k y.1 y.2 (s+1)).1 ((decide ((a.tr k z.1 z.2 (s+1)).1=nq n d*(a.tr k x.1 x.2 (s+1)).1+(a.tr k y.1 y.2 (s+1)).1)=true)::obBoth n d (a.tr k x.1 x.2 (s+1)).2 (a.tr k y.1 y.2 (s+1)).2 ((decide ((a.tr k z.1 z.2 (s+1)).2=nq n d*(a.tr k x.1 x.2 (s+1)).2+(a.tr k y.1 y.2 (s+1)).2)=true)::obLinL a k n d x y z (s+1) m))
def obLin (a:Lns) (q:Plc) (ns:Nat) (kb:Nat) (k n1 d1 n2 d2 n3 d3 n4 d4 n5 d5:Int):List Prop:=
 obNum n1 d1 (obNum n2 d2 (obTrace a q ns kb k (nq n1 d1) (nq n2 d2) (obNum n3 d3 (obNum n4 d4 (obTrace a q ns kb k (nq n3 d3) (nq n4 d4) (obNum n1 d1 (obNum n3 d3 (obBoth n5 d5 (nq n1 d1) (nq n3 d3) (obNum n2 d2 (obNum n4 d4 (obBoth n5 d5 (nq n2 d2) (nq n4 d4) (obTrace a q ns kb k (nq n5 d5*nq n1 d1+nq n3 d3) (nq n5 d5*nq n2 d2+nq n4 d4) (obLinL a k.toNat n5 d5 (nq n1 d1,nq n2 d2) (nq n3 d3,nq n4 d4) (nq n5 d5*nq n1 d1+nq n3 d3,nq n5 d5*nq n2 d2+nq n4 d4) 0 ns)))))))))))))
theorem Zxy {n d:Int} (h:NumD n d) {x y:Rat} (hf:Fits (nq n d*x)∧Fits (nq n d*x+y)) {L:List Prop} (hL:AllP L):AllP (obBoth n d x y L):=Zc5 h ⟨hf.1,hf.2,hL⟩
theorem Zyd {a:Lns} (ha:a.opt) {k:Nat} (hk:k<a.nw) {c:Rat} (hc:Hs 5 c) {x y:Rat×Rat} (hx1:Hs 5 x.1) (hx2:Hs 5 x.2) (hy1:Hs 5 y.1) (hy2:Hs 5 y.2) {s:Nat} (hs:s<=a.ns) :
  (Fits (c*(a.tr k x.1 x.2 s).1)∧Fits (c*(a.tr k x.1 x.2 s).1+(a.tr k y.1 y.2 s).1))∧Fits (c*(a.tr k x.1 x.2 s).2)∧Fits (c*(a.tr k x.1 x.2 s).2+(a.tr k y.1 y.2 s).2):=by
 obtain⟨D,hD,d1,d2⟩:=Hs.two hx1 hx2;obtain⟨E,hE,e1,e2⟩:=Hs.two hy1 hy2;obtain⟨D',hD',t1,t2⟩:=ha.tr_ov hk hD d1 d2 s hs;obtain⟨E',hE',u1,u2⟩:=ha.tr_ov hk hE e1 e2 s hs;have hn:=ha.base.ns.2;have b2:=Yak hD' (Zgh (show 5+5+30*s<=5+5+37*s by omega));have b3:=Yak hE' (Zgh (show 5+5+30*s<=5+5+37*s by omega));exact⟨Zyc _ hc t1 u1 Zo (Yab _) b2 (Yab _) b3,Zyc _ hc t2 u2 Zo (Yab _) b2 (Yab _) b3⟩
theorem Zx6 {a:Lns} (ha:a.opt) {k:Nat} (hk:k<a.nw) {n d:Int} (hc:NumD n d) {x y:Rat×Rat} (hx1:Hs 5 x.1) (hx2:Hs 5 x.2) (hy1:Hs 5 y.1) (hy2:Hs 5 y.2):∀m s,s+m<=a.ns->AllP (obLinL a k n d x y (nq n d*x.1+y.1,nq n d*x.2+y.2) s m)
 | 0,_,_=>trivial
 | m + 1, s, hs => by
   obtain⟨f1,f2⟩:=Zyd ha hk (Zt1 hc.1 hc.2) hx1 hx2 hy1 hy2 (s:=s+1) Zo;have e:=Zyp a k (nq n d) x y (s+1);exact Zxy hc f1 ⟨decide_eq_true (congrArg Prod.fst e),Zxy hc f2 ⟨decide_eq_true (congrArg Prod.snd e),Zx6 ha hk hc hx1 hx2 hy1 hy2 m (s+1) Zo⟩⟩
theorem Zym {a:Lns} (ha:a.opt) {q:Plc} {ns kb:Nat} (hns:a.ns=ns) {k n1 d1 n2 d2 n3 d3 n4 d4 n5 d5:Int} (hk:0<=k∧k<a.nw) (h1:NumD n1 d1) (h2:NumD n2 d2) (h3:NumD n3 d3) (h4:NumD n4 d4) (h5:NumD n5 d5):AllP (obLin a q ns kb k n1 d1 n2 d2 n3 d3 n4 d4 n5 d5):=by
 have q1:=Zt1 h1.1 h1.2;have q2:=Zt1 h2.1 h2.2;have q3:=Zt1 h3.1 h3.2;have q4:=Zt1 h4.1 h4.2;have q5:=Zt1 h5.1 h5.2;obtain⟨f1,f2⟩:=Zyd ha (k:=k.toNat) Zo q5 (x:=(nq n1 d1,nq n2 d2)) (y:=(nq n3 d3,nq n4 d4)) q1 q2 q3 q4 (s:=0) Zo;unfold obLin;exact Zc5 h1 (Zc5 h2 (Zxw ha hns hk (Zy5 ha Zo (K:=5) Zd q1 q2) (Zc5 h3 (Zc5 h4 (Zxw ha hns hk (Zy5 ha Zo (K:=5) Zd q3 q4) (Zc5 h1 (Zc5 h3 (Zxy h5 f1 (Zc5 h2 (Zc5 h4 (Zxy h5 f2 (Zxw ha hns hk (Zy5 ha Zo (K:=16) Zd ((q5.mul q1).add q3) ((q5.mul q2).add q4)) (Zx6 ha Zo h5 q1 q2 q3 q4 ns 0 Zo)))))))))))))
def orcLin (ns:Nat):List (Option Bool):=List.replicate (2*ns) (some true)
end
section
open Go.Ex
set_option maxRecDepth 100000
section
variable (a:Lns) (q:Plc)
def bkLin (ns:Nat) (n1 d1 n2 d2 n3 d3 n4 d4 n5 d5:Int):List (Nat×Blk):=[(0,numB n1 d1),(1,numB n2 d2),(2,numB n3 d3),(3,numB n4 d4),(4,numB n5 d5),(5,optBN a q ns 6),(6,srfB a q ns)]
def tmLin (k:Int):List (Nat×SV):=[(9,.a (.one (.ptr 0 0))),(10,.a (.one (.ptr 1 0))),(11,.a (.one (.ptr 2 0))),(12,.a (.one (.ptr 3 0))),(13,.a (.one (.ptr 4 0))),(15,.a (.one (.ptr 5 0))),(16,.a (.one (.sym k)))]
end
noncomputable def cdLin:Code:=codeR (codeR (codeR (codeR (Tryz.f7.body.getD .skip))))
noncomputable def runLin {a:Lns} (ha:a.opt) (q:Plc) {ns m:Nat} (hns:a.ns=ns) {w0:World} (ho:OptAt w0 a q) (hp:PowsAt w0 m) (k n1 d1 n2 d2 n3 d3 n4 d4 n5 d5:Int):Option (Ot×List DF×Option SV×List Prop):=
 (evC Tryz.prog ⟨evF Tryz.prog (spN ha hns ho hp) [] 24,fctRun ([]:List (Fct (qDen kO kO1) Tryz.prog w0 (λ_=>False)))⟩ [] 146 FU false cdLin ⟨tmLin k,bkLin a q ns n1 d1 n2 d2 n3 d3 n4 d4 n5 d5,7,7,orcLin ns,[]⟩).map (λr=>(r.1,r.2.1.df,r.2.1.tm.look 14,r.2.2))
section
variable {a:Lns} (ha:a.opt) (q:Plc) {m:Nat} {w0:World} (ho:OptAt w0 a q) (hp:PowsAt w0 m) (k n1 d1 n2 d2 n3 d3 n4 d4 n5 d5:Int)
theorem Zyq (hns:a.ns=2):runLin ha q hns ho hp k n1 d1 n2 d2 n3 d3 n4 d4 n5 d5=some (.ret,[],some (.a (.one (.val (.bool true)))),obLin a q 2 6 k n1 d1 n2 d2 n3 d3 n4 d4 n5 d5):=Zk
theorem Zyr (hns:a.ns=3):runLin ha q hns ho hp k n1 d1 n2 d2 n3 d3 n4 d4 n5 d5=some (.ret,[],some (.a (.one (.val (.bool true)))),obLin a q 3 6 k n1 d1 n2 d2 n3 d3 n4 d4 n5 d5):=Zk
theorem Zys (hns:a.ns=4):runLin ha q hns ho hp k n1 d1 n2 d2 n3 d3 n4 d4 n5 d5=some (.ret,[],some (.a (.one (.val (.bool true)))),obLin a q 4 6 k n1 d1 n2 d2 n3 d3 n4 d4 n5 d5):=Zk
theorem Zyt (hns:a.ns=5):runLin ha q hns ho hp k n1 d1 n2 d2 n3 d3 n4 d4 n5 d5=some (.ret,[],some (.a (.one (.val (.bool true)))),obLin a q 5 6 k n1 d1 n2 d2 n3 d3 n4 d4 n5 d5):=Zk
theorem Zyu (hns:a.ns=6):runLin ha q hns ho hp k n1 d1 n2 d2 n3 d3 n4 d4 n5 d5=some (.ret,[],some (.a (.one (.val (.bool true)))),obLin a q 6 6 k n1 d1 n2 d2 n3 d3 n4 d4 n5 d5):=Zk
theorem Zyv {ns:Nat} (h2:2<=ns) (h6:ns<=6) (hns:a.ns=ns):runLin ha q hns ho hp k n1 d1 n2 d2 n3 d3 n4 d4 n5 d5=some (.ret,[],some (.a (.one (.val (.bool true)))),obLin a q ns 6 k n1 d1 n2 d2 n3 d3 n4 d4 n5 d5):=by
 rcases(by omega:ns=2∨ns=3∨ns=4∨ns=5∨ns=6) with rfl|rfl|rfl|rfl|rfl
 ·exact Zyq ha q ho hp k n1 d1 n2 d2 n3 d3 n4 d4 n5 d5 hns
 ·exact Zyr ha q ho hp k n1 d1 n2 d2 n3 d3 n4 d4 n5 d5 hns
 ·exact Zys ha q ho hp k n1 d1 n2 d2 n3 d3 n4 d4 n5 d5 hns
 ·exact Zyt ha q ho hp k n1 d1 n2 d2 n3 d3 n4 d4 n5 d5 hns
 ·exact Zyu ha q ho hp k n1 d1 n2 d2 n3 d3 n4 d4 n5 d5 hns
end
end
end Go.Proofs.W
