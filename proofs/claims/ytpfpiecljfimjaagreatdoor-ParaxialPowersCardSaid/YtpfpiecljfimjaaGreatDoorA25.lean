/- Contracts of package paraxial,and a verified evaluator. Part 25 of 26. No condition beside the row. -/
import Derived.Test.YtpfpiecljfimjaaGreatDoorA11
import Derived.Test.YtpfpiecljfimjaaGreatDoorA21
import Derived.Test.YtpfpiecljfimjaaGreatDoorA23
import Derived.Test.YtpfpiecljfimjaaGreatDoorA24
set_option linter.unusedVariables false
set_option linter.unusedSimpArgs false
set_option maxRecDepth 100000
set_option maxHeartbeats 4000000
namespace Go.Proofs.W
open Go.RowKit Go.Mono
section
open Go.Ex
theorem Zws {w:World} {m:Nat} (sp:List (Ctr (qDen (pK m) (pK1 m)) Tryz.prog w (λ_=>False))) (fx:List (Fct (qDen (pK m) (pK1 m)) Tryz.prog w (λ_=>False))) {f:FuncId} {d:Nat}
  (hev:(evF Tryz.prog sp fx d [] f [] [] 0 0 []).map (λr=>(r.v,r.obl,r.pan))=some (.a (.one (.val (.bool true))),[],none)) :
  Calls Tryz.prog f #[] w λe w'=>e=.returned (.bool true)∧Below w.heap.size w w':=by
 refine(Zq8 (D:=qDen (pK m) (pK1 m)) (d:=d) (orc:=[]) (args:=[]) Zd2 sp fx (.a (.one (.val (.bool true)))) [] hev trivial (vals:=[]) rfl).mono ?_;rintro e w' ⟨v,ρ',rfl,hv,hb⟩;obtain rfl:v=.bool true:=by simpa using hv.1
 exact⟨rfl,hb⟩
theorem Zuj (w:World) (m:Nat) (hp:PowsAt w m):Calls Tryz.prog 7 #[] w λe w'=>e=.returned (.bool true)∧Below w.heap.size w w':=
 Zws (d:=40) (cOCheck w _::spC w (λ_=>False)) [powF hp] Zk
end
end Go.Proofs.W
namespace Go.Mono
theorem Ov.cast {N D D':Nat} {x:Rat} (h:Ov N D x) (e:D=D'):Ov N D' x:=e▸h
theorem Ov.fits {N D k:Nat} {x:Rat} (h:Ov N D x) (hk:k<=5399) (hN:N<=10 ^ k) (hD:D<=10 ^ k):Fits x:=Hs.fits (Hs.of_ov h hN hD) hk
theorem Ze2 {z:Int} {n:Nat} (h1 : -(n:Int)<=z) (h2:z<=n):z.natAbs<=n:=Zo
theorem Lns.opt.ix_ov {a:Lns} (ha:a.opt) {k s:Nat} (hs:s<a.ns) (hk:k<a.nw):∃m:Nat,10000000<=m∧m<=40000000∧(a.ix s k*a.sgn (s+1)).natAbs=m:=by
 have h:=ha.ir s k hs hk;rcases a.sgn_cases (s+1) with e|e<;>rw[e]
 ·exact⟨(a.ix s k).natAbs,Zo,Zo,Zo⟩
 ·exact⟨(a.ix s k).natAbs,Zo,Zo,Zo⟩
theorem Lns.opt.nI_ov {a:Lns} (ha:a.opt) {k s:Nat} (hs:s<a.ns) (hk:k<a.nw):Ov 40000000 10000000 (a.nI k s):=by
 obtain⟨m,h1,h2,h3⟩:=ha.ix_ov hs hk;exact Ov.of _ 10000000 Zd _ Zo
theorem Lns.opt.nB_ov {a:Lns} (ha:a.opt) {k s:Nat} (hs:s<a.ns) (hk:k<a.nw):Ov 40000000 10000000 (a.nB k s):=by
 unfold Lns.nB;split
 ·exact((Ov.of 1 1 Zd 1 Zd).scale 10000000 Zd).mono Zd
 ·exact ha.nI_ov Zo hk
theorem Lns.opt.cv_ov {a:Lns} (ha:a.opt) {s:Nat} (hs:s<a.ns):Ov 1000000000 1000000000 (a.cv s):=by
 have h:=(ha.base.sok s hs).curv;exact Ov.of _ 1000000000 Zd _ (Ze2 h.1 h.2)
theorem Lns.opt.step_ov {a:Lns} (ha:a.opt) {k s:Nat} (hs:s<a.ns) (hk:k<a.nw):Ov 80000000 10000000 (a.step k s):=
 (ha.nI_ov hs hk).sub_same (ha.nB_ov hs hk)
theorem Lns.opt.gr_ov {a:Lns} (ha:a.opt) {k s:Nat} (hs:s<a.ns) (hk:k<a.nw):Ov (6000000000*2500000) (10000000*10000000) (a.gr k s):=by
 have ho:=(ha.base.sok s hs).order;have hp:=(ha.base.sok s hs).p0;have hl:=ha.base.wl k hk;have h1:(2*(a.S s).order*(a.S s).p0).natAbs<=6000000000:=by
  rw[Yde];have e1:(2*(a.S s).order).natAbs<=6:=Ze2 (by have:=ho.1;omega) (by have:=ho.2;omega);have e2:((a.S s).p0).natAbs<=1000000000:=Ze2 hp.1 hp.2;exact Yak (Ybv e1 e2) Zd
 exact(Ov.of _ 10000000 Zd _ h1).mul (Ov.of _ 10000000 Zd _ Zo)
theorem Lns.opt.cs_ov {a:Lns} (ha:a.opt) {k s:Nat} (hs:s<a.ns) (hk:k<a.nw):Ov (1000000000*80000000) (1000000000*10000000) (a.cv s*a.step k s):=
 (ha.cv_ov hs).mul (ha.step_ov hs hk)
theorem Lns.opt.curved_ov {a:Lns} (ha:a.opt) {k s:Nat} (hs:s<a.ns) (hk:k<a.nw):Ov (10 ^ 19) (10 ^ 16) (a.cv s*a.step k s-a.gr k s):=by
 have h1:=(ha.cs_ov hs hk).cast (show 1000000000*10000000=10 ^ 16 by decide);have h2:=((ha.gr_ov hs hk).scale 100 Zd).cast (show 10000000*10000000*100=10 ^ 16 by decide);exact(h1.sub_same h2).mono Zd
theorem Hs.two {k:Nat} {x y:Rat} (hx:Hs k x) (hy:Hs k y):∃D,D<=10 ^ (k+k)∧Ov (10 ^ (k+k)) D x∧Ov (10 ^ (k+k)) D y:=by
 refine⟨x.den*y.den,?_,?_,?_⟩
 ·rw[Ydn];exact Ybv hx.2 hy.2
 ·refine(hx.ov.scale y.den y.den_pos).mono ?_
  rw[Ydn];exact Yci _ hy.2
 ·refine((hy.ov.scale x.den x.den_pos).cast (Ycu _ _)).mono ?_
  rw[Ydn];exact Yci _ hx.2
end Go.Mono
namespace Go.Proofs.W
open Go.RowKit Go.Mono
theorem Zmf {a:Lns} (ha:a.opt) {k s:Nat} (hs:s<a.ns) (hk:k<a.nw):PowFits a k s:=by
 exact⟨(ha.step_ov hs hk).fits (k:=30) Zd Zd Zd,(ha.cs_ov hs hk).fits (k:=30) Zd Zd Zd,(ha.gr_ov hs hk).fits (k:=30) Zd Zd Zd,(ha.curved_ov hs hk).fits (k:=30) Zd Zd Zd⟩
end Go.Proofs.W
namespace Go.Mono
end Go.Mono
namespace Go.Proofs.W
open Go.RowKit Go.Mono
end Go.Proofs.W
namespace Go.Proofs.W
open Go.RowKit Go.Mono
section
open Go.Ex
def kO:Nat->Value:=λ_=>.bool false
theorem kO1 (i:Nat):(kO i).oneCell'=true:=rfl
section
variable (a:Lns) (q:Plc) (ns kb:Nat) (k:Int)
def obS (L:List Prop):List Prop:=(optU a q ns kb=optU a q ns kb)::(srfB a q ns=srfB a q ns)::(0<=k∧k<a.nw)::L
section
variable (y u:Rat)
end
end
section
variable {a:Lns} (ha:a.opt) {q:Plc} {ns:Nat} (hns:a.ns=ns) {kb:Nat} {k:Int} (hk:0<=k∧k<a.nw) {L:List Prop}
include hk
theorem Zvk (hL:AllP L):AllP (obS a q ns kb k L):=⟨rfl,rfl,hk,hL⟩
include ha hns
end
theorem Zmm {a:Lns} (ha:a.opt) {q:Plc} {ns:Nat} (hns:a.ns=ns) {w:World} (ho:OptAt w a q):∃b off,q.ps=some ⟨b,off,none⟩∧∀D vs,VwOk D w vs ⟨115,srfsU a q 0 ns,b,off,srfsC a q 0 ns⟩:=by
 have hn:=ha.base.ns.1;obtain⟨_,_,h⟩:=ho.surfs;obtain⟨b,off,hp,hb,hc⟩:=h Zo;refine⟨b,off,hp,λD vs=>⟨hb,λj v hj=>?_,(Zbe ns 0).2 rfl⟩⟩;have hl:∀n s,(srfsC a q s n).length=n*22:=by
  intro n;induction n with
  | zero=>intro s;rfl
  | succ n ih=>intro s;unfold srfsC;rw[List.range'_succ,List.flatMap_cons,Yay,Yeb,Yfb];exact congrArg (· + 22) (ih (s+1))
 have hjl:j<ns*22:=by rw[<-hl ns 0];exact(Yan.1 hj).1
 have hg:=Zcg a q ns 0 (j/22) (j%22) Zo Zo;rw[show j/22*22+j%22=j by omega,hj]at hg;cases hg;have:=hc (j/22) (j%22) Zo Zo;rw[show off+j/22*22+j%22=off+j by omega]at this;rw[Yba];exact this
theorem Zx5 {a:Lns} {q:Plc} {ns kb:Nat} (hns:a.ns=ns) {w:World} {B b off:Nat} (hp:q.ps=some ⟨b,off,none⟩) (h:Box w B 41 (a.ovals q)) {D:Den} {vs:List Vw} (hk:nmV vs kb=some ⟨b,off,true,0,0⟩):VwOk D w vs ⟨41,optU a q ns kb,B,0,(a.ovals q).toList⟩:=by
 refine⟨h.lt,h.range,(Zex hns).2 ⟨_,hk,?_⟩⟩;obtain⟨pf,cf,pw,cw,ps,cs,pc,cc,cp,cl,pi,ci,pI,cI⟩:=q;subst hp;rfl
noncomputable def spN {a:Lns} (ha:a.opt) {q:Plc} {ns m:Nat} (hns:a.ns=ns) {w0:World} (ho:OptAt w0 a q) (hp:PowsAt w0 m):List (Ctr (qDen kO kO1) Tryz.prog w0 (λ_=>False)):=cLookN ha hns ho::cIdxN ha hns ho::cPowN ha hns ho hp::cR4Of w0 _::cOfT w0 _::spS w0 _
end
end Go.Proofs.W
