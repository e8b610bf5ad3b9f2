/- Contracts of package paraxial,and a verified evaluator. Part 26 of 26. No condition beside the row. -/
import Derived.Test.YtpfpiecljfimjaaGreatDoorA25
set_option linter.unusedVariables false
set_option linter.unusedSimpArgs false
set_option maxRecDepth 100000
set_option maxHeartbeats 4000000
namespace Go.Ex
open Go.RowKit Go.Mono

end Go.Ex
namespace Go.Proofs.W
open Go.RowKit Go.Mono
section
open Go.Ex
section
variable {a:Lns} (ha:a.opt) (q:Plc) {ns m:Nat} {w0:World}
noncomputable def runP (hns:a.ns=ns) (ho:OptAt w0 a q) (hp:PowsAt w0 m) (f:FuncId) (args:List SA) (bk:List (Nat×Blk)) (c:Nat) (orc:List (Option Bool)):Option (SV×List Prop×List (Nat×Blk)×Option Value):=
 (evF Tryz.prog (spN ha hns ho hp) [] 24 [] f args bk c c orc).map λr=>(r.v,r.obl,r.wr,r.pan)
variable (ho:OptAt w0 a q) (hp:PowsAt w0 m) (k:Int) (y u:Rat)
set_option maxRecDepth 100000
def obAt (a:Lns) (q:Plc) (ns:Nat) (k s:Int) (L:List Prop):List Prop:=obS a q ns 0 k ((decide (s<0)=false)::(decide (s>=(ns:Int))=false)::obS a q ns 0 k ((0<=s∧s<(ns:Int))::L))
theorem Zy5 (hns:a.ns=ns) (s:Int):runP ha q hns ho hp 11 [.agg (optU a q ns 0),.one (.sym k),.one (.sym s)] [(0,srfB a q ns)] 1 [some false,some false]=some (.tup [.agg [.quo (a.nI k.toNat s.toNat)],okV],obAt a q ns k s [],[],none):=Zk
theorem Zy6 (hns:a.ns=ns) (s:Int):runP ha q hns ho hp 13 [.agg (optU a q ns 0),.one (.sym k),.one (.sym s)] [(0,srfB a q ns)] 1 [some false,some false]=some (.tup [.agg [.quo (a.pow k.toNat s.toNat)],okV],obAt a q ns k s [PowFits a k.toNat s.toNat],[],none):=Zk
end
end
end Go.Proofs.W
namespace Go.Ex
theorem AllP.append:∀{l r:List Prop},AllP l->AllP r->AllP (l++r)
 | [],_,_,h=>h
 | _::_,_,⟨h1,h2⟩,h=>⟨h1,AllP.append h2 h⟩
end Go.Ex
namespace Go.Mono
def nq (n d:Int):Rat:=Rat.divInt n (1+d)
end Go.Mono
namespace Go.Proofs.W
open Go.RowKit Go.Mono
section
open Go.Ex
section
variable (a:Lns) (q:Plc)
def optBN (ns kb:Nat):Blk:=⟨41,optU a q ns kb,true,false,false⟩
end
end
end Go.Proofs.W
namespace Go.Ex
theorem Zww {P:Program} {Q:Exit->Act->World->Prop} {c c':Code} {a:Act} {w:World} (h:c'.wp P Q a w) (e:c'=c):c.wp P Q a w:=e▸h
end Go.Ex
namespace Go.Proofs.W
open Go.RowKit Go.Mono
section
open Go.Ex

end
section
open Go.Ex
section
variable {a:Lns} (ha:a.opt) {ns:Nat} (hns:a.ns=ns) (h6:2<=ns∧ns<=6) {q:Plc} {w:World} {m:Nat} (ho:OptAt w a q) (hp:PowsAt w m) {k:Int} (hk:0<=k∧k<a.nw)
include ha hns h6 ho hp hk
end
section
variable {a:Lns} (ha:a.opt) {q:Plc} {ns m:Nat} (hns:a.ns=ns) (h6:2<=ns∧ns<=6) {w0:World} (ho:OptAt w0 a q) (hp:PowsAt w0 m)
def cAtX (g:FuncId) (f:Nat->Nat->Rat) (ob:Nat->Nat->List Prop) (hrun:∀{w:World} {q:Plc} (ho:OptAt w a q) (hp:PowsAt w m) (k s:Int),runP ha q hns ho hp g [.agg (optU a q ns 0),.one (.sym k),.one (.sym s)] [(0,srfB a q ns)] 1 [some false,some false]=some (.tup [.agg [.quo (f k.toNat s.toNat)],okV],obAt a q ns k s (ob k.toNat s.toNat),[],none)):Ctr (qDen kO kO1) Tryz.prog w0 (λ_=>False):=.plain g (λargs bk orc=>match args with
    | [.agg l, x, y] => match seesO a q ns l bk, Ex.intOf (some (.a x)), Ex.intOf (some (.a y)) with
      | some L,some (.i64,k,_),some (.i64,s,_)=>some (.tup [.agg [.quo (f k.toNat s.toNat)],okV],L++(0<=k∧k<a.nw)::(0<=s∧s<(ns:Int))::ob k.toNat s.toNat,orc)
      | _,_,_=>none
    | _=>none)<|by
 intro args bk orc v obl orc' hr hobl ρ w vals hfr hb hargs;split at hr
 ·rename_i l1 x y
  split at hr
  ·rename_i L k s1 s s2 h1 h2 h3
   cases hr;obtain⟨v1,r1,rfl,⟨cs1,rfl,d1⟩,v2,r2,rfl,d2,v3,r3,rfl,d3,h5⟩:=hargs;obtain rfl:r3=[]:=h5;obtain rfl:=Za6 (D:=qDen kO kO1) (ρ:=ρ) (w:=w) h2 d2;obtain rfl:=Za6 (D:=qDen kO kO1) (ρ:=ρ) (w:=w) h3 d3;obtain⟨q',rfl,ho',_⟩:=Zb4 hns h6.1 (ho.below hfr.below) h1 (λp hp=>hobl p (Ycy _ hp)) hb d1;have hk:=hobl (0<=k∧k<a.nw) Zs;have hs:=hobl (0<=s∧s<(ns:Int)) Zs;obtain⟨b,off,hps,hv⟩:=Zmm ha hns ho';have hL:∀{l:List Prop},(∀p∈l,p)->AllP l:=λ{l} h=>by
    induction l with
    | nil=>trivial
    | cons p r ih=>exact⟨h p (Ycl ..),ih λx hx=>h x (Ybs _ hx)⟩
   refine(Zet (D:=qDen kO kO1) Zd2 (spN ha hns ho' (hp.below hfr.below)) [] (vs:=[⟨115,srfsU a q' 0 ns,b,off,srfsC a q' 0 ns⟩]) [(0,srfB a q' ns)] rfl rfl _ _ _ (hrun ho' (hp.below hfr.below) k s) (Zvk hk ⟨decide_eq_false Zo,decide_eq_false Zo,Zvk hk ⟨hs,hL λp hp=>hobl p (by simp[hp])⟩⟩) (λv hm=>by rw[Ycd.1 hm];exact hv _ _) (vals:=[.agg (a.ovals q'),.int .i64 k,.int .i64 s]) ?_).mono ?_
   ·refine⟨_,_,rfl,⟨(a.ovals q').toList,rfl,(Zex hns).2 ⟨⟨b,off,true,0,0⟩,rfl,?_⟩⟩,_,_,rfl,rfl,_,_,rfl,rfl,rfl⟩
    obtain⟨pf,cf,pw,cw,ps,cs,pc,cc,cp,cl,pi,ci,pI,cI⟩:=q';subst hps;rfl
   ·rintro e w' ⟨v,ρ',rfl,⟨vs,rfl,v1,r1,rfl,h1,v2,r2,rfl,h2,h3⟩,hbl,_⟩
    obtain rfl:r2=[]:=h3;exact⟨_,rfl,⟨_,rfl,_,_,rfl,den_quo.2 (den_quo.1 h1),_,_,rfl,h2,rfl⟩,hbl⟩
  ·cases hr
 ·cases hr
def cIndexX:Ctr (qDen kO kO1) Tryz.prog w0 (λ_=>False):=cAtX ha hns h6 ho hp 11 a.nI (λ_ _=>[]) λho hp k s=>Zy5 ha _ ho hp k hns s
def cPowerX:Ctr (qDen kO kO1) Tryz.prog w0 (λ_=>False):=cAtX ha hns h6 ho hp 13 a.pow (λk s=>[PowFits a k s]) λho hp k s=>Zy6 ha _ ho hp k hns s
end
end
end Go.Proofs.W
