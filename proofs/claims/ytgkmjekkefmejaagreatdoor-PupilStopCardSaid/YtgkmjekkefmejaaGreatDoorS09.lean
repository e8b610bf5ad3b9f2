/- The law PupilStop: the chief ray meets the center of the stop,and at the entrance pupil its center,the marginal ray its edge;its contracts,its walk and its card. Part 9 of 11. No condition beside the row. -/
import Derived.Test.YtgkmjekkefmejaaGreatDoorS07
set_option linter.unusedVariables false
set_option linter.unusedSimpArgs false
set_option maxRecDepth 100000
set_option maxHeartbeats 4000000
namespace Go.Ex
open Go.RowKit Go.Mono
theorem Z0u {D:Den} {P:Program} (hm:P.follows .mixedOrders=true) {w:World} (sp:List (Ctr D P w (λ_=>False))) (fx:List (Fct D P w (λ_=>False))) {f:FuncId} {d n:Nat} {args:List SA} {orc:List (Option Bool)} {vs:List Vw} (bk:List (Nat×Blk)) (hbk:bk=bkV 0 vs) (hn:n=vs.length) (V:SV) (L:List Prop) (W:List (Nat×Blk))
  (hev:(evF P sp fx d [] f args bk n n orc).map (λr=>(r.v,r.obl,r.wr,r.pan))=some (V,L,W,none)) (hL:AllP L) {vals:List Value} (hv:∀v∈vs,VwOk D w vs v) (hargs:denAs D (nmV vs) w args vals) :
  Calls P f vals.toArray w λe w'=>∃v ρ',e=.returned v∧denV D ρ' w' V v∧Below w.heap.size w w'∧BkOk D ρ' w' w' (W++bk)∧∀k b B,Liv (W++bk) k b->n<=k->ρ' k=some B->w.heap.size<=B.blk∧B.blk<w'.heap.size:=by
 obtain⟨r,hr,he⟩:=Yad.1 hev;simp only[Yco]at he;obtain⟨rfl,rfl,rfl,hpan⟩:=he;subst hbk;subst hn;have hlt:∀k b,(bkV 0 vs).look k=some b->k<vs.length:=λk b hk=>by
  obtain⟨v,_,h2,_⟩:=Zdd hk;have:=(Yan.1 h2).1;omega
 refine(Zlb hm sp fx d [] f args _ _ _ orc _ hr hL.all 0 (nmV vs) w w vals (Zgy hv) trivial hlt (Yab _) (λk h1 _=>by simp[nmV];omega) hargs).mono ?_;rintro e w' ⟨u,ρ',wc',hend,hu,k1,k2⟩;unfold OpR.ends at hend;rw[hpan]at hend;have ef:r.fin (bkV 0 vs)=r.wr++bkV 0 vs:=by unfold OpR.fin;rw[hpan]
 rw[ef]at k1 k2;have ro:∀{k:Nat} {B:Pl},nmV vs k=some B->B.ro=true:=by
  intro k B h;obtain⟨v,h1,h2⟩:=Yad.1 h;rw[<-h2]
 refine⟨u,ρ',hend,hu.mono (Nm.le.refl _) k1.ext,⟨k2.os,k2.tape,k2.output,k2.size,λi hi=>k2.loc i hi λk b B hk hB hro=>?_⟩,?_,?_⟩
 ·rw[ro hB]at hro
  cases hro
 ·intro k b hk hd
  obtain⟨B,cs,h1,h2,h3,h4⟩:=k1.bkOk k b hk hd;exact⟨B,cs,h1,h2,h3.mono (Nm.le.refl _) k1.ext,h4⟩
 ·intro k b B hk hkn hB
  refine⟨?_,k1.lt k B hB⟩;rcases k2.ids k b hk with ⟨b0,hb0,_⟩|⟨_,_,B',hB',h|⟨k0,b0,B0,_,hB0,hro,_⟩⟩
  ·have:=hlt k b0 hb0
   omega
  ·rw[hB]at hB'
   cases hB';exact h
  ·rw[ro hB0]at hro
   cases hro
end Go.Ex
namespace Go.Proofs.W
open Go.RowKit Go.Mono
section
open Go.Ex
theorem Z0v {w w':World} {N n m:Nat} {T:TypeId} {l:List U} {bk:List (Nat×Blk)} (hl:quosU l) {e:Ending} (hm:m<=N)
  (h:∃v ρ',e=.returned v∧denV DO ρ' w' (.tup [.one (.sli N 0 n),okV]) v∧Below w.heap.size w w'∧BkOk DO ρ' w' w' ([(N,⟨T,l,true,false,false⟩)]++bk)∧∀k b B,Liv ([(N,⟨T,l,true,false,false⟩)]++bk) k b->m<=k->ρ' k=some B->w.heap.size<=B.blk∧B.blk<w'.heap.size) :
  ∃b off cp cs vs,e=.returned (.tuple (Value.slice (some ⟨b,off,none⟩) n cp::vs).toArray)∧n<=cp∧w.heap.size<=b∧b<w'.heap.size∧w'.rangeAt b off cs∧(∀ρ,denL DO ρ w' l cs)∧(∀ρ,denAs DO ρ w' [okV] vs)∧Below w.heap.size w w':=by
 obtain⟨v,ρ',rfl,⟨vs,rfl,v1,r1,rfl,⟨B,cp,hB,hcp,h1⟩,h2⟩,hb,hbk,hliv⟩:=h;have hlook:([(N,(⟨T,l,true,false,false⟩:Blk))]++bk).look N=some ⟨T,l,true,false,false⟩:=by simp[Zaq]
 obtain⟨B',cs,hB',hH,hd,_⟩:=hbk N _ hlook rfl;rw[hB]at hB';cases hB';cases h1;obtain⟨l1,l2⟩:=hliv N _ B ⟨hlook,rfl⟩ hm hB;exact⟨B.blk,B.base+0,cp,cs,r1,rfl,hcp,l1,l2,Zna hH,λρ=>Zhe hl hd,λρ=>Zc2 rfl h2,hb⟩
section
variable {a:Lns} (ha:a.opt) {ns m:Nat} (hns:a.ns=ns) (h6:2<=ns∧ns<=6) {w:World} {q:Plc} (ho:OptAt w a q) (hp:PowsAt w m) (k f:Int)
noncomputable def runU (g:FuncId) (args:List SA) (orc:List (Option Bool)):Option (SV×List Prop×List (Nat×Blk)×Option Value):=
 (evF Tryz.prog (spPu ha hns h6 ho hp) [] 24 [] g (.agg (optU a q ns 0)::args) [(0,srfB a q ns)] 1 1 orc).map λr=>(r.v,r.obl,r.wr,r.pan)
def pens (a:Lns) (ns:Nat) (k:Nat) (r:Rat×Rat):List U:=trU a k r.1 r.2 0 ns
def pensB (a:Lns) (ns:Nat) (k:Nat) (r:Rat×Rat):Blk:=⟨57,pens a ns k r,true,false,false⟩
def obMgL (a:Lns) (q:Plc) (ns:Nat) (k:Int) (near e1 e2:Bool) (L:List Prop):List Prop:=obS0 a q ns 0 (obWv a k (obDi a near (obMar a q ns 0 near e1 e2 L)))
def obChL (a:Lns) (q:Plc) (ns:Nat) (k f:Int) (near e1 e2:Bool) (L:List Prop):List Prop:=obS0 a q ns 0 (obWv a k (obFd a f (obDi a near (obChf a q ns 0 near e1 e2 f L))))
def nmM (near:Bool):Nat:=bif near then 55 else 36
noncomputable def mgOk (near:Bool):Prop:=runU ha hns h6 ho hp 28 [.one (.sym k)] (pF::pF::some near::wayP near false false [])=some (.tup [.one (.sli (nmM near) 0 ns),okV],obMgL a q ns k near false false (obS a q ns 0 k (TrFits a k.toNat (Lns.mar a near).1 (Lns.mar a near).2::[])),[(nmM near,pensB a ns k.toNat (Lns.mar a near))],none)
noncomputable def chOk (near:Bool):Prop:=runU ha hns h6 ho hp 29 [.one (.sym k),.one (.sym f)] (pF::pF::pF::pF::some near::wayP near false false [])=some (.tup [.one (.sli 15 0 ns),okV],obChL a q ns k f near false false (obS a q ns 0 k (TrFits a k.toNat (Lns.chf a f.toNat near).1 (Lns.chf a f.toNat near).2::[])),[(15,pensB a ns k.toNat (Lns.chf a f.toNat near))],none)
def noV:SV:=.tup [.one (.val (.slice none 0 0)),.one (.val (.int .i64 4))]
def okE (r:SV×List Prop×List (Nat×Blk)×Option Value):=(r.1,r.2.1,r.2.2.2)
noncomputable def erAll (near e2:Bool):Prop:=
 ((runU ha hns h6 ho hp 28 [.one (.sym k)] (pF::pF::some near::wayP near (!e2) e2 [])).map okE=some (noV,obMgL a q ns k near (!e2) e2 [],none)∧
 (runU ha hns h6 ho hp 29 [.one (.sym k),.one (.sym f)] (pF::pF::pF::pF::some near::wayP near (!e2) e2 [])).map okE=some (noV,obChL a q ns k f near (!e2) e2 [],none))
noncomputable def enOk (near:Bool):Prop:=runU ha hns h6 ho hp 23 [] (some near::some false::[])=some (.tup [.agg [.quo a.enZ],.agg [.quo a.enR],okV],obS0 a q ns 0 (obDi a near (obEz a q ns 0 false (obZ a (obOf a.pu 2000000 [])))),[],none)
noncomputable def bkOk (y u:Rat):Prop:=(evF Tryz.prog (spN ha hns ho hp) [] 24 [] 25 [.agg (optU a q ns 0),.one (.sym k),.agg [.quo y,.quo u]] [(0,srfB a q ns)] 1 1 []).map (λr=>(r.v,r.obl,r.wr,r.pan))=some (.tup [.agg [.quo (a.bkn ns k.toNat y u ns).1],.agg [.quo (a.bkn ns k.toNat y u ns).2],okV],obBack a q ns 0 k y u [],[],none)
end
section
set_option maxRecDepth 100000
variable {a:Lns} (ha:a.opt) {m:Nat} {w:World} {q:Plc} (ho:OptAt w a q) (hp:PowsAt w m) (k f:Int) (y u:Rat)
theorem Z01:∀{ns:Nat} (hns:a.ns=ns) (h6:2<=ns∧ns<=6) (near:Bool),mgOk ha hns h6 ho hp k near
 | 0,_,h,_=>absurd h.1 Zd
 | 1,_,h,_=>absurd h.1 Zd
 | 2,hns,h6,false=>by unfold mgOk;kernel_rfl
 | 2,hns,h6,true=>by unfold mgOk;kernel_rfl
 | 3,hns,h6,false=>by unfold mgOk;kernel_rfl
 | 3,hns,h6,true=>by unfold mgOk;kernel_rfl
 | 4,hns,h6,false=>by unfold mgOk;kernel_rfl
 | 4,hns,h6,true=>by unfold mgOk;kernel_rfl
 | 5,hns,h6,false=>by unfold mgOk;kernel_rfl
 | 5,hns,h6,true=>by unfold mgOk;kernel_rfl
 | 6,hns,h6,false=>by unfold mgOk;kernel_rfl
 | 6,hns,h6,true=>by unfold mgOk;kernel_rfl
 | n+7,_,h,_=>absurd h.2 Zo
theorem Z02:∀{ns:Nat} (hns:a.ns=ns) (h6:2<=ns∧ns<=6) (near:Bool),chOk ha hns h6 ho hp k f near
 | 0,_,h,_=>absurd h.1 Zd
 | 1,_,h,_=>absurd h.1 Zd
 | 2,hns,h6,false=>by unfold chOk;kernel_rfl
 | 2,hns,h6,true=>by unfold chOk;kernel_rfl
 | 3,hns,h6,false=>by unfold chOk;kernel_rfl
 | 3,hns,h6,true=>by unfold chOk;kernel_rfl
 | 4,hns,h6,false=>by unfold chOk;kernel_rfl
 | 4,hns,h6,true=>by unfold chOk;kernel_rfl
 | 5,hns,h6,false=>by unfold chOk;kernel_rfl
 | 5,hns,h6,true=>by unfold chOk;kernel_rfl
 | 6,hns,h6,false=>by unfold chOk;kernel_rfl
 | 6,hns,h6,true=>by unfold chOk;kernel_rfl
 | n+7,_,h,_=>absurd h.2 Zo
theorem Z03:∀{ns:Nat} (hns:a.ns=ns) (h6:2<=ns∧ns<=6) (near:Bool),enOk ha hns h6 ho hp near
 | 0,_,h,_=>absurd h.1 Zd
 | 1,_,h,_=>absurd h.1 Zd
 | 2,hns,h6,false=>by unfold enOk;kernel_rfl
 | 2,hns,h6,true=>by unfold enOk;kernel_rfl
 | 3,hns,h6,false=>by unfold enOk;kernel_rfl
 | 3,hns,h6,true=>by unfold enOk;kernel_rfl
 | 4,hns,h6,false=>by unfold enOk;kernel_rfl
 | 4,hns,h6,true=>by unfold enOk;kernel_rfl
 | 5,hns,h6,false=>by unfold enOk;kernel_rfl
 | 5,hns,h6,true=>by unfold enOk;kernel_rfl
 | 6,hns,h6,false=>by unfold enOk;kernel_rfl
 | 6,hns,h6,true=>by unfold enOk;kernel_rfl
 | n+7,_,h,_=>absurd h.2 Zo
theorem Z04:∀{ns:Nat} (hns:a.ns=ns) (h6:2<=ns∧ns<=6),bkOk ha hns ho hp k y u
 | 0,_,h=>absurd h.1 Zd
 | 1,_,h=>absurd h.1 Zd
 | 2,hns,h6=>by unfold bkOk;kernel_rfl
 | 3,hns,h6=>by unfold bkOk;kernel_rfl
 | 4,hns,h6=>by unfold bkOk;kernel_rfl
 | 5,hns,h6=>by unfold bkOk;kernel_rfl
 | 6,hns,h6=>by unfold bkOk;kernel_rfl
 | n+7,_,h=>absurd h.2 Zo
theorem Z0y:∀{ns:Nat} (hns:a.ns=ns) (h6:2<=ns∧ns<=6),erAll ha hns h6 ho hp k f false false
 | 0,_,h=>absurd h.1 Zd
 | 1,_,h=>absurd h.1 Zd
 | 2,hns,h6=>by unfold erAll;exact⟨Zk,Zk⟩
 | 3,hns,h6=>by unfold erAll;exact⟨Zk,Zk⟩
 | 4,hns,h6=>by unfold erAll;exact⟨Zk,Zk⟩
 | 5,hns,h6=>by unfold erAll;exact⟨Zk,Zk⟩
 | 6,hns,h6=>by unfold erAll;exact⟨Zk,Zk⟩
 | n+7,_,h=>absurd h.2 Zo
theorem Z0z:∀{ns:Nat} (hns:a.ns=ns) (h6:2<=ns∧ns<=6),erAll ha hns h6 ho hp k f true false
 | 0,_,h=>absurd h.1 Zd
 | 1,_,h=>absurd h.1 Zd
 | 2,hns,h6=>by unfold erAll;exact⟨Zk,Zk⟩
 | 3,hns,h6=>by unfold erAll;exact⟨Zk,Zk⟩
 | 4,hns,h6=>by unfold erAll;exact⟨Zk,Zk⟩
 | 5,hns,h6=>by unfold erAll;exact⟨Zk,Zk⟩
 | 6,hns,h6=>by unfold erAll;exact⟨Zk,Zk⟩
 | n+7,_,h=>absurd h.2 Zo
theorem Z00:∀{ns:Nat} (hns:a.ns=ns) (h6:2<=ns∧ns<=6),erAll ha hns h6 ho hp k f true true
 | 0,_,h=>absurd h.1 Zd
 | 1,_,h=>absurd h.1 Zd
 | 2,hns,h6=>by unfold erAll;exact⟨Zk,Zk⟩
 | 3,hns,h6=>by unfold erAll;exact⟨Zk,Zk⟩
 | 4,hns,h6=>by unfold erAll;exact⟨Zk,Zk⟩
 | 5,hns,h6=>by unfold erAll;exact⟨Zk,Zk⟩
 | 6,hns,h6=>by unfold erAll;exact⟨Zk,Zk⟩
 | n+7,_,h=>absurd h.2 Zo
end
end
end Go.Proofs.W
