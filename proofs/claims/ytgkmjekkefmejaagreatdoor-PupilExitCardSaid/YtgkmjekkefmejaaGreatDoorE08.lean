/- The law PupilExit: the chief ray meets the center of the exit pupil,the marginal ray its edge;its contracts,its walk and its card. Part 8 of 11. No condition beside the row. -/
import Derived.Test.YtgkmjekkefmejaaGreatDoorE04
import Derived.Test.YtgkmjekkefmejaaGreatDoorE06
set_option linter.unusedVariables false
set_option linter.unusedSimpArgs false
set_option maxRecDepth 100000
set_option maxHeartbeats 4000000
namespace Go.Ex
open Go.RowKit Go.Mono
theorem Z0u {D:Den} {P:Program} (hm:P.follows .mixedOrders=true) {w:World} (sp:List (Ctr D P w (λ_=>False))) (fx:List (Fct D P w (λ_=>False))) {f:FuncId} {d n:Nat} {args:List SA} {orc:List (Option Bool)} {vs:List Vw} (bk:List (Nat×Blk)) (hbk:bk=bkV 0 vs) (hn:n=vs.length) (V:SV) (L:List Prop) (W:List (Nat×Blk))
  (hev:(evF P sp fx d [] f args bk n n orc).map (λr=>(r.v,r.obl,r.wr,r.pan))=some (V,L,W,none)) (hL:AllP L) {vals:List Value} (hv:∀v∈vs,VwOk D w vs v) (hargs:denAs D (nmV vs) w args vals) :
  Calls P f vals.toArray w λe w'=>∃v ρ',e=.returned v∧denV D ρ' w' V v∧Below w.heap.size w w'∧BkOk D ρ' w' w' (W++bk)∧∀k b B,Liv (W++bk) k b->n<=k->ρ' k=some B->w.heap.size<=B.blk∧B.blk<w'.heap.size:=by
 obtain⟨r,hr,he⟩:=Yad.1 hev;simp only[Yco]at he;obtain⟨rfl,rfl,rfl,hpan⟩:=he;subst hbk;subst hn;have hlt:∀k b,(bkV 0 vs).look k=some b->k<vs.length:=λk b hk=>by
  obtain⟨v,_,h2,_⟩:=Zdd hk;have:=(Yan.1 h2).1;omega
 refine(Zlb hm sp fx d [] f args _ _ _ orc _ hr hL.all 0 (nmV vs) w w vals (Zgy hv) trivial hlt (Yab _) (λk h1 _=>by simp[nmV];omega) hargs).mono ?_;rintro e w' ⟨u,ρ',wc',hend,hu,k1,k2⟩;unfold OpR.ends at hend;rw[hpan]at hend;have ef:r.fin (bkV 0 vs)=r.wr++bkV 0 vs:=by unfold OpR.fin;rw[hpan]
 rw[ef]at k1 k2;have ro:∀{k:Nat} {B:Pl},nmV vs k=some B->B.ro=true:=by
  intro k B h;obtain⟨v,h1,h2⟩:=Yad.1 h;rw[<-h2]
 refine⟨u,ρ',hend,hu.mono (Nm.le.refl _) k1.ext,⟨k2.os,k2.tape,k2.output,k2.size,λi hi=>k2.loc i hi λk b B hk hB hro=>?_⟩,?_,?_⟩
 ·rw[ro hB]at hro
  cases hro
 ·intro k b hk hd
  obtain⟨B,cs,h1,h2,h3,h4⟩:=k1.bkOk k b hk hd;exact⟨B,cs,h1,h2,h3.mono (Nm.le.refl _) k1.ext,h4⟩
 ·intro k b B hk hkn hB
  refine⟨?_,k1.lt k B hB⟩;rcases k2.ids k b hk with ⟨b0,hb0,_⟩|⟨_,_,B',hB',h|⟨k0,b0,B0,_,hB0,hro,_⟩⟩
  ·have:=hlt k b0 hb0
   omega
  ·rw[hB]at hB'
   cases hB';exact h
  ·rw[ro hB0]at hro
   cases hro
end Go.Ex
namespace Go.Proofs.W
open Go.RowKit Go.Mono
section
open Go.Ex
theorem Z0v {w w':World} {N n m:Nat} {T:TypeId} {l:List U} {bk:List (Nat×Blk)} (hl:quosU l) {e:Ending} (hm:m<=N)
  (h:∃v ρ',e=.returned v∧denV DO ρ' w' (.tup [.one (.sli N 0 n),okV]) v∧Below w.heap.size w w'∧BkOk DO ρ' w' w' ([(N,⟨T,l,true,false,false⟩)]++bk)∧∀k b B,Liv ([(N,⟨T,l,true,false,false⟩)]++bk) k b->m<=k->ρ' k=some B->w.heap.size<=B.blk∧B.blk<w'.heap.size) :
  ∃b off cp cs vs,e=.returned (.tuple (Value.slice (some ⟨b,off,none⟩) n cp::vs).toArray)∧n<=cp∧w.heap.size<=b∧b<w'.heap.size∧w'.rangeAt b off cs∧(∀ρ,denL DO ρ w' l cs)∧(∀ρ,denAs DO ρ w' [okV] vs)∧Below w.heap.size w w':=by
 obtain⟨v,ρ',rfl,⟨vs,rfl,v1,r1,rfl,⟨B,cp,hB,hcp,h1⟩,h2⟩,hb,hbk,hliv⟩:=h;have hlook:([(N,(⟨T,l,true,false,false⟩:Blk))]++bk).look N=some ⟨T,l,true,false,false⟩:=by simp[Zaq]
 obtain⟨B',cs,hB',hH,hd,_⟩:=hbk N _ hlook rfl;rw[hB]at hB';cases hB';cases h1;obtain⟨l1,l2⟩:=hliv N _ B ⟨hlook,rfl⟩ hm hB;exact⟨B.blk,B.base+0,cp,cs,r1,rfl,hcp,l1,l2,Zna hH,λρ=>Zhe hl hd,λρ=>Zc2 rfl h2,hb⟩
section
variable {a:Lns} (ha:a.opt) {ns m:Nat} (hns:a.ns=ns) (h6:2<=ns∧ns<=6) {w:World} {q:Plc} (ho:OptAt w a q) (hp:PowsAt w m) (k f:Int)
noncomputable def runU (g:FuncId) (args:List SA) (orc:List (Option Bool)):Option (SV×List Prop×List (Nat×Blk)×Option Value):=
 (evF Tryz.prog (spPu ha hns h6 ho hp) [] 24 [] g (.agg (optU a q ns 0)::args) [(0,srfB a q ns)] 1 1 orc).map λr=>(r.v,r.obl,r.wr,r.pan)
def pens (a:Lns) (ns:Nat) (k:Nat) (r:Rat×Rat):List U:=trU a k r.1 r.2 0 ns
def pensB (a:Lns) (ns:Nat) (k:Nat) (r:Rat×Rat):Blk:=⟨57,pens a ns k r,true,false,false⟩
def obMgL (a:Lns) (q:Plc) (ns:Nat) (k:Int) (near e1 e2:Bool) (L:List Prop):List Prop:=obS0 a q ns 0 (obWv a k (obDi a near (obMar a q ns 0 near e1 e2 L)))
def obChL (a:Lns) (q:Plc) (ns:Nat) (k f:Int) (near e1 e2:Bool) (L:List Prop):List Prop:=obS0 a q ns 0 (obWv a k (obFd a f (obDi a near (obChf a q ns 0 near e1 e2 f L))))
def nmM (near:Bool):Nat:=bif near then 55 else 36
noncomputable def mgOk (near:Bool):Prop:=runU ha hns h6 ho hp 28 [.one (.sym k)] (pF::pF::some near::wayP near false false [])=some (.tup [.one (.sli (nmM near) 0 ns),okV],obMgL a q ns k near false false (obS a q ns 0 k (TrFits a k.toNat (Lns.mar a near).1 (Lns.mar a near).2::[])),[(nmM near,pensB a ns k.toNat (Lns.mar a near))],none)
noncomputable def chOk (near:Bool):Prop:=runU ha hns h6 ho hp 29 [.one (.sym k),.one (.sym f)] (pF::pF::pF::pF::some near::wayP near false false [])=some (.tup [.one (.sli 15 0 ns),okV],obChL a q ns k f near false false (obS a q ns 0 k (TrFits a k.toNat (Lns.chf a f.toNat near).1 (Lns.chf a f.toNat near).2::[])),[(15,pensB a ns k.toNat (Lns.chf a f.toNat near))],none)
def noV:SV:=.tup [.one (.val (.slice none 0 0)),.one (.val (.int .i64 4))]
def okE (r:SV×List Prop×List (Nat×Blk)×Option Value):=(r.1,r.2.1,r.2.2.2)
noncomputable def erAll (near e2:Bool):Prop:=
 ((runU ha hns h6 ho hp 28 [.one (.sym k)] (pF::pF::some near::wayP near (!e2) e2 [])).map okE=some (noV,obMgL a q ns k near (!e2) e2 [],none)∧
 (runU ha hns h6 ho hp 29 [.one (.sym k),.one (.sym f)] (pF::pF::pF::pF::some near::wayP near (!e2) e2 [])).map okE=some (noV,obChL a q ns k f near (!e2) e2 [],none))
noncomputable def enOk (near:Bool):Prop:=runU ha hns h6 ho hp 23 [] (some near::some false::[])=some (.tup [.agg [.quo a.enZ],.agg [.quo a.enR],okV],obS0 a q ns 0 (obDi a near (obEz a q ns 0 false (obZ a (obOf a.pu 2000000 [])))),[],none)
noncomputable def bkOk (y u:Rat):Prop:=(evF Tryz.prog (spN ha hns ho hp) [] 24 [] 25 [.agg (optU a q ns 0),.one (.sym k),.agg [.quo y,.quo u]] [(0,srfB a q ns)] 1 1 []).map (λr=>(r.v,r.obl,r.wr,r.pan))=some (.tup [.agg [.quo (a.bkn ns k.toNat y u ns).1],.agg [.quo (a.bkn ns k.toNat y u ns).2],okV],obBack a q ns 0 k y u [],[],none)
end
theorem Z2j {ns:Nat} (h:2<=ns∧ns<=6):ns=2∨ns=3∨ns=4∨ns=5∨ns=6:=Zo
section
set_option maxRecDepth 100000
variable {a:Lns} (ha:a.opt) {m:Nat} {w:World} {q:Plc} (ho:OptAt w a q) (hp:PowsAt w m) (k f:Int) (y u:Rat)
theorem Z01 {ns:Nat} (hns:a.ns=ns) (h6:2<=ns∧ns<=6) (near:Bool):mgOk ha hns h6 ho hp k near:=by
 rcases Z2j h6 with rfl|rfl|rfl|rfl|rfl<;>(cases near<;>(unfold mgOk;kernel_rfl))
theorem Z02 {ns:Nat} (hns:a.ns=ns) (h6:2<=ns∧ns<=6) (near:Bool):chOk ha hns h6 ho hp k f near:=by
 rcases Z2j h6 with rfl|rfl|rfl|rfl|rfl<;>(cases near<;>(unfold chOk;kernel_rfl))
theorem Z03 {ns:Nat} (hns:a.ns=ns) (h6:2<=ns∧ns<=6) (near:Bool):enOk ha hns h6 ho hp near:=by
 rcases Z2j h6 with rfl|rfl|rfl|rfl|rfl<;>(cases near<;>(unfold enOk;kernel_rfl))
theorem Z04 {ns:Nat} (hns:a.ns=ns) (h6:2<=ns∧ns<=6):bkOk ha hns ho hp k y u:=by
 rcases Z2j h6 with rfl|rfl|rfl|rfl|rfl<;>(unfold bkOk;kernel_rfl)
theorem Z0y {ns:Nat} (hns:a.ns=ns) (h6:2<=ns∧ns<=6):erAll ha hns h6 ho hp k f false false:=by
 rcases Z2j h6 with rfl|rfl|rfl|rfl|rfl<;>(unfold erAll;exact⟨Zk,Zk⟩)
theorem Z0z {ns:Nat} (hns:a.ns=ns) (h6:2<=ns∧ns<=6):erAll ha hns h6 ho hp k f true false:=by
 rcases Z2j h6 with rfl|rfl|rfl|rfl|rfl<;>(unfold erAll;exact⟨Zk,Zk⟩)
theorem Z00 {ns:Nat} (hns:a.ns=ns) (h6:2<=ns∧ns<=6):erAll ha hns h6 ho hp k f true true:=by
 rcases Z2j h6 with rfl|rfl|rfl|rfl|rfl<;>(unfold erAll;exact⟨Zk,Zk⟩)
end
end
end Go.Proofs.W
namespace Go.Ex
open Go.RowKit Go.Mono
theorem Z0w {D:Den} {P:Program} (hm:P.follows .mixedOrders=true) {w:World} (sp:List (Ctr D P w (λ_=>False))) (fx:List (Fct D P w (λ_=>False))) {f:FuncId} {d n:Nat} {args:List SA} {orc:List (Option Bool)} {vs:List Vw} (bk:List (Nat×Blk)) (hbk:bk=bkV 0 vs) (hn:n=vs.length) (V:SV) (L:List Prop)
  (hev:(evF P sp fx d [] f args bk n n orc).map (λr=>(r.v,r.obl,r.pan))=some (V,L,none)) (hL:AllP L) {vals:List Value} (hv:∀v∈vs,VwOk D w vs v) (hargs:denAs D (nmV vs) w args vals) :
  Calls P f vals.toArray w λe w'=>∃v ρ',e=.returned v∧denV D ρ' w' V v∧Below w.heap.size w w':=by
 obtain⟨r,hr,he⟩:=Yad.1 hev;simp only[Yco]at he;obtain⟨rfl,rfl,hpan⟩:=he;exact(Zfy hm sp fx bk hbk hn r.v r.obl r.wr (by rw[hr];simp[hpan]) hL hv hargs).mono λe w' ⟨v,ρ',h1,h2,h3,_⟩=>⟨v,ρ',h1,h2,h3⟩
end Go.Ex
namespace Go.Proofs.W
open Go.RowKit Go.Mono
section
open Go.Ex
theorem Z0f (a:Lns) (ns k:Nat) (r:Rat×Rat):quosU (pens a ns k r):=Zj3 _ _ _ _ _ _
section
variable {a:Lns} (ha:a.opt) {ns m:Nat} (hns:a.ns=ns) (h6:2<=ns∧ns<=6) {w:World} {q:Plc} (ho:OptAt w a q) (hp:PowsAt w m)
include ha hns ho in
theorem Z0l {rest:List SA} {vals:List Value} {ρ0:Nm} (hc:closedAs rest=true) (hd:denAs DO ρ0 w rest vals):∃vs:List Vw,vs.length=1∧[(0,srfB a q ns)]=bkV 0 vs∧(∀v∈vs,VwOk DO w vs v)∧denAs DO (nmV vs) w (.agg (optU a q ns 0)::rest) (.agg (a.ovals q)::vals):=by
 obtain⟨b,off,hps,hv⟩:=Zhd ha hns ho;refine⟨[⟨85,srfsU a q 0 ns,b,off,srfsC a q 0 ns⟩],rfl,rfl,λv hm=>by rw[Ycd.1 hm];exact hv _ _,_,_,rfl,⟨(a.ovals q).toList,rfl,(Zdz hns).2 ⟨⟨b,off,true,0,0⟩,rfl,?_⟩⟩,Zc2 hc hd⟩;obtain⟨pf,cf,pw,cw,ps,cs,pc,cc,cp,cl,pi,ci,pI,cI⟩:=q;subst hps;rfl
theorem Z0e {g:FuncId} {rest:List SA} {orc:List (Option Bool)} {N:Nat} {l:List U} {L:List Prop} (hr:runU ha hns h6 ho hp g rest orc=some (.tup [.one (.sli N 0 ns),okV],L,[(N,⟨57,l,true,false,false⟩)],none)) (hN:1<=N) (hq:quosU l) (hL:AllP L) {vals:List Value} {ρ0:Nm} (hc:closedAs rest=true) (hd:denAs DO ρ0 w rest vals) :
  Calls Tryz.prog g (.agg (a.ovals q)::vals).toArray w λe w'=>∃b off cp cs vs,e=.returned (.tuple (Value.slice (some ⟨b,off,none⟩) ns cp::vs).toArray)∧ns<=cp∧w.heap.size<=b∧b<w'.heap.size∧w'.rangeAt b off cs∧(∀ρ,denL DO ρ w' l cs)∧(∀ρ,denAs DO ρ w' [okV] vs)∧Below w.heap.size w w':=by
 obtain⟨vs,h1,h2,h3,h4⟩:=Z0l ha hns ho hc hd;exact(Z0u (D:=DO) Zde (spPu ha hns h6 ho hp) [] _ h2 h1.symm _ _ _ hr hL h3 h4).mono λe w' h=>Z0v hq hN h
theorem Z0g {g:FuncId} {rest:List SA} {orc:List (Option Bool)} {L:List Prop} (hr:(runU ha hns h6 ho hp g rest orc).map okE=some (noV,L,none)) (hL:AllP L) {vals:List Value} {ρ0:Nm} (hc:closedAs rest=true) (hd:denAs DO ρ0 w rest vals) :
  Calls Tryz.prog g (.agg (a.ovals q)::vals).toArray w λe w'=>∃v,e=.returned v∧(∀ρ,denV DO ρ w' noV v)∧Below w.heap.size w w':=by
 obtain⟨vs,h1,h2,h3,h4⟩:=Z0l ha hns ho hc hd;unfold runU okE at hr;rw[Option.map_map]at hr;exact(Z0w (D:=DO) Zde (spPu ha hns h6 ho hp) [] _ h2 h1.symm _ _ hr hL h3 h4).mono λe w' ⟨v,ρ',e1,hv,hb⟩=>⟨v,e1,λρ=>Zec rfl hv,hb⟩
end
def parseW:List (Option Bool)->Option (Bool×Bool×Bool×List (Option Bool))
 | some false::some false::r=>some (false,false,false,r)
 | some false::some true::r=>some (false,true,false,r)
 | some true::some true::r=>some (true,true,false,r)
 | some true::some false::some false::r=>some (true,false,false,r)
 | some true::some false::some true::r=>some (true,false,true,r)
 | _=>none
def wayPr (a:Lns) (near e1 e2:Bool):List Prop:=[decide (a.di>0)=near,decide (a.ahA=Rat.divInt 0 1)=e1,near=true->e1=false->decide (a.far+a.enZ=Rat.divInt 0 1)=e2]
section
variable {a:Lns} (ha:a.opt) {ns m:Nat} (hns:a.ns=ns) (h6:2<=ns∧ns<=6) {w0:World} {q:Plc} (ho:OptAt w0 a q) (hp:PowsAt w0 m)
theorem Z0m {q:Plc} {k:Int} (hk:0<=k∧k<a.nw) (h7:a.ns<=6) (ha:a.opt) {near e1 e2:Bool} (h:∀p∈wayPr a near e1 e2,p) {L:List Prop} (hL:AllP L):AllP (obMgL a q ns k near e1 e2 L):=
 Zcv (Zkk hk ⟨h _ (by simp[wayPr]),Zgo ha h7 (h _ (by simp[wayPr])) (h (near=true->e1=false->decide (a.far+a.enZ=Rat.divInt 0 1)=e2) (by simp[wayPr])) hL⟩)
theorem Z0n {q:Plc} {k f:Int} (hk:0<=k∧k<a.nw) (hf:0<=f∧f<a.nf) {near e1 e2:Bool} (h:∀p∈wayPr a near e1 e2,p) {L:List Prop} (hL:AllP L):AllP (obChL a q ns k f near e1 e2 L):=
 Zcv (Zkk hk (Zkl hf ⟨h _ (by simp[wayPr]),Zkm hf (h _ (by simp[wayPr])) (h (near=true->e1=false->decide (a.far+a.enZ=Rat.divInt 0 1)=e2) (by simp[wayPr])) hL⟩))
def cMargO:Ctr DO Tryz.prog w0 (λ_=>False):=.listT 28 57 (λargs bk orc=>match args with
    | [.agg l, x] => match seesO a q ns l bk, Ex.intOf (some (.a x)), parseW orc with
      | some L,some (.i64,k,_),some (near,false,false,r)=>some (ns,pens a ns k.toNat (Lns.mar a near),[okV],L++(0<=k∧k<a.nw)::wayPr a near false false,r)
      | _,_,_=>none
    | _=>none)<|by
 intro args bk orc n l rest obl orc' hr hobl ρ w vals hfr hb hargs;split at hr
 ·rename_i l1 x
  split at hr
  ·rename_i L k s near r h1 h2 h3
   cases hr;obtain⟨v1,r1,rfl,⟨cs1,rfl,d1⟩,v2,r2,rfl,d2,h5⟩:=hargs;obtain rfl:r2=[]:=h5;obtain rfl:=Zbi (D:=DO) (ρ:=ρ) (w:=w) h2 d2;obtain⟨q',rfl,ho',_⟩:=Zdf hns h6.1 (ho.below hfr.below) h1 (λp hp=>hobl p (Ycy _ hp)) hb d1;have hk:=hobl (0<=k∧k<a.nw) Zs;have hx:=Zzt ha Zo near;refine(Z0e ha hns h6 ho' (hp.below hfr.below) (Z01 ha ho' (hp.below hfr.below) k hns h6 near) (by cases near<;>decide) (Z0f _ _ _ _) (Z0m hk Zo ha (λp hp=>hobl p (by simp[hp])) (Zc1 hk ⟨Zlt ha Zo (K:=900) Zd hx.1 hx.2,trivial⟩)) (vals:=[.int .i64 k]) (ρ0:=λ_=>none) rfl ⟨_,_,rfl,rfl,rfl⟩).mono ?_;rintro e w' ⟨b,off,cp,cs,vs,e1,g1,g2,g3,g4,g5,g6,g7⟩;exact⟨b,off,cp,cs,vs,e1,g1,g2,g3,g4,g5 ρ,g6 ρ,g7⟩
  ·cases hr
 ·cases hr
def cChiefO:Ctr DO Tryz.prog w0 (λ_=>False):=.listT 29 57 (λargs bk orc=>match args with
    | [.agg l, x, y] => match seesO a q ns l bk, Ex.intOf (some (.a x)), Ex.intOf (some (.a y)), parseW orc with
      | some L,some (.i64,k,_),some (.i64,f,_),some (near,false,false,r)=>some (ns,pens a ns k.toNat (Lns.chf a f.toNat near),[okV],L++(0<=k∧k<a.nw)::(0<=f∧f<a.nf)::wayPr a near false false,r)
      | _,_,_,_=>none
    | _=>none)<|by
 intro args bk orc n l rest obl orc' hr hobl ρ w vals hfr hb hargs;split at hr
 ·rename_i l1 x y
  split at hr
  ·rename_i L k s f s2 near r h1 h2 h2' h3
   cases hr;obtain⟨v1,r1,rfl,⟨cs1,rfl,d1⟩,v2,r2,rfl,d2,v3,r3,rfl,d3,h5⟩:=hargs;obtain rfl:r3=[]:=h5;obtain rfl:=Zbi (D:=DO) (ρ:=ρ) (w:=w) h2 d2;obtain rfl:=Zbi (D:=DO) (ρ:=ρ) (w:=w) h2' d3;obtain⟨q',rfl,ho',_⟩:=Zdf hns h6.1 (ho.below hfr.below) h1 (λp hp=>hobl p (Ycy _ hp)) hb d1;have hk:=hobl (0<=k∧k<a.nw) Zs;have hf:=hobl (0<=f∧f<a.nf) Zs;have hx:=Zzu ha Zo near (f:=f.toNat) Zo;refine(Z0e ha hns h6 ho' (hp.below hfr.below) (Z02 ha ho' (hp.below hfr.below) k f hns h6 near) Zd (Z0f _ _ _ _) (Z0n hk hf (λp hp=>hobl p (by simp[hp])) (Zc1 hk ⟨Zlt ha Zo (K:=900) Zd hx.1 hx.2,trivial⟩)) (vals:=[.int .i64 k,.int .i64 f]) (ρ0:=λ_=>none) rfl ⟨_,_,rfl,rfl,_,_,rfl,rfl,rfl⟩).mono ?_;rintro e w' ⟨b,off,cp,cs,vs,e1,g1,g2,g3,g4,g5,g6,g7⟩;exact⟨b,off,cp,cs,vs,e1,g1,g2,g3,g4,g5 ρ,g6 ρ,g7⟩
  ·cases hr
 ·cases hr
def cBackX:Ctr DO Tryz.prog w0 (λ_=>False):=.plain 25 (λargs bk orc=>match args with
    | [.agg l, x, .agg [.quo y, .quo u]] => match seesO a q ns l bk, Ex.intOf (some (.a x)) with
      | some L,some (.i64,k,_)=>some (.tup [.agg [.quo (a.bkn ns k.toNat y u ns).1],.agg [.quo (a.bkn ns k.toNat y u ns).2],okV],L++(0<=k∧k<a.nw)::BkFits a k.toNat y u::[],orc)
      | _,_=>none
    | _=>none)<|by
 intro args bk orc v obl orc' hr hobl ρ w vals hfr hb hargs;split at hr
 ·rename_i l x y u
  split at hr
  ·rename_i L k s h1 h2
   cases hr;obtain⟨v1,r1,rfl,⟨cs1,rfl,d1⟩,v2,r2,rfl,d2,v3,r3,rfl,d3,h5⟩:=hargs;obtain rfl:r3=[]:=h5;obtain rfl:=Zbi (D:=DO) (ρ:=ρ) (w:=w) h2 d2;obtain⟨q',rfl,ho',_⟩:=Zdf hns h6.1 (ho.below hfr.below) h1 (λp hp=>hobl p (Ycy _ hp)) hb d1;have hk:=hobl (0<=k∧k<a.nw) Zs;refine(Zfo ha hns ho' _ (Z04 ha ho' (hp.below hfr.below) k y u hns h6) (Zzb ha hns hk (hobl (BkFits a k.toNat y u) Zs) trivial) rfl (vals:=[.int .i64 k,v3]) (ρ0:=ρ) rfl ⟨_,_,rfl,rfl,_,_,rfl,d3,rfl⟩).mono ?_;rintro e w' ⟨v,e1,hv,hbl⟩;exact⟨v,e1,hv ρ,hbl⟩
  ·cases hr
 ·cases hr
def cEntrO:Ctr DO Tryz.prog w0 (λ_=>False):=.plain 23 (λargs bk orc=>match args,orc with
    | [.agg l],some near::some false::r=>(seesO a q ns l bk).map λL=>(.tup [.agg [.quo a.enZ],.agg [.quo a.enR],okV],L++[decide (a.di>0)=near,decide (a.ahA=Rat.divInt 0 1)=false],r)
    | _,_=>none)<|by
 intro args bk orc v obl orc' hr hobl ρ w vals hfr hb hargs;split at hr
 ·rename_i l near r
  obtain⟨L,hL,e⟩:=Yad.1 hr;cases e;obtain⟨v1,r1,rfl,⟨cs1,rfl,d1⟩,h5⟩:=hargs;obtain rfl:r1=[]:=h5;obtain⟨q',rfl,ho',_⟩:=Zdf hns h6.1 (ho.below hfr.below) hL (λp hp=>hobl p (Ycy _ hp)) hb d1;have g0:=hobl (decide (a.di>0)=near) Zs;have g1:=hobl (decide (a.ahA=Rat.divInt 0 1)=false) Zs;refine(Zfo ha hns ho' _ (Z03 ha ho' (hp.below hfr.below) hns h6 near) (Zcv ⟨g0,Zh3 g1 (Zua ha Zo g1 (Zau (Zwh ha) trivial))⟩) rfl (vals:=[]) (ρ0:=ρ) rfl rfl).mono ?_;rintro e w' ⟨v,e1,hv,hbl⟩;exact⟨v,e1,hv ρ,hbl⟩
 ·cases hr
end
end
section
open Go.Ex
def parseE:List (Option Bool)->Option (Bool×Bool×List (Option Bool))
 | some false::some true::r=>some (false,false,r)
 | some true::some true::r=>some (true,false,r)
 | some true::some false::some true::r=>some (true,true,r)
 | _=>none
section
variable {a:Lns} (ha:a.opt) {ns m:Nat} (hns:a.ns=ns) (h6:2<=ns∧ns<=6) {w0:World} {q:Plc} (ho:OptAt w0 a q) (hp:PowsAt w0 m)
theorem Z0t {w:World} {q:Plc} (ho:OptAt w a q) (hp:PowsAt w m) (k f:Int) {orc r:List (Option Bool)} {near e2:Bool} (h:parseE orc=some (near,e2,r)):erAll ha hns h6 ho hp k f near e2:=by
 unfold parseE at h;split at h
 ·cases h;exact Z0y ha ho hp k f hns h6
 ·cases h;exact Z0z ha ho hp k f hns h6
 ·cases h;exact Z00 ha ho hp k f hns h6
 ·cases h
def cMargE:Ctr DO Tryz.prog w0 (λ_=>False):=.plain 28 (λargs bk orc=>match args with
    | [.agg l, x] => match seesO a q ns l bk, Ex.intOf (some (.a x)), parseE orc with
      | some L,some (.i64,k,_),some (near,e2,r)=>some (noV,L++(0<=k∧k<a.nw)::wayPr a near (!e2) e2,r)
      | _,_,_=>none
    | _=>none)<|by
 intro args bk orc v obl orc' hr hobl ρ w vals hfr hb hargs;split at hr
 ·rename_i l1 x
  split at hr
  ·rename_i L k s near e2 r h1 h2 h3
   cases hr;obtain⟨v1,r1,rfl,⟨cs1,rfl,d1⟩,v2,r2,rfl,d2,h5⟩:=hargs;obtain rfl:r2=[]:=h5;obtain rfl:=Zbi (D:=DO) (ρ:=ρ) (w:=w) h2 d2;obtain⟨q',rfl,ho',_⟩:=Zdf hns h6.1 (ho.below hfr.below) h1 (λp hp=>hobl p (Ycy _ hp)) hb d1;have hk:=hobl (0<=k∧k<a.nw) Zs;refine(Z0g ha hns h6 ho' (hp.below hfr.below) (Z0t ha hns h6 ho' (hp.below hfr.below) k 0 h3).1 (Z0m hk Zo ha (λp hp=>hobl p (by simp[hp])) trivial) (vals:=[.int .i64 k]) (ρ0:=λ_=>none) rfl ⟨_,_,rfl,rfl,rfl⟩).mono ?_;rintro e w' ⟨v,e1,hv,hbl⟩;exact⟨v,e1,hv ρ,hbl⟩
  ·cases hr
 ·cases hr
def cChiefE:Ctr DO Tryz.prog w0 (λ_=>False):=.plain 29 (λargs bk orc=>match args with
    | [.agg l, x, y] => match seesO a q ns l bk, Ex.intOf (some (.a x)), Ex.intOf (some (.a y)), parseE orc with
      | some L,some (.i64,k,_),some (.i64,f,_),some (near,e2,r)=>some (noV,L++(0<=k∧k<a.nw)::(0<=f∧f<a.nf)::wayPr a near (!e2) e2,r)
      | _,_,_,_=>none
    | _=>none)<|by
 intro args bk orc v obl orc' hr hobl ρ w vals hfr hb hargs;split at hr
 ·rename_i l1 x y
  split at hr
  ·rename_i L k s f s2 near e2 r h1 h2 h2' h3
   cases hr;obtain⟨v1,r1,rfl,⟨cs1,rfl,d1⟩,v2,r2,rfl,d2,v3,r3,rfl,d3,h5⟩:=hargs;obtain rfl:r3=[]:=h5;obtain rfl:=Zbi (D:=DO) (ρ:=ρ) (w:=w) h2 d2;obtain rfl:=Zbi (D:=DO) (ρ:=ρ) (w:=w) h2' d3;obtain⟨q',rfl,ho',_⟩:=Zdf hns h6.1 (ho.below hfr.below) h1 (λp hp=>hobl p (Ycy _ hp)) hb d1;have hk:=hobl (0<=k∧k<a.nw) Zs;have hf:=hobl (0<=f∧f<a.nf) Zs;refine(Z0g ha hns h6 ho' (hp.below hfr.below) (Z0t ha hns h6 ho' (hp.below hfr.below) k f h3).2 (Z0n hk hf (λp hp=>hobl p (by simp[hp])) trivial) (vals:=[.int .i64 k,.int .i64 f]) (ρ0:=λ_=>none) rfl ⟨_,_,rfl,rfl,_,_,rfl,rfl,rfl⟩).mono ?_;rintro e w' ⟨v,e1,hv,hbl⟩;exact⟨v,e1,hv ρ,hbl⟩
  ·cases hr
 ·cases hr
noncomputable def spPv:List (Ctr DO Tryz.prog w0 (λ_=>False)):=Ctr.or (cMargO ha hns h6 ho hp) (cMargE ha hns h6 ho hp) rfl::Ctr.or (cChiefO ha hns h6 ho hp) (cChiefE ha hns h6 ho hp) rfl::cEntrO ha hns h6 ho hp::cBackX ha hns h6 ho hp::spPu ha hns h6 ho hp
end
end
end Go.Proofs.W
namespace Go.Mono
end Go.Mono
namespace Go.Proofs.W
open Go.RowKit Go.Mono Go.Ex
theorem Z0h {x:Rat} (h:decide (x=Rat.divInt 0 1)=false):x≠0:=by
 have:=of_decide_eq_false h;rwa [Zit]at this
section
variable {a:Lns} {near:Bool} (g1:decide (a.ahA=Rat.divInt 0 1)=false) (g2:near=true->false=false->decide (a.far+a.enZ=Rat.divInt 0 1)=false)
include g2 in
theorem Z0q:(Lns.mar a near).1+a.enZ*(Lns.mar a near).2=a.enR:=by
 cases near with
 | false =>
   show a.enR+a.enZ*Rat.divInt 0 1=a.enR;rw[Zit,Rat.mul_zero,Rat.add_zero]
 | true =>
   have hne:=Z0h (g2 rfl rfl);show a.far*(a.enR/(a.far+a.enZ))+a.enZ*(a.enR/(a.far+a.enZ))=a.enR;rw[<-Rat.add_mul,Yew];have h:=Rat.mul_inv_cancel _ hne;generalize (a.far+a.enZ)⁻¹=i at *;generalize a.far+a.enZ=s at *;grind
theorem Z0r (f:Nat):(Lns.chf a f near).1+a.enZ*(Lns.chf a f near).2=Rat.divInt 0 1:=by
 rw[Zit];cases near with
 | false =>
   show -(a.enZ*a.fY f)+a.enZ*a.fY f=0;grind
 | true =>
   show a.enZ*(a.fY f/(a.far+a.enZ))+a.enZ * -(a.fY f/(a.far+a.enZ))=0;grind
end
section
variable (a:Lns) (q:Plc) (ns kb:Nat) (f:Int) (near:Bool)
def obPr (L:List Prop):List Prop:=obS0 a q ns kb ((0<=a.pr∧a.pr<(a.nw:Int))::L)
def obWay (e1 e2:Bool) (L:List Prop):List Prop:=(decide (a.di>0)=near)::(decide (a.ahA=Rat.divInt 0 1)=e1)::(near=true->e1=false->decide (a.far+a.enZ=Rat.divInt 0 1)=e2)::L
def obRays (e1 e2:Bool) (L:List Prop):List Prop:=obPr a q ns kb (obWay a near e1 e2 (obPr a q ns kb ((0<=f∧f<(a.nf:Int))::obWay a near e1 e2 L)))
end
section
variable {a:Lns} (ha:a.opt) {ns:Nat} (hns:a.ns=ns) (h6:2<=ns∧ns<=6) {q:Plc} {kb:Nat} {f:Int} (hf:0<=f∧f<a.nf) {near:Bool}
include ha in
theorem Z0j {L:List Prop} (hL:AllP L):AllP (obPr a q ns kb L):=Zcv ⟨by have:=ha.base.pr;omega,hL⟩
include ha hf in
theorem Z0c {e1 e2:Bool} (g0:decide (a.di>0)=near) (g1:decide (a.ahA=Rat.divInt 0 1)=e1) (g2:near=true->e1=false->decide (a.far+a.enZ=Rat.divInt 0 1)=e2) {L:List Prop} (hL:AllP L):AllP (obRays a q ns kb f near e1 e2 L):=
 Z0j ha ⟨g0,g1,g2,Z0j ha ⟨hf,g0,g1,g2,hL⟩⟩
include ha hns h6
include hf
end
end Go.Proofs.W
