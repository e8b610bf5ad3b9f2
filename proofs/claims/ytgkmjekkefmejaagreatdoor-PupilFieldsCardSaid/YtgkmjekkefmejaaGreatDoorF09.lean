/- The law PupilFields: image heights and invariants are proportional to the heights of the fields;its contracts,its walk and its card. Part 9 of 11. No condition beside the row. -/
import Derived.Test.YtgkmjekkefmejaaGreatDoorF03
import Derived.Test.YtgkmjekkefmejaaGreatDoorF05
import Derived.Test.YtgkmjekkefmejaaGreatDoorF08
set_option linter.unusedVariables false
set_option linter.unusedSimpArgs false
set_option maxRecDepth 100000
set_option maxHeartbeats 4000000
namespace Go.Ex
open Go.RowKit Go.Mono
theorem Z0w {D:Den} {P:Program} (hm:P.follows .mixedOrders=true) {w:World} (sp:List (Ctr D P w (λ_=>False))) (fx:List (Fct D P w (λ_=>False))) {f:FuncId} {d n:Nat} {args:List SA} {orc:List (Option Bool)} {vs:List Vw} (bk:List (Nat×Blk)) (hbk:bk=bkV 0 vs) (hn:n=vs.length) (V:SV) (L:List Prop)
  (hev:(evF P sp fx d [] f args bk n n orc).map (λr=>(r.v,r.obl,r.pan))=some (V,L,none)) (hL:AllP L) {vals:List Value} (hv:∀v∈vs,VwOk D w vs v) (hargs:denAs D (nmV vs) w args vals) :
  Calls P f vals.toArray w λe w'=>∃v ρ',e=.returned v∧denV D ρ' w' V v∧Below w.heap.size w w':=by
 obtain⟨r,hr,he⟩:=Yad.1 hev;simp only[Yco]at he;obtain⟨rfl,rfl,hpan⟩:=he;exact(Zfy hm sp fx bk hbk hn r.v r.obl r.wr (by rw[hr];simp[hpan]) hL hv hargs).mono λe w' ⟨v,ρ',h1,h2,h3,_⟩=>⟨v,ρ',h1,h2,h3⟩
end Go.Ex
namespace Go.Proofs.W
open Go.RowKit Go.Mono
section
open Go.Ex
section
variable {a:Lns} (ha:a.opt) {ns m:Nat} (hns:a.ns=ns) (h6:2<=ns∧ns<=6) {w:World} {q:Plc} (ho:OptAt w a q) (hp:PowsAt w m)
include ha hns ho in
theorem Z0l {rest:List SA} {vals:List Value} {ρ0:Nm} (hc:closedAs rest=true) (hd:denAs DO ρ0 w rest vals):∃vs:List Vw,vs.length=1∧[(0,srfB a q ns)]=bkV 0 vs∧(∀v∈vs,VwOk DO w vs v)∧denAs DO (nmV vs) w (.agg (optU a q ns 0)::rest) (.agg (a.ovals q)::vals):=by
 obtain⟨b,off,hps,hv⟩:=Zhd ha hns ho;refine⟨[⟨85,srfsU a q 0 ns,b,off,srfsC a q 0 ns⟩],rfl,rfl,λv hm=>by rw[Ycd.1 hm];exact hv _ _,_,_,rfl,⟨(a.ovals q).toList,rfl,(Zdz hns).2 ⟨⟨b,off,true,0,0⟩,rfl,?_⟩⟩,Zc2 hc hd⟩;obtain⟨pf,cf,pw,cw,ps,cs,pc,cc,cp,cl,pi,ci,pI,cI⟩:=q;subst hps;rfl
end
def parseW:List (Option Bool)->Option (Bool×Bool×Bool×List (Option Bool))
 | some false::some false::r=>some (false,false,false,r)
 | some false::some true::r=>some (false,true,false,r)
 | some true::some true::r=>some (true,true,false,r)
 | some true::some false::some false::r=>some (true,false,false,r)
 | some true::some false::some true::r=>some (true,false,true,r)
 | _=>none
def wayPr (a:Lns) (near e1 e2:Bool):List Prop:=[decide (a.di>0)=near,decide (a.ahA=Rat.divInt 0 1)=e1,near=true->e1=false->decide (a.far+a.enZ=Rat.divInt 0 1)=e2]
section
variable {a:Lns} (ha:a.opt) {ns m:Nat} (hns:a.ns=ns) (h6:2<=ns∧ns<=6) {w0:World} {q:Plc} (ho:OptAt w0 a q) (hp:PowsAt w0 m)
end
end
section
open Go.Ex
section
variable {a:Lns} (ha:a.opt) {ns m:Nat} (hns:a.ns=ns) (h6:2<=ns∧ns<=6) {w0:World} {q:Plc} (ho:OptAt w0 a q) (hp:PowsAt w0 m)
end
end
section
open Go.Ex
section
variable (a:Lns) (q:Plc) (ns:Nat) (k f:Int) (near:Bool)
def obLaL (e1 e2:Bool) (L:List Prop):List Prop:=obS0 a q ns 0 (obFd a f (obDi a near (obMar a q ns 0 near e1 e2 L)))
def obHeL (e1 e2:Bool) (L:List Prop):List Prop:=obS0 a q ns 0 (obWv a k (obFd a f (obDi a near (obMar a q ns 0 near e1 e2 L))))
def obLaO (L:List Prop):List Prop:=obChf a q ns 0 near false false f (obCr (Lns.mar a near) (Lns.chf a f.toNat near) L)
def obHeO (e3:Bool) (L:List Prop):List Prop:=obLaO a q ns f near (obMar a q ns 0 near false false (obS a q ns 0 k (TrFits a k.toNat (Lns.mar a near).1 (Lns.mar a near).2::obOf 0 1 ((decide (heW a ns k.toNat near=Rat.divInt 0 1)=e3)::L))))
def noQ:SV:=.tup [.agg [.val (.bool false),.val (.slice none 0 0),.val (.bool false),.val (.slice none 0 0)],.one (.val (.int .i64 4))]
end
section
variable {a:Lns} (ha:a.opt) {ns m:Nat} (hns:a.ns=ns) (h6:2<=ns∧ns<=6) {w:World} {q:Plc} (ho:OptAt w a q) (hp:PowsAt w m) (k f:Int)
noncomputable def laOk (near:Bool):Prop:=(runU ha hns h6 ho hp 9 [.one (.sym f)] (pF::pF::some near::wayP near false false (wayP near false false []))).map okE=some (.tup [.agg [.quo (lagQ a f.toNat near)],okV],obLaL a q ns f near false false (obLaO a q ns f near []),none)
noncomputable def laEr (near e2:Bool):Prop:=(runU ha hns h6 ho hp 9 [.one (.sym f)] (pF::pF::some near::wayP near (!e2) e2 [])).map okE=some (noQ,obLaL a q ns f near (!e2) e2 [],none)
noncomputable def heOk (near:Bool):Prop:=(runU ha hns h6 ho hp 21 [.one (.sym k),.one (.sym f)] (pF::pF::pF::pF::some near::wayP near false false (wayP near false false (wayP near false false [pF])))).map okE=some (.tup [.agg [.quo (heQ a ns k.toNat f.toNat near)],okV],obHeL a q ns k f near false false (obHeO a q ns k f near false (((heW a ns k.toNat near).num≠0)::Fits (lagQ a f.toNat near/heW a ns k.toNat near)::[])),none)
noncomputable def heEr (near e2:Bool):Prop:=(runU ha hns h6 ho hp 21 [.one (.sym k),.one (.sym f)] (pF::pF::pF::pF::some near::wayP near (!e2) e2 [])).map okE=some (noQ,obHeL a q ns k f near (!e2) e2 [],none)
noncomputable def heEw (near:Bool):Prop:=(runU ha hns h6 ho hp 21 [.one (.sym k),.one (.sym f)] (pF::pF::pF::pF::some near::wayP near false false (wayP near false false (wayP near false false [some true])))).map okE=some (noQ,obHeL a q ns k f near false false (obHeO a q ns k f near true []),none)
end
section
variable {a:Lns} (ha:a.opt) {ns m:Nat} (hns:a.ns=ns) (h6:2<=ns∧ns<=6) {w:World} {q:Plc} (ho:OptAt w a q) (hp:PowsAt w m)
theorem Z10 {g:FuncId} {rest:List SA} {orc:List (Option Bool)} {V:SV} {L:List Prop} (hr:(runU ha hns h6 ho hp g rest orc).map okE=some (V,L,none)) (hL:AllP L) (hV:closedV V=true) {vals:List Value} {ρ0:Nm} (hc:closedAs rest=true) (hd:denAs DO ρ0 w rest vals) :
  Calls Tryz.prog g (.agg (a.ovals q)::vals).toArray w λe w'=>∃v,e=.returned v∧(∀ρ,denV DO ρ w' V v)∧Below w.heap.size w w':=by
 obtain⟨vs,h1,h2,h3,h4⟩:=Z0l ha hns ho hc hd;unfold runU okE at hr;rw[Option.map_map]at hr;exact(Z0w (D:=DO) Zde (spPu ha hns h6 ho hp) [] _ h2 h1.symm _ _ hr hL h3 h4).mono λe w' ⟨v,ρ',e1,hv,hb⟩=>⟨v,e1,λρ=>Zec hV hv,hb⟩
end
section
set_option maxRecDepth 100000
variable {a:Lns} (ha:a.opt) {m:Nat} {w:World} {q:Plc} (ho:OptAt w a q) (hp:PowsAt w m) (k f:Int)
theorem Z2h:∀{ns:Nat} (hns:a.ns=ns) (h6:2<=ns∧ns<=6),(laOk ha hns h6 ho hp f false∧laOk ha hns h6 ho hp f true)∧laEr ha hns h6 ho hp f false false∧laEr ha hns h6 ho hp f true false∧laEr ha hns h6 ho hp f true true
 | 0,_,h=>absurd h.1 Zd
 | 1,_,h=>absurd h.1 Zd
 | 2,hns,h6=>⟨⟨by unfold laOk;kernel_rfl,by unfold laOk;kernel_rfl⟩,by unfold laEr;kernel_rfl,by unfold laEr;kernel_rfl,by unfold laEr;kernel_rfl⟩
 | 3,hns,h6=>⟨⟨by unfold laOk;kernel_rfl,by unfold laOk;kernel_rfl⟩,by unfold laEr;kernel_rfl,by unfold laEr;kernel_rfl,by unfold laEr;kernel_rfl⟩
 | 4,hns,h6=>⟨⟨by unfold laOk;kernel_rfl,by unfold laOk;kernel_rfl⟩,by unfold laEr;kernel_rfl,by unfold laEr;kernel_rfl,by unfold laEr;kernel_rfl⟩
 | 5,hns,h6=>⟨⟨by unfold laOk;kernel_rfl,by unfold laOk;kernel_rfl⟩,by unfold laEr;kernel_rfl,by unfold laEr;kernel_rfl,by unfold laEr;kernel_rfl⟩
 | 6,hns,h6=>⟨⟨by unfold laOk;kernel_rfl,by unfold laOk;kernel_rfl⟩,by unfold laEr;kernel_rfl,by unfold laEr;kernel_rfl,by unfold laEr;kernel_rfl⟩
 | n+7,_,h=>absurd h.2 Zo
theorem Z2i:∀{ns:Nat} (hns:a.ns=ns) (h6:2<=ns∧ns<=6),(heOk ha hns h6 ho hp k f false∧heOk ha hns h6 ho hp k f true)∧(heEw ha hns h6 ho hp k f false∧heEw ha hns h6 ho hp k f true)∧heEr ha hns h6 ho hp k f false false∧heEr ha hns h6 ho hp k f true false∧heEr ha hns h6 ho hp k f true true
 | 0,_,h=>absurd h.1 Zd
 | 1,_,h=>absurd h.1 Zd
 | 2,hns,h6=>⟨⟨by unfold heOk;kernel_rfl,by unfold heOk;kernel_rfl⟩,⟨by unfold heEw;kernel_rfl,by unfold heEw;kernel_rfl⟩,by unfold heEr;kernel_rfl,by unfold heEr;kernel_rfl,by unfold heEr;kernel_rfl⟩
 | 3,hns,h6=>⟨⟨by unfold heOk;kernel_rfl,by unfold heOk;kernel_rfl⟩,⟨by unfold heEw;kernel_rfl,by unfold heEw;kernel_rfl⟩,by unfold heEr;kernel_rfl,by unfold heEr;kernel_rfl,by unfold heEr;kernel_rfl⟩
 | 4,hns,h6=>⟨⟨by unfold heOk;kernel_rfl,by unfold heOk;kernel_rfl⟩,⟨by unfold heEw;kernel_rfl,by unfold heEw;kernel_rfl⟩,by unfold heEr;kernel_rfl,by unfold heEr;kernel_rfl,by unfold heEr;kernel_rfl⟩
 | 5,hns,h6=>⟨⟨by unfold heOk;kernel_rfl,by unfold heOk;kernel_rfl⟩,⟨by unfold heEw;kernel_rfl,by unfold heEw;kernel_rfl⟩,by unfold heEr;kernel_rfl,by unfold heEr;kernel_rfl,by unfold heEr;kernel_rfl⟩
 | 6,hns,h6=>⟨⟨by unfold heOk;kernel_rfl,by unfold heOk;kernel_rfl⟩,⟨by unfold heEw;kernel_rfl,by unfold heEw;kernel_rfl⟩,by unfold heEr;kernel_rfl,by unfold heEr;kernel_rfl,by unfold heEr;kernel_rfl⟩
 | n+7,_,h=>absurd h.2 Zo
end
section
variable {a:Lns} (ha:a.opt) {ns m:Nat} (hns:a.ns=ns) (h6:2<=ns∧ns<=6) {w0:World} {q:Plc} {k f:Int} (hk:0<=k∧k<a.nw) (hf:0<=f∧f<a.nf) {near:Bool}
include ha hns h6 hf
theorem Z1w {e1 e2:Bool} (h:∀p∈wayPr a near e1 e2,p) {L:List Prop} (hL:AllP L):AllP (obLaL a q ns f near e1 e2 L):=
 Zcv (Zkl hf ⟨h _ (by simp[wayPr]),Zgo ha Zo (h _ (by simp[wayPr])) (h (near=true->e1=false->decide (a.far+a.enZ=Rat.divInt 0 1)=e2) (by simp[wayPr])) hL⟩)
theorem Z1y (h:∀p∈wayPr a near false false,p) {L:List Prop} (hL:AllP L):AllP (obLaO a q ns f near L):=by
 obtain⟨x1,x2⟩:=Z12 ha hns h6 near;obtain⟨y1,y2⟩:=Z18 ha hns h6 near (f:=f.toNat) Zo;exact Zkm hf (h _ (by simp[wayPr])) (h (near=true->false=false->decide (a.far+a.enZ=Rat.divInt 0 1)=false) (by simp[wayPr])) ⟨(x1.mul y2).fits Zd,(y1.mul x2).fits Zd,(Z13 ha hns h6 near (f:=f.toNat) Zo).fits Zd,hL⟩
include hk
theorem Z1z {e1 e2:Bool} (h:∀p∈wayPr a near e1 e2,p) {L:List Prop} (hL:AllP L):AllP (obHeL a q ns k f near e1 e2 L):=
 Zcv (Zkk hk (Zkl hf ⟨h _ (by simp[wayPr]),Zgo ha Zo (h _ (by simp[wayPr])) (h (near=true->e1=false->decide (a.far+a.enZ=Rat.divInt 0 1)=e2) (by simp[wayPr])) hL⟩))
theorem Z15 {e3:Bool} (h:∀p∈wayPr a near false false,p) (g:decide (heW a ns k.toNat near=Rat.divInt 0 1)=e3) {L:List Prop} (hL:AllP L):AllP (obHeO a q ns k f near e3 L):=by
 obtain⟨x1,x2⟩:=Zzt ha Zo near;exact Z1y ha hns h6 hf h (Zgo ha Zo (h _ (by simp[wayPr])) (h (near=true->false=false->decide (a.far+a.enZ=Rat.divInt 0 1)=false) (by simp[wayPr])) (Zc1 hk ⟨Zlt ha Zo (K:=900) Zd x1 x2,Zau okN ⟨g,hL⟩⟩))
end
section
variable {a:Lns} (ha:a.opt) {ns m:Nat} (hns:a.ns=ns) (h6:2<=ns∧ns<=6) {w0:World} (hp:PowsAt w0 m) (S:Sees a w0)
def laV (a:Lns) (f:Nat) (near:Bool):Bool->Bool->SV
 | false,false=>.tup [.agg [.quo (lagQ a f near)],okV]
 | _,_=>noQ
def cLagr:Ctr DO Tryz.prog w0 (λ_=>False):=.plain 9 (λargs bk orc=>match args with
    | [.agg l, x] => match S.run l bk, Ex.intOf (some (.a x)), parseW orc with
      | some L,some (.i64,f,_),some (near,e1,e2,r)=>some (laV a f.toNat near e1 e2,L++(0<=f∧f<a.nf)::wayPr a near e1 e2,r)
      | _,_,_=>none
    | _=>none)<|by
 intro args bk orc v obl orc' hr hobl ρ w vals hfr hb hargs;split at hr
 ·rename_i l x
  split at hr
  ·rename_i L f s near e1 e2 r h1 h2 h3
   cases hr;obtain⟨v1,r1,rfl,⟨cs1,rfl,d1⟩,v2,r2,rfl,d2,h5⟩:=hargs;obtain rfl:r2=[]:=h5;obtain rfl:=Zbi (D:=DO) (ρ:=ρ) (w:=w) h2 d2;obtain⟨q',rfl,ho'⟩:=S.ok hfr h1 (λp hp=>hobl p (Ycy _ hp)) hb d1;have hf:=hobl (0<=f∧f<a.nf) Zs;have hw:∀p∈wayPr a near e1 e2,p:=λp hp=>hobl p (by simp[hp]);obtain⟨g0,g1,g2,g3⟩:=Z2h ha ho' (hp.below hfr.below) f hns h6;have key:∃V L orc,(runU ha hns h6 ho' (hp.below hfr.below) 9 [.one (.sym f)] orc).map okE=some (V,L,none)∧AllP L∧closedV V=true∧V=laV a f.toNat near e1 e2:=by
    unfold parseW at h3;split at h3<;>cases h3
    ·exact⟨_,_,_,g0.1,Z1w ha hns h6 hf hw (Z1y ha hns h6 hf hw trivial),rfl,rfl⟩
    ·exact⟨_,_,_,g1,Z1w ha hns h6 hf hw trivial,rfl,rfl⟩
    ·exact⟨_,_,_,g2,Z1w ha hns h6 hf hw trivial,rfl,rfl⟩
    ·exact⟨_,_,_,g0.2,Z1w ha hns h6 hf hw (Z1y ha hns h6 hf hw trivial),rfl,rfl⟩
    ·exact⟨_,_,_,g3,Z1w ha hns h6 hf hw trivial,rfl,rfl⟩
   obtain⟨V,L',orc2,k1,k2,k3,rfl⟩:=key;refine(Z10 ha hns h6 ho' (hp.below hfr.below) k1 k2 k3 (vals:=[.int .i64 f]) (ρ0:=λ_=>none) rfl ⟨_,_,rfl,rfl,rfl⟩).mono ?_;rintro e w' ⟨v,e1,hv,hbl⟩;exact⟨v,e1,hv ρ,hbl⟩
  ·cases hr
 ·cases hr
def parseH (orc:List (Option Bool)):Option (Bool×Bool×Bool×Bool×List (Option Bool)):=
 match parseW orc with
 | some (near,false,false,some e3::r)=>some (near,false,false,e3,r)
 | some (near,true,false,r)=>some (near,true,false,false,r)
 | some (near,false,true,r)=>some (near,false,true,false,r)
 | _=>none
def heV (a:Lns) (ns k f:Nat) (near:Bool):Bool->Bool->Bool->SV
 | false,false,false=>.tup [.agg [.quo (heQ a ns k f near)],okV]
 | _,_,_=>noQ
def hePr (a:Lns) (ns k:Nat) (near e1 e2 e3:Bool):List Prop:=(e1=false->e2=false->decide (heW a ns k near=Rat.divInt 0 1)=e3)::wayPr a near e1 e2
def cHeight:Ctr DO Tryz.prog w0 (λ_=>False):=.plain 21 (λargs bk orc=>match args with
    | [.agg l, y, x] => match S.run l bk, Ex.intOf (some (.a y)), Ex.intOf (some (.a x)), parseH orc with
      | some L,some (.i64,k,_),some (.i64,f,_),some (near,e1,e2,e3,r)=>some (heV a ns k.toNat f.toNat near e1 e2 e3,L++(0<=k∧k<a.nw)::(0<=f∧f<a.nf)::hePr a ns k.toNat near e1 e2 e3,r)
      | _,_,_,_=>none
    | _=>none)<|by
 intro args bk orc v obl orc' hr hobl ρ w vals hfr hb hargs;split at hr
 ·rename_i l y x
  split at hr
  ·rename_i L k s f s2 near e1 e2 e3 r h1 h2 h2' h3
   cases hr;obtain⟨v1,r1,rfl,⟨cs1,rfl,d1⟩,v2,r2,rfl,d2,v3,r3,rfl,d3,h5⟩:=hargs;obtain rfl:r3=[]:=h5;obtain rfl:=Zbi (D:=DO) (ρ:=ρ) (w:=w) h2 d2;obtain rfl:=Zbi (D:=DO) (ρ:=ρ) (w:=w) h2' d3;obtain⟨q',rfl,ho'⟩:=S.ok hfr h1 (λp hp=>hobl p (Ycy _ hp)) hb d1;have hk:=hobl (0<=k∧k<a.nw) Zs;have hf:=hobl (0<=f∧f<a.nf) Zs;have hw:∀p∈wayPr a near e1 e2,p:=λp hp=>hobl p (by simp[hePr,hp]);have g:=hobl (e1=false->e2=false->decide (heW a ns k.toNat near=Rat.divInt 0 1)=e3) (by simp[hePr]);obtain⟨g0,g1,g2,g3,g4⟩:=Z2i ha ho' (hp.below hfr.below) k f hns h6;have key:∃V L orc,(runU ha hns h6 ho' (hp.below hfr.below) 21 [.one (.sym k),.one (.sym f)] orc).map okE=some (V,L,none)∧AllP L∧closedV V=true∧V=heV a ns k.toNat f.toNat near e1 e2 e3:=by
    have ok:∀{n:Bool},n=near->e1=false->e2=false->e3=false->AllP (obHeL a q' ns k f n false false (obHeO a q' ns k f n false (((heW a ns k.toNat n).num≠0)::Fits (lagQ a f.toNat n/heW a ns k.toNat n)::[]))):=by
     rintro _ rfl rfl rfl rfl;exact Z1z ha hns h6 hk hf hw (Z15 ha hns h6 hk hf hw (g rfl rfl) ⟨Zoy (g rfl rfl),(Z2d ha hns h6 Zo _ Zo).fits Zd,trivial⟩)
    have ew:∀{n:Bool},n=near->e1=false->e2=false->e3=true->AllP (obHeL a q' ns k f n false false (obHeO a q' ns k f n true [])):=by
     rintro _ rfl rfl rfl rfl;exact Z1z ha hns h6 hk hf hw (Z15 ha hns h6 hk hf hw (g rfl rfl) trivial)
    have er:AllP (obHeL a q' ns k f near e1 e2 []):=Z1z ha hns h6 hk hf hw trivial;unfold parseH at h3;split at h3
    ·rename_i near2 e32 r2 hq
     cases h3;cases near<;>cases e3
     ·exact⟨_,_,_,g0.1,ok rfl rfl rfl rfl,rfl,rfl⟩
     ·exact⟨_,_,_,g1.1,ew rfl rfl rfl rfl,rfl,rfl⟩
     ·exact⟨_,_,_,g0.2,ok rfl rfl rfl rfl,rfl,rfl⟩
     ·exact⟨_,_,_,g1.2,ew rfl rfl rfl rfl,rfl,rfl⟩
    ·cases h3
     cases near
     ·exact⟨_,_,_,g2,er,rfl,rfl⟩
     ·exact⟨_,_,_,g3,er,rfl,rfl⟩
    ·rename_i near2 r2 hq
     cases h3;cases near
     ·exfalso
      unfold parseW at hq;split at hq<;>cases hq
     ·exact⟨_,_,_,g4,er,rfl,rfl⟩
    ·cases h3
   obtain⟨V,L',orc2,k1,k2,k3,rfl⟩:=key;refine(Z10 ha hns h6 ho' (hp.below hfr.below) k1 k2 k3 (vals:=[.int .i64 k,.int .i64 f]) (ρ0:=λ_=>none) rfl ⟨_,_,rfl,rfl,_,_,rfl,rfl,rfl⟩).mono ?_;rintro e w' ⟨v,e1,hv,hbl⟩;exact⟨v,e1,hv ρ,hbl⟩
  ·cases hr
 ·cases hr
end
end
end Go.Proofs.W
namespace Go.Mono
end Go.Mono
namespace Go.Proofs.W
open Go.RowKit Go.Mono Go.Ex
section
variable {a:Lns} {near:Bool} (g1:decide (a.ahA=Rat.divInt 0 1)=false) (g2:near=true->false=false->decide (a.far+a.enZ=Rat.divInt 0 1)=false)
end
section
variable (a:Lns) (q:Plc) (ns kb:Nat) (f:Int) (near:Bool)
def obWay (e1 e2:Bool) (L:List Prop):List Prop:=(decide (a.di>0)=near)::(decide (a.ahA=Rat.divInt 0 1)=e1)::(near=true->e1=false->decide (a.far+a.enZ=Rat.divInt 0 1)=e2)::L
end
section
variable {a:Lns} (ha:a.opt) {ns:Nat} (hns:a.ns=ns) (h6:2<=ns∧ns<=6) {q:Plc} {kb:Nat} {f:Int} (hf:0<=f∧f<a.nf) {near:Bool}
include ha hns h6
include hf
end
end Go.Proofs.W
