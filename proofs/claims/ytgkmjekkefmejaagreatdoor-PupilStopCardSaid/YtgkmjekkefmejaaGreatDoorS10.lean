/- The law PupilStop: the chief ray meets the center of the stop,and at the entrance pupil its center,the marginal ray its edge;its contracts,its walk and its card. Part 10 of 11. No condition beside the row. -/
import Derived.Test.YtgkmjekkefmejaaGreatDoorA26
import Derived.Test.YtgkmjekkefmejaaGreatDoorS03
import Derived.Test.YtgkmjekkefmejaaGreatDoorS04
import Derived.Test.YtgkmjekkefmejaaGreatDoorS07
import Derived.Test.YtgkmjekkefmejaaGreatDoorS08
import Derived.Test.YtgkmjekkefmejaaGreatDoorS09
set_option linter.unusedVariables false
set_option linter.unusedSimpArgs false
set_option maxRecDepth 100000
set_option maxHeartbeats 4000000
namespace Go.Ex
open Go.RowKit Go.Mono
theorem Z0w {D:Den} {P:Program} (hm:P.follows .mixedOrders=true) {w:World} (sp:List (Ctr D P w (λ_=>False))) (fx:List (Fct D P w (λ_=>False))) {f:FuncId} {d n:Nat} {args:List SA} {orc:List (Option Bool)} {vs:List Vw} (bk:List (Nat×Blk)) (hbk:bk=bkV 0 vs) (hn:n=vs.length) (V:SV) (L:List Prop)
  (hev:(evF P sp fx d [] f args bk n n orc).map (λr=>(r.v,r.obl,r.pan))=some (V,L,none)) (hL:AllP L) {vals:List Value} (hv:∀v∈vs,VwOk D w vs v) (hargs:denAs D (nmV vs) w args vals) :
  Calls P f vals.toArray w λe w'=>∃v ρ',e=.returned v∧denV D ρ' w' V v∧Below w.heap.size w w':=by
 obtain⟨r,hr,he⟩:=Yad.1 hev;simp only[Yco]at he;obtain⟨rfl,rfl,hpan⟩:=he;exact(Zfy hm sp fx bk hbk hn r.v r.obl r.wr (by rw[hr];simp[hpan]) hL hv hargs).mono λe w' ⟨v,ρ',h1,h2,h3,_⟩=>⟨v,ρ',h1,h2,h3⟩
end Go.Ex
namespace Go.Proofs.W
open Go.RowKit Go.Mono
section
open Go.Ex
theorem Z0f (a:Lns) (ns k:Nat) (r:Rat×Rat):quosU (pens a ns k r):=Zj3 _ _ _ _ _ _
section
variable {a:Lns} (ha:a.opt) {ns m:Nat} (hns:a.ns=ns) (h6:2<=ns∧ns<=6) {w:World} {q:Plc} (ho:OptAt w a q) (hp:PowsAt w m)
include ha hns ho in
theorem Z0l {rest:List SA} {vals:List Value} {ρ0:Nm} (hc:closedAs rest=true) (hd:denAs DO ρ0 w rest vals):∃vs:List Vw,vs.length=1∧[(0,srfB a q ns)]=bkV 0 vs∧(∀v∈vs,VwOk DO w vs v)∧denAs DO (nmV vs) w (.agg (optU a q ns 0)::rest) (.agg (a.ovals q)::vals):=by
 obtain⟨b,off,hps,hv⟩:=Zhd ha hns ho;refine⟨[⟨85,srfsU a q 0 ns,b,off,srfsC a q 0 ns⟩],rfl,rfl,λv hm=>by rw[Ycd.1 hm];exact hv _ _,_,_,rfl,⟨(a.ovals q).toList,rfl,(Zdz hns).2 ⟨⟨b,off,true,0,0⟩,rfl,?_⟩⟩,Zc2 hc hd⟩;obtain⟨pf,cf,pw,cw,ps,cs,pc,cc,cp,cl,pi,ci,pI,cI⟩:=q;subst hps;rfl
theorem Z0e {g:FuncId} {rest:List SA} {orc:List (Option Bool)} {N:Nat} {l:List U} {L:List Prop} (hr:runU ha hns h6 ho hp g rest orc=some (.tup [.one (.sli N 0 ns),okV],L,[(N,⟨57,l,true,false,false⟩)],none)) (hN:1<=N) (hq:quosU l) (hL:AllP L) {vals:List Value} {ρ0:Nm} (hc:closedAs rest=true) (hd:denAs DO ρ0 w rest vals) :
  Calls Tryz.prog g (.agg (a.ovals q)::vals).toArray w λe w'=>∃b off cp cs vs,e=.returned (.tuple (Value.slice (some ⟨b,off,none⟩) ns cp::vs).toArray)∧ns<=cp∧w.heap.size<=b∧b<w'.heap.size∧w'.rangeAt b off cs∧(∀ρ,denL DO ρ w' l cs)∧(∀ρ,denAs DO ρ w' [okV] vs)∧Below w.heap.size w w':=by
 obtain⟨vs,h1,h2,h3,h4⟩:=Z0l ha hns ho hc hd;exact(Z0u (D:=DO) Zde (spPu ha hns h6 ho hp) [] _ h2 h1.symm _ _ _ hr hL h3 h4).mono λe w' h=>Z0v hq hN h
theorem Z0g {g:FuncId} {rest:List SA} {orc:List (Option Bool)} {L:List Prop} (hr:(runU ha hns h6 ho hp g rest orc).map okE=some (noV,L,none)) (hL:AllP L) {vals:List Value} {ρ0:Nm} (hc:closedAs rest=true) (hd:denAs DO ρ0 w rest vals) :
  Calls Tryz.prog g (.agg (a.ovals q)::vals).toArray w λe w'=>∃v,e=.returned v∧(∀ρ,denV DO ρ w' noV v)∧Below w.heap.size w w':=by
 obtain⟨vs,h1,h2,h3,h4⟩:=Z0l ha hns ho hc hd;unfold runU okE at hr;rw[Option.map_map]at hr;exact(Z0w (D:=DO) Zde (spPu ha hns h6 ho hp) [] _ h2 h1.symm _ _ hr hL h3 h4).mono λe w' ⟨v,ρ',e1,hv,hb⟩=>⟨v,e1,λρ=>Zec rfl hv,hb⟩
end
def parseW:List (Option Bool)->Option (Bool×Bool×Bool×List (Option Bool))
 | some false::some false::r=>some (false,false,false,r)
 | some false::some true::r=>some (false,true,false,r)
 | some true::some true::r=>some (true,true,false,r)
 | some true::some false::some false::r=>some (true,false,false,r)
 | some true::some false::some true::r=>some (true,false,true,r)
 | _=>none
def wayPr (a:Lns) (near e1 e2:Bool):List Prop:=[decide (a.di>0)=near,decide (a.ahA=Rat.divInt 0 1)=e1,near=true->e1=false->decide (a.far+a.enZ=Rat.divInt 0 1)=e2]
section
variable {a:Lns} (ha:a.opt) {ns m:Nat} (hns:a.ns=ns) (h6:2<=ns∧ns<=6) {w0:World} {q:Plc} (ho:OptAt w0 a q) (hp:PowsAt w0 m)
theorem Z0m {q:Plc} {k:Int} (hk:0<=k∧k<a.nw) (h7:a.ns<=6) (ha:a.opt) {near e1 e2:Bool} (h:∀p∈wayPr a near e1 e2,p) {L:List Prop} (hL:AllP L):AllP (obMgL a q ns k near e1 e2 L):=
 Zcv (Zkk hk ⟨h _ (by simp[wayPr]),Zgo ha h7 (h _ (by simp[wayPr])) (h (near=true->e1=false->decide (a.far+a.enZ=Rat.divInt 0 1)=e2) (by simp[wayPr])) hL⟩)
theorem Z0n {q:Plc} {k f:Int} (hk:0<=k∧k<a.nw) (hf:0<=f∧f<a.nf) {near e1 e2:Bool} (h:∀p∈wayPr a near e1 e2,p) {L:List Prop} (hL:AllP L):AllP (obChL a q ns k f near e1 e2 L):=
 Zcv (Zkk hk (Zkl hf ⟨h _ (by simp[wayPr]),Zkm hf (h _ (by simp[wayPr])) (h (near=true->e1=false->decide (a.far+a.enZ=Rat.divInt 0 1)=e2) (by simp[wayPr])) hL⟩))
def cMargO:Ctr DO Tryz.prog w0 (λ_=>False):=.listT 28 57 (λargs bk orc=>match args with
    | [.agg l, x] => match seesO a q ns l bk, Ex.intOf (some (.a x)), parseW orc with
      | some L,some (.i64,k,_),some (near,false,false,r)=>some (ns,pens a ns k.toNat (Lns.mar a near),[okV],L++(0<=k∧k<a.nw)::wayPr a near false false,r)
      | _,_,_=>none
    | _=>none)<|by
 intro args bk orc n l rest obl orc' hr hobl ρ w vals hfr hb hargs;split at hr
 ·rename_i l1 x
  split at hr
  ·rename_i L k s near r h1 h2 h3
   cases hr;obtain⟨v1,r1,rfl,⟨cs1,rfl,d1⟩,v2,r2,rfl,d2,h5⟩:=hargs;obtain rfl:r2=[]:=h5;obtain rfl:=Zbi (D:=DO) (ρ:=ρ) (w:=w) h2 d2;obtain⟨q',rfl,ho',_⟩:=Zdf hns h6.1 (ho.below hfr.below) h1 (λp hp=>hobl p (Ycy _ hp)) hb d1;have hk:=hobl (0<=k∧k<a.nw) Zs;have hx:=Zzt ha Zo near;refine(Z0e ha hns h6 ho' (hp.below hfr.below) (Z01 ha ho' (hp.below hfr.below) k hns h6 near) (by cases near<;>decide) (Z0f _ _ _ _) (Z0m hk Zo ha (λp hp=>hobl p (by simp[hp])) (Zc1 hk ⟨Zlt ha Zo (K:=900) Zd hx.1 hx.2,trivial⟩)) (vals:=[.int .i64 k]) (ρ0:=λ_=>none) rfl ⟨_,_,rfl,rfl,rfl⟩).mono ?_;rintro e w' ⟨b,off,cp,cs,vs,e1,g1,g2,g3,g4,g5,g6,g7⟩;exact⟨b,off,cp,cs,vs,e1,g1,g2,g3,g4,g5 ρ,g6 ρ,g7⟩
  ·cases hr
 ·cases hr
def cChiefO:Ctr DO Tryz.prog w0 (λ_=>False):=.listT 29 57 (λargs bk orc=>match args with
    | [.agg l, x, y] => match seesO a q ns l bk, Ex.intOf (some (.a x)), Ex.intOf (some (.a y)), parseW orc with
      | some L,some (.i64,k,_),some (.i64,f,_),some (near,false,false,r)=>some (ns,pens a ns k.toNat (Lns.chf a f.toNat near),[okV],L++(0<=k∧k<a.nw)::(0<=f∧f<a.nf)::wayPr a near false false,r)
      | _,_,_,_=>none
    | _=>none)<|by
 intro args bk orc n l rest obl orc' hr hobl ρ w vals hfr hb hargs;split at hr
 ·rename_i l1 x y
  split at hr
  ·rename_i L k s f s2 near r h1 h2 h2' h3
   cases hr;obtain⟨v1,r1,rfl,⟨cs1,rfl,d1⟩,v2,r2,rfl,d2,v3,r3,rfl,d3,h5⟩:=hargs;obtain rfl:r3=[]:=h5;obtain rfl:=Zbi (D:=DO) (ρ:=ρ) (w:=w) h2 d2;obtain rfl:=Zbi (D:=DO) (ρ:=ρ) (w:=w) h2' d3;obtain⟨q',rfl,ho',_⟩:=Zdf hns h6.1 (ho.below hfr.below) h1 (λp hp=>hobl p (Ycy _ hp)) hb d1;have hk:=hobl (0<=k∧k<a.nw) Zs;have hf:=hobl (0<=f∧f<a.nf) Zs;have hx:=Zzu ha Zo near (f:=f.toNat) Zo;refine(Z0e ha hns h6 ho' (hp.below hfr.below) (Z02 ha ho' (hp.below hfr.below) k f hns h6 near) Zd (Z0f _ _ _ _) (Z0n hk hf (λp hp=>hobl p (by simp[hp])) (Zc1 hk ⟨Zlt ha Zo (K:=900) Zd hx.1 hx.2,trivial⟩)) (vals:=[.int .i64 k,.int .i64 f]) (ρ0:=λ_=>none) rfl ⟨_,_,rfl,rfl,_,_,rfl,rfl,rfl⟩).mono ?_;rintro e w' ⟨b,off,cp,cs,vs,e1,g1,g2,g3,g4,g5,g6,g7⟩;exact⟨b,off,cp,cs,vs,e1,g1,g2,g3,g4,g5 ρ,g6 ρ,g7⟩
  ·cases hr
 ·cases hr
def cBackX:Ctr DO Tryz.prog w0 (λ_=>False):=.plain 25 (λargs bk orc=>match args with
    | [.agg l, x, .agg [.quo y, .quo u]] => match seesO a q ns l bk, Ex.intOf (some (.a x)) with
      | some L,some (.i64,k,_)=>some (.tup [.agg [.quo (a.bkn ns k.toNat y u ns).1],.agg [.quo (a.bkn ns k.toNat y u ns).2],okV],L++(0<=k∧k<a.nw)::BkFits a k.toNat y u::[],orc)
      | _,_=>none
    | _=>none)<|by
 intro args bk orc v obl orc' hr hobl ρ w vals hfr hb hargs;split at hr
 ·rename_i l x y u
  split at hr
  ·rename_i L k s h1 h2
   cases hr;obtain⟨v1,r1,rfl,⟨cs1,rfl,d1⟩,v2,r2,rfl,d2,v3,r3,rfl,d3,h5⟩:=hargs;obtain rfl:r3=[]:=h5;obtain rfl:=Zbi (D:=DO) (ρ:=ρ) (w:=w) h2 d2;obtain⟨q',rfl,ho',_⟩:=Zdf hns h6.1 (ho.below hfr.below) h1 (λp hp=>hobl p (Ycy _ hp)) hb d1;have hk:=hobl (0<=k∧k<a.nw) Zs;refine(Zfo ha hns ho' _ (Z04 ha ho' (hp.below hfr.below) k y u hns h6) (Zzb ha hns hk (hobl (BkFits a k.toNat y u) Zs) trivial) rfl (vals:=[.int .i64 k,v3]) (ρ0:=ρ) rfl ⟨_,_,rfl,rfl,_,_,rfl,d3,rfl⟩).mono ?_;rintro e w' ⟨v,e1,hv,hbl⟩;exact⟨v,e1,hv ρ,hbl⟩
  ·cases hr
 ·cases hr
def cEntrO:Ctr DO Tryz.prog w0 (λ_=>False):=.plain 23 (λargs bk orc=>match args,orc with
    | [.agg l],some near::some false::r=>(seesO a q ns l bk).map λL=>(.tup [.agg [.quo a.enZ],.agg [.quo a.enR],okV],L++[decide (a.di>0)=near,decide (a.ahA=Rat.divInt 0 1)=false],r)
    | _,_=>none)<|by
 intro args bk orc v obl orc' hr hobl ρ w vals hfr hb hargs;split at hr
 ·rename_i l near r
  obtain⟨L,hL,e⟩:=Yad.1 hr;cases e;obtain⟨v1,r1,rfl,⟨cs1,rfl,d1⟩,h5⟩:=hargs;obtain rfl:r1=[]:=h5;obtain⟨q',rfl,ho',_⟩:=Zdf hns h6.1 (ho.below hfr.below) hL (λp hp=>hobl p (Ycy _ hp)) hb d1;have g0:=hobl (decide (a.di>0)=near) Zs;have g1:=hobl (decide (a.ahA=Rat.divInt 0 1)=false) Zs;refine(Zfo ha hns ho' _ (Z03 ha ho' (hp.below hfr.below) hns h6 near) (Zcv ⟨g0,Zh3 g1 (Zua ha Zo g1 (Zau (Zwh ha) trivial))⟩) rfl (vals:=[]) (ρ0:=ρ) rfl rfl).mono ?_;rintro e w' ⟨v,e1,hv,hbl⟩;exact⟨v,e1,hv ρ,hbl⟩
 ·cases hr
end
end
section
open Go.Ex
def parseE:List (Option Bool)->Option (Bool×Bool×List (Option Bool))
 | some false::some true::r=>some (false,false,r)
 | some true::some true::r=>some (true,false,r)
 | some true::some false::some true::r=>some (true,true,r)
 | _=>none
section
variable {a:Lns} (ha:a.opt) {ns m:Nat} (hns:a.ns=ns) (h6:2<=ns∧ns<=6) {w0:World} {q:Plc} (ho:OptAt w0 a q) (hp:PowsAt w0 m)
theorem Z0t {w:World} {q:Plc} (ho:OptAt w a q) (hp:PowsAt w m) (k f:Int) {orc r:List (Option Bool)} {near e2:Bool} (h:parseE orc=some (near,e2,r)):erAll ha hns h6 ho hp k f near e2:=by
 unfold parseE at h;split at h
 ·cases h;exact Z0y ha ho hp k f hns h6
 ·cases h;exact Z0z ha ho hp k f hns h6
 ·cases h;exact Z00 ha ho hp k f hns h6
 ·cases h
def cMargE:Ctr DO Tryz.prog w0 (λ_=>False):=.plain 28 (λargs bk orc=>match args with
    | [.agg l, x] => match seesO a q ns l bk, Ex.intOf (some (.a x)), parseE orc with
      | some L,some (.i64,k,_),some (near,e2,r)=>some (noV,L++(0<=k∧k<a.nw)::wayPr a near (!e2) e2,r)
      | _,_,_=>none
    | _=>none)<|by
 intro args bk orc v obl orc' hr hobl ρ w vals hfr hb hargs;split at hr
 ·rename_i l1 x
  split at hr
  ·rename_i L k s near e2 r h1 h2 h3
   cases hr;obtain⟨v1,r1,rfl,⟨cs1,rfl,d1⟩,v2,r2,rfl,d2,h5⟩:=hargs;obtain rfl:r2=[]:=h5;obtain rfl:=Zbi (D:=DO) (ρ:=ρ) (w:=w) h2 d2;obtain⟨q',rfl,ho',_⟩:=Zdf hns h6.1 (ho.below hfr.below) h1 (λp hp=>hobl p (Ycy _ hp)) hb d1;have hk:=hobl (0<=k∧k<a.nw) Zs;refine(Z0g ha hns h6 ho' (hp.below hfr.below) (Z0t ha hns h6 ho' (hp.below hfr.below) k 0 h3).1 (Z0m hk Zo ha (λp hp=>hobl p (by simp[hp])) trivial) (vals:=[.int .i64 k]) (ρ0:=λ_=>none) rfl ⟨_,_,rfl,rfl,rfl⟩).mono ?_;rintro e w' ⟨v,e1,hv,hbl⟩;exact⟨v,e1,hv ρ,hbl⟩
  ·cases hr
 ·cases hr
def cChiefE:Ctr DO Tryz.prog w0 (λ_=>False):=.plain 29 (λargs bk orc=>match args with
    | [.agg l, x, y] => match seesO a q ns l bk, Ex.intOf (some (.a x)), Ex.intOf (some (.a y)), parseE orc with
      | some L,some (.i64,k,_),some (.i64,f,_),some (near,e2,r)=>some (noV,L++(0<=k∧k<a.nw)::(0<=f∧f<a.nf)::wayPr a near (!e2) e2,r)
      | _,_,_,_=>none
    | _=>none)<|by
 intro args bk orc v obl orc' hr hobl ρ w vals hfr hb hargs;split at hr
 ·rename_i l1 x y
  split at hr
  ·rename_i L k s f s2 near e2 r h1 h2 h2' h3
   cases hr;obtain⟨v1,r1,rfl,⟨cs1,rfl,d1⟩,v2,r2,rfl,d2,v3,r3,rfl,d3,h5⟩:=hargs;obtain rfl:r3=[]:=h5;obtain rfl:=Zbi (D:=DO) (ρ:=ρ) (w:=w) h2 d2;obtain rfl:=Zbi (D:=DO) (ρ:=ρ) (w:=w) h2' d3;obtain⟨q',rfl,ho',_⟩:=Zdf hns h6.1 (ho.below hfr.below) h1 (λp hp=>hobl p (Ycy _ hp)) hb d1;have hk:=hobl (0<=k∧k<a.nw) Zs;have hf:=hobl (0<=f∧f<a.nf) Zs;refine(Z0g ha hns h6 ho' (hp.below hfr.below) (Z0t ha hns h6 ho' (hp.below hfr.below) k f h3).2 (Z0n hk hf (λp hp=>hobl p (by simp[hp])) trivial) (vals:=[.int .i64 k,.int .i64 f]) (ρ0:=λ_=>none) rfl ⟨_,_,rfl,rfl,_,_,rfl,rfl,rfl⟩).mono ?_;rintro e w' ⟨v,e1,hv,hbl⟩;exact⟨v,e1,hv ρ,hbl⟩
  ·cases hr
 ·cases hr
noncomputable def spPv:List (Ctr DO Tryz.prog w0 (λ_=>False)):=Ctr.or (cMargO ha hns h6 ho hp) (cMargE ha hns h6 ho hp) rfl::Ctr.or (cChiefO ha hns h6 ho hp) (cChiefE ha hns h6 ho hp) rfl::cEntrO ha hns h6 ho hp::cBackX ha hns h6 ho hp::spPu ha hns h6 ho hp
end
end
end Go.Proofs.W
namespace Go.Mono
theorem Lns.ahM_tr (a:Lns) (k:Nat) (y u:Rat):∀s,(a.ahM k s).a*y+(a.ahM k s).b*u=(a.tr k y u (s+1)).1
 | 0 => by
   rw[a.tr_stp];unfold ahM M22.one Lns.stp Lns.tr;rw[Zsv,Zit];dsimp only;rw[if_pos rfl];grind
 | s + 1 => by
   have e:=congrArg Prod.fst (M22.app_mul (a.gapM k s) (a.sysM k 0 s) (y,u));rw[a.sysM_tr k y u s]at e;refine e.trans ?_;rw[a.tr_stp k y u (s+1)];generalize a.tr k y u (s+1)=r;unfold gapM M22.app Lns.stp;rw[Zsv,if_neg (Nat.succ_ne_zero s),Ybf,Yga];simp only[Yew];generalize (a.nI k s)⁻¹=n;generalize Rat.divInt (a.S s).thick 1000000=g;grind
end Go.Mono
namespace Go.Proofs.W
open Go.RowKit Go.Mono
section
open Go.Ex
theorem Z0h {x:Rat} (h:decide (x=Rat.divInt 0 1)=false):x≠0:=by
 have:=of_decide_eq_false h;rwa [Zit]at this
section
variable {a:Lns} {near:Bool} (g1:decide (a.ahA=Rat.divInt 0 1)=false) (g2:near=true->false=false->decide (a.far+a.enZ=Rat.divInt 0 1)=false)
include g2 in
theorem Z0q:(Lns.mar a near).1+a.enZ*(Lns.mar a near).2=a.enR:=by
 cases near with
 | false =>
   show a.enR+a.enZ*Rat.divInt 0 1=a.enR;rw[Zit,Rat.mul_zero,Rat.add_zero]
 | true =>
   have hne:=Z0h (g2 rfl rfl);show a.far*(a.enR/(a.far+a.enZ))+a.enZ*(a.enR/(a.far+a.enZ))=a.enR;rw[<-Rat.add_mul,Yew];have h:=Rat.mul_inv_cancel _ hne;generalize (a.far+a.enZ)⁻¹=i at *;generalize a.far+a.enZ=s at *;grind
theorem Z0r (f:Nat):(Lns.chf a f near).1+a.enZ*(Lns.chf a f near).2=Rat.divInt 0 1:=by
 rw[Zit];cases near with
 | false =>
   show -(a.enZ*a.fY f)+a.enZ*a.fY f=0;grind
 | true =>
   show a.enZ*(a.fY f/(a.far+a.enZ))+a.enZ * -(a.fY f/(a.far+a.enZ))=0;grind
include g1 in
theorem Z0s (f:Nat):(a.tr a.pr.toNat (Lns.chf a f near).1 (Lns.chf a f near).2 (a.st.toNat+1)).1=Rat.divInt 0 1:=by
 have hA:=Z0h g1;have hI:=Rat.mul_inv_cancel _ hA;rw[<-a.ahM_tr,Zit];show a.ahA*_+a.ahB*_=0;have hz:a.ahA*a.enZ=a.ahB:=by
  unfold Lns.enZ;rw[Yew];generalize a.ahA⁻¹=i at *;grind
 cases near with
 | false =>
   show a.ahA * -(a.enZ*a.fY f)+a.ahB*a.fY f=0;rw[<-hz];grind
 | true =>
   show a.ahA*(a.enZ*(a.fY f/(a.far+a.enZ)))+a.ahB * -(a.fY f/(a.far+a.enZ))=0;rw[<-hz];grind
end
section
variable (a:Lns) (q:Plc) (ns kb:Nat) (f:Int) (near:Bool)
def obPr (L:List Prop):List Prop:=obS0 a q ns kb ((0<=a.pr∧a.pr<(a.nw:Int))::L)
def bkOf (a:Lns) (ns:Nat) (x:Rat×Rat):Rat×Rat:=a.bkn ns a.pr.toNat (a.tr a.pr.toNat x.1 x.2 ns).1 (a.tr a.pr.toNat x.1 x.2 ns).2 ns
def obEd (x:Rat×Rat) (L:List Prop):List Prop:=obPr a q ns kb (BkFits a a.pr.toNat (a.tr a.pr.toNat x.1 x.2 ns).1 (a.tr a.pr.toNat x.1 x.2 ns).2::Fits (a.enZ*(bkOf a ns x).2)::Fits ((bkOf a ns x).1+a.enZ*(bkOf a ns x).2)::L)
def obWay (e1 e2:Bool) (L:List Prop):List Prop:=(decide (a.di>0)=near)::(decide (a.ahA=Rat.divInt 0 1)=e1)::(near=true->e1=false->decide (a.far+a.enZ=Rat.divInt 0 1)=e2)::L
def obEnO (L:List Prop):List Prop:=obS0 a q ns kb ((decide (a.di>0)=near)::(decide (a.ahA=Rat.divInt 0 1)=false)::L)
def obEnE (L:List Prop):List Prop:=obS0 a q ns kb (obDi a near (obEz a q ns kb true L))
def obRays (e1 e2:Bool) (L:List Prop):List Prop:=obPr a q ns kb (obWay a near e1 e2 (obPr a q ns kb ((0<=f∧f<(a.nf:Int))::obWay a near e1 e2 L)))
def obPstO (s:Nat):List Prop:=
 obEnO a q ns kb near (obRays a q ns kb f near false false ((a.st=(s:Int))::obOf 0 1 ((decide ((a.tr a.pr.toNat (Lns.chf a f.toNat near).1 (Lns.chf a f.toNat near).2 (s+1)).1=Rat.divInt 0 1)=true)::
  obEd a q ns kb (Lns.mar a near) (obEd a q ns kb (Lns.chf a f.toNat near) ((decide ((bkOf a ns (Lns.mar a near)).1+a.enZ*(bkOf a ns (Lns.mar a near)).2=a.enR)=true)::obOf 0 1 ((decide ((bkOf a ns (Lns.chf a f.toNat near)).1+a.enZ*(bkOf a ns (Lns.chf a f.toNat near)).2=Rat.divInt 0 1)=true)::[]))))))
def obPstE (e2:Bool):List Prop:=
 match e2 with
 | false=>obEnE a q ns kb near (obRays a q ns kb f near true false [])
 | true=>obEnO a q ns kb near (obRays a q ns kb f near false true [])
end
section
variable {a:Lns} (ha:a.opt) {ns:Nat} (hns:a.ns=ns) (h6:2<=ns∧ns<=6) {q:Plc} {kb:Nat} {f:Int} (hf:0<=f∧f<a.nf) {near:Bool}
include ha in
theorem Z0j {L:List Prop} (hL:AllP L):AllP (obPr a q ns kb L):=Zcv ⟨by have:=ha.base.pr;omega,hL⟩
include ha hf in
theorem Z0c {e1 e2:Bool} (g0:decide (a.di>0)=near) (g1:decide (a.ahA=Rat.divInt 0 1)=e1) (g2:near=true->e1=false->decide (a.far+a.enZ=Rat.divInt 0 1)=e2) {L:List Prop} (hL:AllP L):AllP (obRays a q ns kb f near e1 e2 L):=
 Z0j ha ⟨g0,g1,g2,Z0j ha ⟨hf,g0,g1,g2,hL⟩⟩
include hns in
theorem Z0k (x:Rat×Rat):bkOf a ns x=x:=by
 subst hns;have:=a.bk_tr a.pr.toNat x.1 x.2 a.ns (Yab _);rw[Ydt]at this;exact this
include ha hns h6
theorem Z0o {x:Rat×Rat} (hx:Hs 900 x.1∧Hs 900 x.2) {L:List Prop} (hL:AllP L):AllP (obEd a q ns kb x L):=by
 have h7:a.ns<=6:=Zo;obtain⟨D,hD,d1,d2⟩:=Hs.two hx.1 hx.2;obtain⟨D',hD',t1,t2⟩:=ha.tr_ov ha.pr_lt hD d1 d2 ns Zo;unfold obEd;rw[Z0k hns];refine Z0j ha ⟨?_,((ha.enZ_hs h7).mul hx.2).fits Zd,(hx.1.add ((ha.enZ_hs h7).mul hx.2)).fits Zd,hL⟩;exact Zys ha ha.pr_lt (K:=900+900+37*ns) Zo (Yak hD' (Zbs Zo)) t1 t2
include hf
theorem Z0i (g0:decide (a.di>0)=near) (g1:decide (a.ahA=Rat.divInt 0 1)=false) (g2:near=true->false=false->decide (a.far+a.enZ=Rat.divInt 0 1)=false) {s:Nat} (hs:a.st=(s:Int)):AllP (obPstO a q ns kb f near s):=by
 have h7:a.ns<=6:=Zo;have e:=Z0s (near:=near) g1 f.toNat;rw[show a.st.toNat=s by omega]at e;refine Zcv ⟨g0,g1,Z0c ha hf g0 g1 g2 ⟨hs,Zau okN ⟨decide_eq_true e,Z0o ha hns h6 (Zzt ha h7 near) (Z0o ha hns h6 (Zzu ha h7 near Zo) ⟨decide_eq_true ?_,Zau okN ⟨decide_eq_true ?_,trivial⟩⟩)⟩⟩⟩
 ·rw[Z0k hns]
  exact Z0q g2
 ·rw[Z0k hns]
  exact Z0r _
omit hns h6 in
theorem Z0d {e2:Bool} (g0:decide (a.di>0)=near) (g1:decide (a.ahA=Rat.divInt 0 1) = !e2) (g2:near=true->(!e2)=false->decide (a.far+a.enZ=Rat.divInt 0 1)=e2):AllP (obPstE a q ns kb f near e2):=by
 cases e2 with
 | false=>exact Zcv ⟨g0,Zh3 g1 (Z0c ha hf g0 g1 g2 trivial)⟩
 | true=>exact Zcv ⟨g0,g1,Z0c ha hf g0 g1 g2 trivial⟩
end
end
section
open Go.Ex
set_option maxRecDepth 100000
def bkPst (a:Lns) (q:Plc) (ns:Nat):List (Nat×Blk):=[(0,optBN a q ns 1),(1,srfB a q ns)]
def tmPst (f:Int):List (Nat×SV):=[(9,.a (.one (.ptr 0 0))),(10,.a (.one (.sym f)))]
noncomputable def cdPst:Code:=codeR (codeR (codeR (codeR (Tryz.f6.body.getD .skip))))
def unarO:Nat->List (Option Bool)->List (Option Bool)
 | 0,r=>some true::r
 | s+1,r=>some false::unarO s r
def orcPstO (near:Bool) (s:Nat):List (Option Bool):=some near::pF::some near::wayP near false false (some near::wayP near false false (unarO s [some true,some true,some true]))
def orcPstE (near e2:Bool):List (Option Bool):=some near::some (!e2)::some near::wayP near (!e2) e2 (some near::wayP near (!e2) e2 [])
section
variable {a:Lns} (ha:a.opt) {ns m:Nat} (hns:a.ns=ns) (h6:2<=ns∧ns<=6) {w0:World} (q:Plc) (ho:OptAt w0 a q) (hp:PowsAt w0 m) (f:Int)
noncomputable def runPst (orc:List (Option Bool)):Option (Ot×List DF×Option SV×List Prop):=
 (evC Tryz.prog ⟨evF Tryz.prog (spPv ha hns h6 ho hp) [] 24,fctRun ([]:List (Fct DO Tryz.prog w0 (λ_=>False)))⟩ [] 112 FU false cdPst ⟨tmPst f,bkPst a q ns,2,2,orc,[]⟩).map (λr=>(r.1,r.2.1.df,r.2.1.tm.look 8,r.2.2))
noncomputable def pstO (s:Nat) (near:Bool):Prop:=runPst ha hns h6 q ho hp f (orcPstO near s)=yesP (obPstO a q ns 1 f near s)
noncomputable def pstE (near e2:Bool):Prop:=runPst ha hns h6 q ho hp f (orcPstE near e2)=yesP (obPstE a q ns 1 f near e2)
end
section
variable {a:Lns} (ha:a.opt) {m:Nat} {w0:World} (q:Plc) (ho:OptAt w0 a q) (hp:PowsAt w0 m) (f:Int)
theorem Z05:∀{ns:Nat} (hns:a.ns=ns) (h6:2<=ns∧ns<=6) (s:Nat) (near:Bool),s+1<ns->pstO ha hns h6 q ho hp f s near
 | 0,_,h,_,_,_=>absurd h.1 Zd
 | 1,_,h,_,_,_=>absurd h.1 Zd
 | 2,hns,h6,0,false,_=>by unfold pstO;kernel_rfl
 | 2,hns,h6,0,true,_=>by unfold pstO;kernel_rfl
 | 3,hns,h6,0,false,_=>by unfold pstO;kernel_rfl
 | 3,hns,h6,0,true,_=>by unfold pstO;kernel_rfl
 | 3,hns,h6,1,false,_=>by unfold pstO;kernel_rfl
 | 3,hns,h6,1,true,_=>by unfold pstO;kernel_rfl
 | 4,hns,h6,0,false,_=>by unfold pstO;kernel_rfl
 | 4,hns,h6,0,true,_=>by unfold pstO;kernel_rfl
 | 4,hns,h6,1,false,_=>by unfold pstO;kernel_rfl
 | 4,hns,h6,1,true,_=>by unfold pstO;kernel_rfl
 | 4,hns,h6,2,false,_=>by unfold pstO;kernel_rfl
 | 4,hns,h6,2,true,_=>by unfold pstO;kernel_rfl
 | 5,hns,h6,0,false,_=>by unfold pstO;kernel_rfl
 | 5,hns,h6,0,true,_=>by unfold pstO;kernel_rfl
 | 5,hns,h6,1,false,_=>by unfold pstO;kernel_rfl
 | 5,hns,h6,1,true,_=>by unfold pstO;kernel_rfl
 | 5,hns,h6,2,false,_=>by unfold pstO;kernel_rfl
 | 5,hns,h6,2,true,_=>by unfold pstO;kernel_rfl
 | 5,hns,h6,3,false,_=>by unfold pstO;kernel_rfl
 | 5,hns,h6,3,true,_=>by unfold pstO;kernel_rfl
 | 6,hns,h6,0,false,_=>by unfold pstO;kernel_rfl
 | 6,hns,h6,0,true,_=>by unfold pstO;kernel_rfl
 | 6,hns,h6,1,false,_=>by unfold pstO;kernel_rfl
 | 6,hns,h6,1,true,_=>by unfold pstO;kernel_rfl
 | 6,hns,h6,2,false,_=>by unfold pstO;kernel_rfl
 | 6,hns,h6,2,true,_=>by unfold pstO;kernel_rfl
 | 6,hns,h6,3,false,_=>by unfold pstO;kernel_rfl
 | 6,hns,h6,3,true,_=>by unfold pstO;kernel_rfl
 | 6,hns,h6,4,false,_=>by unfold pstO;kernel_rfl
 | 6,hns,h6,4,true,_=>by unfold pstO;kernel_rfl
 | 2,_,_,s+1,_,h=>absurd h Zo
 | 3,_,_,s+2,_,h=>absurd h Zo
 | 4,_,_,s+3,_,h=>absurd h Zo
 | 5,_,_,s+4,_,h=>absurd h Zo
 | 6,_,_,s+5,_,h=>absurd h Zo
 | n+7,_,h,_,_,_=>absurd h.2 Zo
theorem Z06:∀{ns:Nat} (hns:a.ns=ns) (h6:2<=ns∧ns<=6),pstE ha hns h6 q ho hp f false false∧pstE ha hns h6 q ho hp f true false∧pstE ha hns h6 q ho hp f true true
 | 0,_,h=>absurd h.1 Zd
 | 1,_,h=>absurd h.1 Zd
 | 2,hns,h6=>⟨by unfold pstE;kernel_rfl,by unfold pstE;kernel_rfl,by unfold pstE;kernel_rfl⟩
 | 3,hns,h6=>⟨by unfold pstE;kernel_rfl,by unfold pstE;kernel_rfl,by unfold pstE;kernel_rfl⟩
 | 4,hns,h6=>⟨by unfold pstE;kernel_rfl,by unfold pstE;kernel_rfl,by unfold pstE;kernel_rfl⟩
 | 5,hns,h6=>⟨by unfold pstE;kernel_rfl,by unfold pstE;kernel_rfl,by unfold pstE;kernel_rfl⟩
 | 6,hns,h6=>⟨by unfold pstE;kernel_rfl,by unfold pstE;kernel_rfl,by unfold pstE;kernel_rfl⟩
 | n+7,_,h=>absurd h.2 Zo
end
theorem Z0x {a:Lns} (ha:a.opt) {ns m:Nat} (hns:a.ns=ns) (h6:2<=ns∧ns<=6) {w0:World} (q:Plc) (ho:OptAt w0 a q) (hp:PowsAt w0 m) (f:Int) (hf:0<=f∧f<a.nf) :
  ∃orc V L,runPst ha hns h6 q ho hp f orc=some (.ret,[],some V,L)∧AllP L∧V=.a (.one (.val (.bool true))):=by
 obtain⟨p1,p2,p3⟩:=Z06 ha q ho hp f hns h6;have hst:=ha.base.st;obtain⟨s,hs⟩:∃s:Nat,a.st=s:=⟨a.st.toNat,Zo⟩
 have p0:=λnear=>Z05 ha q ho hp f hns h6 s near Zo;cases g0:decide (a.di>0) with
 | false =>
   cases g1:decide (a.ahA=Rat.divInt 0 1) with
   | false=>exact⟨_,_,_,p0 false,Z0i ha hns h6 hf g0 g1 (λh=>by cases h) hs,rfl⟩
   | true=>exact⟨_,_,_,p1,Z0d (e2:=false) ha hf g0 g1 (λh=>by cases h),rfl⟩
 | true =>
   cases g1:decide (a.ahA=Rat.divInt 0 1) with
   | true=>exact⟨_,_,_,p2,Z0d (e2:=false) ha hf g0 g1 (λ_ h=>by cases h),rfl⟩
   | false =>
     cases g2:decide (a.far+a.enZ=Rat.divInt 0 1) with
     | false=>exact⟨_,_,_,p0 true,Z0i ha hns h6 hf g0 g1 (λ_ _=>g2) hs,rfl⟩
     | true=>exact⟨_,_,_,p3,Z0d (e2:=true) ha hf g0 g1 (λ_ _=>g2),rfl⟩
end
end Go.Proofs.W
namespace Go.Mono
open Go.RowKit
section
section
variable {P:Program} {f:FuncId} {args:Array Value} {R:Ending->World->Prop} {w:World} {T0:TypeId} {c0:Array Value}
theorem Zyq (h:∀W,Below w.heap.size w W->w.heap.size+1<=W.heap.size->Box W (w.heap.size) T0 c0->Calls P f args W R) :
  Calls P f args (w.alloc (.cells c0 T0)) R:=by
 exact h _ ((Yae _ _).alloc (Yab _) _) Zs (Box.new _ _ _)
end
end
end Go.Mono
namespace Go.Proofs.W
open Go.RowKit Go.Mono
section
open Go.Ex

end
section
open Go.Ex
theorem Z0p (d:LD) (hd:d.ok) (q:LDP) (kc sv fv lv:Int) (hkc:U8 kc) (hsv:U8 sv) (hfv:U8 fv) (hlv:U8 lv) (w:World) (m:Nat) (hp:PowsAt w m) (hl:LDAt w d q) :
  Calls Tryz.prog 6 #[.agg ((ldC d q).push (.int .u8 kc)),.int .u8 sv,.int .u8 fv,.int .u8 lv] w λe w'=>e=.returned (.bool true)∧Below w.heap.size w w':=by
 have q1:=λW (hW:Below w.heap.size w W)=>Zub d hd q kc sv fv hkc hsv hfv W (hl.below hW);have ha:=(Zme hd kc).stgd hsv hfv;have hz:(Tryz.prog.info? 30).map (·.size)=some ((ldC d q).push (.int .u8 kc)).size:=Zk;have hzo:∀a q,(Tryz.prog.info? 40).map (·.size)=some (Lns.ovals a q).size:=λ_ _=>Zk;have hns:((d.lns (d.kc kc)).stgd sv fv).ns=d.srfs.length:=rfl;have hn2:=(LD.srfs_ok hd).2.1;have hn3:=(LD.raw_ok hd).2;generalize hA:(ldC d q).push (.int .u8 kc)=A at *;generalize haa:(d.lns (d.kc kc)).stgd sv fv=a at *;have h6:2<=a.ns∧a.ns<=6:=Zo;clear hns hn2 hn3 haa hA;have hnw:=ha.base.nw;have hnf:=ha.base.nf;have hv0:IntKind.i64.wrap lv=lv:=Zcg (by have:=hlv.1;omega) (by have:=hlv.2;omega);have hu0:lv.tmod (a.nf:Int)=lv%(a.nf:Int):=Ybr hlv.1;have hf0:=Ycc lv (show(a.nf:Int)≠0 by omega);have hf1:=Ybu lv (show(0:Int)<a.nf by omega);have hv1:IntKind.i64.wrap (lv%(a.nf:Int))=lv%(a.nf:Int):=Zcg Zo Zo;have hnf0:(a.nf:Int)≠0:=Zo;have hmf:=Zs1 hnf.1;go_enter Tryz.func6,Tryz.ntmps6
 refine wp_seq_k (λK hK=>?_);replace hK:=Yah hK;go_wp2_with fail
 refine hK.out _ _ ?_;clear hK K;refine wp_seq_k (λK hK=>?_);replace hK:=Yah hK;go_wp2_with fail
 refine Zyq λW hB hs b0=>?_;refine(Zue W m (hp.below hB)).mono ?_;rintro e W1 ⟨rfl,hb1⟩;replace hB:=Zaa hB hb1;replace b0:=b0.below hb1;clear hs hb1;go_wp2_with fail
 refine hK.out _ _ ?_;clear hK K;refine wp_seq_k (λK hK=>?_);replace hK:=Yah hK;go_wp2_with first|(refine Zac rfl 30 _ rfl _ rfl 30 _ b0 _ Tryz.underlying30 rfl hz ?_)
 refine(q1 W1 hB).mono ?_;rintro e W2 ⟨q',rfl,ho,hb2⟩;have hB2:=Zaa hB hb2;clear q1 hb2 b0 hB;have hix:∀w:World,(Instr.index 41 (.agg (a.ovals q'++a.ovals q')) (.int .i64 0)).run Tryz.prog w=.ok (.agg (a.ovals q')) w:=λ_=>Zk;go_wp2_with first|(refine Zak rfl 40 rfl _ Zbg ?_;intro W3 B hle hB3 bo;refine Hid.out ?_)
 refine Zab rfl 40 (.tmp 9) (.tmp 28) rfl B 0 40 _ (a.ovals q') (a.ovals q') rfl rfl bo (hzo _ _) (Yaa rfl) (by simp[Lns.ovals,Value.oneCell']) rfl ?_;intro W4 hk bp;have hB4:=hk.below hB3 hle hB3.size;replace ho:=ho.below hB4;have hB:=Zaa hB2 hB4;clear hB4 hB3 hk hle bo hB2 hix;go_wp2_with fail
 refine hK.out _ _ ?_;clear hK K;refine wp_seq_k (λK hK=>?_);replace hK:=Yah hK;have c5:W4.cell? ⟨B,5,none⟩=some (.slice q'.pf a.nf q'.cf):=bp.cell 5;have l6:=bp.lt;go_wp2_with fail
 refine hK.out _ _ ?_;clear hK K;refine Zx4 (c':=cdPst) ?_ Zx;have hpW:=hp.below hB;obtain⟨bs,os,hps,hsv⟩:=Zhd ha (ns:=a.ns) rfl ho;obtain⟨orc,V,L,hrun,hL,rfl⟩:=Z0x ha rfl h6 q' ho hpW (lv%(a.nf:Int)) ⟨hf0,hf1⟩;refine Zy6 (t:=8) Zde (spPv ha rfl h6 ho hpW) [] (bkPst a q' a.ns) (vs:=[⟨40,optU a q' a.ns 1,B,0,(a.ovals q').toList⟩,⟨85,srfsU a q' 0 a.ns,bs,os,srfsC a q' 0 a.ns⟩]) rfl rfl _ _ hrun hL ?_ ?_ rfl ?_
 ·intro v hv
  simp only[Ycp,List.not_mem_nil,or_false]at hv;rcases hv with rfl|rfl
  ·exact Zzc rfl hps bp rfl
  ·exact hsv _ _
 ·refine Zrv (n:=112) (by rfl) ?_
  exact⟨⟨_,rfl,_,rfl,rfl⟩,⟨_,rfl,rfl⟩,trivial⟩
 ·intro a' w' ρ' v hd' ht hv hb
  have e:v=.bool true:=by
   have:=hv.1;simpa using this
  subst e;refine bodyPost_ret (v:=.bool true) ?_ hd' ⟨rfl,Zaa hB hb⟩;simp[results,Tryz.results6,go_sem,ht]
end
end Go.Proofs.W
