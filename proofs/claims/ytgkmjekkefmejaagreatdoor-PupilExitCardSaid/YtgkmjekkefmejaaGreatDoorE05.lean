/- The law PupilExit: the chief ray meets the center of the exit pupil,the marginal ray its edge;its contracts,its walk and its card. Part 5 of 11. No condition beside the row. -/
import Derived.Test.YtgkmjekkefmejaaGreatDoorE02
import Derived.Test.YtgkmjekkefmejaaGreatDoorE04
set_option linter.unusedVariables false
set_option linter.unusedSimpArgs false
set_option maxRecDepth 100000
set_option maxHeartbeats 4000000
namespace Go.Proofs.W
open Go.RowKit Go.Mono
section
open Go.Ex
def brkP:Value:=.iface 147 (.agg #[.int .i64 4])
section
variable (a:Lns) (q:Plc) (nf:Nat)
def obEn (b:Bool) (L:List Prop):List Prop:=(optF a q nf 0=optF a q nf 0)::(fldB a nf=fldB a nf)::obOf 0 1 ((decide (a.ahA=Rat.divInt 0 1)=b)::L)
def obDv (L:List Prop):List Prop:=(a.ahA.num≠0)::Fits (a.ahB/a.ahA)::L
def obFz (f:Nat) (b:Bool) (L:List Prop):List Prop:=obDv a (obOf (a.Y f) 1000000 (obOf a.di 1000000 (Fits (a.far+a.enZ)::obOf 0 1 ((decide (a.far+a.enZ=Rat.divInt 0 1)=b)::L))))
def obSlaF (f:Nat):List Prop:=obOf (a.Y f) 1000000 (obEn a q nf false (obDv a (Fits (a.enZ*a.fY f)::[])))
def obSlaT (f:Nat):List Prop:=obOf (a.Y f) 1000000 (obEn a q nf true [])
def obOutF (f:Nat):List Prop:=obEn a q nf false (obFz a f false (((a.far+a.enZ).num≠0)::Fits (a.fY f/(a.far+a.enZ))::Fits (a.enZ*(a.fY f/(a.far+a.enZ)))::[]))
end
section
variable {a:Lns} (ha:a.opt) {ns m:Nat} (hns:a.ns=ns) (h6:2<=ns∧ns<=6) {w0:World} {q:Plc} (ho:OptAt w0 a q) (hp:PowsAt w0 m)
noncomputable def spF {nf:Nat} (hnf:a.nf=nf):List (Ctr DO Tryz.prog w0 (λ_=>False)):=cAhead hp (seesF ha q hnf ho) h6 ha hns::cNegN w0 _::cOfT w0 _::spS w0 _
noncomputable def runF {nf:Nat} (hnf:a.nf=nf) (g:FuncId) (f:Nat) (orc:List (Option Bool)):Option OpR:=
 evF Tryz.prog (spF ha hns h6 ho hp hnf) [] 24 [] g [.agg (optF a q nf 0++[.unk,.unk]),.one (.val (.int .i64 (f:Int)))] [(0,fldB a nf)] 1 1 orc
def okO (r:OpR):=(r.v,r.obl,r.wr,r.pan)
def noO (r:OpR):=(r.obl,r.pan)
noncomputable def chfRun {nf:Nat} (hnf:a.nf=nf) (f:Nat):Prop:=
 (runF ha hns h6 ho hp hnf 91 f [some false]).map okO=some (ahV (a.sla f).1 (a.sla f).2,obSlaF a q nf f,[],none)∧
 (runF ha hns h6 ho hp hnf 91 f [some true]).map noO=some (obSlaT a q nf f,some brkP)∧
 (runF ha hns h6 ho hp hnf 93 f [some false,some false]).map okO=some (ahV (a.out f).1 (a.out f).2,obOutF a q nf f,[],none)∧
 (runF ha hns h6 ho hp hnf 93 f [some false,some true]).map noO=some (obEn a q nf false (obFz a f true []),some brkP)∧
 (runF ha hns h6 ho hp hnf 93 f [some true]).map noO=some (obEn a q nf true [],some brkP)
theorem Zt6:∀{nf:Nat} (hnf:a.nf=nf) (f:Nat),nf<=5->f<nf->chfRun ha hns h6 ho hp hnf f
 | 1,hnf,0,_,_=>⟨Zk,Zk,Zk,Zk,Zk⟩
 | 2,hnf,0,_,_=>⟨Zk,Zk,Zk,Zk,Zk⟩
 | 2,hnf,1,_,_=>⟨Zk,Zk,Zk,Zk,Zk⟩
 | 3,hnf,0,_,_=>⟨Zk,Zk,Zk,Zk,Zk⟩
 | 3,hnf,1,_,_=>⟨Zk,Zk,Zk,Zk,Zk⟩
 | 3,hnf,2,_,_=>⟨Zk,Zk,Zk,Zk,Zk⟩
 | 4,hnf,0,_,_=>⟨Zk,Zk,Zk,Zk,Zk⟩
 | 4,hnf,1,_,_=>⟨Zk,Zk,Zk,Zk,Zk⟩
 | 4,hnf,2,_,_=>⟨Zk,Zk,Zk,Zk,Zk⟩
 | 4,hnf,3,_,_=>⟨Zk,Zk,Zk,Zk,Zk⟩
 | 5,hnf,0,_,_=>⟨Zk,Zk,Zk,Zk,Zk⟩
 | 5,hnf,1,_,_=>⟨Zk,Zk,Zk,Zk,Zk⟩
 | 5,hnf,2,_,_=>⟨Zk,Zk,Zk,Zk,Zk⟩
 | 5,hnf,3,_,_=>⟨Zk,Zk,Zk,Zk,Zk⟩
 | 5,hnf,4,_,_=>⟨Zk,Zk,Zk,Zk,Zk⟩
 | nf+6,_,_,h,_=>absurd h Zo
 | 0,_,f+0,_,h=>absurd h Zo
 | 1,_,f+1,_,h=>absurd h Zo
 | 2,_,f+2,_,h=>absurd h Zo
 | 3,_,f+3,_,h=>absurd h Zo
 | 4,_,f+4,_,h=>absurd h Zo
 | 5,_,f+5,_,h=>absurd h Zo
end
section
variable {a:Lns} (ha:a.opt) {ns m:Nat} (hns:a.ns=ns) (h6:2<=ns∧ns<=6) {w:World} {q:Plc} (ho:OptAt w a q) (hp:PowsAt w m)
theorem Zox {nf:Nat} (hnf:a.nf=nf) {b off:Nat} (hpf:q.pf=some ⟨b,off,none⟩) {ρ:Nm} {B:Pl} (hB:ρ 0=some B) (e1:B.blk=b) (e2:B.base=off):denL DO ρ w (optF a q nf 0) (a.ovals q).toList:=by
 refine(Zow hnf).2 ⟨B,hB,?_⟩;obtain⟨pf,cf,pw,cw,ps,cs,pc,cc,cp,cl,pi,ci,pI,cI⟩:=q;subst hpf;rw[e1,e2]
include ho in
theorem Zi0 {nf:Nat} (hnf:a.nf=nf) {g:FuncId} {f:Nat} {orc:List (Option Bool)} {V:SV} {L:List Prop} (hr:(runF ha hns h6 ho hp hnf g f orc).map okO=some (V,L,[],none)) (hL:AllP L) (hV:closedV V=true) {x y:Value} (hx:x.oneCell'=true) (hy:y.oneCell'=true) :
  Calls Tryz.prog g #[.agg ((a.ovals q).toList++[x,y]).toArray,.int .i64 (f:Int)] w λe w'=>(∃v,e=.returned v∧∀ρ,denV DO ρ w' V v)∧Below w.heap.size w w':=by
 obtain⟨b,off,hpf,hv⟩:=Zt5 ha hnf ho;refine(Zfy (D:=DO) Zde (spF ha hns h6 ho hp hnf) [] (vs:=[⟨69,fldsU a 0 nf,b,off,fldsC a 0 nf⟩]) [(0,fldB a nf)] rfl rfl _ _ _ hr hL (λv hm=>by rw[Ycd.1 hm];exact hv _ _) (vals:=[.agg ((a.ovals q).toList++[x,y]).toArray,.int .i64 (f:Int)]) ?_).mono ?_
 ·exact⟨_,_,rfl,⟨_,rfl,(Zox hnf hpf (B:=⟨b,off,true,0,0⟩) rfl rfl rfl).append ⟨[x],_,rfl,⟨x,rfl,hx⟩,[y],[],rfl,⟨y,rfl,hy⟩,rfl⟩⟩,_,_,rfl,⟨rfl,rfl⟩,rfl⟩
 ·rintro e w' ⟨v,ρ',rfl,hden,hb,_⟩
  exact⟨⟨v,rfl,λρ=>Zec hV hden⟩,hb⟩
include ho in
theorem Zeg {nf:Nat} (hnf:a.nf=nf) {g:FuncId} {f:Nat} {orc:List (Option Bool)} {L:List Prop} {p:Value} (hr:(runF ha hns h6 ho hp hnf g f orc).map noO=some (L,some p)) (hL:AllP L) {x y:Value} (hx:x.oneCell'=true) (hy:y.oneCell'=true) :
  Calls Tryz.prog g #[.agg ((a.ovals q).toList++[x,y]).toArray,.int .i64 (f:Int)] w λe w'=>e=.panicked [{v:=p,recovered:=false}]∧Below w.heap.size w w':=by
 obtain⟨b,off,hpf,hv⟩:=Zt5 ha hnf ho;refine Zyn (D:=DO) Zde (spF ha hns h6 ho hp hnf) [] (vs:=[⟨69,fldsU a 0 nf,b,off,fldsC a 0 nf⟩]) [(0,fldB a nf)] rfl rfl _ _ hr hL (λv hm=>by rw[Ycd.1 hm];exact hv _ _) (vals:=[.agg ((a.ovals q).toList++[x,y]).toArray,.int .i64 (f:Int)]) ?_;exact⟨_,_,rfl,⟨_,rfl,(Zox hnf hpf (B:=⟨b,off,true,0,0⟩) rfl rfl rfl).append ⟨[x],_,rfl,⟨x,rfl,hx⟩,[y],[],rfl,⟨y,rfl,hy⟩,rfl⟩⟩,_,_,rfl,⟨rfl,rfl⟩,rfl⟩
end
section
variable {a:Lns} (ha:a.opt) {q:Plc} {nf:Nat} (h6:a.ns<=6) {f:Nat} (hf:f<a.nf)
theorem Zoy {x:Rat} (h:decide (x=Rat.divInt 0 1)=false):x.num≠0:=λe=>by
 have:=of_decide_eq_false h;rw[Zit]at this;exact this (Rat.num_eq_zero.1 e)
include ha
theorem Zwf:inR a.di:=by have:=ha.base.di;exact⟨Zo,Zo⟩
include hf in
theorem Zt7:inR (a.Y f):=by have:=ha.fY_in hf;exact⟨Zo,Zo⟩
include h6
theorem Zt8 (h:decide (a.ahA=Rat.divInt 0 1)=false) {L:List Prop} (hL:AllP L):AllP (obDv a L):=⟨Zoy h,(ha.enZ_hs h6).fits Zd,hL⟩
include hf
theorem Zt9 {b:Bool} (h:decide (a.ahA=Rat.divInt 0 1)=false) (g:decide (a.far+a.enZ=Rat.divInt 0 1)=b) {L:List Prop} (hL:AllP L):AllP (obFz a f b L):=
 Zt8 ha h6 h (Zau (Zt7 ha hf) (Zau (Zwf ha) ⟨(ha.fz_hs h6).fits Zd,Zau okN ⟨g,hL⟩⟩))
omit h6 hf ha
theorem Zh2 {b:Bool} (h:decide (a.ahA=Rat.divInt 0 1)=b) {L:List Prop} (hL:AllP L):AllP (obEn a q nf b L):=⟨rfl,rfl,Zau okN ⟨h,hL⟩⟩
end
section
variable {a:Lns} (ha:a.opt) {ns m:Nat} (hns:a.ns=ns) (h6:2<=ns∧ns<=6) {w0:World} (hp:PowsAt w0 m) (S:Sees a w0)
def pEnd (Q:Value->Prop) (v:SV) (e:Ending):Option Value->Prop
 | none=>∃u,e=.returned u∧Q u
 | some p=>v=.no∧e=.panicked [{v:=p,recovered:=false}]
def slaC (f:Nat):List (Option Bool)->Option (SV×List Prop×List (Option Bool)×Option Value)
 | some false::r=>some (ahV (a.sla f).1 (a.sla f).2,[decide (a.ahA=Rat.divInt 0 1)=false],r,none)
 | some true::r=>some (.no,[decide (a.ahA=Rat.divInt 0 1)=true],r,some brkP)
 | _=>none
def outC (f:Nat):List (Option Bool)->Option (SV×List Prop×List (Option Bool)×Option Value)
 | some true::r=>some (.no,[decide (a.ahA=Rat.divInt 0 1)=true],r,some brkP)
 | some false::some true::r=>some (.no,[decide (a.ahA=Rat.divInt 0 1)=false,decide (a.far+a.enZ=Rat.divInt 0 1)=true],r,some brkP)
 | some false::some false::r=>some (ahV (a.out f).1 (a.out f).2,[decide (a.ahA=Rat.divInt 0 1)=false,decide (a.far+a.enZ=Rat.divInt 0 1)=false],r,none)
 | _=>none
def cChf (g:FuncId) (C:Nat->List (Option Bool)->Option (SV×List Prop×List (Option Bool)×Option Value))
    (hg:∀{w:World} {q:Plc},OptAt w a q->PowsAt w m->∀f orc v obl orc' pan,f<a.nf->C f orc=some (v,obl,orc',pan)->(∀p∈obl,p)->∀x y:Value,x.oneCell'=true->y.oneCell'=true->
     Calls Tryz.prog g #[.agg ((a.ovals q).toList++[x,y]).toArray,.int .i64 (f:Int)] w λe w'=>pEnd (λu=>∀ρ,denV DO ρ w' v u) v e pan∧Below w.heap.size w w'):Ctr DO Tryz.prog w0 (λ_=>False):=.plainP g (λargs bk orc=>match args with
    | [.agg l, x] => match pvOf l, Ex.intOf (some (.a x)) with
      | some m, some (.i64, f, _) => match S.run m bk, C f.toNat orc with
        | some L,some (v,obl,orc',pan)=>some (v,L++(0<=f∧f<a.nf)::obl,orc',pan)
        | _,_=>none
      | _,_=>none
    | _=>none)<|by
 intro args bk orc v obl orc' pan hr hobl ρ w vals hfr hb hargs;split at hr
 ·rename_i l x
  split at hr
  ·rename_i m' f s hm hx
   split at hr
   ·rename_i L v' obl' orc2 pan' hL hC
    cases hr;obtain⟨v1,r1,rfl,⟨cs1,rfl,d1⟩,v2,r2,rfl,d2,h3⟩:=hargs;obtain rfl:r2=[]:=h3;obtain rfl:=Zbi (D:=DO) (ρ:=ρ) (w:=w) hx d2;obtain⟨ds,x',y',rfl,d3,hx',hy'⟩:=Zt4 hm d1;obtain⟨q',rfl,ho'⟩:=S.ok hfr hL (λp hp=>hobl p (Ycy _ hp)) hb d3;obtain⟨f0,f1⟩:=hobl (0<=f∧f<a.nf) Zs;obtain⟨fn,rfl⟩:∃fn:Nat,f=fn:=⟨f.toNat,Zo⟩
    rw[Ycb]at hC;refine(hg ho' (hp.below hfr.below) fn orc v obl' orc' pan Zo hC (λp hp=>hobl p (by simp[hp])) x' y' hx' hy').mono ?_;rintro e w' ⟨h,hbl⟩;refine⟨?_,hbl⟩;cases pan with
    | none=>obtain⟨u,e1,hu⟩:=h;exact⟨u,e1,hu ρ⟩
    | some p=>exact h
   ·cases hr
  ·cases hr
 ·cases hr
include ha hns h6 in
theorem Zzr {w:World} {q:Plc} (ho:OptAt w a q) (hp:PowsAt w m) (f:Nat) (orc:List (Option Bool)) (v:SV) (obl:List Prop) (orc':List (Option Bool)) (pan:Option Value) (hf:f<a.nf) (hC:slaC (a:=a) f orc=some (v,obl,orc',pan)) (hobl:∀p∈obl,p) (x y:Value) (hx:x.oneCell'=true) (hy:y.oneCell'=true) :
  Calls Tryz.prog 91 #[.agg ((a.ovals q).toList++[x,y]).toArray,.int .i64 (f:Int)] w λe w'=>pEnd (λu=>∀ρ,denV DO ρ w' v u) v e pan∧Below w.heap.size w w':=by
 obtain⟨r1,r2,_⟩:=Zt6 ha hns h6 ho hp rfl f ha.base.nf.2 hf;have hn:a.ns<=6:=Zo;unfold slaC at hC;split at hC
 ·cases hC
  have h:=hobl (decide (a.ahA=Rat.divInt 0 1)=false) Zs;exact Zi0 ha hns h6 ho hp rfl r1 (Zau (Zt7 ha hf) (Zh2 h (Zt8 ha hn h ⟨(ha.zt_hs hn hf).fits Zd,trivial⟩))) rfl hx hy
 ·cases hC
  have h:=hobl (decide (a.ahA=Rat.divInt 0 1)=true) Zs;exact(Zeg ha hns h6 ho hp rfl r2 (Zau (Zt7 ha hf) (Zh2 h trivial)) hx hy).mono λe w' ⟨h1,h2⟩=>⟨⟨rfl,h1⟩,h2⟩
 ·cases hC
include ha hns h6 in
theorem Zzs {w:World} {q:Plc} (ho:OptAt w a q) (hp:PowsAt w m) (f:Nat) (orc:List (Option Bool)) (v:SV) (obl:List Prop) (orc':List (Option Bool)) (pan:Option Value) (hf:f<a.nf) (hC:outC (a:=a) f orc=some (v,obl,orc',pan)) (hobl:∀p∈obl,p) (x y:Value) (hx:x.oneCell'=true) (hy:y.oneCell'=true) :
  Calls Tryz.prog 93 #[.agg ((a.ovals q).toList++[x,y]).toArray,.int .i64 (f:Int)] w λe w'=>pEnd (λu=>∀ρ,denV DO ρ w' v u) v e pan∧Below w.heap.size w w':=by
 obtain⟨_,_,r1,r2,r3⟩:=Zt6 ha hns h6 ho hp rfl f ha.base.nf.2 hf;have hn:a.ns<=6:=Zo;unfold outC at hC;split at hC
 ·cases hC
  have h:=hobl (decide (a.ahA=Rat.divInt 0 1)=true) Zs;exact(Zeg ha hns h6 ho hp rfl r3 (Zh2 h trivial) hx hy).mono λe w' ⟨h1,h2⟩=>⟨⟨rfl,h1⟩,h2⟩
 ·cases hC
  have h:=hobl (decide (a.ahA=Rat.divInt 0 1)=false) Zs;have g:=hobl (decide (a.far+a.enZ=Rat.divInt 0 1)=true) Zs;exact(Zeg ha hns h6 ho hp rfl r2 (Zh2 h (Zt9 ha hn hf h g trivial)) hx hy).mono λe w' ⟨h1,h2⟩=>⟨⟨rfl,h1⟩,h2⟩
 ·cases hC
  have h:=hobl (decide (a.ahA=Rat.divInt 0 1)=false) Zs;have g:=hobl (decide (a.far+a.enZ=Rat.divInt 0 1)=false) Zs;exact Zi0 ha hns h6 ho hp rfl r1 (Zh2 h (Zt9 ha hn hf h g ⟨Zoy g,(ha.tw_hs hn hf).fits Zd,((ha.enZ_hs hn).mul (ha.tw_hs hn hf)).fits Zd,trivial⟩)) rfl hx hy
 ·cases hC
def cSla:Ctr DO Tryz.prog w0 (λ_=>False):=cChf (ns:=ns) hp S 91 (slaC (a:=a)) (λho hp=>Zzr ha hns h6 ho hp)
def cOut:Ctr DO Tryz.prog w0 (λ_=>False):=cChf (ns:=ns) hp S 93 (outC (a:=a)) (λho hp=>Zzs ha hns h6 ho hp)
end
end
section
open Go.Ex
section
variable (a:Lns) (q:Plc) (ns kb:Nat)
def obS0 (L:List Prop):List Prop:=(optU a q ns kb=optU a q ns kb)::(srfB a q ns=srfB a q ns)::L
def obWv (k:Int) (L:List Prop):List Prop:=(decide (k<0)=false)::(decide (k>=(a.nw:Int))=false)::L
def obFd (f:Int) (L:List Prop):List Prop:=(decide (f<0)=false)::(decide (f>=(a.nf:Int))=false)::L
def obDi (b:Bool) (L:List Prop):List Prop:=(decide (a.di>0)=b)::L
def obEz (b:Bool) (L:List Prop):List Prop:=obS0 a q ns kb (obOf 0 1 ((decide (a.ahA=Rat.divInt 0 1)=b)::L))
def obZ (L:List Prop):List Prop:=(a.ahA.num≠0)::Fits (a.ahB/a.ahA)::L
def obMar (near e1 e2:Bool) (L:List Prop):List Prop:=
 match near,e1,e2 with
 | false,true,_=>obEz a q ns kb true L
 | false,false,_=>obEz a q ns kb false (obZ a (obOf a.pu 2000000 (obOf 0 1 L)))
 | true,true,_=>obOf a.di 1000000 (obOf a.pu 2000000 (obEz a q ns kb true L))
 | true,false,true=>obOf a.di 1000000 (obOf a.pu 2000000 (obEz a q ns kb false (obZ a (Fits (a.far+a.enZ)::obOf 0 1 ((decide (a.far+a.enZ=Rat.divInt 0 1)=true)::L)))))
 | true,false,false=>obOf a.di 1000000 (obOf a.pu 2000000 (obEz a q ns kb false (obZ a (Fits (a.far+a.enZ)::obOf 0 1 ((decide (a.far+a.enZ=Rat.divInt 0 1)=false)::((a.far+a.enZ).num≠0)::Fits (a.enR/(a.far+a.enZ))::Fits (a.far*(a.enR/(a.far+a.enZ)))::L)))))
def obChf (near e1 e2:Bool) (f:Int) (L:List Prop):List Prop:=
 obS0 a q ns kb ((0<=f∧f<(a.nf:Int))::(decide (a.ahA=Rat.divInt 0 1)=e1)::(match near,e1 with
  | true,false=>(decide (a.far+a.enZ=Rat.divInt 0 1)=e2)::L
  | _,_=>L))
def Lns.mar (a:Lns):Bool->Rat×Rat
 | true=>a.axi
 | false=>a.par
def Lns.chf (a:Lns) (f:Nat):Bool->Rat×Rat
 | true=>a.out f
 | false=>a.sla f
variable (k f:Int) (near:Bool)
end
section
variable {a:Lns} (ha:a.opt) {ns:Nat} (hns:a.ns=ns) (h6:2<=ns∧ns<=6) {q:Plc} {kb:Nat} {k f:Int} (hk:0<=k∧k<a.nw) (hf:0<=f∧f<a.nf)
theorem Zcv {L:List Prop} (hL:AllP L):AllP (obS0 a q ns kb L):=⟨rfl,rfl,hL⟩
include hk in
theorem Zkk {L:List Prop} (hL:AllP L):AllP (obWv a k L):=⟨decide_eq_false Zo,decide_eq_false Zo,hL⟩
include hf in
theorem Zkl {L:List Prop} (hL:AllP L):AllP (obFd a f L):=⟨decide_eq_false Zo,decide_eq_false Zo,hL⟩
theorem Zh3 {b:Bool} (h:decide (a.ahA=Rat.divInt 0 1)=b) {L:List Prop} (hL:AllP L):AllP (obEz a q ns kb b L):=Zcv (Zau okN ⟨h,hL⟩)
include ha in
theorem Zwh:inR a.pu:=by have:=ha.base.pu;exact⟨Zo,Zo⟩
section
variable (h7:a.ns<=6)
include ha h7
theorem Zua (h:decide (a.ahA=Rat.divInt 0 1)=false) {L:List Prop} (hL:AllP L):AllP (obZ a L):=⟨Zoy h,(ha.enZ_hs h7).fits Zd,hL⟩
theorem Zgo {near e1 e2:Bool} (g1:decide (a.ahA=Rat.divInt 0 1)=e1) (g2:near=true->e1=false->decide (a.far+a.enZ=Rat.divInt 0 1)=e2) {L:List Prop} (hL:AllP L):AllP (obMar a q ns kb near e1 e2 L):=by
 match near,e1,e2,g1,g2 with
 | false,true,_,g1,_=>exact Zh3 g1 hL
 | false,false,_,g1,_=>exact Zh3 g1 (Zua ha h7 g1 (Zau (Zwh ha) (Zau okN hL)))
 | true,true,_,g1,_=>exact Zau (Zwf ha) (Zau (Zwh ha) (Zh3 g1 hL))
 | true,false,true,g1,g2=>exact Zau (Zwf ha) (Zau (Zwh ha) (Zh3 g1 (Zua ha h7 g1 ⟨(ha.fz_hs h7).fits Zd,Zau okN ⟨g2 rfl rfl,hL⟩⟩)))
 | true,false,false,g1,g2=>exact Zau (Zwf ha) (Zau (Zwh ha) (Zh3 g1 (Zua ha h7 g1 ⟨(ha.fz_hs h7).fits Zd,Zau okN ⟨g2 rfl rfl,Zoy (g2 rfl rfl),(ha.rw_hs h7).fits Zd,(ha.far_hs.mul (ha.rw_hs h7)).fits Zd,hL⟩⟩)))
omit ha h7
include hf in
theorem Zkm {near e1 e2:Bool} (g1:decide (a.ahA=Rat.divInt 0 1)=e1) (g2:near=true->e1=false->decide (a.far+a.enZ=Rat.divInt 0 1)=e2) {L:List Prop} (hL:AllP L):AllP (obChf a q ns kb near e1 e2 f L):=by
 match near,e1,g1,g2 with
 | true,false,g1,g2=>exact Zcv ⟨hf,g1,g2 rfl rfl,hL⟩
 | true,true,g1,_=>exact Zcv ⟨hf,g1,hL⟩
 | false,true,g1,_=>exact Zcv ⟨hf,g1,hL⟩
 | false,false,g1,_=>exact Zcv ⟨hf,g1,hL⟩
include ha h7
theorem Zzt (near:Bool):Hs 900 (Lns.mar a near).1∧Hs 900 (Lns.mar a near).2:=by
 cases near with
 | false=>exact⟨ha.enR_hs.mono Zd,(Hs.divInt (k:=1) 0 1 Zd Zd Zd).mono Zd⟩
 | true=>exact⟨(ha.far_hs.mul (ha.rw_hs h7)).mono Zd,(ha.rw_hs h7).mono Zd⟩
theorem Zzu (near:Bool) {f:Nat} (hf:f<a.nf):Hs 900 (Lns.chf a f near).1∧Hs 900 (Lns.chf a f near).2:=by
 cases near with
 | false=>exact⟨(ha.zt_hs h7 hf).neg.mono Zd,(ha.fY_hs hf).mono Zd⟩
 | true=>exact⟨((ha.enZ_hs h7).mul (ha.tw_hs h7 hf)).mono Zd,(ha.tw_hs h7 hf).neg.mono Zd⟩
end
include ha hns h6 hk hf
end
end
end Go.Proofs.W
