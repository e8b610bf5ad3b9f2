/- The law PupilInvariant: the marginal and the chief ray have the Lagrange invariant at every surface;its contracts,its walk and its card. Part 3 of 11. No condition beside the row. -/
import Derived.Test.YtgkmjekkefmejaaGreatDoorA27
import Derived.Test.YtgkmjekkefmejaaGreatDoorI02
set_option linter.unusedVariables false
set_option linter.unusedSimpArgs false
set_option maxRecDepth 100000
set_option maxHeartbeats 4000000
namespace Go.Proofs.W
open Go.RowKit Go.Mono
section
open Go.Ex
theorem Ziz {a:Lns} (ha:a.opt) {q:Plc} {ns:Nat} (hns:a.ns=ns) {w:World} (ho:OptAt w a q) (sp:List (Ctr DO Tryz.prog w (λ_=>False))) {g:FuncId} {d:Nat} {ex:List U} {ds:List Value} {rest:List SA} {orc:List (Option Bool)} {V:SV} {L:List Prop}
  (hr:(evF Tryz.prog sp [] d [] g (.agg (optU a q ns 0++ex)::rest) [(0,srfB a q ns)] 1 1 orc).map (λr=>(r.v,r.obl,r.wr,r.pan))=some (V,L,[],none)) (hL:AllP L) (hV:closedV V=true) (hex:∀ρ,denL DO ρ w ex ds) {vals:List Value} {ρ0:Nm} (hc:closedAs rest=true) (hd:denAs DO ρ0 w rest vals) :
  Calls Tryz.prog g (.agg ((a.ovals q).toList++ds).toArray::vals).toArray w λe w'=>∃v,e=.returned v∧(∀ρ,denV DO ρ w' V v)∧Below w.heap.size w w':=by
 obtain⟨b,off,hps,hv⟩:=Zhd ha hns ho;refine(Zfy (D:=DO) Zde sp [] (vs:=[⟨85,srfsU a q 0 ns,b,off,srfsC a q 0 ns⟩]) [(0,srfB a q ns)] rfl rfl _ _ _ hr hL (λv hm=>by rw[Ycd.1 hm];exact hv _ _) (vals:=.agg ((a.ovals q).toList++ds).toArray::vals) ?_).mono ?_
 ·refine⟨_,_,rfl,⟨_,rfl,((Zdz hns).2 ⟨⟨b,off,true,0,0⟩,rfl,?_⟩).append (hex _)⟩,Zc2 hc hd⟩
  obtain⟨pf,cf,pw,cw,ps,cs,pc,cc,cp,cl,pi,ci,pI,cI⟩:=q;subst hps;rfl
 ·rintro e w' ⟨v,ρ',rfl,hden,hb,_⟩
  exact⟨v,rfl,λρ=>Zec hV hden,hb⟩
structure Sees (a:Lns) (w0:World) where
 run:List U->List (Nat×Blk)->Option (List Prop)
 ok:∀{w:World} {l:List U} {bk:List (Nat×Blk)} {L:List Prop} {ρ:Nm} {cs:List Value},Frm w0 (λ_=>False) w->run l bk=some L->(∀p∈L,p)->BkOk DO ρ w w bk->denL DO ρ w l cs->∃q',cs=(a.ovals q').toList∧OptAt w a q'
def seesS {a:Lns} (ha:a.opt) (q:Plc) {ns:Nat} (hns:a.ns=ns) {w0:World} (ho:OptAt w0 a q):Sees a w0 where
 run:=seesO a q ns
 ok:=λhf h hL hb hd=>by
  obtain⟨q',h1,h2,_⟩:=Zdf hns (by have:=ha.base.ns.1;omega) (ho.below hf.below) h hL hb hd;exact⟨q',h1,h2⟩
section
variable (a:Lns) (q:Plc) (ns kb:Nat)
def obGp (k s:Int) (L:List Prop):List Prop:=obLk a q ns kb k ((decide (s>=0)=true)::inK .i64 (s+1)::(decide (s+1<(ns:Int))=true)::obS a q ns kb k ((0<=s∧s+1<(ns:Int))::L))
def obAhd (s:Int):List Prop:=((s==0)=false)::inK .i64 (s-1)::obLk a q ns kb a.pr ((decide (0<=s-1)=true)::(decide (s-1<(ns:Int))=true)::obSm a q ns kb a.pr 0 (s-1) (inK .i64 (s-1)::obGp a q ns kb a.pr (s-1) (MFits (a.gapM a.pr.toNat (s-1).toNat) (a.sysM a.pr.toNat 0 (s-1-0).toNat)::[])))
end
section
variable {a:Lns} (ha:a.opt) {ns m:Nat} (hns:a.ns=ns) (h6:2<=ns∧ns<=6) {w:World} {q:Plc} (ho:OptAt w a q) (hp:PowsAt w m)
noncomputable def runZ (f:FuncId) (args:List SA) (orc:List (Option Bool)):Option (SV×List Prop×List (Nat×Blk)×Option Value):=
 (evF Tryz.prog (spMx ha hns h6 ho hp) [] 24 [] f (.agg (optU a q ns 0++[.unk,.unk])::args) [(0,srfB a q ns)] 1 1 orc).map λr=>(r.v,r.obl,r.wr,r.pan)
def ahV (x y:Rat):SV:=.tup [.agg [.quo x],.agg [.quo y]]
noncomputable def ahRun0:Prop:=runZ ha hns h6 ho hp 48 [] [some true]=some (ahV (Rat.divInt 1 1) (Rat.divInt 0 1),((a.st==0)=true)::obOf 1 1 (obOf 0 1 []),[],none)
noncomputable def ahRun1:Prop:=runZ ha hns h6 ho hp 48 [] [some false,some false,some false,some true,some true,some false,some false,some true,some true]=some (ahV ((a.gapM a.pr.toNat (a.st-1).toNat).mul (a.sysM a.pr.toNat 0 (a.st-1-0).toNat)).a ((a.gapM a.pr.toNat (a.st-1).toNat).mul (a.sysM a.pr.toNat 0 (a.st-1-0).toNat)).b,obAhd a q ns 0 a.st,[],none)
end
section
set_option maxRecDepth 100000
variable {a:Lns} (ha:a.opt) {m:Nat} {w:World} {q:Plc} (ho:OptAt w a q) (hp:PowsAt w m)
theorem Zzq:∀{ns:Nat} (hns:a.ns=ns) (h6:2<=ns∧ns<=6),ahRun0 ha hns h6 ho hp∧ahRun1 ha hns h6 ho hp
 | 0,_,h=>absurd h.1 Zd
 | 1,_,h=>absurd h.1 Zd
 | 2,hns,h6=>⟨by unfold ahRun0;kernel_rfl,by unfold ahRun1;kernel_rfl⟩
 | 3,hns,h6=>⟨by unfold ahRun0;kernel_rfl,by unfold ahRun1;kernel_rfl⟩
 | 4,hns,h6=>⟨by unfold ahRun0;kernel_rfl,by unfold ahRun1;kernel_rfl⟩
 | 5,hns,h6=>⟨by unfold ahRun0;kernel_rfl,by unfold ahRun1;kernel_rfl⟩
 | 6,hns,h6=>⟨by unfold ahRun0;kernel_rfl,by unfold ahRun1;kernel_rfl⟩
 | n+7,_,h=>absurd h.2 Zo
end
section
variable {a:Lns} (ha:a.opt) {ns m:Nat} (hns:a.ns=ns) (h6:2<=ns∧ns<=6) {w0:World} {q:Plc} (ho:OptAt w0 a q) (hp:PowsAt w0 m)
include ha hns h6
theorem Zwd {q:Plc} {kb:Nat} (h:a.st≠0):AllP (obAhd a q ns kb a.st):=by
 obtain⟨s0,s1⟩:=ha.base.st;have hk:0<=a.pr∧a.pr<a.nw:=by have:=ha.base.pr;omega
 obtain⟨D,h1,h2⟩:=ha.sysM_ov (k:=a.pr.toNat) Zo (i:=0) (a.st-1).toNat Zo;obtain⟨G,_,g1,g2⟩:=ha.gapM_ov (s:=(a.st-1).toNat) (k:=a.pr.toNat) Zo Zo;unfold obAhd;rw[Int.sub_zero];exact⟨by simpa using h,(⟨Zo,Zo⟩:inR _),Zsz hk ⟨decide_eq_true Zo,decide_eq_true Zo,Zx3 hk ⟨Zo,Zo,Zo⟩ ⟨(⟨Zo,Zo⟩:inR _),
  Zsz hk ⟨decide_eq_true Zo,(⟨Zo,Zo⟩:inR _),decide_eq_true Zo,Zc1 hk ⟨⟨Zo,Zo⟩,Zgk 1000 g2 g1 h2 h1 Zo Zo Zd,trivial⟩⟩⟩⟩⟩
theorem Zwe {w:World} {q:Plc} (ho:OptAt w a q) (hp:PowsAt w m) {x y:Value} (hx:x.oneCell'=true) (hy:y.oneCell'=true) :
  Calls Tryz.prog 48 #[.agg ((a.ovals q).toList++[x,y]).toArray] w λe w'=>∃v,e=.returned v∧(∀ρ,denV DO ρ w' (ahV a.ahA a.ahB) v)∧Below w.heap.size w w':=by
 obtain⟨r0,r1⟩:=Zzq ha ho hp hns h6;have hex:∀ρ,denL DO ρ w [.unk,.unk] [x,y]:=λρ=>⟨[x],_,rfl,⟨x,rfl,hx⟩,[y],[],rfl,⟨y,rfl,hy⟩,rfl⟩
 by_cases hs:a.st=0
 ·have e:ahV a.ahA a.ahB=ahV (Rat.divInt 1 1) (Rat.divInt 0 1):=by unfold Lns.ahA Lns.ahB;rw[hs];rfl
  rw[e];exact Ziz ha hns ho _ r0 ⟨by simpa using hs,Zau okN (Zau okN trivial)⟩ rfl hex (vals:=[]) (ρ0:=λ_=>none) rfl rfl
 ·have e:ahV a.ahA a.ahB=ahV ((a.gapM a.pr.toNat (a.st-1).toNat).mul (a.sysM a.pr.toNat 0 (a.st-1-0).toNat)).a ((a.gapM a.pr.toNat (a.st-1).toNat).mul (a.sysM a.pr.toNat 0 (a.st-1-0).toNat)).b:=by
   obtain⟨s,h⟩:∃s,a.st.toNat=s+1:=⟨a.st.toNat-1,by have:=ha.base.st.1;omega⟩
   unfold Lns.ahA Lns.ahB;rw[h,Int.sub_zero,show(a.st-1).toNat=s by omega];rfl
  rw[e];exact Ziz ha hns ho _ r1 (Zwd ha hns h6 hs) rfl hex (vals:=[]) (ρ0:=λ_=>none) rfl rfl
omit hns h6 ha
def pvOf (l:List U):Option (List U):=
 match l with
 | [a,b,c,d,e,f,g,h,i,j,x,y]=>if Nat.beq x.w 1&&Nat.beq y.w 1 then some [a,b,c,d,e,f,g,h,i,j] else none
 | _=>none
theorem Zt4 {D:Den} {ρ:Nm} {w:World} {l m:List U} (h:pvOf l=some m) {cs:List Value} (hd:denL D ρ w l cs):∃ds x y,cs=ds++[x,y]∧denL D ρ w m ds∧x.oneCell'=true∧y.oneCell'=true:=by
 unfold pvOf at h;split at h
 ·split at h
  ·rename_i hw
   cases h;have hw:=Bool.and_eq_true_iff.1 hw;obtain⟨c0,d0,rfl,h0,c1,d1,rfl,h1,c2,d2,rfl,h2,c3,d3,rfl,h3,c4,d4,rfl,h4,c5,d5,rfl,h5,c6,d6,rfl,h6,c7,d7,rfl,h7,c8,d8,rfl,h8,c9,d9,rfl,h9,c10,d10,rfl,h10,c11,d11,rfl,h11,hd⟩:=hd;obtain rfl:d11=[]:=hd;have one:∀{c:List Value} {u:U},denU D ρ w u c->Nat.beq u.w 1=true->∃v,c=[v]∧v.oneCell'=true:=by
    intro c u hu hw;have hl:=hu.len;rw[Ybe hw]at hl;match c,hl with
    | [v],_=>exact⟨v,rfl,hu.ones v (Ycd.2 rfl)⟩
   obtain⟨x,rfl,hx⟩:=one h10 hw.1;obtain⟨y,rfl,hy⟩:=one h11 hw.2;exact⟨c0++(c1++(c2++(c3++(c4++(c5++(c6++(c7++(c8++(c9++[]))))))))),x,y,Zs,⟨c0,_,rfl,h0,c1,_,rfl,h1,c2,_,rfl,h2,c3,_,rfl,h3,c4,_,rfl,h4,c5,_,rfl,h5,c6,_,rfl,h6,c7,_,rfl,h7,c8,_,rfl,h8,c9,_,rfl,h9,rfl⟩,hx,hy⟩
  ·cases h
 ·cases h
def cAhead (S:Sees a w0) (h6:2<=ns∧ns<=6) (ha:a.opt) (hns:a.ns=ns):Ctr DO Tryz.prog w0 (λ_=>False):=.plain 48 (λargs bk orc=>match args with
    | [.agg l] => match pvOf l with
      | some m=>(S.run m bk).map λL=>(ahV a.ahA a.ahB,L,orc)
      | none=>none
    | _=>none)<|by
 intro args bk orc v obl orc' hr hobl ρ w vals hfr hb hargs;split at hr
 ·rename_i l
  split at hr
  ·rename_i m' hm
   obtain⟨L,hL,e⟩:=Yad.1 hr;cases e;obtain⟨v1,r1,rfl,⟨cs1,rfl,d1⟩,h3⟩:=hargs;obtain rfl:r1=[]:=h3;obtain⟨ds,x,y,rfl,d2,hx,hy⟩:=Zt4 hm d1;obtain⟨q',rfl,ho'⟩:=S.ok hfr hL hobl hb d2;refine(Zwe ha hns h6 ho' (hp.below hfr.below) hx hy).mono ?_;rintro e w' ⟨v,rfl,hv,hbl⟩;exact⟨v,rfl,hv ρ,hbl⟩
  ·cases hr
 ·cases hr
end
end
end Go.Proofs.W
