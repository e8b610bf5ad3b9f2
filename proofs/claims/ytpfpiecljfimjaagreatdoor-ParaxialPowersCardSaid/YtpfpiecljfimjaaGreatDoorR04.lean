/- The references of chapters 13 and 17 over any valid optics. Part 4 of 5. No condition beside the row. -/
import Derived.Test.YtpfpiecljfimjaaGreatDoorA20
import Derived.Test.YtpfpiecljfimjaaGreatDoorA23
import Derived.Test.YtpfpiecljfimjaaGreatDoorD06
import Derived.Test.YtpfpiecljfimjaaGreatDoorR02
import Derived.Test.YtpfpiecljfimjaaGreatDoorR03
set_option linter.unusedVariables false
set_option linter.unusedSimpArgs false
set_option maxRecDepth 100000
set_option maxHeartbeats 4000000
namespace Go.Mono
open Go.RowKit
theorem Zp1 {w:World} {B i:Nat} {v:Value} (h:w.cell? ⟨B,i,none⟩=some v):w.setCell ⟨B,i,none⟩ v=w:=by
 unfold World.setCell
 have e:(w.heap.modify B fun
   | .cells c elem frozen=>.cells (if(none:Option Nat).isSome then c else c.setIfInBounds i v) elem frozen
   | o=>o)=w.heap:=by
  apply Array.ext_getElem?;intro k;rw[Array.getElem?_modify];by_cases hk:B=k
  ·subst hk
   simp only[if_true];unfold World.cell? at h;cases hb:w.heap[B]? with
   | none=>rfl
   | some o =>
     rw[hb]at h;cases o with
     | cells c T fr =>
       have hc:c[i]? = some v:=by simpa using h
       obtain⟨hi,hv⟩:=Yeq.1 hc;have:c.setIfInBounds i v=c:=by
        apply Array.ext_getElem?;intro j;rw[Array.getElem?_setIfInBounds];by_cases hj:i=j
        ·subst hj;simp[hi,hv]
        ·simp[hj]
       simp[this]
     | _=>rfl
  ·simp[hk]
 exact congrArg (λh=>{w with heap:=h}) e
end Go.Mono
namespace Go.Proofs.W
open Go.RowKit Go.Mono
theorem Ztg (s1 t1:Bool) (p1 q1:Option Addr) (n1 c1 m1 d1 Bs:Nat) (w:World) (bs:Box w Bs 100 #[.int .i64 0]) :
  Calls Tryz.prog 95 #[.pointer (some ⟨Bs,0,none⟩),.agg #[.bool s1,.slice p1 n1 c1,.bool t1,.slice q1 m1 d1],.int .i64 0] w λe w'=>e=.returned (.agg #[.bool s1,.slice p1 n1 c1,.bool t1,.slice q1 m1 d1])∧Below w.heap.size w w':=by
 have cbs:=bs.cell;have lbs:=bs.lt;have fbs:=bs.frozen;go_enter Tryz.func95,Tryz.ntmps95
 go_wp2_with fail
 rw[Zp1 (v:=.int .i64 0) (cbs 0)];have b:=Box.new (w.alloc (.cells #[.bool s1,.slice p1 n1 c1,.bool t1,.slice q1 m1 d1] 51)) 51 #[.bool s1,.slice p1 n1 c1,.bool t1,.slice q1 m1 d1];simp only[Yav]at b;exact bodyPost_ret (b.results rfl _ _ rfl Tryz.underlying51 rfl Zah) rfl ⟨rfl,Zad (Zad (Yae _ _) _) _⟩
theorem Zlq {C:Array Value} {q:Rat} (Bs:Nat) (w:World) (h:QtV 600 w (.agg C) q) (bs:Box w Bs 100 #[.int .i64 0]) :
  Calls Tryz.prog 95 #[.pointer (some ⟨Bs,0,none⟩),.agg C,.int .i64 0] w λe w'=>e=.returned (.agg C)∧Below w.heap.size w w':=by
 obtain⟨s,p,n,c,s',p',n',c',hv,_,_⟩:=h;cases hv;exact Ztg _ _ _ _ _ _ _ _ Bs w bs
theorem Zlr {Ca Cb:Array Value} {a b:Rat} (Bs:Nat) (w:World) (bs:Box w Bs 100 #[.int .i64 0]) (h1:QtV 600 w (.agg Ca) a) (h2:QtV 600 w (.agg Cb) b) (hf:Fits (a-b)) :
  Calls Tryz.prog 57 #[.pointer (some ⟨Bs,0,none⟩),.agg Ca,.agg Cb] w λe w'=>∃C,e=.returned (.agg C)∧QtV 600 w' (.agg C) (a-b)∧Below w.heap.size w w':=by
 have hc:=λ(X:World) (hX:Ext w X)=>Zvc X (h1.ext hX) (h2.ext hX) hf;obtain⟨s1,p1,n1,c1,t1,q1,m1,d1,hv1,_,_⟩:=h1;obtain⟨s2,p2,n2,c2,t2,q2,m2,d2,hv2,_,_⟩:=h2;cases hv1;cases hv2;go_enter Tryz.func57,Tryz.ntmps57
 go_wp2_with fail
 refine Zbk λW hB hs b4 b5 bO=>?_;refine(hc W (.of_below hB)).mono ?_;rintro e W2 ⟨C,rfl,hV,hb⟩;obtain⟨_,e,zC,oC⟩:=hV.cells;cases e;replace bO:=bO.below hb;replace hB:=Zaa hB hb;replace bs:=bs.below hB;clear hb hc b4 b5 hs;go_wp2_with first|(refine Zcb 51 7 _ C _ rfl rfl rfl rfl rfl rfl Zda (by as_aux_lemma=>(intro _;kernel_rfl)) (by as_aux_lemma=>(intro _;kernel_rfl)) (by rw[zC];exact Zah) (by rw[zC];rfl) oC ?_;intro W3 B7 _ hB3 b7;replace bO:=bO.below hB3;replace bs:=bs.below hB3;replace hV:=hV.below hB3)|(refine Zac rfl 51 (.tmp 7) rfl B7 Zx 51 C b7 _ Tryz.underlying51 rfl (by rw[zC];exact Zah) ?_)
 refine(Zlq Bs W3 hV bs).mono ?_;rintro e W4 ⟨rfl,hb4⟩;replace bO:=bO.below hb4;replace hB:=Zaa (Zaa hB hB3) hb4;replace hV:=hV.below hb4;clear b7 bs hb4;go_wp2_with first|(refine Zab rfl 51 (.tmp 6) (.tmp 18) rfl (w.heap.size+1+1) 0 51 _ C C rfl rfl bO (by rw[zC];exact Zah) (Ybl (by rw[zC];rfl)) oC (Zaf (by rw[zC];rfl)) ?_;intro W6 hk b2)
 refine bodyPost_ret (b2.results rfl _ _ rfl Tryz.underlying51 rfl (by rw[zC];exact Zah)) rfl ?_;exact⟨_,rfl,hV.ext (hk.ext bO Zd),hk.below hB Zo hB.size⟩
theorem Zhu {Ca Cb:Array Value} {a b:Rat} (Bs:Nat) (w:World) (bs:Box w Bs 100 #[.int .i64 0]) (h1:QtV 600 w (.agg Ca) a) (h2:QtV 600 w (.agg Cb) b) (hf:Fits (a*b)) :
  Calls Tryz.prog 56 #[.pointer (some ⟨Bs,0,none⟩),.agg Ca,.agg Cb] w λe w'=>∃C,e=.returned (.agg C)∧QtV 600 w' (.agg C) (a*b)∧Below w.heap.size w w':=by
 have hc:=λ(X:World) (hX:Ext w X)=>Zn3 X (h1.ext hX) (h2.ext hX) hf;obtain⟨s1,p1,n1,c1,t1,q1,m1,d1,hv1,_,_⟩:=h1;obtain⟨s2,p2,n2,c2,t2,q2,m2,d2,hv2,_,_⟩:=h2;cases hv1;cases hv2;go_enter Tryz.func56,Tryz.ntmps56
 go_wp2_with fail
 refine Zbk λW hB hs b4 b5 bO=>?_;refine(hc W (.of_below hB)).mono ?_;rintro e W2 ⟨C,rfl,hV,hb⟩;obtain⟨_,e,zC,oC⟩:=hV.cells;cases e;replace bO:=bO.below hb;replace hB:=Zaa hB hb;replace bs:=bs.below hB;clear hb hc b4 b5 hs;go_wp2_with first|(refine Zcb 51 7 _ C _ rfl rfl rfl rfl rfl rfl Zda (by as_aux_lemma=>(intro _;kernel_rfl)) (by as_aux_lemma=>(intro _;kernel_rfl)) (by rw[zC];exact Zah) (by rw[zC];rfl) oC ?_;intro W3 B7 _ hB3 b7;replace bO:=bO.below hB3;replace bs:=bs.below hB3;replace hV:=hV.below hB3)|(refine Zac rfl 51 (.tmp 7) rfl B7 Zx 51 C b7 _ Tryz.underlying51 rfl (by rw[zC];exact Zah) ?_)
 refine(Zlq Bs W3 hV bs).mono ?_;rintro e W4 ⟨rfl,hb4⟩;replace bO:=bO.below hb4;replace hB:=Zaa (Zaa hB hB3) hb4;replace hV:=hV.below hb4;clear b7 bs hb4;go_wp2_with first|(refine Zab rfl 51 (.tmp 6) (.tmp 18) rfl (w.heap.size+1+1) 0 51 _ C C rfl rfl bO (by rw[zC];exact Zah) (Ybl (by rw[zC];rfl)) oC (Zaf (by rw[zC];rfl)) ?_;intro W6 hk b2)
 refine bodyPost_ret (b2.results rfl _ _ rfl Tryz.underlying51 rfl (by rw[zC];exact Zah)) rfl ?_;exact⟨_,rfl,hV.ext (hk.ext bO Zd),hk.below hB Zo hB.size⟩
end Go.Proofs.W
namespace Go.Ex
open Go.RowKit Go.Mono
def bntC (a:Lns) (q:Plc) (ns:Nat) (p:Option Addr):Nat->List Value
 | 0=>[.string a.nm,.int .i64 a.di,.int .i64 a.pu,.int .i64 a.st,.int .i64 a.pr,.slice q.pf a.nf q.cf,.slice q.pw a.nw q.cw,.slice p ns q.cs,.slice q.pc 0 q.cc,.slice none 0 0]
 | 1=>[.string a.nm,.int .i64 a.di,.int .i64 a.pu,.int .i64 a.st,.int .i64 a.pr,.slice q.pf a.nf q.cf,.slice none 0 0,.slice p ns q.cs,.slice q.pc 0 q.cc,.slice q.pi a.ns q.ci]
 | 2=>[.string a.nm,.int .i64 a.di,.int .i64 a.pu,.int .i64 a.st,.int .i64 a.pr,.slice q.pf a.nf q.cf,.slice q.pw a.nw q.cw,.slice p 1 q.cs,.slice q.pc 0 q.cc,.slice q.pi a.ns q.ci]
 | 3=>[.string a.nm,.int .i64 a.di,.int .i64 0,.int .i64 a.st,.int .i64 a.pr,.slice q.pf a.nf q.cf,.slice q.pw a.nw q.cw,.slice p ns q.cs,.slice q.pc 0 q.cc,.slice q.pi a.ns q.ci]
 | _=>[.string a.nm,.int .i64 a.di,.int .i64 a.pu,.int .i64 a.st,.int .i64 a.pr,.slice none 0 0,.slice q.pw a.nw q.cw,.slice p ns q.cs,.slice q.pc 0 q.cc,.slice q.pi a.ns q.ci]
def oneU:List U->List Value->Prop
 | [],[]=>True
 | u::l,v::m=>(∀D ρ w c,denU D ρ w u c↔c=[v])∧oneU l m
 | _,_=>False
theorem Zar (z:Int) (D:Den) (ρ:Nm) (w:World) (c:List Value):denU D ρ w (.sym z) c↔c=[.int .i64 z]:=Iff.rfl
theorem Zti {v:Value} (h:v.oneCell'=true) (D:Den) (ρ:Nm) (w:World) (c:List Value):denU D ρ w (.val v) c↔c=[v]:=⟨λx=>x.1,λx=>⟨x,h⟩⟩
theorem Ztj {v:Value} (h:v.oneCell'=true) (D:Den) (ρ:Nm) (w:World) (c:List Value):denU D ρ w (.raw 1 [v]) c↔c=[v]:=⟨λx=>x.1,λx=>⟨x,rfl,by simp[h]⟩⟩
theorem Zc1 {D:Den} {ρ:Nm} {w:World}:∀{l:List U} {m:List Value},oneU l m->∀{r:List U} {cs:List Value},denL D ρ w (l++r) cs↔∃ds,cs=m++ds∧denL D ρ w r ds
 | [],[],_,r,cs=>⟨λh=>⟨cs,rfl,h⟩,λ⟨ds,e,h⟩=>e▸h⟩
 | u :: l, v :: m, ⟨h1, h2⟩, r, cs => by
   constructor
   ·rintro⟨c,d,rfl,hc,hd⟩
    rw[(h1 _ _ _ _).1 hc];obtain⟨ds,rfl,h⟩:=(Zc1 h2).1 hd;exact⟨ds,rfl,h⟩
   ·rintro⟨ds,rfl,h⟩
    exact⟨[v],m++ds,rfl,(h1 _ _ _ _).2 rfl,(Zc1 h2).2 ⟨ds,rfl,h⟩⟩
 | [],_::_,h,_,_=>h.elim
 | _::_,[],h,_,_=>h.elim
theorem Zco {D:Den} {ρ:Nm} {w:World} {a:Lns} {q:Plc} {ns k:Nat} (j:Nat) {cs:List Value}:denL D ρ w (bntU a q ns k j) cs↔∃B,ρ k=some B∧cs=bntC a q ns (some ⟨B.blk,B.base,none⟩) j:=by
 have key:∀(l r:List U) (m x:List Value) (n c:Nat),oneU l m->oneU r x->(denL D ρ w (l++(.slc k 0 n c::(r++[]))) cs↔∃B,ρ k=some B∧cs=m++(.slice (some ⟨B.blk,B.base,none⟩) n c::x)):=by
  intro l r m x n c h1 h2;rw[Zc1 h1];constructor
  ·rintro⟨ds,rfl,_,d,rfl,⟨B,hB,rfl⟩,hd⟩
   obtain⟨ds',rfl,h⟩:=(Zc1 h2).1 hd;obtain rfl:ds'=[]:=h;exact⟨B,hB,Zs⟩
  ·rintro⟨B,hB,rfl⟩
   exact⟨_,rfl,[_],x,rfl,⟨B,hB,rfl⟩,(Zc1 h2).2 ⟨[],Zs,rfl⟩⟩
 have f:=λ(s:Value) (h:s.oneCell'=true)=>Ztj h;have v:=λ(s:Value) (h:s.oneCell'=true)=>Zti h;match j with
 | 0=>exact key [_,_,_,_,_,_,_] [_,_] [_,_,_,_,_,_,_] [_,_] _ _ ⟨v _ rfl,Zar _,Zar _,Zar _,Zar _,f _ rfl,f _ rfl,trivial⟩ ⟨v _ rfl,v _ rfl,trivial⟩
 | 1=>exact key [_,_,_,_,_,_,_] [_,_] [_,_,_,_,_,_,_] [_,_] _ _ ⟨v _ rfl,Zar _,Zar _,Zar _,Zar _,f _ rfl,v _ rfl,trivial⟩ ⟨v _ rfl,v _ rfl,trivial⟩
 | 2=>exact key [_,_,_,_,_,_,_] [_,_] [_,_,_,_,_,_,_] [_,_] _ _ ⟨v _ rfl,Zar _,Zar _,Zar _,Zar _,f _ rfl,f _ rfl,trivial⟩ ⟨v _ rfl,v _ rfl,trivial⟩
 | 3=>exact key [_,_,_,_,_,_,_] [_,_] [_,_,_,_,_,_,_] [_,_] _ _ ⟨v _ rfl,Zar _,v _ rfl,Zar _,Zar _,f _ rfl,f _ rfl,trivial⟩ ⟨v _ rfl,v _ rfl,trivial⟩
 | j+4=>exact key [_,_,_,_,_,_,_] [_,_] [_,_,_,_,_,_,_] [_,_] _ _ ⟨v _ rfl,Zar _,Zar _,Zar _,Zar _,v _ rfl,f _ rfl,trivial⟩ ⟨v _ rfl,v _ rfl,trivial⟩
end Go.Ex
namespace Go.Proofs.W
open Go.RowKit Go.Mono
section
open Go.Ex
section
variable {a:Lns} (ha:a.opt) {q:Plc} {ns:Nat} (hns:a.ns=ns) {w0:World} (ho:OptAt w0 a q)
def cLens0:Ctr DO Tryz.prog w0 (λ_=>False):=.plain 120 (λargs bk orc=>match args with
    | [.agg l]=>(seesO a q ns (l++[.val (.slice q.pi a.ns q.ci)]) bk).map λL=>(.a okV,L,orc)
    | _=>none)<|by
 intro args bk orc v obl orc' hr hobl ρ w vals hfr hb hargs;split at hr
 ·rename_i l
  obtain⟨L,hL,e⟩:=Yad.1 hr;cases e;obtain⟨v1,r1,rfl,⟨cs1,rfl,d1⟩,h3⟩:=hargs;obtain rfl:r1=[]:=h3;obtain⟨q',e,ho',_⟩:=Zb4 hns (by have:=ha.base.ns.1;omega) (ho.below hfr.below) hL hobl hb (d1.append (m:=[.val (.slice q.pi a.ns q.ci)]) (ds:=[.slice q.pi a.ns q.ci]) ⟨[_],[],rfl,⟨rfl,rfl⟩,rfl⟩);obtain rfl:cs1=(a.lvals q').toList:=by
   have:=congrArg (λl=>l.take 9) e;have hl:cs1.length=9:=by
    have:=congrArg List.length e;simpa[Lns.ovals]using this
   rw[List.take_left' hl]at this;exact this
  refine(Zrj a ha.base q' w ho'.toLnsAt).mono ?_;rintro e w' ⟨rfl,hbl⟩;exact⟨_,rfl,⟨rfl,rfl⟩,hbl⟩
 ·cases hr
def obDP (L:List Prop):List Prop:=NameOk a.nm::(decide (a.di>=0)=true)::(decide (a.di<=1000000000)=true)::L
def obPU (L:List Prop):List Prop:=(decide (a.pu>=1)=true)::(decide (a.pu<=1000000000)=true)::L
def obBe (pu W S:U) (q:Plc) (a:Lns) (L:List Prop):List Prop:=(bchB a q pu (fU a q) W S=bchB a q pu (fU a q) W S)::L
def v130:SV:=.a (.one (.val (.int .i64 130)))
noncomputable def bRun (sp:List (Ctr DO Tryz.prog w0 (λ_=>False))) (a:Lns) (q:Plc) (ns j:Nat) (orc:List (Option Bool)):Option (SV×List Prop×List (Nat×Blk)×Option Value):=
 (evF Tryz.prog sp [] 24 [] 78 [.agg (bntU a q ns 0 j)] [(0,srfB a q ns)] 1 1 orc).map λr=>(r.v,r.obl,r.wr,r.pan)
set_option maxRecDepth 100000
theorem Zzb {n:Nat} (hns:a.ns=n+2):bRun [cLens0 ha hns ho] a q (n+2) 0 []=some (v130,(optU a q (n+2) 0=optU a q (n+2) 0)::(srfB a q (n+2)=srfB a q (n+2))::[],[],none):=Zk
theorem Zzc:bRun [cName w0,cBchF ha ho (pu:=.sym a.pu) (W:=nilU) (S:=.slc 0 0 ns q.cs) rfl rfl rfl] a q ns 1 [some true,some true,some true,some true]=some (v130,obDP (a:=a) (obPU (a:=a) (obBe (.sym a.pu) nilU (.slc 0 0 ns q.cs) q a [])),[],none):=Zk
theorem Zzd:bRun [cName w0,cBchF ha ho (pu:=.sym a.pu) (W:=wU a q) (S:=.slc 0 0 1 q.cs) rfl rfl rfl,cBchW ha ho (pu:=.sym a.pu) (S:=.slc 0 0 1 q.cs) rfl rfl] a q ns 2 [some true,some true,some true,some true]=some (v130,obDP (a:=a) (obPU (a:=a) (obBe (.sym a.pu) (wU a q) (.slc 0 0 1 q.cs) q a (obBe (.sym a.pu) (wU a q) (.slc 0 0 1 q.cs) q a []))),[],none):=Zk
theorem Zze:bRun [cName w0] a q ns 3 [some true,some true]=some (v130,obDP (a:=a) [],[],none):=Zk
theorem Zzf (j:Nat) (b:Bool):bRun [cName w0] a q ns (j+4) [some true,some true,some true,some true,some b]=some (v130,obDP (a:=a) (obPU (a:=a) ((((a.di==0)=b))::[])),[],none):=by cases b<;>kernel_rfl
include ha hns ho in
theorem Zxh (j:Nat):∃sp orc L,bRun (w0:=w0) sp a q ns j orc=some (v130,L,[],none)∧AllP L:=by
 have dp:∀{L:List Prop},AllP L->AllP (obDP (a:=a) L):=λh=>⟨ha.base.name,decide_eq_true ha.base.di.1,decide_eq_true ha.base.di.2,h⟩
 have pu:∀{L:List Prop},AllP L->AllP (obPU (a:=a) L):=λh=>⟨decide_eq_true ha.base.pu.1,decide_eq_true ha.base.pu.2,h⟩
 match j with
 | 0 =>
   obtain⟨n,rfl⟩:∃n,ns=n+2:=⟨ns-2,by have:=ha.base.ns.1;omega⟩
   exact⟨_,_,_,Zzb ha ho hns,rfl,rfl,trivial⟩
 | 1=>exact⟨_,_,_,Zzc ha ho,dp (pu ⟨rfl,trivial⟩)⟩
 | 2=>exact⟨_,_,_,Zzd ha ho,dp (pu ⟨rfl,rfl,trivial⟩)⟩
 | 3=>exact⟨_,_,_,Zze,dp trivial⟩
 | j+4=>exact⟨_,_,_,Zzf j _,dp (pu ⟨rfl,trivial⟩)⟩
def cChkB (j:Nat):Ctr DO Tryz.prog w0 (λ_=>False):=.plain 78 (λargs bk orc=>match args with
    | [.agg [a0,a1,a2,a3,a4,a5,a6,.slc k o n c,a8,a9]]=>(bk.look k).map λb=>(v130,([a0,a1,a2,a3,a4,a5,a6,.slc k o n c,a8,a9]=bntU a q ns k j)::(b=srfB a q ns)::[],orc)
    | _=>none)<|by
 intro args bk orc v obl orc' hr hobl ρ w vals hfr hb hargs;split at hr
 ·rename_i a0 a1 a2 a3 a4 a5 a6 k o n c a8 a9
  obtain⟨b,hk,e⟩:=Yad.1 hr;cases e;have e1:=hobl _ (Ycl ..);have e2:b=srfB a q ns:=hobl _ Zs;subst e2;obtain⟨v1,r1,rfl,⟨cs1,rfl,d1⟩,h3⟩:=hargs;obtain rfl:r1=[]:=h3;rw[e1]at d1;obtain⟨B,hB,rfl⟩:=(Zco j).1 d1;obtain⟨B',cs',hB',hH,hC,hro⟩:=hb _ _ hk rfl;rw[hB]at hB';cases hB';have hr:w.rangeAt B.blk B.base cs':=by
   rcases hH with ⟨_,h⟩|⟨h,_⟩
   ·exact h
   ·rw[h]at hro
    cases hro
  obtain rfl:=(Zbe ns 0).1 hC;have hlt:B.blk<w.heap.size:=Zca (hr (0*22+0) _ (Zcg a q ns 0 0 0 (by have:=ha.base.ns.1;omega) Zd));obtain⟨sp,orc2,L,hrun,hL⟩:=Zxh ha hns (ho.below hfr.below) j;refine(Zet (D:=DO) Zd2 sp [] (vs:=[⟨115,srfsU a q 0 ns,B.blk,B.base,srfsC a q 0 ns⟩]) [(0,srfB a q ns)] rfl rfl _ _ _ hrun hL (λv hm=>by rw[Ycd.1 hm];exact⟨hlt,hr,(Zbe ns 0).2 rfl⟩) (vals:=[.agg (bntC a q ns (some ⟨B.blk,B.base,none⟩) j).toArray]) ⟨_,_,rfl,⟨_,rfl,(Zco j).2 ⟨⟨B.blk,B.base,true,0,0⟩,rfl,rfl⟩⟩,rfl⟩).mono ?_;rintro e w' ⟨v,ρ',rfl,hden,hbl,_⟩;exact⟨v,rfl,Zcd rfl hden,hbl⟩
 ·cases hr
end
end
section
open Go.Ex
def cRName (w0:World):Ctr DO Tryz.prog w0 (λ_=>False):=.plain 110 (λargs _ orc=>match args with
    | [.one (.val (.string s))]=>some (.a (.one (.val (.bool true))),[NameOk s],orc)
    | _=>none)<|by
 intro args bk orc v obl orc' hr hobl ρ w vals hfr hb hargs;split at hr
 ·rename_i s
  cases hr;obtain⟨v1,r1,rfl,d1,h3⟩:=hargs;obtain rfl:r1=[]:=h3;obtain rfl:v1=.string s:=by have:=d1.1;simpa using this
  refine(Ze6 s (hobl (NameOk s) Zs) w).mono ?_;rintro e w' ⟨rfl,rfl⟩;exact⟨_,rfl,⟨rfl,rfl⟩,Yae _ _⟩
 ·cases hr
def cRChk {a:Lns} {q:Plc} {w0:World} {pu F W S:U} (h1:isInt pu=true) (h2:isSl F=true) (h3:isSl W=true) (h4:isSl S=true) (g:FuncId)
    (hg:∀w z pf nf cf pw nw cw ps ns cc,Frm w0 (λ_=>False) w->(∃(ρ:Nm),denU DO ρ w F [.slice pf nf cf]∧denU DO ρ w W [.slice pw nw cw])->Calls Tryz.prog g #[.agg (lcs a.nm a.di z a.st a.pr pf nf cf pw nw cw ps ns cc q.pc 0 q.cc)] w λe w'=>e=.returned (.bool true)∧Below w.heap.size w w'):Ctr DO Tryz.prog w0 (λ_=>False):=.plain g (λargs bk orc=>match args with
    | [.agg l]=>some (.a (.one (.val (.bool true))),[l=lensU a q pu F W S],orc)
    | _=>none)<|by
 intro args bk orc v obl orc' hr hobl ρ w vals hfr hb hargs;split at hr
 ·rename_i l
  cases hr;have hl:l=lensU a q pu F W S:=hobl _ Zs;subst hl;obtain⟨v1,r1,rfl,⟨cs,rfl,hd⟩,h5⟩:=hargs;obtain rfl:r1=[]:=h5;obtain⟨z,pf,nf,cf,pw,nw,cw,ps,ns,cc,_,kf,kw,_,rfl⟩:=Zls h1 h2 h3 h4 hd;refine(hg w z pf nf cf pw nw cw ps ns cc hfr ⟨ρ,kf,kw⟩).mono ?_;rintro e w' ⟨rfl,hbl⟩;exact⟨_,rfl,⟨rfl,rfl⟩,hbl⟩
 ·cases hr
section
variable {a:Lns} (ha:a.opt) {q:Plc} {w0:World} (ho:OptAt w0 a q) {pu W S:U} (h1:isInt pu=true) (h3:isSl W=true) (h4:isSl S=true)
def cRFld:Ctr DO Tryz.prog w0 (λ_=>False):=cRChk (a:=a) (q:=q) (F:=fU a q) h1 rfl h3 h4 112<|by
 intro w z pf nf cf pw nw cw ps ns cc hfr ⟨ρ,kf,_⟩;obtain⟨e,_⟩:=kf;cases e;exact Zfz _ _ _ _ _ _ _ _ _ _ _ _ _ _ _ _ _ a.X a.Y ha.base.nf _ rfl ha.base.fr ha.base.fd w (ho.below hfr.below).fields
def cRWav:Ctr DO Tryz.prog w0 (λ_=>False):=cRChk (a:=a) (q:=q) (F:=fU a q) (W:=wU a q) h1 rfl rfl h4 113<|by
 intro w z pf nf cf pw nw cw ps ns cc hfr ⟨ρ,_,kw⟩;obtain⟨e,_⟩:=kw;cases e;exact Zhc _ _ _ _ _ _ _ _ _ _ _ _ _ _ _ _ _ a.L a.W ha.base.nw ha.base.pr ha.base.wl ha.base.ww ha.base.wm w (ho.below hfr.below).waves
end
def bntL (a:Lns) (q:Plc) (ns k j:Nat):List U:=(bntU a q ns k j).take 9
section
variable {a:Lns} (ha:a.opt) {q:Plc} {ns:Nat} (hns:a.ns=ns) {w0:World} (ho:OptAt w0 a q)
def vNo:SV:=.a (.one (.val (.bool false)))
noncomputable def rRun (sp:List (Ctr DO Tryz.prog w0 (λ_=>False))) (a:Lns) (q:Plc) (ns j:Nat) (orc:List (Option Bool)):Option (SV×List Prop×List (Nat×Blk)×Option Value):=
 (evF Tryz.prog sp [] 24 [] 72 [.agg (bntL a q ns 0 j)] [(0,srfB a q ns)] 1 1 orc).map λr=>(r.v,r.obl,r.wr,r.pan)
def obLq (pu W S:U) (q:Plc) (a:Lns) (L:List Prop):List Prop:=(lensU a q pu (fU a q) W S=lensU a q pu (fU a q) W S)::L
set_option maxRecDepth 100000
theorem Zzg:rRun [cRName w0,cRFld ha ho (pu:=.sym a.pu) (W:=nilU) (S:=.slc 0 0 ns q.cs) rfl rfl rfl] a q ns 1 [some true,some true,some true,some true]=some (vNo,obDP (a:=a) (obPU (a:=a) (obLq (.sym a.pu) nilU (.slc 0 0 ns q.cs) q a [])),[],none):=Zk
theorem Zzh:rRun [cRName w0,cRFld ha ho (pu:=.sym a.pu) (W:=wU a q) (S:=.slc 0 0 1 q.cs) rfl rfl rfl,cRWav ha ho (pu:=.sym a.pu) (S:=.slc 0 0 1 q.cs) rfl rfl] a q ns 2 [some true,some true,some true,some true]=some (vNo,obDP (a:=a) (obPU (a:=a) (obLq (.sym a.pu) (wU a q) (.slc 0 0 1 q.cs) q a (obLq (.sym a.pu) (wU a q) (.slc 0 0 1 q.cs) q a []))),[],none):=Zk
theorem Zzi:rRun [cRName w0] a q ns 3 [some true,some true]=some (vNo,obDP (a:=a) [],[],none):=Zk
theorem Zzj (j:Nat) (b:Bool):rRun [cRName w0] a q ns (j+4) [some true,some true,some true,some true,some b]=some (vNo,obDP (a:=a) (obPU (a:=a) ((((a.di==0)=b))::[])),[],none):=by cases b<;>kernel_rfl
include ha ho in
theorem Zxi (j:Nat) (hj:j≠0):∃sp orc L,rRun (w0:=w0) sp a q ns j orc=some (vNo,L,[],none)∧AllP L:=by
 have dp:∀{L:List Prop},AllP L->AllP (obDP (a:=a) L):=λh=>⟨ha.base.name,decide_eq_true ha.base.di.1,decide_eq_true ha.base.di.2,h⟩
 have pu:∀{L:List Prop},AllP L->AllP (obPU (a:=a) L):=λh=>⟨decide_eq_true ha.base.pu.1,decide_eq_true ha.base.pu.2,h⟩
 match j,hj with
 | 1,_=>exact⟨_,_,_,Zzg ha ho,dp (pu ⟨rfl,trivial⟩)⟩
 | 2,_=>exact⟨_,_,_,Zzh ha ho,dp (pu ⟨rfl,rfl,trivial⟩)⟩
 | 3,_=>exact⟨_,_,_,Zzi,dp trivial⟩
 | j+4,_=>exact⟨_,_,_,Zzj j _,dp (pu ⟨rfl,trivial⟩)⟩
theorem Zoc {D:Den} {ρ:Nm} {w:World} {a:Lns} {q:Plc} {ns k:Nat} (j:Nat) {cs:List Value}:denL D ρ w (bntL a q ns k j) cs↔∃B,ρ k=some B∧cs=(bntC a q ns (some ⟨B.blk,B.base,none⟩) j).take 9:=by
 have key:∀(l r:List U) (m x:List Value) (n c:Nat),oneU l m->oneU r x->(denL D ρ w (l++(.slc k 0 n c::(r++[]))) cs↔∃B,ρ k=some B∧cs=m++(.slice (some ⟨B.blk,B.base,none⟩) n c::x)):=by
  intro l r m x n c h1 h2;rw[Zc1 h1];constructor
  ·rintro⟨ds,rfl,_,d,rfl,⟨B,hB,rfl⟩,hd⟩
   obtain⟨ds',rfl,h⟩:=(Zc1 h2).1 hd;obtain rfl:ds'=[]:=h;exact⟨B,hB,Zs⟩
  ·rintro⟨B,hB,rfl⟩
   exact⟨_,rfl,[_],x,rfl,⟨B,hB,rfl⟩,(Zc1 h2).2 ⟨[],Zs,rfl⟩⟩
 have f:=λ(s:Value) (h:s.oneCell'=true)=>Ztj h;have v:=λ(s:Value) (h:s.oneCell'=true)=>Zti h;match j with
 | 0=>exact key [_,_,_,_,_,_,_] [_] [_,_,_,_,_,_,_] [_] _ _ ⟨v _ rfl,Zar _,Zar _,Zar _,Zar _,f _ rfl,f _ rfl,trivial⟩ ⟨v _ rfl,trivial⟩
 | 1=>exact key [_,_,_,_,_,_,_] [_] [_,_,_,_,_,_,_] [_] _ _ ⟨v _ rfl,Zar _,Zar _,Zar _,Zar _,f _ rfl,v _ rfl,trivial⟩ ⟨v _ rfl,trivial⟩
 | 2=>exact key [_,_,_,_,_,_,_] [_] [_,_,_,_,_,_,_] [_] _ _ ⟨v _ rfl,Zar _,Zar _,Zar _,Zar _,f _ rfl,f _ rfl,trivial⟩ ⟨v _ rfl,trivial⟩
 | 3=>exact key [_,_,_,_,_,_,_] [_] [_,_,_,_,_,_,_] [_] _ _ ⟨v _ rfl,Zar _,v _ rfl,Zar _,Zar _,f _ rfl,f _ rfl,trivial⟩ ⟨v _ rfl,trivial⟩
 | j+4=>exact key [_,_,_,_,_,_,_] [_] [_,_,_,_,_,_,_] [_] _ _ ⟨v _ rfl,Zar _,Zar _,Zar _,Zar _,v _ rfl,f _ rfl,trivial⟩ ⟨v _ rfl,trivial⟩
def cRightB (j:Nat) (hj:j≠0):Ctr DO Tryz.prog w0 (λ_=>False):=.plain 72 (λargs bk orc=>match args with
    | [.agg [a0,a1,a2,a3,a4,a5,a6,.slc k o n c,a8]]=>(bk.look k).map λb=>(vNo,([a0,a1,a2,a3,a4,a5,a6,.slc k o n c,a8]=bntL a q ns k j)::(b=srfB a q ns)::[],orc)
    | _=>none)<|by
 intro args bk orc v obl orc' hr hobl ρ w vals hfr hb hargs;split at hr
 ·rename_i a0 a1 a2 a3 a4 a5 a6 k o n c a8
  obtain⟨b,hk,e⟩:=Yad.1 hr;cases e;have e1:=hobl _ (Ycl ..);have e2:b=srfB a q ns:=hobl _ Zs;subst e2;obtain⟨v1,r1,rfl,⟨cs1,rfl,d1⟩,h3⟩:=hargs;obtain rfl:r1=[]:=h3;rw[e1]at d1;obtain⟨B,hB,rfl⟩:=(Zoc j).1 d1;obtain⟨B',cs',hB',hH,hC,hro⟩:=hb _ _ hk rfl;rw[hB]at hB';cases hB';have hr:w.rangeAt B.blk B.base cs':=by
   rcases hH with ⟨_,h⟩|⟨h,_⟩
   ·exact h
   ·rw[h]at hro
    cases hro
  obtain rfl:=(Zbe ns 0).1 hC;have hlt:B.blk<w.heap.size:=Zca (hr (0*22+0) _ (Zcg a q ns 0 0 0 (by have:=ha.base.ns.1;omega) Zd));obtain⟨sp,orc2,L,hrun,hL⟩:=Zxi (ns:=ns) ha (ho.below hfr.below) j hj;refine(Zet (D:=DO) Zd2 sp [] (vs:=[⟨115,srfsU a q 0 ns,B.blk,B.base,srfsC a q 0 ns⟩]) [(0,srfB a q ns)] rfl rfl _ _ _ hrun hL (λv hm=>by rw[Ycd.1 hm];exact⟨hlt,hr,(Zbe ns 0).2 rfl⟩) (vals:=[.agg ((bntC a q ns (some ⟨B.blk,B.base,none⟩) j).take 9).toArray]) ⟨_,_,rfl,⟨_,rfl,(Zoc j).2 ⟨⟨B.blk,B.base,true,0,0⟩,rfl,rfl⟩⟩,rfl⟩).mono ?_;rintro e w' ⟨v,ρ',rfl,hden,hbl,_⟩;exact⟨v,rfl,Zcd rfl hden,hbl⟩
 ·cases hr
end
end
section
open Go.Ex
section
variable {a:Lns} (ha:a.opt) {ns:Nat} (hns:a.ns=ns) {w0:World} {q:Plc} (ho:OptAt w0 a q)
noncomputable def runB (g:FuncId) (args:List SA) (j:Nat):Option (SV×List Prop×Option Value):=
 (evF Tryz.prog [cChkB ha hns ho j] [] 24 [] g (.agg (bntU a q ns 0 j)::args) [(0,srfB a q ns)] 1 1 []).map λr=>(r.v,r.obl,r.pan)
def obB (a:Lns) (q:Plc) (ns j:Nat):List Prop:=(bntU a q ns 0 j=bntU a q ns 0 j)::(srfB a q ns=srfB a q ns)::[]
def bntErr (g:FuncId) (args:List SA) (V:SV) (j:Nat):Prop:=runB ha hns ho g args j=some (V,obB a q ns j,none)
set_option maxRecDepth 100000
end
section
set_option maxRecDepth 100000
variable {a:Lns} (ha:a.opt) {w0:World} {q:Plc} (ho:OptAt w0 a q)
theorem ixB (k s:Int) {ns:Nat} (hns:a.ns=ns) (h6:2<=ns∧ns<=6) (j:Nat):bntErr ha hns ho 11 [.one (.sym k),.one (.sym s)] (errQ 130) j:=by
 rcases Zwu h6 with rfl|rfl|rfl|rfl|rfl<;>(rcases j with _|_|_|_|j<;>(unfold bntErr;kernel_rfl))
theorem pwB (k s:Int) {ns:Nat} (hns:a.ns=ns) (h6:2<=ns∧ns<=6) (j:Nat):bntErr ha hns ho 13 [.one (.sym k),.one (.sym s)] (errQ 130) j:=by
 rcases Zwu h6 with rfl|rfl|rfl|rfl|rfl<;>(rcases j with _|_|_|_|j<;>(unfold bntErr;kernel_rfl))
end
section
variable {D:Den} {ρ ρ':Nm} {w:World}
def dec2:List SA->Option (List SA)
 | [x, y] => match Ex.intOf (some (.a x)), Ex.intOf (some (.a y)) with
   | some (.i64,k,_),some (.i64,s,_)=>some [.one (.sym k),.one (.sym s)]
   | _,_=>none
 | _=>none
theorem Zjx {r r':List SA} (h:dec2 r=some r') {vs:List Value} (hd:denAs D ρ w r vs):(∃k s,r'=[.one (.sym k),.one (.sym s)])∧denAs D ρ' w r' vs:=by
 unfold dec2 at h;split at h
 ·split at h
  ·rename_i h1 h2
   cases h;obtain⟨v1,r1,rfl,d1,v2,r2,rfl,d2,h5⟩:=hd;obtain rfl:r2=[]:=h5;rw[Za6 (D:=D) (ρ:=ρ) (w:=w) h1 d1,Za6 (D:=D) (ρ:=ρ) (w:=w) h2 d2];exact⟨⟨_,_,rfl⟩,_,_,rfl,rfl,_,_,rfl,rfl,rfl⟩
  ·cases h
 ·cases h
end
section
variable {a:Lns} (ha:a.opt) {ns:Nat} (hns:a.ns=ns) {w0:World} {q:Plc} (ho:OptAt w0 a q)
def cBnt (g:FuncId) (V:SV) (hV:closedV V=true) (j:Nat) (dec:List SA->Option (List SA)) (hdec:∀{r r':List SA},dec r=some r'->∀{ρ ρ':Nm} {w:World} {vs:List Value},denAs DO ρ w r vs->denAs DO ρ' w r' vs∧∀{w:World} {q:Plc} (ho:OptAt w a q),bntErr ha hns ho g r' V j):Ctr DO Tryz.prog w0 (λ_=>False):=.plain g (λargs bk orc=>match args with
    | .agg [a0, a1, a2, a3, a4, a5, a6, .slc k o n c, a8, a9] :: r => match bk.look k, dec r with
      | some b,some _=>some (V,([a0,a1,a2,a3,a4,a5,a6,.slc k o n c,a8,a9]=bntU a q ns k j)::(b=srfB a q ns)::[],orc)
      | _,_=>none
    | _=>none)<|by
 intro args bk orc v obl orc' hr hobl ρ w vals hfr hb hargs;split at hr
 ·rename_i a0 a1 a2 a3 a4 a5 a6 k o n c a8 a9 r
  split at hr
  ·rename_i b r' hk hr'
   cases hr;have e1:=hobl _ (Ycl ..);have e2:b=srfB a q ns:=hobl _ Zs;subst e2;obtain⟨v1,r1,rfl,⟨cs1,rfl,d1⟩,h3⟩:=hargs;rw[e1]at d1;obtain⟨B,hB,rfl⟩:=(Zco j).1 d1;obtain⟨B',cs',hB',hH,hC,hro⟩:=hb _ _ hk rfl;rw[hB]at hB';cases hB';have hrg:w.rangeAt B.blk B.base cs':=by
    rcases hH with ⟨_,h⟩|⟨h,_⟩
    ·exact h
    ·rw[h]at hro
     cases hro
   obtain rfl:=(Zbe ns 0).1 hC;have hlt:B.blk<w.heap.size:=Zca (hrg (0*22+0) _ (Zcg a q ns 0 0 0 (by have:=ha.base.ns.1;omega) Zd));obtain⟨hd',hrun⟩:=hdec hr' (ρ':=nmV [⟨115,srfsU a q 0 ns,B.blk,B.base,srfsC a q 0 ns⟩]) h3;have hrun:=hrun (ho.below hfr.below);unfold bntErr runB at hrun;obtain⟨x,hx,he⟩:=Yad.1 hrun;simp only[Yco]at he;obtain⟨e1,e2,hpan⟩:=he;have hL:AllP x.obl:=by rw[e2];exact⟨rfl,rfl,trivial⟩
   refine(Zet (D:=DO) Zd2 [cChkB ha hns (ho.below hfr.below) j] [] (vs:=[⟨115,srfsU a q 0 ns,B.blk,B.base,srfsC a q 0 ns⟩]) [(0,srfB a q ns)] rfl rfl x.v x.obl x.wr (Zm2 hx hpan) hL (λv hm=>by rw[Ycd.1 hm];exact⟨hlt,hrg,(Zbe ns 0).2 rfl⟩) (vals:=.agg (bntC a q ns (some ⟨B.blk,B.base,none⟩) j).toArray::r1) ⟨_,_,rfl,⟨_,rfl,(Zco j).2 ⟨⟨B.blk,B.base,true,0,0⟩,rfl,rfl⟩⟩,hd'⟩).mono ?_;rintro e w' ⟨v,ρ',rfl,hden,hbl,_⟩;rw[e1]at hden;exact⟨v,rfl,Zcd hV hden,hbl⟩
  ·cases hr
 ·cases hr
variable (h6:2<=ns∧ns<=6)
def cIndexB (j:Nat):Ctr DO Tryz.prog w0 (λ_=>False):=cBnt ha hns ho 11 (errQ 130) rfl j dec2<|by
 intro r r' h ρ ρ' w vs hd;obtain⟨⟨k,s,rfl⟩,h2⟩:=Zjx (ρ':=ρ') h hd;exact⟨h2,λho=>ixB ha ho k s hns h6 j⟩
def cPowerB (j:Nat):Ctr DO Tryz.prog w0 (λ_=>False):=cBnt ha hns ho 13 (errQ 130) rfl j dec2<|by
 intro r r' h ρ ρ' w vs hd;obtain⟨⟨k,s,rfl⟩,h2⟩:=Zjx (ρ':=ρ') h hd;exact⟨h2,λho=>pwB ha ho k s hns h6 j⟩
end
end
def SrfsL (w:World) (a:Lns) (q:Plc):Prop:=SrfsAt w q.ps q.cs a.lst q.cp q.cl
theorem Zpz (a:Lns) (ha:a.opt) (q:Plc) (w:World) (h:OptAt w a q) (hs:SrfsL w a q) :
  Calls Tryz.prog 92 #[.agg (a.ovals q)] w λe w'=>e=.returned (.int .i64 0)∧Below w.heap.size w w':=by
 have hc:=λW (hW:Below w.heap.size w W)=>Zii a ha q W (h.below hW) (SrfsAt.below hs hW);simp only[Lns.ovals]at hc ⊢;clear h hs;go_enter Tryz.func92,Tryz.ntmps92
 go_wp2_with fail
 refine Zbg λW hB hs bO=>?_;refine(hc W hB).mono ?_;rintro e w' ⟨rfl,hb⟩;go_wp2
 go_ret
 exact⟨rfl,Zaa hB hb⟩
theorem Zij (a:Lns) (ha:a.opt) (q:Plc) (s k:Int) (w:World) (h:OptAt w a q) (hs:SrfsL w a q) (s0:0<=s) (s1:s<a.ns) (k0:0<=k) (k1:k<a.nw) :
  Calls Tryz.prog 126 #[.agg (a.ovals q),.int .i64 s,.int .i64 k] w λe w'=>e=.returned (.int .i64 0)∧Below w.heap.size w w':=by
 have hc:=λW (hW:Below w.heap.size w W)=>Zii a ha q W (h.below hW) (SrfsAt.below hs hW);simp only[Lns.ovals]at hc ⊢;clear h hs;have n0:¬s<0:=Zo;have n1:¬k<0:=Zo;have n2:¬s>=(a.ns:Int):=Zo;have n3:¬k>=(a.nw:Int):=Zo;go_enter Tryz.func126,Tryz.ntmps126
 go_wp2_with fail
 refine Zbg λW hB hs bO=>?_;refine(hc W hB).mono ?_;rintro e w' ⟨rfl,hb⟩;replace bO:=bO.below hb;have cO:=bO.cell;have lO:=bO.lt;go_wp2
 go_ret
 exact⟨rfl,Zaa hB hb⟩
theorem Zlp (a:Lns) (ha:a.opt) (q:Plc) (s k:Nat) (w:World) (h:OptAt w a q) (hs:SrfsL w a q) (s1:s<a.ns) (k1:k<a.nw) :
  Calls Tryz.prog 83 #[.agg (a.ovals q),.int .i64 (s:Int),.int .i64 (k:Int)] w λe w'=>e=.returned (.tuple #[.int .i64 (a.ix s k),.int .i64 0])∧Below w.heap.size w w':=by
 have hc:=λW (hW:Below w.heap.size w W)=>Zij a ha q s k W (h.below hW) (SrfsAt.below hs hW) Zo Zo Zo Zo;obtain⟨b,off,hpi,hb,hix⟩:=h.index.2.2 Zo;obtain⟨b2,off2,hpI,hb2,hrow⟩:=(h.row s s1).2.2 Zo;have c1:=hix s 0 s1 Zo;have c2:=hrow k k1;simp only[Yfk,Yce]at c1;simp only[Lns.ovals]at hc ⊢;rw[hpi]at hc ⊢;rw[hpI]at c1;have s1':(s:Int)<a.ns:=Zo;have k1':(k:Int)<a.nw:=Zo;clear h hs hix hrow;go_enter Tryz.func83,Tryz.ntmps83
 go_wp2_with fail
 refine Zbg λW hB hs bO=>?_;refine(hc W hB).mono ?_;rintro e w' ⟨rfl,hbw⟩;replace bO:=bO.below hbw;have hBw:=Zaa hB hbw;have cO:=bO.cell;have lO:=bO.lt;replace c1:=(hBw.cell (p:=⟨b,off+s,none⟩) hb).trans c1;replace c2:=(hBw.cell (p:=⟨b2,off2+k,none⟩) hb2).trans c2;go_wp2
 go_ret2
 exact⟨rfl,hBw⟩
theorem Ztf (a:Lns) (ha:a.opt) (q:Plc) (s:Nat) (w:World) (h:OptAt w a q) (hs:SrfsL w a q) (s1:s<a.ns) :
  Calls Tryz.prog 84 #[.agg (a.ovals q),.int .i64 (s:Int)] w λe w'=>e=.returned (.tuple #[.int .i64 (a.sgn (s+1)),.int .i64 0])∧Below w.heap.size w w':=by
 have hnw:=ha.base.nw.1;have hns:=ha.base.ns.2;have hc:=λW (hW:Below w.heap.size w W)=>Zij a ha q s 0 W (h.below hW) (SrfsAt.below hs hW) Zo Zo Zo Zo;obtain⟨b,off,hps,hbl,hcell⟩:=h.surfs.2.2 Zo;have hcap:=h.surfs.1;dsimp only at hcell;simp only[Lns.ovals]at hc ⊢;rw[hps]at hc ⊢;have s1':(s:Int)<a.ns:=Zo;have s2:(s:Int)+1<=a.ns:=Zo;have s3:(s:Int)+1<=q.cs:=Zo;clear h hs;go_enter Tryz.func84,Tryz.ntmps84
 go_wp2_with fail
 refine Zbg λW hB hs bO=>?_;refine(hc W hB).mono ?_;rintro e w' ⟨rfl,hbw⟩;replace bO:=bO.below hbw;have hBw:=Zaa hB hbw;go_wp2
 go_loopw [7,8] (λx y wr=>∃k:Nat,k<=s+1∧x=.int .i64 (a.sgn k)∧y=.int .i64 (k:Int)∧Below w'.heap.size w' wr) (λ_ y _=>(s+1-intOf y).toNat)
 case atStart=>exact⟨0,Yat _,rfl,rfl,Yae _ _⟩
 case round=>
  obtain⟨k,hk,rfl,rfl,hBr⟩:=hrel;have rO:=bO.below hBr;have cO:=rO.cell;have lO:=rO.lt;have hBx:=Zaa hBw hBr;by_cases hks:k<s+1
  ·have g13:((a.S k).cs (q.cp k) (q.cl k)).getD 13 undef=.string (a.S k).glass:=rfl
   have c13:=(hBx.cell (p:=⟨b,off+k*22+13,none⟩) hbl).trans (hcell k 13 Zo Zd);rw[g13]at c13;have lb:=Yaf hbl hBx.size;have hks':(k:Int)<(s:Int)+1:=Zo;have hks2:(k:Int)<=(s:Int):=Zo;have hkn:(k:Int)<a.ns:=Zo;have hsg:a.sgn (k+1)=if(a.S k).glass=mirror then-a.sgn k else a.sgn k:=rfl
   have hsc:=a.sgn_cases k;generalize (a.S k).glass=G at *;generalize a.sgn k=sg at *;clear hcell hc;by_cases hG:G=mirror
   ·rw[if_pos hG]at hsg
    unfold mirror at hG;subst hG;have hwr:IntKind.i64.wrap (-sg) = -sg:=by rw[Ybi];omega
    clear hsc;go_wp2
    go_roundw
    case rel=>exact⟨k+1,Zo,by rw[hsg],Zs,hBr⟩
    case measure=>simp[intOf];omega
   ·have hne:=Zge hG
    rw[if_neg hG]at hsg;clear hG hsc;go_wp2
    go_roundw
    case rel=>exact⟨k+1,Zo,by rw[hsg],Zs,hBr⟩
    case measure=>simp[intOf];omega
  ·obtain rfl:k=s+1:=by omega
   have hks2:¬(((s+1:Nat):Int)<=(s:Int)):=Zo;clear hcell hc;go_wp2
   go_ret2
   exact⟨rfl,hBx⟩
end Go.Proofs.W
