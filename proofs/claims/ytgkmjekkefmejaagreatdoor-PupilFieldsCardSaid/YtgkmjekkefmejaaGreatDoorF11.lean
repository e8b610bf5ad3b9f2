/- The law PupilFields: image heights and invariants are proportional to the heights of the fields;its contracts,its walk and its card. Part 11 of 11. No condition beside the row. -/
import Derived.Test.YtgkmjekkefmejaaGreatDoorTie
import Derived.Test.YtgkmjekkefmejaaGreatDoorCards
import Derived.SevenTiedAt
import Derived.Deep.Onto
import Derived.Test.YtgkmjekkefmejaaGreatDoorA26
import Derived.Test.YtgkmjekkefmejaaGreatDoorD01
import Derived.Test.YtgkmjekkefmejaaGreatDoorD13
import Derived.Test.YtgkmjekkefmejaaGreatDoorF01
import Derived.Test.YtgkmjekkefmejaaGreatDoorF02
import Derived.Test.YtgkmjekkefmejaaGreatDoorF06
import Derived.Test.YtgkmjekkefmejaaGreatDoorF07
import Derived.Test.YtgkmjekkefmejaaGreatDoorF09
import Derived.Test.YtgkmjekkefmejaaGreatDoorF10
set_option linter.unusedVariables false
set_option linter.unusedSimpArgs false
set_option maxRecDepth 100000
set_option maxHeartbeats 4000000
namespace Go.Proofs.W
open Go.RowKit Go.Mono
section
open Go.Ex
set_option maxRecDepth 100000
def boxF (a:Lns) (q:Plc) (nf kb:Nat):Blk:=⟨40,optF a q nf kb,true,false,false⟩
def bkPfi (a:Lns) (q:Plc):List (Nat×Blk):=[(0,boxF a q 3 1),(1,fldB a 3)]
def tmPfi (k:Int):List (Nat×SV):=[(11,.a (.one (.ptr 0 0))),(12,.a (.one (.sym k)))]
noncomputable def cdPfi:Code:=codeR (codeR (codeR (codeR (codeR (Tryz.f5.body.getD .skip)))))
section
variable (a:Lns) (q:Plc) (ns:Nat) (k:Int) (near:Bool)
def obSF (L:List Prop):List Prop:=(optF a q 3 1=optF a q 3 1)::(fldB a 3=fldB a 3)::L
def obHt (f:Int) (e1 e2 e3:Bool) (L:List Prop):List Prop:=obSF a q ((0<=k∧k<a.nw)::(0<=f∧f<(a.nf:Int))::(e1=false->e2=false->decide (heW a ns k.toNat near=Rat.divInt 0 1)=e3)::obWay a near e1 e2 L)
def obLg (f:Int) (e1 e2:Bool) (L:List Prop):List Prop:=obSF a q ((0<=f∧f<(a.nf:Int))::obWay a near e1 e2 L)
def obH5 (e1 e2 e3:Bool) (L:List Prop):List Prop:=obHt a q ns k near 1 e1 e2 e3 (obHt a q ns k near 2 e1 e2 e3 (obHt a q ns k near 0 e1 e2 e3 (obLg a q near 1 e1 e2 (obLg a q near 2 e1 e2 L))))
def pfM (a:Lns):Rat:=Rat.divInt (a.Y 2) 1000
def obPfM (L:List Prop):List Prop:=obOf (a.Y 2) 1000 (Fits (lagQ a 1 near*pfM a)::(decide (lagQ a 1 near*pfM a=lagQ a 2 near)=true)::L)
def obPfA (e1 e2:Bool):List Prop:=obH5 a q ns k near e1 e2 false []
def obPfB:List Prop:=obH5 a q ns k near false false true (obPfM a near [])
def obPfC:List Prop:=obH5 a q ns k near false false false (obPfM a near (Fits (heQ a ns k.toNat 1 near*pfM a)::(decide (heQ a ns k.toNat 1 near*pfM a=heQ a ns k.toNat 2 near)=true)::obOf 0 1 ((decide (heQ a ns k.toNat 0 near=Rat.divInt 0 1)=true)::[])))
end
def orcH (near e1 e2:Bool) (h r:List (Option Bool)):List (Option Bool):=some near::wayP near e1 e2 (h++r)
def orcH5 (near e1 e2:Bool) (h r:List (Option Bool)):List (Option Bool):=orcH near e1 e2 h (orcH near e1 e2 h (orcH near e1 e2 h (orcH near e1 e2 [] (orcH near e1 e2 [] r))))
section
variable {a:Lns} (ha:a.opt) {ns m:Nat} (hns:a.ns=ns) (h6:2<=ns∧ns<=6) (hnf:a.nf=3) {w0:World} (q:Plc) (ho:OptAt w0 a q) (hp:PowsAt w0 m) (k:Int)
noncomputable def spPf:List (Ctr DO Tryz.prog w0 (λ_=>False)):=cHeight ha hns h6 hp (seesF ha q hnf ho)::cLagr ha hns h6 hp (seesF ha q hnf ho)::cOfT w0 _::spS w0 _
noncomputable def runPfi (orc:List (Option Bool)):Option (Ot×List DF×Option SV×List Prop):=
 (evC Tryz.prog ⟨evF Tryz.prog (spPf ha hns h6 hnf q ho hp) [] 24,fctRun ([]:List (Fct DO Tryz.prog w0 (λ_=>False)))⟩ [] 159 FU false cdPfi ⟨tmPfi k,bkPfi a q,2,2,orc,[]⟩).map (λr=>(r.1,r.2.1.df,r.2.1.tm.look 10,r.2.2))
theorem pfA (near e2:Bool) (h:near=false->e2=false):runPfi ha hns h6 hnf q ho hp k (orcH5 near (!e2) e2 [] [])=yesP (obPfA a q ns k near (!e2) e2):=by
 cases near<;>cases e2
 ·kernel_rfl
 ·cases h rfl
 ·kernel_rfl
 ·kernel_rfl
theorem pfB (near:Bool):runPfi ha hns h6 hnf q ho hp k (orcH5 near false false [some true] [some true])=yesP (obPfB a q ns k near):=by
 cases near<;>kernel_rfl
theorem pfC (near:Bool):runPfi ha hns h6 hnf q ho hp k (orcH5 near false false [some false] [some true,some true,some true])=yesP (obPfC a q ns k near):=by
 cases near<;>kernel_rfl
end
section
variable {a:Lns} (ha:a.opt) {ns m:Nat} (hns:a.ns=ns) (h6:2<=ns∧ns<=6) (hnf:a.nf=3) (y0:a.Y 0=0) (y1:a.Y 1=1000) (y2:0<=a.Y 2∧a.Y 2<=100000) {q:Plc} {k:Int} (hk:0<=k∧k<a.nw) {near:Bool}
include hnf hk
theorem Z1x {e1 e2 e3:Bool} (g0:decide (a.di>0)=near) (g1:decide (a.ahA=Rat.divInt 0 1)=e1) (g2:near=true->e1=false->decide (a.far+a.enZ=Rat.divInt 0 1)=e2) (g3:e1=false->e2=false->decide (heW a ns k.toNat near=Rat.divInt 0 1)=e3) {L:List Prop} (hL:AllP L):AllP (obH5 a q ns k near e1 e2 e3 L):=by
 have f:∀f:Int,0<=f->f<3->0<=f∧f<(a.nf:Int):=λf h1 h2=>⟨h1,Zo⟩
 exact⟨rfl,rfl,hk,f 1 Zd Zd,g3,g0,g1,g2,rfl,rfl,hk,f 2 Zd Zd,g3,g0,g1,g2,rfl,rfl,hk,f 0 Zd Zd,g3,g0,g1,g2,rfl,rfl,f 1 Zd Zd,g0,g1,g2,rfl,rfl,f 2 Zd Zd,g0,g1,g2,hL⟩
omit hk hnf
include y1
theorem Z16:lagQ a 1 near*pfM a=lagQ a 2 near:=by
 refine(Z14 a near ?_).symm;unfold Lns.fY pfM;rw[y1,Rat.divInt_mul_divInt,Rat.divInt_eq_divInt_iff Zd Zd];omega
omit y1
include y0
theorem Z2a:lagQ a 0 near=0:=by
 have h:lagQ a 0 near=lagQ a 0 near*0:=Z14 a near (by
  unfold Lns.fY;rw[y0,show Rat.divInt 0 1000000=0 by decide +kernel,Rat.mul_zero])
 rw[h,Rat.mul_zero]
omit y0
include ha hns h6 hnf y1 y2
theorem Z17 {L:List Prop} (hL:AllP L):AllP (obPfM a near L):=by
 have hm:Hs 6 (pfM a):=Hs.divInt _ _ Zd Zo Zd;exact Zau (⟨Zo,Zo⟩:inR _) ⟨((Z13 ha hns h6 near (f:=1) Zo).mul hm).fits Zd,decide_eq_true (Z16 y1),hL⟩
include y0 hk
theorem Z2b (g0:decide (a.di>0)=near) (g1:decide (a.ahA=Rat.divInt 0 1)=false) (g2:near=true->false=false->decide (a.far+a.enZ=Rat.divInt 0 1)=false) (g3:decide (heW a ns k.toNat near=Rat.divInt 0 1)=false):AllP (obPfC a q ns k near):=by
 have hm:Hs 6 (pfM a):=Hs.divInt _ _ Zd Zo Zd;refine Z1x hnf hk g0 g1 g2 (λ_ _=>g3) (Z17 ha hns h6 hnf y1 y2 ⟨((Z2d ha hns h6 (k:=k.toNat) Zo near (f:=1) Zo).neg.mul hm).fits Zd,decide_eq_true ?_,Zau okN ⟨decide_eq_true ?_,trivial⟩⟩)
 ·have e:=Z16 (near:=near) y1
  unfold heQ;rw[<-e,Yew,Yew];grind
 ·unfold heQ
  rw[Z2a y0,Yew,Rat.zero_mul];decide +kernel
end
theorem Z2e {a:Lns} (ha:a.opt) {ns m:Nat} (hns:a.ns=ns) (h6:2<=ns∧ns<=6) (hnf:a.nf=3) (y0:a.Y 0=0) (y1:a.Y 1=1000) (y2:0<=a.Y 2∧a.Y 2<=100000) {w0:World} (q:Plc) (ho:OptAt w0 a q) (hp:PowsAt w0 m) (k:Int) (hk:0<=k∧k<a.nw) :
  ∃orc V L,runPfi ha hns h6 hnf q ho hp k orc=some (.ret,[],some V,L)∧AllP L∧V=.a (.one (.val (.bool true))):=by
 have good:∀near,decide (a.di>0)=near->decide (a.ahA=Rat.divInt 0 1)=false->(near=true->false=false->decide (a.far+a.enZ=Rat.divInt 0 1)=false)->∃orc V L,runPfi ha hns h6 hnf q ho hp k orc=some (.ret,[],some V,L)∧AllP L∧V=.a (.one (.val (.bool true))):=by
  intro near g0 g1 g2;cases g3:decide (heW a ns k.toNat near=Rat.divInt 0 1) with
  | false=>exact⟨_,_,_,pfC ha hns h6 hnf q ho hp k near,Z2b ha hns h6 hnf y0 y1 y2 hk g0 g1 g2 g3,rfl⟩
  | true=>exact⟨_,_,_,pfB ha hns h6 hnf q ho hp k near,Z1x hnf hk g0 g1 g2 (λ_ _=>g3) (Z17 ha hns h6 hnf y1 y2 trivial),rfl⟩
 cases g0:decide (a.di>0) with
 | false =>
   cases g1:decide (a.ahA=Rat.divInt 0 1) with
   | false=>exact good false g0 g1 (λh=>by cases h)
   | true=>exact⟨_,_,_,pfA ha hns h6 hnf q ho hp k false false (λ_=>rfl),Z1x hnf hk g0 g1 (λh=>by cases h) (λh=>by cases h) trivial,rfl⟩
 | true =>
   cases g1:decide (a.ahA=Rat.divInt 0 1) with
   | true=>exact⟨_,_,_,pfA ha hns h6 hnf q ho hp k true false (λh=>by cases h),Z1x hnf hk g0 g1 (λ_ h=>by cases h) (λh=>by cases h) trivial,rfl⟩
   | false =>
     cases g2:decide (a.far+a.enZ=Rat.divInt 0 1) with
     | false=>exact good true g0 g1 (λ_ _=>g2)
     | true=>exact⟨_,_,_,pfA ha hns h6 hnf q ho hp k true true (λh=>by cases h),Z1x hnf hk g0 g1 (λ_ _=>g2) (λ_ h=>by cases h) trivial,rfl⟩
end
end Go.Proofs.W
namespace Go.Mono
open Go.RowKit
section
section
variable {P:Program} {f:FuncId} {args:Array Value} {R:Ending->World->Prop} {w:World} {T0:TypeId} {c0:Array Value}
theorem Zyq (h:∀W,Below w.heap.size w W->w.heap.size+1<=W.heap.size->Box W (w.heap.size) T0 c0->Calls P f args W R) :
  Calls P f args (w.alloc (.cells c0 T0)) R:=by
 exact h _ ((Yae _ _).alloc (Yab _) _) Zs (Box.new _ _ _)
end
end
end Go.Mono
namespace Go.Proofs.W
open Go.RowKit Go.Mono
section
open Go.Ex

end
end Go.Proofs.W
namespace Go.Mono
def Plc.fld (q:Plc) (F:Nat):Plc:={q with pf:=some ⟨F,0,none⟩,cf:=3}
theorem OptAt.fld3 {w:World} {a:Lns} {q:Plc} (h:OptAt w a q) {y:Int} {F:Nat} {T:TypeId} (hF:Box w F T #[.int .i64 0,.int .i64 0,.int .i64 0,.int .i64 1000,.int .i64 0,.int .i64 y]):OptAt w (a.fld3 y) (q.fld F):=by
 refine⟨⟨⟨Yab _,(by decide:3<=140737488351232),λ_=>⟨F,0,rfl,hF.lt,λi j hi hj=>?_⟩⟩,h.waves,h.surfs,h.coat⟩,h.index,h.row⟩;have hi:i<3:=hi;rw[hF.cell];match i,j,hi,hj with
 | 0,0,_,_=>rfl
 | 0,1,_,_=>rfl
 | 1,0,_,_=>rfl
 | 1,1,_,_=>rfl
 | 2,0,_,_=>rfl
 | 2,1,_,_=>rfl
end Go.Mono
namespace Go.Proofs.W
open Go.RowKit Go.Mono
section
open Go.Ex
theorem Z11 (B off:Nat) (p:Option Addr) (n c:Nat) (w:World) (hc:(w.cell? ⟨B,off,none⟩).isSome=true) (hf:w.frozen? ⟨B,off,none⟩=false):(Instr.storeAt 32 (.pointer (some ⟨B,off,none⟩)) (.slice p n c)).run Tryz.prog w=.ok () (w.setCell ⟨B,off,none⟩ (.slice p n c)):=by
 obtain⟨x,hx⟩:=Yct.1 hc;clear hc;go_simp
theorem Z2f {a:Lns} {q:Plc} {nf kb:Nat} (hnf:a.nf=nf) {w:World} {B b off:Nat} (hp:q.pf=some ⟨b,off,none⟩) (h:Box w B 40 (a.ovals q)) {D:Den} {vs:List Vw} (hk:nmV vs kb=some ⟨b,off,true,0,0⟩):VwOk D w vs ⟨40,optF a q nf kb,B,0,(a.ovals q).toList⟩:=by
 refine⟨h.lt,h.range,(Zow hnf).2 ⟨_,hk,?_⟩⟩;obtain⟨pf,cf,pw,cw,ps,cs,pc,cc,cp,cl,pi,ci,pI,cI⟩:=q;subst hp;rfl
theorem Z19 (d:LD) (hd:d.ok) (q:LDP) (kc sv fv wv yv:Int) (hkc:U8 kc) (hsv:U8 sv) (hfv:U8 fv) (hwv:U8 wv) (hyv : -32768<=yv∧yv<=32767) (w:World) (m:Nat) (hp:PowsAt w m) (hl:LDAt w d q) :
  Calls Tryz.prog 5 #[.agg ((ldC d q).push (.int .u8 kc)),.int .u8 sv,.int .u8 fv,.int .u8 wv,.int .i16 yv] w λe w'=>e=.returned (.bool true)∧Below w.heap.size w w':=by
 have q1:=λW (hW:Below w.heap.size w W)=>Zub d hd q kc sv fv hkc hsv hfv W (hl.below hW);have ha:=(Zme hd kc).stgd hsv hfv;have hz:(Tryz.prog.info? 30).map (·.size)=some ((ldC d q).push (.int .u8 kc)).size:=Zk;have hzo:∀a q,(Tryz.prog.info? 40).map (·.size)=some (Lns.ovals a q).size:=λ_ _=>Zk;have hns:((d.lns (d.kc kc)).stgd sv fv).ns=d.srfs.length:=rfl;have hn2:=(LD.srfs_ok hd).2.1;have hn3:=(LD.raw_ok hd).2;generalize hA:(ldC d q).push (.int .u8 kc)=A at *;generalize haa:(d.lns (d.kc kc)).stgd sv fv=a at *;have h6:2<=a.ns∧a.ns<=6:=Zo;clear hns hn2 hn3 haa hA;have hnw:=ha.base.nw;have hnf:=ha.base.nf;have hv0:IntKind.i64.wrap wv=wv:=Zcg (by have:=hwv.1;omega) (by have:=hwv.2;omega);have hu0:wv.tmod (a.nw:Int)=wv%(a.nw:Int):=Ybr hwv.1;have hk0:=Ycc wv (show(a.nw:Int)≠0 by omega);have hk1:=Ybu wv (show(0:Int)<a.nw by omega);have hv1:IntKind.i64.wrap (wv%(a.nw:Int))=wv%(a.nw:Int):=Zcg Zo Zo;have hnw0:(a.nw:Int)≠0:=Zo;have hmf:=Zs1 hnw.1;obtain⟨hy0,hy1⟩:=hyv;have hy2:IntKind.i64.wrap yv=yv:=Zcg Zo Zo;have hy3:IntKind.i64.wrap (2000+yv)=2000+yv:=Zcg Zo Zo;have hy4:IntKind.i64.wrap (2000+yv+32768)=2000+yv+32768:=Zcg Zo Zo;go_enter Tryz.func5,Tryz.ntmps5
 refine wp_seq_k (λK hK=>?_);replace hK:=Yah hK;go_wp2_with fail
 refine hK.out _ _ ?_;clear hK K;refine wp_seq_k (λK hK=>?_);replace hK:=Yah hK;go_wp2_with fail
 refine Zyq λW hB hs b0=>?_;refine(Zue W m (hp.below hB)).mono ?_;rintro e W1 ⟨rfl,hb1⟩;replace hB:=Zaa hB hb1;replace b0:=b0.below hb1;clear hs hb1;go_wp2_with fail
 refine hK.out _ _ ?_;clear hK K;refine wp_seq_k (λK hK=>?_);replace hK:=Yah hK;go_wp2_with first|(refine Zac rfl 30 _ rfl _ rfl 30 _ b0 _ Tryz.underlying30 rfl hz ?_)
 refine(q1 W1 hB).mono ?_;rintro e W2 ⟨q',rfl,ho,hb2⟩;have hB2:=Zaa hB hb2;clear q1 hb2 b0 hB;have hix:∀w:World,(Instr.index 41 (.agg (a.ovals q'++a.ovals q')) (.int .i64 0)).run Tryz.prog w=.ok (.agg (a.ovals q')) w:=λ_=>Zk;go_wp2_with first|(refine Zak rfl 40 rfl _ Zbg ?_;intro W3 B hle hB3 bo;refine Hid.out ?_)
 refine Zab rfl 40 (.tmp 11) (.tmp 34) rfl B 0 40 _ (a.ovals q') (a.ovals q') rfl rfl bo (hzo _ _) (Yaa rfl) (by simp[Lns.ovals,Value.oneCell']) rfl ?_;intro W4 hk bp;have hB4:=hk.below hB3 hle hB3.size;have hB:=Zaa hB2 hB4;clear hB3 hk bo hix;go_wp2_with fail
 refine hK.out _ _ ?_;clear hK K;refine wp_seq_k (λK hK=>?_);replace hK:=Yah hK;have c6:W4.cell? ⟨B,6,none⟩=some (.slice q'.pw a.nw q'.cw):=bp.cell 6;have l6:=bp.lt;go_wp2_with fail
 refine hK.out _ _ ?_;clear hK K;refine wp_seq_k (λK hK=>?_);replace hK:=Yah hK;clear c6;go_wp2_with first|(refine Zat rfl 32 _ _ rfl B 5 40 _ ((a.fld3 (2000+yv+32768)).ovals (q'.fld W4.heap.size)) (.slice (some ⟨W4.heap.size,0,none⟩) 3 3) rfl rfl (Z11 _ _ _ _ _) (bp.alloc _) (Yaa rfl) rfl ?_;intro W5 hk b5;refine Hid.out ?_)
 have bF:=hk.box (Box.new W4 69 #[.int .i64 0,.int .i64 0,.int .i64 0,.int .i64 1000,.int .i64 0,.int .i64 (2000+yv+32768)]) Zs Zo;have hB5:=hk.below (hB4.alloc hB4.size (.cells #[.int .i64 0,.int .i64 0,.int .i64 0,.int .i64 1000,.int .i64 0,.int .i64 (2000+yv+32768)] 69)) hle (by have:=hB4.size;simp;omega);have hs2:=hB2.size;have hB6:=Zaa hB2 hB5;have ho':=(ho.below hB5).fld3 bF;have ha':=ha.fld3 (y:=2000+yv+32768) Zo Zo;generalize hF:W4.heap.size=F at *;have hnf':(a.fld3 (2000+yv+32768)).nf=3:=rfl;have hns':(a.fld3 (2000+yv+32768)).ns=a.ns:=rfl;have hy1':(a.fld3 (2000+yv+32768)).Y 1=1000:=rfl;have hy2':(a.fld3 (2000+yv+32768)).Y 2=2000+yv+32768:=rfl;have hnw':(a.fld3 (2000+yv+32768)).nw=a.nw:=rfl;have hy0':(a.fld3 (2000+yv+32768)).Y 0=0:=rfl;generalize a.fld3 (2000+yv+32768)=a' at *;generalize hq:q'.fld F=q'' at *;have hpf:q''.pf=some ⟨F,0,none⟩:=by rw[<-hq];rfl
 go_wp2_with fail
 refine hK.out _ _ ?_;clear hK;refine Zx4 (c':=cdPfi) ?_ Zx;have hpW:=hp.below hB6;have hfw:∀D vs,VwOk D W5 vs ⟨69,fldsU a' 0 3,F,0,fldsC a' 0 3⟩:=by
  obtain⟨b,off,e,h⟩:=Zt5 ha' (nf:=3) hnf' ho';rw[hpf]at e;cases e;exact h
 obtain⟨orc,V,L,hrun,hL,rfl⟩:=Z2e ha' hns' h6 hnf' hy0' hy1' Zo q'' ho' hpW (wv%(a.nw:Int)) ⟨hk0,by rw[hnw'];exact hk1⟩;refine Zy6 (t:=10) Zde (spPf ha' hns' h6 hnf' q'' ho' hpW) [] (bkPfi a' q'') (vs:=[⟨40,optF a' q'' 3 1,B,0,(a'.ovals q'').toList⟩,⟨69,fldsU a' 0 3,F,0,fldsC a' 0 3⟩]) rfl rfl _ _ hrun hL ?_ ?_ rfl ?_
 ·intro v hv
  simp only[Ycp,List.not_mem_nil,or_false]at hv;rcases hv with rfl|rfl
  ·exact Z2f hnf' hpf b5 rfl
  ·exact hfw _ _
 ·refine Zrv (n:=159) (by rfl) ?_
  exact⟨⟨_,rfl,_,rfl,rfl⟩,⟨_,rfl,rfl⟩,trivial⟩
 ·intro a2 w' ρ' v hd' ht hv hb
  have e:v=.bool true:=by
   have:=hv.1;simpa using this
  subst e;refine bodyPost_ret (v:=.bool true) ?_ hd' ⟨rfl,Zaa hB6 hb⟩;simp[results,Tryz.results5,go_sem,ht]
end
end Go.Proofs.W
namespace Go.Proofs.YtgkmjekkefmejaaGreatDoor
open Go.RowKit Go.Mono
section
open Go Go.ChangeShapes Go.WideShapes Go.ChangeAt Go.Proofs.W
section
variable {H:Type} {enc:TypeId×Value->H} {W:World} {base:Nat} {r:Reach} {v:Value} {d:DataW H} {p:List MemPlace} {fuel:Nat} {cs:List Value} {x:DataW H×List MemPlace}
theorem Zkp (hv:Value.okWide Tryz.prog W r base 5 v) (h:DataW.Trod enc Tryz.prog W 0 (λ_=>true) true 5 v d p):∃o:Int,v=.int .u8 o∧U8 o:=by
 obtain⟨x,rfl,rfl,rfl,wx⟩:=open_int Tryz.underlying5 hv h;exact⟨x,rfl,bounds_u8 wx⟩
theorem Z2c (hv:Value.okWide Tryz.prog W r base 25 v) (h:DataW.Trod enc Tryz.prog W 0 (λ_=>true) true 25 v d p):∃o:Int,v=.int .i16 o∧-32768<=o∧o<=32767:=by
 obtain⟨x,rfl,rfl,rfl,wx⟩:=open_int Tryz.underlying25 hv h;exact⟨x,rfl,bounds_i16 wx⟩
end
theorem Zz7:ownKnob Tryz.prog.godebug=none:=Zk
theorem Zz3 (os:Os) (args:Array Value):laidMetH Tryz.prog Rows.pupilFieldsRow.laid ((World.doorLaid Tryz.prog 4000 os).forCall (λ_ _=>0) ⟨#[],args,[]⟩).memory:=
 laidMetH_of_parts3 (fuel:=8) (laidMet_of_run' 8 Zk Zk) Zk Zk
theorem Zwi {w w':World} (h:Below w.heap.size w w') (may:MemPlace->Prop):w.keptBut w' may:=
 (World.keptBut_refl w may).congr h.os h.output (λi hi=>h.block i hi)
theorem Zyr (os:Os) (started:os.Started) (H:Type) (enc:TypeId×Value->H) :
  ReturnsInHanded {} Tryz.checked os 5 .any (λw args=>(Rows.pupilFieldsSpec.pre enc Tryz.prog Tryz.f5 [] false w args∧laidMetH Tryz.prog Rows.pupilFieldsRow.laid w)∧sizedMet enc Tryz.prog Tryz.f5 (OpenSpec.ofChange Rows.pupilFieldsSpec) false w args)
   (Rows.pupilFieldsSpec.post enc Tryz.prog Tryz.f5 false true false false):=by
 refine returnsInHanded_of_change_and (C:=Tryz.checked) (X:=λw _=>laidMetH Tryz.prog Rows.pupilFieldsRow.laid w) (λ_ _ _ hh h=>h.of_heap hh) Zz7 started Zk Tryz.func5
  (ChangeSpec.witness_shaped (enc:=enc) (C:=Tryz.checked) (os:=os) (X:=λw _=>laidMetH Tryz.prog Rows.pupilFieldsRow.laid w) false (World.doorLaid Tryz.prog 4000 os) #[.agg #[.slice none 0 0,.int .u8 0,.int .u16 0,.int .u8 0,.slice none 0 0,.slice none 0 0,.int .u8 0,.int .i16 0,.slice none 0 0,.int .u8 0],.int .u8 0,.int .u8 0,.int .u8 0,.int .i16 0] 8 rfl (World.shaped_of_RefB Zk Zk) Zk Zk Zk (Zz3 os _)) ?_
 intro W base args ds gs before hval0 hW _ hsz0 hL _;have hval:∀(j:Nat) t v,Tryz.f5.params[j]? = some t->args[j]? = some v->Value.okWide Tryz.prog W .any base t v:=hval0;have hW':=hW;obtain⟨p,q,hA0,hV,rfl,hfz,hnd⟩:=hW;have hA:DataW.TrodAll enc Tryz.prog W 0 (λ_=>true) true Tryz.f5.params.toList args.toList ds p:=hA0;have hAk:=hA;have hsz:(DataW.weightsEach Tryz.prog (Tryz.f5.params.toList++Rows.pupilFieldsSpec.plain.varTypes Tryz.prog) (ds++gs)).all (·<=reachBytes)=true:=hsz0;rw[Tryz.params5]at hA hval hsz;obtain⟨args⟩:=args;obtain⟨v0,vs0,d0,ds0,p0,ps0,ev0,rfl,rfl,h0,r0⟩:=trodAll_cons hA;obtain⟨v1,vs1,d1,ds1,p1,ps1,ev1,rfl,rfl,h1,r1⟩:=trodAll_cons r0;obtain⟨v2,vs2,d2,ds2,p2,ps2,ev2,rfl,rfl,h2,r2⟩:=trodAll_cons r1;obtain⟨v3,vs3,d3,ds3,p3,ps3,ev3,rfl,rfl,h3,r3⟩:=trodAll_cons r2;obtain⟨v4,vs4,d4,ds4,p4,ps4,ev4,rfl,rfl,h4,r4⟩:=trodAll_cons r3;obtain⟨rfl,rfl,rfl⟩:=trodAll_nil r4;cases ev0;cases ev1;cases ev2;cases ev3;cases ev4;obtain⟨rfl,rfl⟩:=trodVars_none hV;obtain⟨a,qd,kc,ha,hkc,rfl,hat⟩:=Zqi (hval 0 30 _ rfl rfl) h0 (λn hn=>by simpa using Ybn.1 hsz _ (Ydb (j:=0) (t:=30) rfl rfl n hn));obtain⟨u1,rfl,g1⟩:=Zkp (hval 1 5 _ rfl rfl) h1;obtain⟨u2,rfl,g2⟩:=Zkp (hval 2 5 _ rfl rfl) h2;obtain⟨u3,rfl,g3⟩:=Zkp (hval 3 5 _ rfl rfl) h3;obtain⟨u4,rfl,g4⟩:=Z2c (hval 4 25 _ rfl rfl) h4;obtain⟨m,hp⟩:=Zlu hL;simp only[Ydg]at hW' hAk;refine(Z19 a ha qd kc u1 u2 u3 u4 hkc g1 g2 g3 g4 W m hp hat).mono λe W' ⟨he,hw⟩=>?_;subst he;refine⟨_,rfl,_,_,_,[],_,[],hW',?_,Zhq Zte hw _ _ _ _ (by rw[Tryz.params5];kernel_rfl) hAk (λx hx=>by simpa using hW'.lt x hx),?_,Zwi hw _,λh=>by cases h⟩
 ·exact trodAll_mk1 (shut_bool Tryz.underlying4 true)
 ·rfl
theorem Zz8:Tryz.pinned.checked.prog.funcNamed Rows.pupilFieldsRow.func=some 5:=Zk
theorem Zz9:decide (Func.isInstance Tryz.pinned.checked.prog Tryz.f5 Rows.pupilFieldsRow.origin Rows.pupilFieldsRow.targs)=true:=Zk
theorem Z0a:Func.isWrapper Tryz.pinned.checked.prog Tryz.f5 Rows.pupilFieldsRow.wrapper Rows.pupilFieldsRow.mainSum:=by
 unfold Func.isWrapper;rw[if_neg (by decide +kernel)];exact⟨rfl,rfl⟩
theorem Z0b:Rows.PupilFieldsSaid:=
 OpenClaim.holds_of_wide 5 Tryz.f5 rfl rfl rfl rfl rfl rfl rfl ⟨rfl,rfl,rfl,rfl,rfl⟩ rfl rfl rfl rfl rfl Zz8 Tryz.func5 Zz6
  (of_decide_eq_true Zz9) Z0a
  (λos started H enc _=>Zyr os started H enc)
theorem pupilFields_holds:Rows.PupilFieldsCardSaid:=
 Claim7.holds_tied_plain_at .later [] [.mappedDeep,.funcs] true (true,"792c2a7c9ab4a89d2d7b041313bbdc98b57968229197c6c616c0a64b1e272d5b") true
  Z0b (λ_ h=>by cases h) Zx (λ_ h=>by cases h) pupilFields_row_tie rfl ⟨rfl,rfl⟩ Zx rfl
  (λf fn hf hfn=>by
   obtain rfl:f=5:=Yej ((show Tryz.prog.funcNamed "monocle/monoclelaw19.PupilFields" = some 5 by as_aux_lemma=>kernel_rfl).symm.trans hf) |>.symm
   obtain rfl:fn=Tryz.f5:=(Yej (Tryz.func5.symm.trans hfn)).symm;exact⟨Zx,λj t ht=>by
    rw[Tryz.params5]at ht;have hm:t∈[30,5,5,5,25]:=by simpa using Array.mem_of_getElem? ht
    have hall:([30,5,5,5,25].all λu=>!Tryz.prog.wantsStandIn u)=true:=Zx;exact(show Tryz.prog.wantsStandIn t=false by simpa using Ybn.1 hall t hm)⟩)
  Zx
#print axioms pupilFields_holds
end
end Go.Proofs.YtgkmjekkefmejaaGreatDoor
