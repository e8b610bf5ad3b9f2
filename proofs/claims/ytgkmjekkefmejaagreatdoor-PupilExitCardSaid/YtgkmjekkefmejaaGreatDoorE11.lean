/- The law PupilExit: the chief ray meets the center of the exit pupil,the marginal ray its edge;its contracts,its walk and its card. Part 11 of 11. No condition beside the row. -/
import Derived.Test.YtgkmjekkefmejaaGreatDoorTie
import Derived.Test.YtgkmjekkefmejaaGreatDoorCards
import Derived.SevenTiedAt
import Derived.Deep.Onto
import Derived.Test.YtgkmjekkefmejaaGreatDoorA26
import Derived.Test.YtgkmjekkefmejaaGreatDoorD13
import Derived.Test.YtgkmjekkefmejaaGreatDoorE01
import Derived.Test.YtgkmjekkefmejaaGreatDoorE03
import Derived.Test.YtgkmjekkefmejaaGreatDoorE07
import Derived.Test.YtgkmjekkefmejaaGreatDoorE10
set_option linter.unusedVariables false
set_option linter.unusedSimpArgs false
set_option maxRecDepth 100000
set_option maxHeartbeats 4000000
namespace Go.Proofs.W
open Go.RowKit Go.Mono
section
open Go.Ex
theorem Z1j (d:LD) (hd:d.ok) (q:LDP) (kc sv fv lv:Int) (hkc:U8 kc) (hsv:U8 sv) (hfv:U8 fv) (hlv:U8 lv) (w:World) (m:Nat) (hp:PowsAt w m) (hl:LDAt w d q) :
  Calls Tryz.prog 4 #[.agg ((ldC d q).push (.int .u8 kc)),.int .u8 sv,.int .u8 fv,.int .u8 lv] w λe w'=>e=.returned (.bool true)∧Below w.heap.size w w':=by
 have q1:=λW (hW:Below w.heap.size w W)=>Zub d hd q kc sv fv hkc hsv hfv W (hl.below hW);have ha:=(Zme hd kc).stgd hsv hfv;have hz:(Tryz.prog.info? 30).map (·.size)=some ((ldC d q).push (.int .u8 kc)).size:=Zk;have hzo:∀a q,(Tryz.prog.info? 40).map (·.size)=some (Lns.ovals a q).size:=λ_ _=>Zk;have hns:((d.lns (d.kc kc)).stgd sv fv).ns=d.srfs.length:=rfl;have hn2:=(LD.srfs_ok hd).2.1;have hn3:=(LD.raw_ok hd).2;generalize hA:(ldC d q).push (.int .u8 kc)=A at *;generalize haa:(d.lns (d.kc kc)).stgd sv fv=a at *;have h6:2<=a.ns∧a.ns<=6:=Zo;clear hns hn2 hn3 haa hA;have hnw:=ha.base.nw;have hnf:=ha.base.nf;have hv0:IntKind.i64.wrap lv=lv:=Zcg (by have:=hlv.1;omega) (by have:=hlv.2;omega);have hu0:lv.tmod (a.nf:Int)=lv%(a.nf:Int):=Ybr hlv.1;have hf0:=Ycc lv (show(a.nf:Int)≠0 by omega);have hf1:=Ybu lv (show(0:Int)<a.nf by omega);have hv1:IntKind.i64.wrap (lv%(a.nf:Int))=lv%(a.nf:Int):=Zcg Zo Zo;have hnf0:(a.nf:Int)≠0:=Zo;have hmf:=Zs1 hnf.1;go_enter Tryz.func4,Tryz.ntmps4
 refine wp_seq_k (λK hK=>?_);replace hK:=Yah hK;go_wp2_with fail
 refine hK.out _ _ ?_;clear hK K;refine wp_seq_k (λK hK=>?_);replace hK:=Yah hK;go_wp2_with fail
 refine Zyq λW hB hs b0=>?_;refine(Zue W m (hp.below hB)).mono ?_;rintro e W1 ⟨rfl,hb1⟩;replace hB:=Zaa hB hb1;replace b0:=b0.below hb1;clear hs hb1;go_wp2_with fail
 refine hK.out _ _ ?_;clear hK K;refine wp_seq_k (λK hK=>?_);replace hK:=Yah hK;go_wp2_with first|(refine Zac rfl 30 _ rfl _ rfl 30 _ b0 _ Tryz.underlying30 rfl hz ?_)
 refine(q1 W1 hB).mono ?_;rintro e W2 ⟨q',rfl,ho,hb2⟩;have hB2:=Zaa hB hb2;clear q1 hb2 b0 hB;have hix:∀w:World,(Instr.index 41 (.agg (a.ovals q'++a.ovals q')) (.int .i64 0)).run Tryz.prog w=.ok (.agg (a.ovals q')) w:=λ_=>Zk;go_wp2_with first|(refine Zak rfl 40 rfl _ Zbg ?_;intro W3 B hle hB3 bo;refine Hid.out ?_)
 refine Zab rfl 40 (.tmp 9) (.tmp 34) rfl B 0 40 _ (a.ovals q') (a.ovals q') rfl rfl bo (hzo _ _) (Yaa rfl) (by simp[Lns.ovals,Value.oneCell']) rfl ?_;intro W4 hk bp;have hB4:=hk.below hB3 hle hB3.size;replace ho:=ho.below hB4;have hB:=Zaa hB2 hB4;clear hB4 hB3 hk hle bo hB2 hix;go_wp2_with fail
 refine hK.out _ _ ?_;clear hK K;refine wp_seq_k (λK hK=>?_);replace hK:=Yah hK;have c4:W4.cell? ⟨B,4,none⟩=some (.int .i64 a.pr):=bp.cell 4;have c5:W4.cell? ⟨B,5,none⟩=some (.slice q'.pf a.nf q'.cf):=bp.cell 5;have l6:=bp.lt;have hr0:((a.nf:Int)==0)=false:=by simpa using hnf0
 have hr1:decide ((a.nf:Int)=0)=false:=decide_eq_false hnf0;have hr2:¬(a.nf=0):=Zo;go_quiet (fail)
 go_wp2_with fail
 refine hK.out _ _ ?_;clear hK K;have hb5:Below W4.heap.size W4 (W4.drewN nq):=below_drewN (Yae _ _) nq;replace ho:=ho.below hb5;replace bp:=bp.below hb5;replace hB:=Zaa hB hb5;clear c4 c5 l6;generalize W4.drewN nq=W5 at *;refine Zx4 (c':=cdPex) ?_ Zx;have hpW:=hp.below hB;obtain⟨bs,os,hps,hsv⟩:=Zhd ha (ns:=a.ns) rfl ho;obtain⟨orc,V,L,hrun,hL,rfl⟩:=Z1n ha rfl h6 q' ho hpW (lv%(a.nf:Int)) ⟨hf0,hf1⟩;refine Zy6 (t:=8) Zde (spPw ha rfl h6 q' ho hpW) [] (bkPst a q' a.ns) (vs:=[⟨40,optU a q' a.ns 1,B,0,(a.ovals q').toList⟩,⟨85,srfsU a q' 0 a.ns,bs,os,srfsC a q' 0 a.ns⟩]) rfl rfl _ _ hrun hL ?_ ?_ rfl ?_
 ·intro v hv
  simp only[Ycp,List.not_mem_nil,or_false]at hv;rcases hv with rfl|rfl
  ·exact Zzc rfl hps bp rfl
  ·exact hsv _ _
 ·refine Zrv (n:=123) (by rfl) ?_
  exact⟨⟨_,rfl,_,rfl,rfl⟩,⟨_,rfl,rfl⟩,⟨_,rfl,rfl⟩,trivial⟩
 ·intro a' w' ρ' v hd' ht hv hb
  have e:v=.bool true:=by
   have:=hv.1;simpa using this
  subst e;refine bodyPost_ret (v:=.bool true) ?_ hd' ⟨rfl,Zaa hB hb⟩;simp[results,Tryz.results4,go_sem,ht]
end
end Go.Proofs.W
namespace Go.Proofs.YtgkmjekkefmejaaGreatDoor
open Go.RowKit Go.Mono
section
open Go Go.ChangeShapes Go.WideShapes Go.ChangeAt Go.Proofs.W
section
variable {H:Type} {enc:TypeId×Value->H} {W:World} {base:Nat} {r:Reach} {v:Value} {d:DataW H} {p:List MemPlace} {fuel:Nat} {cs:List Value} {x:DataW H×List MemPlace}
theorem Zkp (hv:Value.okWide Tryz.prog W r base 5 v) (h:DataW.Trod enc Tryz.prog W 0 (λ_=>true) true 5 v d p):∃o:Int,v=.int .u8 o∧U8 o:=by
 obtain⟨x,rfl,rfl,rfl,wx⟩:=open_int Tryz.underlying5 hv h;exact⟨x,rfl,bounds_u8 wx⟩
end
theorem Zz7:ownKnob Tryz.prog.godebug=none:=Zk
theorem Zz3 (os:Os) (args:Array Value):laidMetH Tryz.prog Rows.pupilExitRow.laid ((World.doorLaid Tryz.prog 4000 os).forCall (λ_ _=>0) ⟨#[],args,[]⟩).memory:=
 laidMetH_of_parts3 (fuel:=8) (laidMet_of_run' 8 Zk Zk) Zk Zk
theorem Zwi {w w':World} (h:Below w.heap.size w w') (may:MemPlace->Prop):w.keptBut w' may:=
 (World.keptBut_refl w may).congr h.os h.output (λi hi=>h.block i hi)
theorem Zyr (os:Os) (started:os.Started) (H:Type) (enc:TypeId×Value->H) :
  ReturnsInHanded {} Tryz.checked os 4 .any (λw args=>(Rows.pupilExitSpec.pre enc Tryz.prog Tryz.f4 [] false w args∧laidMetH Tryz.prog Rows.pupilExitRow.laid w)∧sizedMet enc Tryz.prog Tryz.f4 (OpenSpec.ofChange Rows.pupilExitSpec) false w args)
   (Rows.pupilExitSpec.post enc Tryz.prog Tryz.f4 false true false false):=by
 refine returnsInHanded_of_change_and (C:=Tryz.checked) (X:=λw _=>laidMetH Tryz.prog Rows.pupilExitRow.laid w) (λ_ _ _ hh h=>h.of_heap hh) Zz7 started Zk Tryz.func4
  (ChangeSpec.witness_shaped (enc:=enc) (C:=Tryz.checked) (os:=os) (X:=λw _=>laidMetH Tryz.prog Rows.pupilExitRow.laid w) false (World.doorLaid Tryz.prog 4000 os) #[.agg #[.slice none 0 0,.int .u8 0,.int .u16 0,.int .u8 0,.slice none 0 0,.slice none 0 0,.int .u8 0,.int .i16 0,.slice none 0 0,.int .u8 0],.int .u8 0,.int .u8 0,.int .u8 0] 8 rfl (World.shaped_of_RefB Zk Zk) Zk Zk Zk (Zz3 os _)) ?_
 intro W base args ds gs before hval0 hW _ hsz0 hL _;have hval:∀(j:Nat) t v,Tryz.f4.params[j]? = some t->args[j]? = some v->Value.okWide Tryz.prog W .any base t v:=hval0;have hW':=hW;obtain⟨p,q,hA0,hV,rfl,hfz,hnd⟩:=hW;have hA:DataW.TrodAll enc Tryz.prog W 0 (λ_=>true) true Tryz.f4.params.toList args.toList ds p:=hA0;have hAk:=hA;have hsz:(DataW.weightsEach Tryz.prog (Tryz.f4.params.toList++Rows.pupilExitSpec.plain.varTypes Tryz.prog) (ds++gs)).all (·<=reachBytes)=true:=hsz0;rw[Tryz.params4]at hA hval hsz;obtain⟨args⟩:=args;obtain⟨v0,vs0,d0,ds0,p0,ps0,ev0,rfl,rfl,h0,r0⟩:=trodAll_cons hA;obtain⟨v1,vs1,d1,ds1,p1,ps1,ev1,rfl,rfl,h1,r1⟩:=trodAll_cons r0;obtain⟨v2,vs2,d2,ds2,p2,ps2,ev2,rfl,rfl,h2,r2⟩:=trodAll_cons r1;obtain⟨v3,vs3,d3,ds3,p3,ps3,ev3,rfl,rfl,h3,r3⟩:=trodAll_cons r2;obtain⟨rfl,rfl,rfl⟩:=trodAll_nil r3;cases ev0;cases ev1;cases ev2;cases ev3;obtain⟨rfl,rfl⟩:=trodVars_none hV;obtain⟨a,qd,kc,ha,hkc,rfl,hat⟩:=Zqi (hval 0 30 _ rfl rfl) h0 (λn hn=>by simpa using Ybn.1 hsz _ (Ydb (j:=0) (t:=30) rfl rfl n hn));obtain⟨u1,rfl,g1⟩:=Zkp (hval 1 5 _ rfl rfl) h1;obtain⟨u2,rfl,g2⟩:=Zkp (hval 2 5 _ rfl rfl) h2;obtain⟨u3,rfl,g3⟩:=Zkp (hval 3 5 _ rfl rfl) h3;obtain⟨m,hp⟩:=Zlu hL;simp only[Ydg]at hW' hAk;refine(Z1j a ha qd kc u1 u2 u3 hkc g1 g2 g3 W m hp hat).mono λe W' ⟨he,hw⟩=>?_;subst he;refine⟨_,rfl,_,_,_,[],_,[],hW',?_,Zhq Zte hw _ _ _ _ (by rw[Tryz.params4];kernel_rfl) hAk (λx hx=>by simpa using hW'.lt x hx),?_,Zwi hw _,λh=>by cases h⟩
 ·exact trodAll_mk1 (shut_bool Tryz.underlying4 true)
 ·rfl
theorem Zz8:Tryz.pinned.checked.prog.funcNamed Rows.pupilExitRow.func=some 4:=Zk
theorem Zz9:decide (Func.isInstance Tryz.pinned.checked.prog Tryz.f4 Rows.pupilExitRow.origin Rows.pupilExitRow.targs)=true:=Zk
theorem Z0a:Func.isWrapper Tryz.pinned.checked.prog Tryz.f4 Rows.pupilExitRow.wrapper Rows.pupilExitRow.mainSum:=by
 unfold Func.isWrapper;rw[if_neg (by decide +kernel)];exact⟨rfl,rfl⟩
theorem Z0b:Rows.PupilExitSaid:=
 OpenClaim.holds_of_wide 4 Tryz.f4 rfl rfl rfl rfl rfl rfl rfl ⟨rfl,rfl,rfl,rfl,rfl⟩ rfl rfl rfl rfl rfl Zz8 Tryz.func4 Zz6
  (of_decide_eq_true Zz9) Z0a
  (λos started H enc _=>Zyr os started H enc)
theorem pupilExit_holds:Rows.PupilExitCardSaid:=
 Claim7.holds_tied_plain_at .later [] [.mappedDeep,.funcs] true (true,"792c2a7c9ab4a89d2d7b041313bbdc98b57968229197c6c616c0a64b1e272d5b") true
  Z0b (λ_ h=>by cases h) Zx (λ_ h=>by cases h) pupilExit_row_tie rfl ⟨rfl,rfl⟩ Zx rfl
  (λf fn hf hfn=>by
   obtain rfl:f=4:=Yej ((show Tryz.prog.funcNamed "monocle/monoclelaw19.PupilExit" = some 4 by as_aux_lemma=>kernel_rfl).symm.trans hf) |>.symm
   obtain rfl:fn=Tryz.f4:=(Yej (Tryz.func4.symm.trans hfn)).symm;exact⟨Zx,λj t ht=>by
    rw[Tryz.params4]at ht;have hm:t∈[30,5,5,5]:=by simpa using Array.mem_of_getElem? ht
    have hall:([30,5,5,5].all λu=>!Tryz.prog.wantsStandIn u)=true:=Zx;exact(show Tryz.prog.wantsStandIn t=false by simpa using Ybn.1 hall t hm)⟩)
  Zx
#print axioms pupilExit_holds
end
end Go.Proofs.YtgkmjekkefmejaaGreatDoor
