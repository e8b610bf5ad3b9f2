/- The law PupilStop: the chief ray meets the center of the stop,and at the entrance pupil its center,the marginal ray its edge;its contracts,its walk and its card. Part 11 of 11. No condition beside the row. -/
import Derived.Test.YtgkmjekkefmejaaGreatDoorTie
import Derived.Test.YtgkmjekkefmejaaGreatDoorCards
import Derived.SevenTiedAt
import Derived.Deep.Onto
import Derived.Test.YtgkmjekkefmejaaGreatDoorA26
import Derived.Test.YtgkmjekkefmejaaGreatDoorD13
import Derived.Test.YtgkmjekkefmejaaGreatDoorS01
import Derived.Test.YtgkmjekkefmejaaGreatDoorS10
set_option linter.unusedVariables false
set_option linter.unusedSimpArgs false
set_option maxRecDepth 100000
set_option maxHeartbeats 4000000
namespace Go.Proofs.YtgkmjekkefmejaaGreatDoor
open Go.RowKit Go.Mono
section
open Go Go.ChangeShapes Go.WideShapes Go.ChangeAt Go.Proofs.W
section
variable {H:Type} {enc:TypeId×Value->H} {W:World} {base:Nat} {r:Reach} {v:Value} {d:DataW H} {p:List MemPlace} {fuel:Nat} {cs:List Value} {x:DataW H×List MemPlace}
theorem Zkp (hv:Value.okWide Tryz.prog W r base 5 v) (h:DataW.Trod enc Tryz.prog W 0 (λ_=>true) true 5 v d p):∃o:Int,v=.int .u8 o∧U8 o:=by
 obtain⟨x,rfl,rfl,rfl,wx⟩:=open_int Tryz.underlying5 hv h;exact⟨x,rfl,bounds_u8 wx⟩
end
theorem Zz7:ownKnob Tryz.prog.godebug=none:=Zk
theorem Zz3 (os:Os) (args:Array Value):laidMetH Tryz.prog Rows.pupilStopRow.laid ((World.doorLaid Tryz.prog 4000 os).forCall (λ_ _=>0) ⟨#[],args,[]⟩).memory:=
 laidMetH_of_parts3 (fuel:=8) (laidMet_of_run' 8 Zk Zk) Zk Zk
theorem Zwi {w w':World} (h:Below w.heap.size w w') (may:MemPlace->Prop):w.keptBut w' may:=
 (World.keptBut_refl w may).congr h.os h.output (λi hi=>h.block i hi)
theorem Zyr (os:Os) (started:os.Started) (H:Type) (enc:TypeId×Value->H) :
  ReturnsInHanded {} Tryz.checked os 6 .any (λw args=>(Rows.pupilStopSpec.pre enc Tryz.prog Tryz.f6 [] false w args∧laidMetH Tryz.prog Rows.pupilStopRow.laid w)∧sizedMet enc Tryz.prog Tryz.f6 (OpenSpec.ofChange Rows.pupilStopSpec) false w args)
   (Rows.pupilStopSpec.post enc Tryz.prog Tryz.f6 false true false false):=by
 refine returnsInHanded_of_change_and (C:=Tryz.checked) (X:=λw _=>laidMetH Tryz.prog Rows.pupilStopRow.laid w) (λ_ _ _ hh h=>h.of_heap hh) Zz7 started Zk Tryz.func6
  (ChangeSpec.witness_shaped (enc:=enc) (C:=Tryz.checked) (os:=os) (X:=λw _=>laidMetH Tryz.prog Rows.pupilStopRow.laid w) false (World.doorLaid Tryz.prog 4000 os) #[.agg #[.slice none 0 0,.int .u8 0,.int .u16 0,.int .u8 0,.slice none 0 0,.slice none 0 0,.int .u8 0,.int .i16 0,.slice none 0 0,.int .u8 0],.int .u8 0,.int .u8 0,.int .u8 0] 8 rfl (World.shaped_of_RefB Zk Zk) Zk Zk Zk (Zz3 os _)) ?_
 intro W base args ds gs before hval0 hW _ hsz0 hL _;have hval:∀(j:Nat) t v,Tryz.f6.params[j]? = some t->args[j]? = some v->Value.okWide Tryz.prog W .any base t v:=hval0;have hW':=hW;obtain⟨p,q,hA0,hV,rfl,hfz,hnd⟩:=hW;have hA:DataW.TrodAll enc Tryz.prog W 0 (λ_=>true) true Tryz.f6.params.toList args.toList ds p:=hA0;have hAk:=hA;have hsz:(DataW.weightsEach Tryz.prog (Tryz.f6.params.toList++Rows.pupilStopSpec.plain.varTypes Tryz.prog) (ds++gs)).all (·<=reachBytes)=true:=hsz0;rw[Tryz.params6]at hA hval hsz;obtain⟨args⟩:=args;obtain⟨v0,vs0,d0,ds0,p0,ps0,ev0,rfl,rfl,h0,r0⟩:=trodAll_cons hA;obtain⟨v1,vs1,d1,ds1,p1,ps1,ev1,rfl,rfl,h1,r1⟩:=trodAll_cons r0;obtain⟨v2,vs2,d2,ds2,p2,ps2,ev2,rfl,rfl,h2,r2⟩:=trodAll_cons r1;obtain⟨v3,vs3,d3,ds3,p3,ps3,ev3,rfl,rfl,h3,r3⟩:=trodAll_cons r2;obtain⟨rfl,rfl,rfl⟩:=trodAll_nil r3;cases ev0;cases ev1;cases ev2;cases ev3;obtain⟨rfl,rfl⟩:=trodVars_none hV;obtain⟨a,qd,kc,ha,hkc,rfl,hat⟩:=Zqi (hval 0 30 _ rfl rfl) h0 (λn hn=>by simpa using Ybn.1 hsz _ (Ydb (j:=0) (t:=30) rfl rfl n hn));obtain⟨u1,rfl,g1⟩:=Zkp (hval 1 5 _ rfl rfl) h1;obtain⟨u2,rfl,g2⟩:=Zkp (hval 2 5 _ rfl rfl) h2;obtain⟨u3,rfl,g3⟩:=Zkp (hval 3 5 _ rfl rfl) h3;obtain⟨m,hp⟩:=Zlu hL;simp only[Ydg]at hW' hAk;refine(Z0p a ha qd kc u1 u2 u3 hkc g1 g2 g3 W m hp hat).mono λe W' ⟨he,hw⟩=>?_;subst he;refine⟨_,rfl,_,_,_,[],_,[],hW',?_,Zhq Zte hw _ _ _ _ (by rw[Tryz.params6];kernel_rfl) hAk (λx hx=>by simpa using hW'.lt x hx),?_,Zwi hw _,λh=>by cases h⟩
 ·exact trodAll_mk1 (shut_bool Tryz.underlying4 true)
 ·rfl
theorem Zz8:Tryz.pinned.checked.prog.funcNamed Rows.pupilStopRow.func=some 6:=Zk
theorem Zz9:decide (Func.isInstance Tryz.pinned.checked.prog Tryz.f6 Rows.pupilStopRow.origin Rows.pupilStopRow.targs)=true:=Zk
theorem Z0a:Func.isWrapper Tryz.pinned.checked.prog Tryz.f6 Rows.pupilStopRow.wrapper Rows.pupilStopRow.mainSum:=by
 unfold Func.isWrapper;rw[if_neg (by decide +kernel)];exact⟨rfl,rfl⟩
theorem Z0b:Rows.PupilStopSaid:=
 OpenClaim.holds_of_wide 6 Tryz.f6 rfl rfl rfl rfl rfl rfl rfl ⟨rfl,rfl,rfl,rfl,rfl⟩ rfl rfl rfl rfl rfl Zz8 Tryz.func6 Zz6
  (of_decide_eq_true Zz9) Z0a
  (λos started H enc _=>Zyr os started H enc)
theorem pupilStop_holds:Rows.PupilStopCardSaid:=
 Claim7.holds_tied_plain_at .later [] [.mappedDeep,.funcs] true (true,"792c2a7c9ab4a89d2d7b041313bbdc98b57968229197c6c616c0a64b1e272d5b") true
  Z0b (λ_ h=>by cases h) Zx (λ_ h=>by cases h) pupilStop_row_tie rfl ⟨rfl,rfl⟩ Zx rfl
  (λf fn hf hfn=>by
   obtain rfl:f=6:=Yej ((show Tryz.prog.funcNamed "monocle/monoclelaw19.PupilStop" = some 6 by as_aux_lemma=>kernel_rfl).symm.trans hf) |>.symm
   obtain rfl:fn=Tryz.f6:=(Yej (Tryz.func6.symm.trans hfn)).symm;exact⟨Zx,λj t ht=>by
    rw[Tryz.params6]at ht;have hm:t∈[30,5,5,5]:=by simpa using Array.mem_of_getElem? ht
    have hall:([30,5,5,5].all λu=>!Tryz.prog.wantsStandIn u)=true:=Zx;exact(show Tryz.prog.wantsStandIn t=false by simpa using Ybn.1 hall t hm)⟩)
  Zx
#print axioms pupilStop_holds
end
end Go.Proofs.YtgkmjekkefmejaaGreatDoor
