/- The law MatrixUnit: its walk and its card. Part 5 of 5. No condition beside the row. -/
import Derived.Test.YtdocaccajammkaaGreatDoorTie
import Derived.Test.YtdocaccajammkaaGreatDoorCards
import Derived.SevenTiedAt
import Derived.Deep.Onto
import Derived.Test.YtdocaccajammkaaGreatDoorA25
import Derived.Test.YtdocaccajammkaaGreatDoorD15
import Derived.Test.YtdocaccajammkaaGreatDoorU01
import Derived.Test.YtdocaccajammkaaGreatDoorU04
set_option linter.unusedVariables false
set_option linter.unusedSimpArgs false
set_option maxRecDepth 100000
set_option maxHeartbeats 4000000
namespace Go.Proofs.YtdocaccajammkaaGreatDoor
open Go.RowKit Go.Mono
section
open Go Go.ChangeShapes Go.WideShapes Go.ChangeAt Go.Proofs.W
section
variable {H:Type} {enc:TypeId×Value->H} {W:World} {base:Nat} {r:Reach} {v:Value} {d:DataW H} {p:List MemPlace} {fuel:Nat} {cs:List Value} {x:DataW H×List MemPlace}
theorem open_u8 (hv:Value.okWide Tryz.prog W r base 5 v) (h:DataW.Trod enc Tryz.prog W 0 (λ_=>true) true 5 v d p):∃o:Int,v=.int .u8 o∧U8 o:=by
 obtain⟨x,rfl,rfl,rfl,wx⟩:=open_int Tryz.underlying5 hv h;exact⟨x,rfl,bounds_u8 wx⟩
end
theorem ownP:ownKnob Tryz.prog.godebug=none:=Zk
theorem doorP (os:Os) (args:Array Value):laidMetH Tryz.prog Rows.matrixUnitRow.laid ((World.doorLaid Tryz.prog 4000 os).forCall (λ_ _=>0) ⟨#[],args,[]⟩).memory:=
 laidMetH_of_parts3 (fuel:=8) (laidMet_of_run' 8 Zk Zk) Zk Zk
theorem keptButP {w w':World} (h:Below w.heap.size w w') (may:MemPlace->Prop):w.keptBut w' may:=
 (World.keptBut_refl w may).congr h.os h.output (λi hi=>h.block i hi)
theorem liftedP (os:Os) (started:os.Started) (H:Type) (enc:TypeId×Value->H) :
  ReturnsInHanded {} Tryz.checked os 4 .any (λw args=>(Rows.matrixUnitSpec.pre enc Tryz.prog Tryz.f4 [] false w args∧laidMetH Tryz.prog Rows.matrixUnitRow.laid w)∧sizedMet enc Tryz.prog Tryz.f4 (OpenSpec.ofChange Rows.matrixUnitSpec) false w args)
   (Rows.matrixUnitSpec.post enc Tryz.prog Tryz.f4 false true false false):=by
 refine returnsInHanded_of_change_and (C:=Tryz.checked) (X:=λw _=>laidMetH Tryz.prog Rows.matrixUnitRow.laid w) (λ_ _ _ hh h=>h.of_heap hh) ownP started Zk Tryz.func4
  (ChangeSpec.witness_shaped (enc:=enc) (C:=Tryz.checked) (os:=os) (X:=λw _=>laidMetH Tryz.prog Rows.matrixUnitRow.laid w) false (World.doorLaid Tryz.prog 4000 os) #[.agg #[.slice none 0 0,.int .u8 0,.int .u16 0,.int .u8 0,.slice none 0 0,.slice none 0 0,.int .u8 0,.int .i16 0,.slice none 0 0,.int .u8 0],.int .u8 0,.int .u8 0,.int .u8 0,.int .u8 0] 8 rfl (World.shaped_of_RefB Zk Zk) Zk Zk Zk (doorP os _)) ?_
 intro W base args ds gs before hval0 hW _ hsz0 hL _;have hval:∀(j:Nat) t v,Tryz.f4.params[j]? = some t->args[j]? = some v->Value.okWide Tryz.prog W .any base t v:=hval0;have hW':=hW;obtain⟨p,q,hA0,hV,rfl,hfz,hnd⟩:=hW;have hA:DataW.TrodAll enc Tryz.prog W 0 (λ_=>true) true Tryz.f4.params.toList args.toList ds p:=hA0;have hAk:=hA;have hsz:(DataW.weightsEach Tryz.prog (Tryz.f4.params.toList++Rows.matrixUnitSpec.plain.varTypes Tryz.prog) (ds++gs)).all (·<=reachBytes)=true:=hsz0;rw[Tryz.params4]at hA hval hsz;obtain⟨args⟩:=args;obtain⟨v0,vs0,d0,ds0,p0,ps0,ev0,rfl,rfl,h0,r0⟩:=trodAll_cons hA;obtain⟨v1,vs1,d1,ds1,p1,ps1,ev1,rfl,rfl,h1,r1⟩:=trodAll_cons r0;obtain⟨v2,vs2,d2,ds2,p2,ps2,ev2,rfl,rfl,h2,r2⟩:=trodAll_cons r1;obtain⟨v3,vs3,d3,ds3,p3,ps3,ev3,rfl,rfl,h3,r3⟩:=trodAll_cons r2;obtain⟨v4,vs4,d4,ds4,p4,ps4,ev4,rfl,rfl,h4,r4⟩:=trodAll_cons r3;obtain⟨rfl,rfl,rfl⟩:=trodAll_nil r4;cases ev0;cases ev1;cases ev2;cases ev3;cases ev4;obtain⟨rfl,rfl⟩:=trodVars_none hV;obtain⟨a,qd,kc,ha,hkc,rfl,hat⟩:=Zfw (hval 0 30 _ rfl rfl) h0 (λn hn=>by simpa using Ybn.1 hsz _ (Ydb (j:=0) (t:=30) rfl rfl n hn));obtain⟨u1,rfl,g1⟩:=open_u8 (hval 1 5 _ rfl rfl) h1;obtain⟨u2,rfl,g2⟩:=open_u8 (hval 2 5 _ rfl rfl) h2;obtain⟨u3,rfl,g3⟩:=open_u8 (hval 3 5 _ rfl rfl) h3;obtain⟨u4,rfl,g4⟩:=open_u8 (hval 4 5 _ rfl rfl) h4;obtain⟨m,hp⟩:=Zdy hL;simp only[Ydg]at hW' hAk;refine(Zts a ha qd kc u1 u2 u3 u4 hkc g1 g2 g3 g4 W m hp hat).mono λe W' ⟨he,hw⟩=>?_;subst he;refine⟨_,rfl,_,_,_,[],_,[],hW',?_,Zc0 Zht hw _ _ _ _ (by rw[Tryz.params4];kernel_rfl) hAk (λx hx=>by simpa using hW'.lt x hx),?_,keptButP hw _,λh=>by cases h⟩
 ·exact trodAll_mk1 (shut_bool Tryz.underlying4 true)
 ·rfl
theorem rf1P:Tryz.pinned.checked.prog.funcNamed Rows.matrixUnitRow.func=some 4:=Zk
theorem rf3P:decide (Func.isInstance Tryz.pinned.checked.prog Tryz.f4 Rows.matrixUnitRow.origin Rows.matrixUnitRow.targs)=true:=Zk
theorem rf4P:Func.isWrapper Tryz.pinned.checked.prog Tryz.f4 Rows.matrixUnitRow.wrapper Rows.matrixUnitRow.mainSum:=by
 unfold Func.isWrapper;rw[if_neg (by decide +kernel)];exact⟨rfl,rfl⟩
theorem rowP:Rows.MatrixUnitSaid:=
 OpenClaim.holds_of_wide 4 Tryz.f4 rfl rfl rfl rfl rfl rfl rfl ⟨rfl,rfl,rfl,rfl,rfl⟩ rfl rfl rfl rfl rfl rf1P Tryz.func4 rf2P
  (of_decide_eq_true rf3P) rf4P
  (λos started H enc _=>liftedP os started H enc)
theorem matrixUnit_holds:Rows.MatrixUnitCardSaid:=
 Claim7.holds_tied_plain_at .later [] [.mappedDeep,.funcs] true (true,"3a62ee03f7226f04b3b5da08d1041f694ee80ee4c332b020359286b00d3eb84a") true
  rowP (λ_ h=>by cases h) Zk (λ_ h=>by cases h) matrixUnit_row_tie rfl ⟨rfl,rfl⟩ Zk rfl
  (λf fn hf hfn=>by
   obtain rfl:f=4:=Yej ((show Tryz.prog.funcNamed "monocle/monoclelaw18.MatrixUnit" = some 4 by kernel_rfl).symm.trans hf) |>.symm
   obtain rfl:fn=Tryz.f4:=(Yej (Tryz.func4.symm.trans hfn)).symm;exact⟨Zk,λj t ht=>by
    rw[Tryz.params4]at ht;have hm:t∈[30,5,5,5,5]:=by simpa using Array.mem_of_getElem? ht
    have hall:([30,5,5,5,5].all λu=>!Tryz.prog.wantsStandIn u)=true:=Zk;exact(show Tryz.prog.wantsStandIn t=false by simpa using Ybn.1 hall t hm)⟩)
  Zk
#print axioms matrixUnit_holds
end
end Go.Proofs.YtdocaccajammkaaGreatDoor
