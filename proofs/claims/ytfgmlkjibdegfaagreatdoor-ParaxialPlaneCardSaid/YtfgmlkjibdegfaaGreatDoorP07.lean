/- The law ParaxialPlane: its walk and its card. Part 7 of 7. No condition beside the row. -/
import Derived.Test.YtfgmlkjibdegfaaGreatDoorTie
import Derived.Test.YtfgmlkjibdegfaaGreatDoorCards
import Derived.SevenTiedAt
import Derived.Deep.Onto
import Derived.Test.YtfgmlkjibdegfaaGreatDoorD01
import Derived.Test.YtfgmlkjibdegfaaGreatDoorD16
import Derived.Test.YtfgmlkjibdegfaaGreatDoorP06
set_option linter.unusedVariables false
set_option linter.unusedSimpArgs false
set_option maxRecDepth 100000
set_option maxHeartbeats 4000000
namespace Go.Proofs.YtfgmlkjibdegfaaGreatDoor
open Go.RowKit Go.Mono
section
open Go Go.ChangeShapes Go.WideShapes Go.ChangeAt Go.Proofs.W
section
variable {H:Type} {enc:TypeId×Value->H} {W:World} {base:Nat} {r:Reach} {v:Value} {d:DataW H} {p:List MemPlace} {fuel:Nat} {cs:List Value} {x:DataW H×List MemPlace}
theorem Zwt (hv:Value.okWide Tryz.prog W r base 5 v) (h:DataW.Trod enc Tryz.prog W 0 (λ_=>true) true 5 v d p):∃o:Int,v=.int .u8 o∧U8 o:=by
 obtain⟨x,rfl,rfl,rfl,wx⟩:=open_int Tryz.underlying5 hv h;exact⟨x,rfl,bounds_u8 wx⟩
theorem Zgk (hv:Value.okWide Tryz.prog W r base 32 v) (h:DataW.Trod enc Tryz.prog W 0 (λ_=>true) true 32 v d p):∃n d:Int,NumD n d∧v=.agg #[.int .i16 n,.int .u8 d]:=by
 obtain⟨cs,rfl,_⟩:=okWide_struct Tryz.underlying32 hv;obtain⟨fuel,hf⟩:=h;obtain⟨n,d,h1,h2,e⟩:=Zrx hf;exact⟨n,d,⟨h1,h2⟩,congrArg Value.agg (Yfo e)⟩
end
theorem Zxn:ownKnob Tryz.prog.godebug=none:=Zk
theorem Zxm (os:Os) (args:Array Value):laidMetH Tryz.prog Rows.paraxialPlaneRow.laid ((World.doorLaid Tryz.prog 4000 os).forCall (λ_ _=>0) ⟨#[],args,[]⟩).memory:=
 laidMetH_of_parts3 (fuel:=8) (laidMet_of_run' 8 Zk Zk) Zk Zk
theorem Zun {w w':World} (h:Below w.heap.size w w') (may:MemPlace->Prop):w.keptBut w' may:=
 (World.keptBut_refl w may).congr h.os h.output (λi hi=>h.block i hi)
theorem Zwu (os:Os) (started:os.Started) (H:Type) (enc:TypeId×Value->H) :
  ReturnsInHanded {} Tryz.checked os 10 .any (λw args=>(Rows.paraxialPlaneSpec.pre enc Tryz.prog Tryz.f10 [] false w args∧laidMetH Tryz.prog Rows.paraxialPlaneRow.laid w)∧sizedMet enc Tryz.prog Tryz.f10 (OpenSpec.ofChange Rows.paraxialPlaneSpec) false w args)
   (Rows.paraxialPlaneSpec.post enc Tryz.prog Tryz.f10 false true false false):=by
 refine returnsInHanded_of_change_and (C:=Tryz.checked) (X:=λw _=>laidMetH Tryz.prog Rows.paraxialPlaneRow.laid w) (λ_ _ _ hh h=>h.of_heap hh) Zxn started Zk Tryz.func10
  (ChangeSpec.witness_shaped (enc:=enc) (C:=Tryz.checked) (os:=os) (X:=λw _=>laidMetH Tryz.prog Rows.paraxialPlaneRow.laid w) false (World.doorLaid Tryz.prog 4000 os) #[.agg #[.slice none 0 0,.int .u8 0,.int .u16 0,.int .u8 0,.slice none 0 0,.slice none 0 0,.int .u8 0,.int .i16 0,.slice none 0 0,.int .u8 0],.int .u8 0,.agg #[.int .i16 0,.int .u8 0],.agg #[.int .i16 0,.int .u8 0]] 8 rfl (World.shaped_of_RefB Zk Zk) Zk Zk Zk (Zxm os _)) ?_
 intro W base args ds gs before hval0 hW _ hsz0 hL _;have hval:∀(j:Nat) t v,Tryz.f10.params[j]? = some t->args[j]? = some v->Value.okWide Tryz.prog W .any base t v:=hval0;have hW':=hW;obtain⟨p,q,hA0,hV,rfl,hfz,hnd⟩:=hW;have hA:DataW.TrodAll enc Tryz.prog W 0 (λ_=>true) true Tryz.f10.params.toList args.toList ds p:=hA0;have hAk:=hA;have hsz:(DataW.weightsEach Tryz.prog (Tryz.f10.params.toList++Rows.paraxialPlaneSpec.plain.varTypes Tryz.prog) (ds++gs)).all (·<=reachBytes)=true:=hsz0;rw[Tryz.params10]at hA hval hsz;obtain⟨args⟩:=args;obtain⟨v0,vs0,d0,ds0,p0,ps0,ev0,rfl,rfl,h0,r0⟩:=trodAll_cons hA;obtain⟨v1,vs1,d1,ds1,p1,ps1,ev1,rfl,rfl,h1,r1⟩:=trodAll_cons r0;obtain⟨v2,vs2,d2,ds2,p2,ps2,ev2,rfl,rfl,h2,r2⟩:=trodAll_cons r1;obtain⟨v3,vs3,d3,ds3,p3,ps3,ev3,rfl,rfl,h3,r3⟩:=trodAll_cons r2;obtain⟨rfl,rfl,rfl⟩:=trodAll_nil r3;cases ev0;cases ev1;cases ev2;cases ev3;obtain⟨rfl,rfl⟩:=trodVars_none hV;obtain⟨a,qd,kc,ha,hkc,rfl,hat⟩:=Zpb (hval 0 30 _ rfl rfl) h0 (λn hn=>by simpa using Ybn.1 hsz _ (Ydb (j:=0) (t:=30) rfl rfl n hn));obtain⟨wv,rfl,hwv⟩:=Zwt (hval 1 5 _ rfl rfl) h1;obtain⟨n1,e1,g1,rfl⟩:=Zgk (hval 2 32 _ rfl rfl) h2;obtain⟨n2,e2,g2,rfl⟩:=Zgk (hval 3 32 _ rfl rfl) h3;obtain⟨m,hp⟩:=Zk1 hL;simp only[Ydg]at hW' hAk;refine(Zzj a ha qd kc wv n1 e1 n2 e2 hkc hwv g1 g2 W m hp hat).mono λe W' ⟨he,hw⟩=>?_;subst he;refine⟨_,rfl,_,_,_,[],_,[],hW',?_,Zhe Zrw hw _ _ _ _ (by rw[Tryz.params10];kernel_rfl) hAk (λx hx=>by simpa using hW'.lt x hx),?_,Zun hw _,λh=>by cases h⟩
 ·exact trodAll_mk1 (shut_bool Tryz.underlying4 true)
 ·rfl
theorem Zxo:Tryz.pinned.checked.prog.funcNamed Rows.paraxialPlaneRow.func=some 10:=Zk
theorem Zxp:joinedFacts Tryz.pinned.checked.prog 10 Tryz.f10 Rows.paraxialPlaneSpec Rows.paraxialPlaneRow=true:=Zk
theorem Zxq:decide (Func.isInstance Tryz.pinned.checked.prog Tryz.f10 Rows.paraxialPlaneRow.origin Rows.paraxialPlaneRow.targs)=true:=Zk
theorem Zxr:Func.isWrapper Tryz.pinned.checked.prog Tryz.f10 Rows.paraxialPlaneRow.wrapper Rows.paraxialPlaneRow.mainSum:=by
 unfold Func.isWrapper;rw[if_neg (by decide +kernel)];exact⟨rfl,rfl⟩
theorem Zxs:Rows.ParaxialPlaneSaid:=
 OpenClaim.holds_of_wide 10 Tryz.f10 rfl rfl rfl rfl rfl rfl rfl ⟨rfl,rfl,rfl,rfl,rfl⟩ rfl rfl rfl rfl rfl Zxo Tryz.func10 Zxp
  (of_decide_eq_true Zxq) Zxr
  (λos started H enc _=>Zwu os started H enc)
theorem paraxialPlane_holds:Rows.ParaxialPlaneCardSaid:=
 Claim7.holds_tied_plain_at .later [] [.mappedDeep,.funcs] true (true,"ee47a9b820aaae3b9a1f4f450b7cc36fad91c4334c3bbfe8c4976af5c4311255") true
  Zxs (λ_ h=>by cases h) Zk (λ_ h=>by cases h) paraxialPlane_row_tie rfl ⟨rfl,rfl⟩ Zk rfl
  (λf fn hf hfn=>by
   obtain rfl:f=10:=Yej ((show Tryz.prog.funcNamed "monocle/monoclelaw17.ParaxialPlane" = some 10 by kernel_rfl).symm.trans hf) |>.symm
   obtain rfl:fn=Tryz.f10:=(Yej (Tryz.func10.symm.trans hfn)).symm;exact⟨Zk,λj t ht=>by
    rw[Tryz.params10]at ht;have hm:t∈[30,5,32,32]:=by simpa using Array.mem_of_getElem? ht
    have hall:([30,5,32,32].all λu=>!Tryz.prog.wantsStandIn u)=true:=Zk;exact(show Tryz.prog.wantsStandIn t=false by simpa using Ybn.1 hall t hm)⟩)
  Zk
#print axioms paraxialPlane_holds
end
end Go.Proofs.YtfgmlkjibdegfaaGreatDoor
