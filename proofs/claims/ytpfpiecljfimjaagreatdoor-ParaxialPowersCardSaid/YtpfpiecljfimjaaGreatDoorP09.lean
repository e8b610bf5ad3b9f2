/- The law ParaxialPowers: Index and Power equal the reference,its walk by a verified evaluator,and its card. Part 9 of 9. No condition beside the row. -/
import Derived.Test.YtpfpiecljfimjaaGreatDoorTie
import Derived.Test.YtpfpiecljfimjaaGreatDoorCards
import Derived.SevenTiedAt
import Derived.Deep.Onto
import Derived.Test.YtpfpiecljfimjaaGreatDoorA24
import Derived.Test.YtpfpiecljfimjaaGreatDoorD11
import Derived.Test.YtpfpiecljfimjaaGreatDoorP01
import Derived.Test.YtpfpiecljfimjaaGreatDoorP08
set_option linter.unusedVariables false
set_option linter.unusedSimpArgs false
set_option maxRecDepth 100000
set_option maxHeartbeats 4000000
namespace Go.Proofs.YtpfpiecljfimjaaGreatDoor
open Go.RowKit Go.Mono
section
open Go Go.ChangeShapes Go.WideShapes Go.ChangeAt Go.Proofs.W
section
variable {H:Type} {enc:TypeId×Value->H} {W:World} {base:Nat} {r:Reach} {v:Value} {d:DataW H} {p:List MemPlace} {fuel:Nat} {cs:List Value} {x:DataW H×List MemPlace}
theorem Zxm (hv:Value.okWide Tryz.prog W r base 5 v) (h:DataW.Trod enc Tryz.prog W 0 (λ_=>true) true 5 v d p):∃o:Int,v=.int .u8 o∧U8 o:=by
 obtain⟨x,rfl,rfl,rfl,wx⟩:=open_int Tryz.underlying5 hv h;exact⟨x,rfl,bounds_u8 wx⟩
theorem Zoe (hv:Value.okWide Tryz.prog W r base 3 v) (h:DataW.Trod enc Tryz.prog W 0 (λ_=>true) true 3 v d p):∃o:Int,v=.int .i64 o:=by
 obtain⟨x,rfl,rfl,rfl,wx⟩:=open_int Tryz.underlying3 hv h;exact⟨x,rfl⟩
theorem Zp4 (hv:Value.okWide Tryz.prog W r base 31 v) (h:DataW.Trod enc Tryz.prog W 0 (λ_=>true) true 31 v d p) :
  ∃s0 s1:Int,v=.agg #[.int .u8 s0,.int .u8 s1]∧U8 s0∧U8 s1:=by
 have hc:Tryz.prog.cellsOf 31=2:=Zk;have h1:Tryz.prog.cellsOf 5=1:=Zk;obtain⟨cs,rfl,hs⟩:∃cs,v=.agg cs∧cs.size=2:=by
  simp only[Value.okWide,Tryz.underlying31]at hv;obtain⟨cs,e,hs,_⟩:=hv;exact⟨cs,e,hs.trans hc⟩
 obtain⟨fuel,hf⟩:=h;obtain⟨xs,m,rfl,_,_,hx,hel⟩:=DataW.trod_array Tryz.underlying31 hf;match cs,hs,xs,hx with
 | ⟨[c0, c1]⟩, _, [x0, x1], _ =>
   have e0:=hel 0 Zo;have e1:=hel 1 Zo;simp[h1,Value.cells]at e0 e1;obtain⟨s0,k0,_,w0⟩:=Ybh Tryz.underlying5 e0;obtain⟨s1,k1,_,w1⟩:=Ybh Tryz.underlying5 e1;cases k0;cases k1;exact⟨s0,s1,rfl,bounds_u8 w0,bounds_u8 w1⟩
end
theorem Zzq:ownKnob Tryz.prog.godebug=none:=Zk
theorem Zzm (os:Os) (args:Array Value):laidMetH Tryz.prog Rows.paraxialPowersRow.laid ((World.doorLaid Tryz.prog 4000 os).forCall (λ_ _=>0) ⟨#[],args,[]⟩).memory:=
 laidMetH_of_parts3 (fuel:=8) (laidMet_of_run' 8 Zk Zk) Zk Zk
theorem Zvh {w w':World} (h:Below w.heap.size w w') (may:MemPlace->Prop):w.keptBut w' may:=
 (World.keptBut_refl w may).congr h.os h.output (λi hi=>h.block i hi)
theorem Zxn (os:Os) (started:os.Started) (H:Type) (enc:TypeId×Value->H) :
  ReturnsInHanded {} Tryz.checked os 3 .any (λw args=>(Rows.paraxialPowersSpec.pre enc Tryz.prog Tryz.f3 [] false w args∧laidMetH Tryz.prog Rows.paraxialPowersRow.laid w)∧sizedMet enc Tryz.prog Tryz.f3 (OpenSpec.ofChange Rows.paraxialPowersSpec) false w args)
   (Rows.paraxialPowersSpec.post enc Tryz.prog Tryz.f3 false true false false):=by
 refine returnsInHanded_of_change_and (C:=Tryz.checked) (X:=λw _=>laidMetH Tryz.prog Rows.paraxialPowersRow.laid w) (λ_ _ _ hh h=>h.of_heap hh) Zzq started Zk Tryz.func3
  (ChangeSpec.witness_shaped (enc:=enc) (C:=Tryz.checked) (os:=os) (X:=λw _=>laidMetH Tryz.prog Rows.paraxialPowersRow.laid w) false (World.doorLaid Tryz.prog 4000 os) #[.agg #[.slice none 0 0,.int .u8 0,.int .u16 0,.int .u8 0,.slice none 0 0,.slice none 0 0,.int .u8 0,.int .i16 0,.slice none 0 0,.int .u8 0],.int .u8 0,.int .i64 0,.int .i64 0,.agg #[.int .u8 0,.int .u8 0]] 8 rfl (World.shaped_of_RefB Zk Zk) Zk Zk Zk (Zzm os _)) ?_
 intro W base args ds gs before hval0 hW _ hsz0 hL _;have hval:∀(j:Nat) t v,Tryz.f3.params[j]? = some t->args[j]? = some v->Value.okWide Tryz.prog W .any base t v:=hval0;have hW':=hW;obtain⟨p,q,hA0,hV,rfl,hfz,hnd⟩:=hW;have hA:DataW.TrodAll enc Tryz.prog W 0 (λ_=>true) true Tryz.f3.params.toList args.toList ds p:=hA0;have hAk:=hA;have hsz:(DataW.weightsEach Tryz.prog (Tryz.f3.params.toList++Rows.paraxialPowersSpec.plain.varTypes Tryz.prog) (ds++gs)).all (·<=reachBytes)=true:=hsz0;rw[Tryz.params3]at hA hval hsz;obtain⟨args⟩:=args;obtain⟨v0,vs0,d0,ds0,p0,ps0,ev0,rfl,rfl,h0,r0⟩:=trodAll_cons hA;obtain⟨v1,vs1,d1,ds1,p1,ps1,ev1,rfl,rfl,h1,r1⟩:=trodAll_cons r0;obtain⟨v2,vs2,d2,ds2,p2,ps2,ev2,rfl,rfl,h2,r2⟩:=trodAll_cons r1;obtain⟨v3,vs3,d3,ds3,p3,ps3,ev3,rfl,rfl,h3,r3⟩:=trodAll_cons r2;obtain⟨v4,vs4,d4,ds4,p4,ps4,ev4,rfl,rfl,h4,r4⟩:=trodAll_cons r3;obtain⟨rfl,rfl,rfl⟩:=trodAll_nil r4;cases ev0;cases ev1;cases ev2;cases ev3;cases ev4;obtain⟨rfl,rfl⟩:=trodVars_none hV;obtain⟨a,qd,kc,ha,hkc,rfl,hat⟩:=Zpr (hval 0 30 _ rfl rfl) h0 (λn hn=>by simpa using Ybn.1 hsz _ (Ydb (j:=0) (t:=30) rfl rfl n hn));obtain⟨u1,rfl,g1⟩:=Zxm (hval 1 5 _ rfl rfl) h1;obtain⟨u2,rfl⟩:=Zoe (hval 2 3 _ rfl rfl) h2;obtain⟨u3,rfl⟩:=Zoe (hval 3 3 _ rfl rfl) h3;obtain⟨x4,y4,rfl,gx4,gy4⟩:=Zp4 (hval 4 31 _ rfl rfl) h4;obtain⟨m,hp⟩:=Zk4 hL;simp only[Ydg]at hW' hAk;refine(Ztl a ha qd kc u1 u2 u3 x4 y4 hkc g1 gx4 gy4 W m hp hat).mono λe W' ⟨he,hw⟩=>?_;subst he;refine⟨_,rfl,_,_,_,[],_,[],hW',?_,Zhf Zsj hw _ _ _ _ (by rw[Tryz.params3];kernel_rfl) hAk (λx hx=>by simpa using hW'.lt x hx),?_,Zvh hw _,λh=>by cases h⟩
 ·exact trodAll_mk1 (shut_bool Tryz.underlying4 true)
 ·rfl
theorem Zzr:Tryz.pinned.checked.prog.funcNamed Rows.paraxialPowersRow.func=some 3:=Zk
theorem Zzs:decide (Func.isInstance Tryz.pinned.checked.prog Tryz.f3 Rows.paraxialPowersRow.origin Rows.paraxialPowersRow.targs)=true:=Zk
theorem Zzt:Func.isWrapper Tryz.pinned.checked.prog Tryz.f3 Rows.paraxialPowersRow.wrapper Rows.paraxialPowersRow.mainSum:=by
 unfold Func.isWrapper;rw[if_neg (by decide +kernel)];exact⟨rfl,rfl⟩
theorem Zzu:Rows.ParaxialPowersSaid:=
 OpenClaim.holds_of_wide 3 Tryz.f3 rfl rfl rfl rfl rfl rfl rfl ⟨rfl,rfl,rfl,rfl,rfl⟩ rfl rfl rfl rfl rfl Zzr Tryz.func3 Zzp
  (of_decide_eq_true Zzs) Zzt
  (λos started H enc _=>Zxn os started H enc)
theorem paraxialPowers_holds:Rows.ParaxialPowersCardSaid:=
 Claim7.holds_tied_plain_at .later [] [.mappedDeep,.funcs] true (true,"300c7b034b53d6d50c4ff8d52d0149b3fbb6c8e4ba3746384c8bd09b1e951267") true
  Zzu (λ_ h=>by cases h) Zx (λ_ h=>by cases h) paraxialPowers_row_tie rfl ⟨rfl,rfl⟩ Zx rfl
  (λf fn hf hfn=>by
   obtain rfl:f=3:=Yej ((show Tryz.prog.funcNamed "monocle/monoclelaw17.ParaxialPowers" = some 3 by as_aux_lemma=>kernel_rfl).symm.trans hf) |>.symm
   obtain rfl:fn=Tryz.f3:=(Yej (Tryz.func3.symm.trans hfn)).symm;exact⟨Zx,λj t ht=>by
    rw[Tryz.params3]at ht;have hm:t∈[30,5,3,3,31]:=by simpa using Array.mem_of_getElem? ht
    have hall:([30,5,3,3,31].all λu=>!Tryz.prog.wantsStandIn u)=true:=Zx;exact(show Tryz.prog.wantsStandIn t=false by simpa using Ybn.1 hall t hm)⟩)
  Zx
#print axioms paraxialPowers_holds
end
end Go.Proofs.YtpfpiecljfimjaaGreatDoor
