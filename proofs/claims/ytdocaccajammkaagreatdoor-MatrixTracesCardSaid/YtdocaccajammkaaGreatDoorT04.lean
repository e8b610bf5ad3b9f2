/- The law MatrixTraces: its walk and its card. Part 4 of 4. No condition beside the row. -/
import Derived.Test.YtdocaccajammkaaGreatDoorTie
import Derived.Test.YtdocaccajammkaaGreatDoorCards
import Derived.SevenTiedAt
import Derived.Deep.Onto
import Derived.Test.YtdocaccajammkaaGreatDoorA25
import Derived.Test.YtdocaccajammkaaGreatDoorA26
import Derived.Test.YtdocaccajammkaaGreatDoorA27
import Derived.Test.YtdocaccajammkaaGreatDoorD15
import Derived.Test.YtdocaccajammkaaGreatDoorD18
import Derived.Test.YtdocaccajammkaaGreatDoorT01
import Derived.Test.YtdocaccajammkaaGreatDoorT03
set_option linter.unusedVariables false
set_option linter.unusedSimpArgs false
set_option maxRecDepth 100000
set_option maxHeartbeats 4000000
namespace Go.Mono
open Go.RowKit
section
section
variable {P:Program} {f:FuncId} {args:Array Value} {R:Ending->World->Prop} {w:World} {T0 T1 T2:TypeId} {c0 c1 c2:Array Value}
theorem Zxo (h:∀W,Below w.heap.size w W->w.heap.size+3<=W.heap.size->Box W (w.heap.size) T0 c0->Box W (w.heap.size+1) T1 c1->Box W (w.heap.size+1+1) T2 c2->Calls P f args W R) :
  Calls P f args (((w.alloc (.cells c0 T0)).alloc (.cells c1 T1)).alloc (.cells c2 T2)) R:=by
 have b2:=Box.new ((w.alloc (.cells c0 T0)).alloc (.cells c1 T1)) T2 c2;simp only[Yav]at b2;have b1:=Box.new (w.alloc (.cells c0 T0)) T1 c1;simp only[Yav]at b1;exact h _ ((((Yae _ _).alloc (Yab _) _).alloc Zs _).alloc (by simp;omega) _) Zs (((Box.new _ _ _).alloc _).alloc _) (b1.alloc _) b2
end
end
end Go.Mono
namespace Go.Proofs.W
open Go.RowKit Go.Mono
section
open Go.Ex
theorem Ztp (d:LD) (hd:d.ok) (q:LDP) (kc wv n1 d1 n2 d2:Int) (hkc:U8 kc) (hwv:U8 wv) (h1:NumD n1 d1) (h2:NumD n2 d2) (w:World) (m:Nat) (hp:PowsAt w m) (hl:LDAt w d q) :
  Calls Tryz.prog 5 #[.agg ((ldC d q).push (.int .u8 kc)),.int .u8 wv,.agg #[.int .i16 n1,.int .u8 d1],.agg #[.int .i16 n2,.int .u8 d2]] w λe w'=>e=.returned (.bool true)∧Below w.heap.size w w':=by
 have q1:=λW (hW:Below w.heap.size w W)=>Zej d hd q kc hkc W (hl.below hW);have ha:=Zh4 hd kc;have hz:(Tryz.prog.info? 30).map (·.size)=some ((ldC d q).push (.int .u8 kc)).size:=Zk;have hzo:∀a q,(Tryz.prog.info? 40).map (·.size)=some (Lns.ovals a q).size:=λ_ _=>Zk;have hns:(d.lns (d.kc kc)).ns=d.srfs.length:=rfl;have hn2:=(LD.srfs_ok hd).2.1;have hn3:=(LD.raw_ok hd).2;generalize hA:(ldC d q).push (.int .u8 kc)=A at *;generalize haa:d.lns (d.kc kc)=a at *;have hnw:=ha.base.nw;have hw0:IntKind.i64.wrap wv=wv:=Zdg (by have:=hwv.1;omega) (by have:=hwv.2;omega);have ht0:wv.tmod (a.nw:Int)=wv%(a.nw:Int):=Ybr hwv.1;have hk0:=Ycc wv (show(a.nw:Int)≠0 by omega);have hk1:=Ybu wv (show(0:Int)<a.nw by omega);have hw1:IntKind.i64.wrap (wv%(a.nw:Int))=wv%(a.nw:Int):=Zdg Zo Zo;have hne:(a.nw:Int)≠0:=Zo;have hmx:=Zm2 hnw.1;go_enter Tryz.func5,Tryz.ntmps5
 refine wp_seq_k (λK hK=>?_);replace hK:=Yah hK;go_wp2_with fail
 refine hK.out _ _ ?_;clear hK K;refine wp_seq_k (λK hK=>?_);replace hK:=Yah hK;go_wp2_with fail
 refine Zxo λW hB hs b0 b1 b2=>?_;refine(Zhk W m (hp.below hB)).mono ?_;rintro e W1 ⟨rfl,hb1⟩;replace hB:=Zaa hB hb1;replace b0:=b0.below hb1;replace b1:=b1.below hb1;replace b2:=b2.below hb1;clear hs hb1;go_wp2_with fail
 refine hK.out _ _ ?_;clear hK K;refine wp_seq_k (λK hK=>?_);replace hK:=Yah hK;go_wp2_with first|(refine Zac rfl 30 _ rfl _ rfl 30 _ b0 _ Tryz.underlying30 rfl hz ?_)
 refine(q1 W1 hB).mono ?_;rintro e W2 ⟨q',rfl,ho,hb2⟩;have hB2:=Zaa hB hb2;replace b1:=b1.below hb2;replace b2:=b2.below hb2;clear q1 hb2 b0 hB;go_wp2_with first|(refine Zan rfl 40 rfl _ Zb6 ?_;intro W3 B hle hB3 bo;refine Hid.out ?_)
 refine Zab rfl 40 (.tmp 9) (.tmp 23) rfl B 0 40 _ (a.ovals q') (a.ovals q') rfl rfl bo (hzo _ _) (Yaa rfl) (by simp[Lns.ovals,Value.oneCell']) rfl ?_;intro W4 hk bp;have hB4:=hk.below hB3 hle hB3.size;replace b1:=b1.below hB4;replace b2:=b2.below hB4;replace ho:=ho.below hB4;have hB:=Zaa hB2 hB4;clear hB4 hB3 hk hle bo hB2;go_wp2_with fail
 refine hK.out _ _ ?_;clear hK K;refine wp_seq_k (λK hK=>?_);replace hK:=Yah hK;have c6:W4.cell? ⟨B,6,none⟩=some (.slice q'.pw a.nw q'.cw):=bp.cell 6;have l6:=bp.lt;go_wp2_with fail
 refine hK.out _ _ ?_;clear hK K;refine Zm1 (c':=cdMtr) ?_ Zx;have hpW:=hp.below hB;have h6:2<=d.srfs.length∧d.srfs.length<=6:=Zo;obtain⟨bs,os,hps,hsv⟩:=Zfp ha (ns:=d.srfs.length) hns ho;obtain⟨orc,V,L,hrun,hL,rfl⟩:=Zxn ha hns h6 q' ho hpW (wv%(a.nw:Int)) ⟨hk0,hk1⟩ n1 d1 n2 d2 h1 h2;refine Zre (t:=8) Zdt (spMx ha hns h6 ho hpW) [] (bkMtr a q' d.srfs.length n1 d1 n2 d2) (vs:=[⟨73,[.sml .i16 n1,.sml .u8 d1],w.heap.size+1,0,[.int .i16 n1,.int .u8 d1]⟩,⟨73,[.sml .i16 n2,.sml .u8 d2],w.heap.size+1+1,0,[.int .i16 n2,.int .u8 d2]⟩,⟨40,optU a q' d.srfs.length 3,B,0,(a.ovals q').toList⟩,⟨160,srfsU a q' 0 d.srfs.length,bs,os,srfsC a q' 0 d.srfs.length⟩]) rfl rfl _ _ hrun hL ?_ ?_ rfl ?_
 ·intro v hv
  simp only[Ycp,List.not_mem_nil,or_false]at hv;rcases hv with rfl|rfl|rfl|rfl
  ·exact Zvo b1
  ·exact Zvo b2
  ·exact Zsc hns hps bp rfl
  ·exact hsv _ _
 ·refine Zg0 (n:=107) (by rfl) ?_
  exact⟨⟨_,rfl,_,rfl,rfl⟩,⟨_,rfl,_,rfl,rfl⟩,⟨_,rfl,_,rfl,rfl⟩,⟨_,rfl,rfl⟩,trivial⟩
 ·intro a' w' ρ' v hd' ht hv hb
  have e:v=.bool true:=by
   have:=hv.1;simpa using this
  subst e;refine bodyPost_ret (v:=.bool true) ?_ hd' ⟨rfl,Zaa hB hb⟩;simp[results,Tryz.results5,go_sem,ht]
end
end Go.Proofs.W
namespace Go.Proofs.YtdocaccajammkaaGreatDoor
open Go.RowKit Go.Mono
section
open Go Go.ChangeShapes Go.WideShapes Go.ChangeAt Go.Proofs.W
section
variable {H:Type} {enc:TypeId×Value->H} {W:World} {base:Nat} {r:Reach} {v:Value} {d:DataW H} {p:List MemPlace} {fuel:Nat} {cs:List Value} {x:DataW H×List MemPlace}
theorem open_u8 (hv:Value.okWide Tryz.prog W r base 5 v) (h:DataW.Trod enc Tryz.prog W 0 (λ_=>true) true 5 v d p):∃o:Int,v=.int .u8 o∧U8 o:=by
 obtain⟨x,rfl,rfl,rfl,wx⟩:=open_int Tryz.underlying5 hv h;exact⟨x,rfl,bounds_u8 wx⟩
theorem Zor (hv:Value.okWide Tryz.prog W r base 73 v) (h:DataW.Trod enc Tryz.prog W 0 (λ_=>true) true 73 v d p):∃n d:Int,NumD n d∧v=.agg #[.int .i16 n,.int .u8 d]:=by
 obtain⟨cs,rfl,_⟩:=okWide_struct Tryz.underlying73 hv;obtain⟨fuel,hf⟩:=h;obtain⟨n,d,h1,h2,e⟩:=Zsx hf;exact⟨n,d,⟨h1,h2⟩,congrArg Value.agg (Yfo e)⟩
end
theorem ownP:ownKnob Tryz.prog.godebug=none:=Zk
theorem doorP (os:Os) (args:Array Value):laidMetH Tryz.prog Rows.matrixTracesRow.laid ((World.doorLaid Tryz.prog 4000 os).forCall (λ_ _=>0) ⟨#[],args,[]⟩).memory:=
 laidMetH_of_parts3 (fuel:=8) (laidMet_of_run' 8 Zk Zk) Zk Zk
theorem keptButP {w w':World} (h:Below w.heap.size w w') (may:MemPlace->Prop):w.keptBut w' may:=
 (World.keptBut_refl w may).congr h.os h.output (λi hi=>h.block i hi)
theorem liftedP (os:Os) (started:os.Started) (H:Type) (enc:TypeId×Value->H) :
  ReturnsInHanded {} Tryz.checked os 5 .any (λw args=>(Rows.matrixTracesSpec.pre enc Tryz.prog Tryz.f5 [] false w args∧laidMetH Tryz.prog Rows.matrixTracesRow.laid w)∧sizedMet enc Tryz.prog Tryz.f5 (OpenSpec.ofChange Rows.matrixTracesSpec) false w args)
   (Rows.matrixTracesSpec.post enc Tryz.prog Tryz.f5 false true false false):=by
 refine returnsInHanded_of_change_and (C:=Tryz.checked) (X:=λw _=>laidMetH Tryz.prog Rows.matrixTracesRow.laid w) (λ_ _ _ hh h=>h.of_heap hh) ownP started Zk Tryz.func5
  (ChangeSpec.witness_shaped (enc:=enc) (C:=Tryz.checked) (os:=os) (X:=λw _=>laidMetH Tryz.prog Rows.matrixTracesRow.laid w) false (World.doorLaid Tryz.prog 4000 os) #[.agg #[.slice none 0 0,.int .u8 0,.int .u16 0,.int .u8 0,.slice none 0 0,.slice none 0 0,.int .u8 0,.int .i16 0,.slice none 0 0,.int .u8 0],.int .u8 0,.agg #[.int .i16 0,.int .u8 0],.agg #[.int .i16 0,.int .u8 0]] 8 rfl (World.shaped_of_RefB Zk Zk) Zk Zk Zk (doorP os _)) ?_
 intro W base args ds gs before hval0 hW _ hsz0 hL _;have hval:∀(j:Nat) t v,Tryz.f5.params[j]? = some t->args[j]? = some v->Value.okWide Tryz.prog W .any base t v:=hval0;have hW':=hW;obtain⟨p,q,hA0,hV,rfl,hfz,hnd⟩:=hW;have hA:DataW.TrodAll enc Tryz.prog W 0 (λ_=>true) true Tryz.f5.params.toList args.toList ds p:=hA0;have hAk:=hA;have hsz:(DataW.weightsEach Tryz.prog (Tryz.f5.params.toList++Rows.matrixTracesSpec.plain.varTypes Tryz.prog) (ds++gs)).all (·<=reachBytes)=true:=hsz0;rw[Tryz.params5]at hA hval hsz;obtain⟨args⟩:=args;obtain⟨v0,vs0,d0,ds0,p0,ps0,ev0,rfl,rfl,h0,r0⟩:=trodAll_cons hA;obtain⟨v1,vs1,d1,ds1,p1,ps1,ev1,rfl,rfl,h1,r1⟩:=trodAll_cons r0;obtain⟨v2,vs2,d2,ds2,p2,ps2,ev2,rfl,rfl,h2,r2⟩:=trodAll_cons r1;obtain⟨v3,vs3,d3,ds3,p3,ps3,ev3,rfl,rfl,h3,r3⟩:=trodAll_cons r2;obtain⟨rfl,rfl,rfl⟩:=trodAll_nil r3;cases ev0;cases ev1;cases ev2;cases ev3;obtain⟨rfl,rfl⟩:=trodVars_none hV;obtain⟨a,qd,kc,ha,hkc,rfl,hat⟩:=Zfw (hval 0 30 _ rfl rfl) h0 (λn hn=>by simpa using Ybn.1 hsz _ (Ydb (j:=0) (t:=30) rfl rfl n hn));obtain⟨u1,rfl,g1⟩:=open_u8 (hval 1 5 _ rfl rfl) h1;obtain⟨n2,e2,g2,rfl⟩:=Zor (hval 2 73 _ rfl rfl) h2;obtain⟨n3,e3,g3,rfl⟩:=Zor (hval 3 73 _ rfl rfl) h3;obtain⟨m,hp⟩:=Zdy hL;simp only[Ydg]at hW' hAk;refine(Ztp a ha qd kc u1 n2 e2 n3 e3 hkc g1 g2 g3 W m hp hat).mono λe W' ⟨he,hw⟩=>?_;subst he;refine⟨_,rfl,_,_,_,[],_,[],hW',?_,Zc0 Zht hw _ _ _ _ (by rw[Tryz.params5];kernel_rfl) hAk (λx hx=>by simpa using hW'.lt x hx),?_,keptButP hw _,λh=>by cases h⟩
 ·exact trodAll_mk1 (shut_bool Tryz.underlying4 true)
 ·rfl
theorem rf1P:Tryz.pinned.checked.prog.funcNamed Rows.matrixTracesRow.func=some 5:=Zk
theorem rf3P:decide (Func.isInstance Tryz.pinned.checked.prog Tryz.f5 Rows.matrixTracesRow.origin Rows.matrixTracesRow.targs)=true:=Zk
theorem rf4P:Func.isWrapper Tryz.pinned.checked.prog Tryz.f5 Rows.matrixTracesRow.wrapper Rows.matrixTracesRow.mainSum:=by
 unfold Func.isWrapper;rw[if_neg (by decide +kernel)];exact⟨rfl,rfl⟩
theorem rowP:Rows.MatrixTracesSaid:=
 OpenClaim.holds_of_wide 5 Tryz.f5 rfl rfl rfl rfl rfl rfl rfl ⟨rfl,rfl,rfl,rfl,rfl⟩ rfl rfl rfl rfl rfl rf1P Tryz.func5 rf2P
  (of_decide_eq_true rf3P) rf4P
  (λos started H enc _=>liftedP os started H enc)
theorem matrixTraces_holds:Rows.MatrixTracesCardSaid:=
 Claim7.holds_tied_plain_at .later [] [.mappedDeep,.funcs] true (true,"3a62ee03f7226f04b3b5da08d1041f694ee80ee4c332b020359286b00d3eb84a") true
  rowP (λ_ h=>by cases h) Zk (λ_ h=>by cases h) matrixTraces_row_tie rfl ⟨rfl,rfl⟩ Zk rfl
  (λf fn hf hfn=>by
   obtain rfl:f=5:=Yej ((show Tryz.prog.funcNamed "monocle/monoclelaw18.MatrixTraces" = some 5 by kernel_rfl).symm.trans hf) |>.symm
   obtain rfl:fn=Tryz.f5:=(Yej (Tryz.func5.symm.trans hfn)).symm;exact⟨Zk,λj t ht=>by
    rw[Tryz.params5]at ht;have hm:t∈[30,5,73,73]:=by simpa using Array.mem_of_getElem? ht
    have hall:([30,5,73,73].all λu=>!Tryz.prog.wantsStandIn u)=true:=Zk;exact(show Tryz.prog.wantsStandIn t=false by simpa using Ybn.1 hall t hm)⟩)
  Zk
#print axioms matrixTraces_holds
end
end Go.Proofs.YtdocaccajammkaaGreatDoor
