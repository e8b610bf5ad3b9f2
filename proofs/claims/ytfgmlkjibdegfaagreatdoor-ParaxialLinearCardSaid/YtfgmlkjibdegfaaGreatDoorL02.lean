/- The law ParaxialLinear: its walk and its card. Part 2 of 3. No condition beside the row. -/
import Derived.Test.YtfgmlkjibdegfaaGreatDoorA27
import Derived.Test.YtfgmlkjibdegfaaGreatDoorA28
import Derived.Test.YtfgmlkjibdegfaaGreatDoorD19
import Derived.Test.YtfgmlkjibdegfaaGreatDoorL01
set_option linter.unusedVariables false
set_option linter.unusedSimpArgs false
set_option maxRecDepth 100000
set_option maxHeartbeats 4000000
namespace Go.Mono
open Go.RowKit
section
section
variable {P:Program} {f:FuncId} {args:Array Value} {R:Ending->World->Prop} {w:World} {T0 T1 T2 T3 T4 T5:TypeId} {c0 c1 c2 c3 c4 c5:Array Value}
theorem Zyw (h:∀W,Below w.heap.size w W->w.heap.size+6<=W.heap.size->Box W (w.heap.size) T0 c0->Box W (w.heap.size+1) T1 c1->Box W (w.heap.size+1+1) T2 c2->Box W (w.heap.size+1+1+1) T3 c3->Box W (w.heap.size+1+1+1+1) T4 c4->Box W (w.heap.size+1+1+1+1+1) T5 c5->Calls P f args W R) :
  Calls P f args ((((((w.alloc (.cells c0 T0)).alloc (.cells c1 T1)).alloc (.cells c2 T2)).alloc (.cells c3 T3)).alloc (.cells c4 T4)).alloc (.cells c5 T5)) R:=by
 have b5:=Box.new (((((w.alloc (.cells c0 T0)).alloc (.cells c1 T1)).alloc (.cells c2 T2)).alloc (.cells c3 T3)).alloc (.cells c4 T4)) T5 c5;simp only[Yav]at b5;have b4:=Box.new ((((w.alloc (.cells c0 T0)).alloc (.cells c1 T1)).alloc (.cells c2 T2)).alloc (.cells c3 T3)) T4 c4;simp only[Yav]at b4;have b3:=Box.new (((w.alloc (.cells c0 T0)).alloc (.cells c1 T1)).alloc (.cells c2 T2)) T3 c3;simp only[Yav]at b3;have b2:=Box.new ((w.alloc (.cells c0 T0)).alloc (.cells c1 T1)) T2 c2;simp only[Yav]at b2;have b1:=Box.new (w.alloc (.cells c0 T0)) T1 c1;simp only[Yav]at b1;exact h _ (((((((Yae _ _).alloc (Yab _) _).alloc Zs _).alloc (by simp;omega) _).alloc (by simp;omega) _).alloc (by simp;omega) _).alloc (by simp;omega) _) Zs ((((((Box.new _ _ _).alloc _).alloc _).alloc _).alloc _).alloc _) ((((b1.alloc _).alloc _).alloc _).alloc _) (((b2.alloc _).alloc _).alloc _) ((b3.alloc _).alloc _) (b4.alloc _) b5
end
end
end Go.Mono
namespace Go.Proofs.W
open Go.RowKit Go.Mono
section
open Go.Ex
theorem Zyi (d:LD) (hd:d.ok) (q:LDP) (kc wv n1 d1 n2 d2 n3 d3 n4 d4 n5 d5:Int) (hkc:U8 kc) (hwv:U8 wv) (h1:NumD n1 d1) (h2:NumD n2 d2) (h3:NumD n3 d3) (h4:NumD n4 d4) (h5:NumD n5 d5) (w:World) (m:Nat) (hp:PowsAt w m) (hl:LDAt w d q) :
  Calls Tryz.prog 7 #[.agg ((ldC d q).push (.int .u8 kc)),.int .u8 wv,.agg #[.int .i16 n1,.int .u8 d1],.agg #[.int .i16 n2,.int .u8 d2],.agg #[.int .i16 n3,.int .u8 d3],.agg #[.int .i16 n4,.int .u8 d4],.agg #[.int .i16 n5,.int .u8 d5]] w λe w'=>e=.returned (.bool true)∧Below w.heap.size w w':=by
 have q1:=λW (hW:Below w.heap.size w W)=>Zmi d hd q kc hkc W (hl.below hW);have ha:=Zso hd kc;have hz:(Tryz.prog.info? 30).map (·.size)=some ((ldC d q).push (.int .u8 kc)).size:=Zk;have hzo:∀a q,(Tryz.prog.info? 45).map (·.size)=some (Lns.ovals a q).size:=λ_ _=>Zk;have hns:(d.lns (d.kc kc)).ns=d.srfs.length:=rfl;have hn2:=(LD.srfs_ok hd).2.1;have hn3:=(LD.raw_ok hd).2;generalize hA:(ldC d q).push (.int .u8 kc)=A at *;generalize haa:d.lns (d.kc kc)=a at *;have hnw:=ha.base.nw;have hw0:IntKind.i64.wrap wv=wv:=Zd4 (by have:=hwv.1;omega) (by have:=hwv.2;omega);have ht0:wv.tmod (a.nw:Int)=wv%(a.nw:Int):=Ybr hwv.1;have hk0:=Ycc wv (show(a.nw:Int)≠0 by omega);have hk1:=Ybu wv (show(0:Int)<a.nw by omega);have hw1:IntKind.i64.wrap (wv%(a.nw:Int))=wv%(a.nw:Int):=Zd4 Zo Zo;have hne:(a.nw:Int)≠0:=Zo;have hmx:=Zws hnw.1;go_enter Tryz.func7,Tryz.ntmps7
 refine wp_seq_k (λK hK=>?_);replace hK:=Yah hK;go_wp2_with fail
 refine hK.out _ _ ?_;clear hK K;refine wp_seq_k (λK hK=>?_);replace hK:=Yah hK;go_wp2_with fail
 refine Zyw λW hB hs b0 b1 b2 b3 b4 b5=>?_;refine(Zto W m (hp.below hB)).mono ?_;rintro e W1 ⟨rfl,hb1⟩;replace hB:=Zaa hB hb1;replace b0:=b0.below hb1;replace b1:=b1.below hb1;replace b2:=b2.below hb1;replace b3:=b3.below hb1;replace b4:=b4.below hb1;replace b5:=b5.below hb1;clear hs hb1;go_wp2_with fail
 refine hK.out _ _ ?_;clear hK K;refine wp_seq_k (λK hK=>?_);replace hK:=Yah hK;go_wp2_with first|(refine Zac rfl 30 _ rfl _ rfl 30 _ b0 _ Tryz.underlying30 rfl hz ?_)
 refine(q1 W1 hB).mono ?_;rintro e W2 ⟨q',rfl,ho,hb2⟩;have hB2:=Zaa hB hb2;replace b1:=b1.below hb2;replace b2:=b2.below hb2;replace b3:=b3.below hb2;replace b4:=b4.below hb2;replace b5:=b5.below hb2;clear q1 hb2 b0 hB;go_wp2_with first|(refine Zaq rfl 45 rfl _ Zdn ?_;intro W3 B hle hB3 bo;refine Hid.out ?_)
 refine Zab rfl 45 (.tmp 15) (.tmp 28) rfl B 0 45 _ (a.ovals q') (a.ovals q') rfl rfl bo (hzo _ _) (Yaa rfl) (by simp[Lns.ovals,Value.oneCell']) rfl ?_;intro W4 hk bp;have hB4:=hk.below hB3 hle hB3.size;replace b1:=b1.below hB4;replace b2:=b2.below hB4;replace b3:=b3.below hB4;replace b4:=b4.below hB4;replace b5:=b5.below hB4;replace ho:=ho.below hB4;have hB:=Zaa hB2 hB4;clear hB4 hB3 hk hle bo hB2;go_wp2_with fail
 refine hK.out _ _ ?_;clear hK K;refine wp_seq_k (λK hK=>?_);replace hK:=Yah hK;have c6:W4.cell? ⟨B,6,none⟩=some (.slice q'.pw a.nw q'.cw):=bp.cell 6;have l6:=bp.lt;go_wp2_with fail
 refine hK.out _ _ ?_;clear hK K;refine Zwr (c':=cdLin) ?_ Zx;have hpW:=hp.below hB;obtain⟨bs,os,hps,hsv⟩:=Zyh ha hns ho;have hrun:=Zyv ha q' ho hpW (wv%(a.nw:Int)) n1 d1 n2 d2 n3 d3 n4 d4 n5 d5 Zo Zo hns;refine Zw7 (t:=14) Ziu (spN ha hns ho hpW) [] (bkLin a q' d.srfs.length n1 d1 n2 d2 n3 d3 n4 d4 n5 d5) (vs:=[⟨32,[.sml .i16 n1,.sml .u8 d1],w.heap.size+1,0,[.int .i16 n1,.int .u8 d1]⟩,⟨32,[.sml .i16 n2,.sml .u8 d2],w.heap.size+1+1,0,[.int .i16 n2,.int .u8 d2]⟩,⟨32,[.sml .i16 n3,.sml .u8 d3],w.heap.size+1+1+1,0,[.int .i16 n3,.int .u8 d3]⟩,⟨32,[.sml .i16 n4,.sml .u8 d4],w.heap.size+1+1+1+1,0,[.int .i16 n4,.int .u8 d4]⟩,⟨32,[.sml .i16 n5,.sml .u8 d5],w.heap.size+1+1+1+1+1,0,[.int .i16 n5,.int .u8 d5]⟩,⟨45,optU a q' d.srfs.length 6,B,0,(a.ovals q').toList⟩,⟨117,srfsU a q' 0 d.srfs.length,bs,os,srfsC a q' 0 d.srfs.length⟩]) rfl rfl _ _ hrun (Zym ha hns ⟨hk0,hk1⟩ h1 h2 h3 h4 h5) ?_ ?_ rfl ?_
 ·intro v hv
  simp only[Ycp,List.not_mem_nil,or_false]at hv;rcases hv with rfl|rfl|rfl|rfl|rfl|rfl|rfl
  ·exact Zns b1
  ·exact Zns b2
  ·exact Zns b3
  ·exact Zns b4
  ·exact Zns b5
  ·exact Zyo hns hps bp rfl
  ·exact hsv _ _
 ·refine Zq6 (n:=146) (by rfl) ?_
  exact⟨⟨_,rfl,_,rfl,rfl⟩,⟨_,rfl,_,rfl,rfl⟩,⟨_,rfl,_,rfl,rfl⟩,⟨_,rfl,_,rfl,rfl⟩,⟨_,rfl,_,rfl,rfl⟩,⟨_,rfl,_,rfl,rfl⟩,⟨_,rfl,rfl⟩,trivial⟩
 ·intro a' w' ρ' v hd' ht hv hb
  have e:v=.bool true:=by
   have:=hv.1;simpa using this
  subst e;refine bodyPost_ret (v:=.bool true) ?_ hd' ⟨rfl,Zaa hB hb⟩;simp[results,Tryz.results7,go_sem,ht]
end
end Go.Proofs.W
