/- The law MatrixUnit: its walk and its card. Part 4 of 5. No condition beside the row. -/
import Derived.Test.YtdocaccajammkaaGreatDoorA26
import Derived.Test.YtdocaccajammkaaGreatDoorA27
import Derived.Test.YtdocaccajammkaaGreatDoorD18
import Derived.Test.YtdocaccajammkaaGreatDoorU03
set_option linter.unusedVariables false
set_option linter.unusedSimpArgs false
set_option maxRecDepth 100000
set_option maxHeartbeats 4000000
namespace Go.Mono
open Go.RowKit
section
section
variable {P:Program} {f:FuncId} {args:Array Value} {R:Ending->World->Prop} {w:World} {T0:TypeId} {c0:Array Value}
theorem boxes1d (h:∀W,Below w.heap.size w W->w.heap.size+1<=W.heap.size->Box W (w.heap.size) T0 c0->Calls P f args W R) :
  Calls P f args (w.alloc (.cells c0 T0)) R:=by
 exact h _ ((Yae _ _).alloc (Yab _) _) Zs (Box.new _ _ _)
end
end
end Go.Mono
namespace Go.Proofs.W
open Go.RowKit Go.Mono
section
open Go.Ex
theorem Zts (d:LD) (hd:d.ok) (q:LDP) (kc wv u1 u2 u3:Int) (hkc:U8 kc) (hwv:U8 wv) (g1:U8 u1) (g2:U8 u2) (g3:U8 u3) (w:World) (m:Nat) (hp:PowsAt w m) (hl:LDAt w d q) :
  Calls Tryz.prog 4 #[.agg ((ldC d q).push (.int .u8 kc)),.int .u8 wv,.int .u8 u1,.int .u8 u2,.int .u8 u3] w λe w'=>e=.returned (.bool true)∧Below w.heap.size w w':=by
 have q1:=λW (hW:Below w.heap.size w W)=>Zej d hd q kc hkc W (hl.below hW);have ha:=Zh4 hd kc;have hz:(Tryz.prog.info? 30).map (·.size)=some ((ldC d q).push (.int .u8 kc)).size:=Zk;have hzo:∀a q,(Tryz.prog.info? 40).map (·.size)=some (Lns.ovals a q).size:=λ_ _=>Zk;have hns:(d.lns (d.kc kc)).ns=d.srfs.length:=rfl;have hn2:=(LD.srfs_ok hd).2.1;have hn3:=(LD.raw_ok hd).2;generalize hA:(ldC d q).push (.int .u8 kc)=A at *;generalize haa:d.lns (d.kc kc)=a at *;have h6:2<=a.ns∧a.ns<=6:=Zo;clear hns hn2 hn3;have hnw:=ha.base.nw;have hw0:IntKind.i64.wrap wv=wv:=Zdg (by have:=hwv.1;omega) (by have:=hwv.2;omega);have ht0:wv.tmod (a.nw:Int)=wv%(a.nw:Int):=Ybr hwv.1;have hk0:=Ycc wv (show(a.nw:Int)≠0 by omega);have hk1:=Ybu wv (show(0:Int)<a.nw by omega);have hw1:IntKind.i64.wrap (wv%(a.nw:Int))=wv%(a.nw:Int):=Zdg Zo Zo;have hne:(a.nw:Int)≠0:=Zo;have hmx:=Zm2 hnw.1;go_enter Tryz.func4,Tryz.ntmps4
 refine wp_seq_k (λK hK=>?_);replace hK:=Yah hK;go_wp2_with fail
 refine hK.out _ _ ?_;clear hK K;refine wp_seq_k (λK hK=>?_);replace hK:=Yah hK;go_wp2_with fail
 refine boxes1d λW hB hs b0=>?_;refine(Zhk W m (hp.below hB)).mono ?_;rintro e W1 ⟨rfl,hb1⟩;replace hB:=Zaa hB hb1;replace b0:=b0.below hb1;clear hs hb1;go_wp2_with fail
 refine hK.out _ _ ?_;clear hK K;refine wp_seq_k (λK hK=>?_);replace hK:=Yah hK;go_wp2_with first|(refine Zac rfl 30 _ rfl _ rfl 30 _ b0 _ Tryz.underlying30 rfl hz ?_)
 refine(q1 W1 hB).mono ?_;rintro e W2 ⟨q',rfl,ho,hb2⟩;have hB2:=Zaa hB hb2;clear q1 hb2 b0 hB;go_wp2_with first|(refine Zan rfl 40 rfl _ Zb6 ?_;intro W3 B hle hB3 bo;refine Hid.out ?_)
 refine Zab rfl 40 (.tmp 11) (.tmp 32) rfl B 0 40 _ (a.ovals q') (a.ovals q') rfl rfl bo (hzo _ _) (Yaa rfl) (by simp[Lns.ovals,Value.oneCell']) rfl ?_;intro W4 hk bp;have hB4:=hk.below hB3 hle hB3.size;replace ho:=ho.below hB4;have hB:=Zaa hB2 hB4;clear hB4 hB3 hk hle bo hB2;go_wp2_with fail
 refine hK.out _ _ ?_;clear hK K;refine wp_seq_k (λK hK=>?_);replace hK:=Yah hK;have c6:W4.cell? ⟨B,6,none⟩=some (.slice q'.pw a.nw q'.cw):=bp.cell 6;have c7:W4.cell? ⟨B,7,none⟩=some (.slice q'.ps a.ns q'.cs):=bp.cell 7;have l6:=bp.lt;have hq0:((a.nw:Int)==0)=false:=by simpa using hne
 have hq1:decide ((a.nw:Int)=0)=false:=decide_eq_false hne;have hq2:¬(a.nw=0):=Zo;go_quiet (fail)
 go_wp2_with fail
 refine hK.out _ _ ?_;clear hK K;have hb5:Below W4.heap.size W4 (W4.drewN nq):=below_drewN (Yae _ _) nq;replace ho:=ho.below hb5;replace bp:=bp.below hb5;replace hB:=Zaa hB hb5;clear c6 c7 l6;generalize W4.drewN nq=W5 at *;refine Zm1 (c':=cdMun) ?_ Zx;have hpW:=hp.below hB;obtain⟨bs,os,hps,hsv⟩:=Zfp ha (ns:=a.ns) rfl ho;obtain⟨orc,V,L,hrun,hL,rfl⟩:=Zxp ha rfl h6 q' ho hpW (wv%(a.nw:Int)) ⟨hk0,hk1⟩ u1 u2 u3 g1 g2 g3;refine Zre (t:=10) Zdt (spMx ha rfl h6 ho hpW) [] (bkMun a q' a.ns ) (vs:=[⟨40,optU a q' a.ns 1,B,0,(a.ovals q').toList⟩,⟨160,srfsU a q' 0 a.ns,bs,os,srfsC a q' 0 a.ns⟩]) rfl rfl _ _ hrun hL ?_ ?_ rfl ?_
 ·intro v hv
  simp only[Ycp,List.not_mem_nil,or_false]at hv;rcases hv with rfl|rfl
  ·exact Zsc rfl hps bp rfl
  ·exact hsv _ _
 ·refine Zg0 (n:=165) (by rfl) ?_
  exact⟨⟨_,rfl,rfl⟩,⟨_,rfl,rfl⟩,⟨_,rfl,rfl⟩,⟨_,rfl,_,rfl,rfl⟩,⟨_,rfl,rfl⟩,⟨_,rfl,rfl⟩,trivial⟩
 ·intro a' w' ρ' v hd' ht hv hb
  have e:v=.bool true:=by
   have:=hv.1;simpa using this
  subst e;refine bodyPost_ret (v:=.bool true) ?_ hd' ⟨rfl,Zaa hB hb⟩;simp[results,Tryz.results4,go_sem,ht]
end
end Go.Proofs.W
