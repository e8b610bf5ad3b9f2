/- The law ParaxialPowers: Index and Power equal the reference,its walk by a verified evaluator,and its card. Part 8 of 9. No condition beside the row. -/
import Derived.Test.YtpfpiecljfimjaaGreatDoorA25
import Derived.Test.YtpfpiecljfimjaaGreatDoorD14
import Derived.Test.YtpfpiecljfimjaaGreatDoorP03
import Derived.Test.YtpfpiecljfimjaaGreatDoorP04
import Derived.Test.YtpfpiecljfimjaaGreatDoorP05
import Derived.Test.YtpfpiecljfimjaaGreatDoorP06
import Derived.Test.YtpfpiecljfimjaaGreatDoorP07
set_option linter.unusedVariables false
set_option linter.unusedSimpArgs false
set_option maxRecDepth 100000
set_option maxHeartbeats 4000000
namespace Go.Proofs.W
open Go.RowKit Go.Mono
section
open Go.Ex
theorem Zy2 {u:Int} (hu:0<=u∧u<=255) (a:Lns) (q:Plc) (ns kb:Nat):∃j,j<=4∧∀L,AllP L->AllP (obU a q ns kb u L j):=by
 have e8:u.tmod ((8:Nat):Int)=u%8:=Ybr hu.1;have e8':u.tmod 8=u%8:=e8;have t:∀{x y:Int},x=y->(x==y)=true:=λh=>by rw[h];exact beq_self_eq_true _
 have f:∀{x y:Int},x≠y->(x==y)=false:=λh=>beq_eq_false_iff_ne.2 h;rcases(by omega:u%8=0∨u%8=1∨u%8=2∨u%8=3∨4<=u%8) with h|h|h|h|h
 ·exact⟨0,Zd,λL hL=>⟨Zd,t (e8.trans h),hL⟩⟩
 ·exact⟨1,Zd,λL hL=>⟨Zd,f (by rw[e8];omega),t (e8.trans h),hL⟩⟩
 ·exact⟨2,Zd,λL hL=>⟨rfl,hu,e8'.trans h,hL⟩⟩
 ·exact⟨3,Zd,λL hL=>⟨Zd,f (by rw[e8];omega),f (by rw[e8];omega),f (by rw[e8];omega),t (e8.trans h),hL⟩⟩
 ·exact⟨4,Zd,λL hL=>⟨Zd,f (by rw[e8];omega),f (by rw[e8];omega),f (by rw[e8];omega),f (by rw[e8];omega),hL⟩⟩
section
variable {a:Lns} (ha:a.opt) {ns m:Nat} (hns:a.ns=ns) (h6:2<=ns∧ns<=6) {w0:World} (q:Plc) (ho:OptAt w0 a q) (hN:SrfsNil a q) (hp:PowsAt w0 m) (u k s x y:Int)
theorem Zxk (j:Nat) (hj:j<=4) (K1 S1 S2:Bool):pwsRun ha hns h6 q ho hN hp u k s x y j K1 S1 S2:=by
 rcases Zwu h6 with rfl|rfl|rfl|rfl|rfl
 ·match j,hj with
  | 0,_=>exact Zyd ha q ho hN hp u k s x y K1 S1 S2 hns h6
  | 1,_=>exact Zye ha q ho hN hp u k s x y K1 S1 S2 hns h6
  | 2,_=>exact Zyf ha q ho hN hp u k s x y K1 S1 S2 hns h6
  | 3,_=>exact Zyg ha q ho hN hp u k s x y K1 S1 S2 hns h6
  | 4,_=>exact Zyh ha q ho hN hp u k s x y K1 S1 S2 hns h6
 ·match j,hj with
  | 0,_=>exact Zyi ha q ho hN hp u k s x y K1 S1 S2 hns h6
  | 1,_=>exact Zyj ha q ho hN hp u k s x y K1 S1 S2 hns h6
  | 2,_=>exact Zyk ha q ho hN hp u k s x y K1 S1 S2 hns h6
  | 3,_=>exact Zyl ha q ho hN hp u k s x y K1 S1 S2 hns h6
  | 4,_=>exact Zym ha q ho hN hp u k s x y K1 S1 S2 hns h6
 ·match j,hj with
  | 0,_=>exact Zyn ha q ho hN hp u k s x y K1 S1 S2 hns h6
  | 1,_=>exact Zyo ha q ho hN hp u k s x y K1 S1 S2 hns h6
  | 2,_=>exact Zyp ha q ho hN hp u k s x y K1 S1 S2 hns h6
  | 3,_=>exact Zyq ha q ho hN hp u k s x y K1 S1 S2 hns h6
  | 4,_=>exact Zyr ha q ho hN hp u k s x y K1 S1 S2 hns h6
 ·match j,hj with
  | 0,_=>exact Zys ha q ho hN hp u k s x y K1 S1 S2 hns h6
  | 1,_=>exact Zyt ha q ho hN hp u k s x y K1 S1 S2 hns h6
  | 2,_=>exact Zyu ha q ho hN hp u k s x y K1 S1 S2 hns h6
  | 3,_=>exact Zyv ha q ho hN hp u k s x y K1 S1 S2 hns h6
  | 4,_=>exact Zyw ha q ho hN hp u k s x y K1 S1 S2 hns h6
 ·match j,hj with
  | 0,_=>exact Zyx ha q ho hN hp u k s x y K1 S1 S2 hns h6
  | 1,_=>exact Zyy ha q ho hN hp u k s x y K1 S1 S2 hns h6
  | 2,_=>exact Zyz ha q ho hN hp u k s x y K1 S1 S2 hns h6
  | 3,_=>exact Zy0 ha q ho hN hp u k s x y K1 S1 S2 hns h6
  | 4,_=>exact Zy1 ha q ho hN hp u k s x y K1 S1 S2 hns h6
theorem Zy3 (hu:0<=u∧u<=255) (hx:0<=x∧x<=255) (hy:0<=y∧y<=255):∃j orc L,runPow ha hns h6 q ho hN hp j u k s x y orc=yesPw L∧AllP L:=by
 obtain⟨j,hj,hU⟩:=Zy2 hu a q ns 2;refine⟨j,_,_,Zxk ha hns h6 q ho hN hp u k s x y j hj (decide (0<=k∧k<a.nw)) (decide (0<=s∧s<(ns:Int))) (decide (0<=y.tmod ((ns+1:Nat):Int)∧y.tmod ((ns+1:Nat):Int)<(ns:Int))),?_⟩;have hv:=λ{L:List Prop} (hL:AllP L)=>Zvf ha hns hx hy (q:=q) (kb:=2) (k:=k) (s:=s) rfl rfl rfl hL;match j,hj,hU with
 | 0,_,hU=>exact hU _ (hv (Zjz ha hx hy 0))
 | 1,_,hU=>exact hU _ (hv (Zjz ha hx hy 1))
 | 2,_,hU=>exact hU _ (hv (Zjz ha hx hy 2))
 | 3,_,hU=>exact hU _ (hv (Zjz ha hx hy 3))
 | 4,_,hU=>exact hU _ (hv (hv trivial))
end
end
end Go.Proofs.W
namespace Go.Mono
open Go.RowKit
section
section
variable {P:Program} {f:FuncId} {args:Array Value} {R:Ending->World->Prop} {w:World} {T0 T1:TypeId} {c0 c1:Array Value}
theorem Zxl (h:∀W,Below w.heap.size w W->w.heap.size+2<=W.heap.size->Box W (w.heap.size) T0 c0->Box W (w.heap.size+1) T1 c1->Calls P f args W R) :
  Calls P f args ((w.alloc (.cells c0 T0)).alloc (.cells c1 T1)) R:=by
 have b1:=Box.new (w.alloc (.cells c0 T0)) T1 c1;simp only[Yav]at b1;exact h _ (((Yae _ _).alloc (Yab _) _).alloc Zs _) Zs ((Box.new _ _ _).alloc _) b1
end
end
end Go.Mono
namespace Go.Proofs.W
open Go.RowKit Go.Mono
section
open Go.Ex
theorem Zvg {D:Den} {vs:List Vw} {w:World} {b:Nat} {x y:Int} (h:Box w b 31 #[.int .u8 x,.int .u8 y]):VwOk D w vs ⟨31,[.sml .u8 x,.sml .u8 y],b,0,[.int .u8 x,.int .u8 y]⟩:=⟨h.lt,h.range,[_],_,rfl,rfl,[_],[],rfl,rfl,rfl⟩
theorem Ztl (d:LD) (hd:d.ok) (q:LDP) (kc uv kv sv xv yv:Int) (hkc:U8 kc) (huv:U8 uv) (hxv:U8 xv) (hyv:U8 yv) (w:World) (m:Nat) (hp:PowsAt w m) (hl:LDAt w d q) :
  Calls Tryz.prog 3 #[.agg ((ldC d q).push (.int .u8 kc)),.int .u8 uv,.int .i64 kv,.int .i64 sv,.agg #[.int .u8 xv,.int .u8 yv]] w λe w'=>e=.returned (.bool true)∧Below w.heap.size w w':=by
 have q1:=λW (hW:Below w.heap.size w W)=>Zlm d hd q kc hkc W (hl.below hW);have ha:=Zta hd kc;have hz:(Tryz.prog.info? 30).map (·.size)=some ((ldC d q).push (.int .u8 kc)).size:=Zk;have hzo:∀a q,(Tryz.prog.info? 41).map (·.size)=some (Lns.ovals a q).size:=λ_ _=>Zk;have hns:(d.lns (d.kc kc)).ns=d.srfs.length:=rfl;have hn2:=(LD.srfs_ok hd).2.1;have hn3:=(LD.raw_ok hd).2;generalize hA:(ldC d q).push (.int .u8 kc)=A at *;generalize haa:d.lns (d.kc kc)=a at *;have h6:2<=a.ns∧a.ns<=6:=Zo;clear hns hn2 hn3 haa hA;go_enter Tryz.func3,Tryz.ntmps3
 refine wp_seq_k (λK hK=>?_);replace hK:=Yah hK;go_wp2_with fail
 refine hK.out _ _ ?_;clear hK K;refine wp_seq_k (λK hK=>?_);replace hK:=Yah hK;go_wp2_with fail
 refine Zxl λW hB hs b0 b1=>?_;refine(Zuj W m (hp.below hB)).mono ?_;rintro e W1 ⟨rfl,hb1⟩;replace hB:=Zaa hB hb1;replace b0:=b0.below hb1;replace b1:=b1.below hb1;clear hs hb1;go_wp2_with fail
 refine hK.out _ _ ?_;clear hK K;refine wp_seq_k (λK hK=>?_);replace hK:=Yah hK;go_wp2_with first|(refine Zac rfl 30 _ rfl _ rfl 30 _ b0 _ Tryz.underlying30 rfl hz ?_)
 refine(q1 W1 hB).mono ?_;rintro e W2 ⟨q',rfl,ho,hb2,hN⟩;have hB2:=Zaa hB hb2;replace b1:=b1.below hb2;clear q1 hb2 b0 hB;go_wp2_with first|(refine Zan rfl 41 rfl _ Zdi ?_;intro W3 B hle hB3 bo;refine Hid.out ?_)
 refine Zab rfl 41 (.tmp 11) (.tmp 29) rfl B 0 41 _ (a.ovals q') (a.ovals q') rfl rfl bo (hzo _ _) (Yaa rfl) (by simp[Lns.ovals,Value.oneCell']) rfl ?_;intro W4 hk bp;have hB4:=hk.below hB3 hle hB3.size;replace b1:=b1.below hB4;replace ho:=ho.below hB4;have hB:=Zaa hB2 hB4;clear hB4 hB3 hk hle bo hB2;go_wp2_with fail
 refine hK.out _ _ ?_;clear hK K;refine Zww (c':=cdPow) ?_ Zx;have hpW:=hp.below hB;obtain⟨bs,os,hps,hsv⟩:=Zmm ha (ns:=a.ns) rfl ho;obtain⟨j,orc,L,hrun,hL⟩:=Zy3 ha rfl h6 q' ho hN hpW uv kv sv xv yv huv hxv hyv;refine Zx2 (t:=10) Zd2 (spPow ha rfl h6 q' ho hN hpW j) [] (bkPow a q' a.ns xv yv) (vs:=[⟨31,[.sml .u8 xv,.sml .u8 yv],w.heap.size+1,0,[.int .u8 xv,.int .u8 yv]⟩,⟨41,optU a q' a.ns 2,B,0,(a.ovals q').toList⟩,⟨115,srfsU a q' 0 a.ns,bs,os,srfsC a q' 0 a.ns⟩]) rfl rfl _ _ hrun hL ?_ ?_ rfl ?_
 ·intro v hv
  simp only[Ycp,List.not_mem_nil,or_false]at hv;rcases hv with rfl|rfl|rfl
  ·exact Zvg b1
  ·exact Zx5 rfl hps bp rfl
  ·exact hsv _ _
 ·refine Zrv (n:=111) (by rfl) ?_
  exact⟨⟨_,rfl,rfl⟩,⟨_,rfl,rfl⟩,⟨_,rfl,rfl⟩,⟨_,rfl,_,rfl,rfl⟩,⟨_,rfl,_,rfl,rfl⟩,trivial⟩
 ·intro a' w' ρ' v hd' ht hv hb
  have e:v=.bool true:=by
   have:=hv.1;simpa using this
  subst e;refine bodyPost_ret (v:=.bool true) ?_ hd' ⟨rfl,Zaa hB hb⟩;simp[results,Tryz.results3,go_sem,ht]
end
end Go.Proofs.W
