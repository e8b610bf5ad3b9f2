/- The law PupilExit: the chief ray meets the center of the exit pupil,the marginal ray its edge;its contracts,its walk and its card. Part 3 of 11. No condition beside the row. -/
import Derived.Test.YtgkmjekkefmejaaGreatDoorA26
import Derived.Test.YtgkmjekkefmejaaGreatDoorD01
import Derived.Test.YtgkmjekkefmejaaGreatDoorD16
import Derived.Test.YtgkmjekkefmejaaGreatDoorE02
set_option linter.unusedVariables false
set_option linter.unusedSimpArgs false
set_option maxRecDepth 100000
set_option maxHeartbeats 8000000
namespace Go.Mono
def Lns.stgS (a:Lns) (sv:Int):Int:=if(a.S (sv%((a.ns:Int)-1)).toNat).kind=3 then a.st else sv%((a.ns:Int)-1)
def Lns.stgD (a:Lns) (fv:Int):Int:=if fv%4=3 then 1000000*(1+fv%16) else a.di
def Lns.stgd (a:Lns) (sv fv:Int):Lns:=a.stg (a.stgS sv) (a.stgD fv)
theorem Lns.opt.stgd {a:Lns} (ha:a.opt) {sv fv:Int} (hs:U8 sv) (hf:U8 fv):(a.stgd sv fv).opt:=by
 have hn:=ha.base.ns.1;have e1:=Ycc sv (show(a.ns:Int)-1≠0 by omega);have e2:=Ybu sv (show 0<(a.ns:Int)-1 by omega);have hd:a.stgD fv=a.di∨(1<=a.stgD fv∧a.stgD fv<=1000000000):=by
  unfold Lns.stgD;split
  ·have:=hf.1
   exact .inr ⟨Zo,Zo⟩
  ·exact .inl rfl
 unfold Lns.stgd Lns.stgS;split
 ·exact ha.stg ha.base.st.1 ha.base.st.2 ha.base.stop hd
 ·rename_i h
  exact ha.stg e1 Zo h hd
theorem OptAt.stg {w:World} {a:Lns} {q:Plc} (h:OptAt w a q) (s d:Int):OptAt w (a.stg s d) q:=⟨⟨h.fields,h.waves,h.surfs,h.coat⟩,h.index,h.row⟩
end Go.Mono
namespace Go.Proofs.W
open Go.RowKit Go.Mono
section
open Go.Ex
theorem Zkn {R:Nat} {w w1 w2:World} (h:Below w.heap.size w w1) (hk:KeepBut R w1.heap.size w1 w2):KeepBut R w.heap.size w w2:=
 ⟨hk.os.trans h.os,hk.tape.trans h.tape,hk.output.trans h.output,Yak h.size hk.size,λi hi hR=>(hk.block i (Yaf hi h.size) hR).trans (h.block i hi)⟩
theorem Zz2 (v:Int) (m:Int) (h:U8 v) (hm:0<m∧m<=255):IntKind.u8.wrap (v.tmod m)=v%m:=by
 rw[Ybr h.1];have e1:=Ycc v (show m≠0 by omega);have e2:=Ybu v (show 0<m by omega);rw[IntKind.wrap_u8];omega
theorem Zub (d:LD) (hd:d.ok) (q:LDP) (kc sv fv:Int) (hkc:U8 kc) (hsv:U8 sv) (hfv:U8 fv) (w:World) (hl:LDAt w d q) :
  Calls Tryz.prog 8 #[.agg ((ldC d q).push (.int .u8 kc)),.int .u8 sv,.int .u8 fv,.int .u8 4] w λe w'=>∃q',e=.returned (.agg (((d.lns (d.kc kc)).stgd sv fv).ovals q'++((d.lns (d.kc kc)).stgd sv fv).ovals q'))∧OptAt w' ((d.lns (d.kc kc)).stgd sv fv) q'∧Below w.heap.size w w':=by
 have q1:=λW (hW:Below w.heap.size w W)=>Zki d hd q kc hkc W (hl.below hW);have ha:=Zme hd kc;have hz:(Tryz.prog.info? 30).map (·.size)=some ((ldC d q).push (.int .u8 kc)).size:=Zk;have hzo:∀a q,(Tryz.prog.info? 40).map (·.size)=some (Lns.ovals a q).size:=λ_ _=>Zk;generalize hA:(ldC d q).push (.int .u8 kc)=A at *;generalize haa:d.lns (d.kc kc)=a at *;clear haa hA hl hkc hd;have hns:=ha.base.ns;have hs0:IntKind.i64.wrap sv=sv:=Zcg (by have:=hsv.1;omega) (by have:=hsv.2;omega);have hs1:IntKind.i64.wrap ((a.ns:Int)-1)=(a.ns:Int)-1:=Zcg Zo Zo;have hs2:sv.tmod ((a.ns:Int)-1)=sv%((a.ns:Int)-1):=Ybr hsv.1;have e1:=Ycc sv (show(a.ns:Int)-1≠0 by omega);have e2:=Ybu sv (show 0<(a.ns:Int)-1 by omega);obtain⟨s,hs⟩:∃s:Nat,sv%((a.ns:Int)-1)=(s:Int):=⟨(sv%((a.ns:Int)-1)).toNat,Zo⟩
 unfold Lns.stgd Lns.stgS Lns.stgD;rw[hs,Ycb];rw[hs]at hs2 e1 e2;have hs3:IntKind.i64.wrap (s:Int)=s:=Zcg Zo Zo;have hne:((a.ns:Int)-1)≠0:=Zo;clear hs;have hm:(-9223372036854775808:Int)<=0:=Zd;have f0:=hfv.1;have f1:=hfv.2;have g0:IntKind.u8.wrap (fv.tmod 4)=fv%4:=Zz2 fv 4 hfv Zd;have g1:IntKind.i64.wrap fv=fv:=Zcg Zo Zo;have g2:fv.tmod 16=fv%16:=Ybr f0;have g3:IntKind.i64.wrap (fv%16)=fv%16:=Zcg Zo Zo;have g4:IntKind.i64.wrap (1+fv%16)=1+fv%16:=Zcg Zo Zo;have g5:IntKind.i64.wrap (1000000*(1+fv%16))=1000000*(1+fv%16):=Zcg Zo Zo;generalize hST:(if(a.S s).kind=3 then a.st else(s:Int))=st;generalize hDI:(if fv%4=3 then 1000000*(1+fv%16) else a.di)=di;go_enter Tryz.func8,Tryz.ntmps8
 go_wp2_with first|(refine Zb6 (T0:=30) (T1:=41) λW hBW hsz b0 b1=>?_)|(refine Zac rfl 30 (.tmp 4) rfl w.heap.size rfl 30 A b0 _ Tryz.underlying30 rfl hz ?_)
 refine(q1 W hBW).mono ?_;rintro e W1 ⟨q',rfl,ho,hb1,_,hkeep⟩;have hB1:=Zaa hBW hb1;replace b1:=b1.below hb1;have hsz1:w.heap.size+2<=W1.heap.size:=Yak hsz hb1.size;clear q1 b0 hb1;go_wp2_with first|(refine Zak rfl 40 rfl _ Zbg ?_;intro W2 B hle hB2 bo;have b1w:=b1.below hB2;refine Hid.out ?_)
 refine Zab rfl 40 (.tmp 9) (.tmp 13) rfl B 0 40 _ (a.ovals q') (a.ovals q') rfl rfl bo (hzo _ _) (Yaa rfl) (by simp[Lns.ovals,Value.oneCell']) rfl ?_;intro W3 hk bp;have hB4:=hk.below hB2 hle hB2.size;have b1o:=b1;replace b1:=b1.below hB4;have ho1:=ho;replace ho:=ho.below hB4;have hW1:=hB4;have hB:=Zaa hB1 hB4;have hBW1:W1.heap.size<=B:=hle;have hWB:w.heap.size<=B:=Zo;clear hB4 hB2 hk bo b1w;have c7:W3.cell? ⟨B,7,none⟩=some (.slice q'.ps a.ns q'.cs):=bp.cell 7;have l7:=bp.lt;obtain⟨_,_,hsf⟩:=ho.surfs;obtain⟨bs,os,hps,hbs,hcell⟩:=hsf Zo;have ck:W3.cell? ⟨bs,os+s*22,none⟩=some (.int .i64 (a.S s).kind):=hcell s 0 Zo Zd;rw[hps]at c7;clear hcell hsf;have hzA:(Tryz.prog.info? 40).map (·.size)=some (((a.stg st di).ovals q')).size:=Zk;have hzAA:(Tryz.prog.info? 41).map (·.size)=some (((a.stg st di).ovals q')++((a.stg st di).ovals q')).size:=Zk;have honeA:(((a.stg st di).ovals q')).all (·.oneCell')=true:=by simp[Lns.ovals,Value.oneCell']
 have honeAA:(((a.stg st di).ovals q')++((a.stg st di).ovals q')).all (·.oneCell')=true:=by simp[Lns.ovals,Value.oneCell']
 by_cases hkk:(a.S s).kind=3
 focus
  have hst:st=a.st:=by rw[<-hST,if_pos hkk]
  by_cases hff:fv%4=3
  focus
   have hdi:di=1000000*(1+fv%16):=by rw[<-hDI,if_pos hff]
   clear hST hDI;go_wp2_with first|(refine Zat rfl 3 _ _ rfl B 1 40 _ ((a.stg a.st (1000000*(1+fv%16))).ovals q') (.int .i64 (1000000*(1+fv%16))) rfl rfl (Za8 _ _ _) bp (Yaa rfl) rfl ?_;intro V1 hkv1 bp1;have hBv1:=hkv1.below hB hWB hB.size;have b1v1:=hkv1.box b1 b1.lt (Zo);have hWv1:=hkv1.below hW1 hle hW1.size;have bZ:Box V1 B 40 ((a.stg st di).ovals q'):=(by rw[hst,hdi];exact bp1);clear bp1 hst hdi)|(refine Zac rfl 40 (.tmp 9) rfl B rfl 40 ((a.stg st di).ovals q') bZ _ Tryz.underlying40 rfl hzA ?_)|(refine Zak rfl 40 rfl _ Zbg ?_;intro V8 B2 hle2 hV8 bn;refine Hid.out ?_)
   have hBZ:=hBv1;have b1Z:=b1v1;have hWZ:=hWv1
  rotate_left
  focus
   have hdi:di=a.di:=by rw[<-hDI,if_neg hff]
   have bZ:Box W3 B 40 ((a.stg st di).ovals q'):=by rw[hst,hdi];exact bp
   clear bp hst hdi;clear hST hDI;go_wp2_with first|(refine Zac rfl 40 (.tmp 9) rfl B rfl 40 ((a.stg st di).ovals q') bZ _ Tryz.underlying40 rfl hzA ?_)|(refine Zak rfl 40 rfl _ Zbg ?_;intro V8 B2 hle2 hV8 bn;refine Hid.out ?_)
   have hBZ:=hB;have b1Z:=b1;have hWZ:=hW1
 rotate_left 2
 focus
  have hst:st=(s:Int):=by rw[<-hST,if_neg hkk]
  by_cases hff:fv%4=3
  focus
   have hdi:di=1000000*(1+fv%16):=by rw[<-hDI,if_pos hff]
   clear hST hDI;go_wp2_with first|(refine Zat rfl 3 _ _ rfl B 3 40 _ ((a.stg (s:Int) a.di).ovals q') (.int .i64 (s:Int)) rfl rfl (Za8 _ _ _) bp (Yaa rfl) rfl ?_;intro V1 hkv1 bp1;have hBv1:=hkv1.below hB hWB hB.size;have b1v1:=hkv1.box b1 b1.lt (Zo);have hWv1:=hkv1.below hW1 hle hW1.size)|(refine Zat rfl 3 _ _ rfl B 1 40 _ ((a.stg (s:Int) (1000000*(1+fv%16))).ovals q') (.int .i64 (1000000*(1+fv%16))) rfl rfl (Za8 _ _ _) bp1 (Yaa rfl) rfl ?_;intro V2 hkv2 bp2;have hBv2:=hkv2.below hBv1 hWB hBv1.size;have b1v2:=hkv2.box b1v1 b1v1.lt (Zo);have hWv2:=hkv2.below hWv1 hle hWv1.size;have bZ:Box V2 B 40 ((a.stg st di).ovals q'):=(by rw[hst,hdi];exact bp2);clear bp2 hst hdi)|(refine Zac rfl 40 (.tmp 9) rfl B rfl 40 ((a.stg st di).ovals q') bZ _ Tryz.underlying40 rfl hzA ?_)|(refine Zak rfl 40 rfl _ Zbg ?_;intro V8 B2 hle2 hV8 bn;refine Hid.out ?_)
   have hBZ:=hBv2;have b1Z:=b1v2;have hWZ:=hWv2
  rotate_left
  focus
   have hdi:di=a.di:=by rw[<-hDI,if_neg hff]
   clear hST hDI;go_wp2_with first|(refine Zat rfl 3 _ _ rfl B 3 40 _ ((a.stg (s:Int) a.di).ovals q') (.int .i64 (s:Int)) rfl rfl (Za8 _ _ _) bp (Yaa rfl) rfl ?_;intro V1 hkv1 bp1;have hBv1:=hkv1.below hB hWB hB.size;have b1v1:=hkv1.box b1 b1.lt (Zo);have hWv1:=hkv1.below hW1 hle hW1.size;have bZ:Box V1 B 40 ((a.stg st di).ovals q'):=(by rw[hst,hdi];exact bp1);clear bp1 hst hdi)|(refine Zac rfl 40 (.tmp 9) rfl B rfl 40 ((a.stg st di).ovals q') bZ _ Tryz.underlying40 rfl hzA ?_)|(refine Zak rfl 40 rfl _ Zbg ?_;intro V8 B2 hle2 hV8 bn;refine Hid.out ?_)
   have hBZ:=hBv1;have b1Z:=b1v1;have hWZ:=hWv1
 all_goals
  refine Zab rfl 40 (.tmp 11) (.tmp 43) rfl B2 0 40 _ ((a.stg st di).ovals q') ((a.stg st di).ovals q') rfl rfl bn hzA (Yaa rfl) honeA rfl ?_;intro V9 hk9 bp9;have hV9:=hk9.below hV8 hle2 hV8.size;have bm:=bZ.below hV9;have b1m:=b1Z.below hV9;have hWm:=Zaa hWZ hV9;have hB9:=Zaa hBZ hV9;clear hk9 bn hV8 hle2;go_wp2_with first|(refine Zac rfl 40 (.tmp 9) rfl B rfl 40 ((a.stg st di).ovals q') bm _ Tryz.underlying40 rfl hzA ?_)|(refine Zac rfl 40 (.tmp 11) rfl B2 rfl 40 ((a.stg st di).ovals q') bp9 _ Tryz.underlying40 rfl hzA ?_)|(refine Zao rfl 41 _ rfl (((a.stg st di).ovals q')++((a.stg st di).ovals q')) Zx ?_)|(refine Zab rfl 41 (.tmp 8) (.tmp 55) rfl (w.heap.size+1) 0 41 _ (((a.stg st di).ovals q')++((a.stg st di).ovals q')) (((a.stg st di).ovals q')++((a.stg st di).ovals q')) rfl rfl b1m hzAA (Yaa rfl) honeAA rfl ?_;intro V10 hk10 b10)
  refine bodyPost_ret (b10.results rfl _ _ rfl Tryz.underlying41 rfl hzAA) rfl ⟨q',rfl,?_,hk10.below hB9 Zo hB9.size⟩;exact(hkeep (w.heap.size+1) 41 _ b1o Zo ⟨⟨Zd,Zd⟩,Zd,Zd⟩ _ (Zkn hWm hk10)).stg _ _
end
end Go.Proofs.W
