/- The law ParaxialPlane: its walk and its card. Part 6 of 7. No condition beside the row. -/
import Derived.Test.YtfgmlkjibdegfaaGreatDoorA27
import Derived.Test.YtfgmlkjibdegfaaGreatDoorA28
import Derived.Test.YtfgmlkjibdegfaaGreatDoorD19
import Derived.Test.YtfgmlkjibdegfaaGreatDoorP03
import Derived.Test.YtfgmlkjibdegfaaGreatDoorP04
import Derived.Test.YtfgmlkjibdegfaaGreatDoorP05
set_option linter.unusedVariables false
set_option linter.unusedSimpArgs false
set_option maxRecDepth 100000
set_option maxHeartbeats 4000000
namespace Go.Proofs.W
open Go.RowKit Go.Mono
section
open Go.Ex
set_option maxRecDepth 100000
section
variable {a:Lns} (ha:a.opt) (q:Plc) {m:Nat} {w0:World} (ho:OptAt w0 a q) (hp:PowsAt w0 m) (k n1 d1 n2 d2:Int)
theorem rP6:∀bs:List Bool,bs.length=6->PlaR ha q ho hp k n1 d1 n2 d2 6 bs
 | [true,true,true,true,true,true],_=>Zzn ha q ho hp k n1 d1 n2 d2
 | [true,true,true,true,true,false],_=>Zzo ha q ho hp k n1 d1 n2 d2
 | [true,true,true,true,false,true],_=>Zzp ha q ho hp k n1 d1 n2 d2
 | [true,true,true,true,false,false],_=>Zzq ha q ho hp k n1 d1 n2 d2
 | [true,true,true,false,true,true],_=>Zzr ha q ho hp k n1 d1 n2 d2
 | [true,true,true,false,true,false],_=>Zzs ha q ho hp k n1 d1 n2 d2
 | [true,true,true,false,false,true],_=>Zzt ha q ho hp k n1 d1 n2 d2
 | [true,true,true,false,false,false],_=>Zzu ha q ho hp k n1 d1 n2 d2
 | [true,true,false,true,true,true],_=>Zzv ha q ho hp k n1 d1 n2 d2
 | [true,true,false,true,true,false],_=>Zzw ha q ho hp k n1 d1 n2 d2
 | [true,true,false,true,false,true],_=>Zzx ha q ho hp k n1 d1 n2 d2
 | [true,true,false,true,false,false],_=>Zzy ha q ho hp k n1 d1 n2 d2
 | [true,true,false,false,true,true],_=>Zzz ha q ho hp k n1 d1 n2 d2
 | [true,true,false,false,true,false],_=>Zz0 ha q ho hp k n1 d1 n2 d2
 | [true,true,false,false,false,true],_=>Zz1 ha q ho hp k n1 d1 n2 d2
 | [true,true,false,false,false,false],_=>Zz2 ha q ho hp k n1 d1 n2 d2
 | [true,false,true,true,true,true],_=>Zz3 ha q ho hp k n1 d1 n2 d2
 | [true,false,true,true,true,false],_=>Zz4 ha q ho hp k n1 d1 n2 d2
 | [true,false,true,true,false,true],_=>Zz5 ha q ho hp k n1 d1 n2 d2
 | [true,false,true,true,false,false],_=>Zz6 ha q ho hp k n1 d1 n2 d2
 | [true,false,true,false,true,true],_=>Zz7 ha q ho hp k n1 d1 n2 d2
 | [true,false,true,false,true,false],_=>Zz8 ha q ho hp k n1 d1 n2 d2
 | [true,false,true,false,false,true],_=>Zz9 ha q ho hp k n1 d1 n2 d2
 | [true,false,true,false,false,false],_=>Z0a ha q ho hp k n1 d1 n2 d2
 | [true,false,false,true,true,true],_=>Z0b ha q ho hp k n1 d1 n2 d2
 | [true,false,false,true,true,false],_=>Z0c ha q ho hp k n1 d1 n2 d2
 | [true,false,false,true,false,true],_=>Z0d ha q ho hp k n1 d1 n2 d2
 | [true,false,false,true,false,false],_=>Z0e ha q ho hp k n1 d1 n2 d2
 | [true,false,false,false,true,true],_=>Z0f ha q ho hp k n1 d1 n2 d2
 | [true,false,false,false,true,false],_=>Z0g ha q ho hp k n1 d1 n2 d2
 | [true,false,false,false,false,true],_=>Z0h ha q ho hp k n1 d1 n2 d2
 | [true,false,false,false,false,false],_=>Z0i ha q ho hp k n1 d1 n2 d2
 | [false,true,true,true,true,true],_=>Z0j ha q ho hp k n1 d1 n2 d2
 | [false,true,true,true,true,false],_=>Z0k ha q ho hp k n1 d1 n2 d2
 | [false,true,true,true,false,true],_=>Z0l ha q ho hp k n1 d1 n2 d2
 | [false,true,true,true,false,false],_=>Z0m ha q ho hp k n1 d1 n2 d2
 | [false,true,true,false,true,true],_=>Z0n ha q ho hp k n1 d1 n2 d2
 | [false,true,true,false,true,false],_=>Z0o ha q ho hp k n1 d1 n2 d2
 | [false,true,true,false,false,true],_=>Z0p ha q ho hp k n1 d1 n2 d2
 | [false,true,true,false,false,false],_=>Z0q ha q ho hp k n1 d1 n2 d2
 | [false,true,false,true,true,true],_=>Z0r ha q ho hp k n1 d1 n2 d2
 | [false,true,false,true,true,false],_=>Z0s ha q ho hp k n1 d1 n2 d2
 | [false,true,false,true,false,true],_=>Z0t ha q ho hp k n1 d1 n2 d2
 | [false,true,false,true,false,false],_=>Z0u ha q ho hp k n1 d1 n2 d2
 | [false,true,false,false,true,true],_=>Z0v ha q ho hp k n1 d1 n2 d2
 | [false,true,false,false,true,false],_=>Z0w ha q ho hp k n1 d1 n2 d2
 | [false,true,false,false,false,true],_=>Z0x ha q ho hp k n1 d1 n2 d2
 | [false,true,false,false,false,false],_=>Z0y ha q ho hp k n1 d1 n2 d2
 | [false,false,true,true,true,true],_=>Z0z ha q ho hp k n1 d1 n2 d2
 | [false,false,true,true,true,false],_=>Z00 ha q ho hp k n1 d1 n2 d2
 | [false,false,true,true,false,true],_=>Z01 ha q ho hp k n1 d1 n2 d2
 | [false,false,true,true,false,false],_=>Z02 ha q ho hp k n1 d1 n2 d2
 | [false,false,true,false,true,true],_=>Z03 ha q ho hp k n1 d1 n2 d2
 | [false,false,true,false,true,false],_=>Z04 ha q ho hp k n1 d1 n2 d2
 | [false,false,true,false,false,true],_=>Z05 ha q ho hp k n1 d1 n2 d2
 | [false,false,true,false,false,false],_=>Z06 ha q ho hp k n1 d1 n2 d2
 | [false,false,false,true,true,true],_=>Z07 ha q ho hp k n1 d1 n2 d2
 | [false,false,false,true,true,false],_=>Z08 ha q ho hp k n1 d1 n2 d2
 | [false,false,false,true,false,true],_=>Z09 ha q ho hp k n1 d1 n2 d2
 | [false,false,false,true,false,false],_=>Z1a ha q ho hp k n1 d1 n2 d2
 | [false,false,false,false,true,true],_=>Z1b ha q ho hp k n1 d1 n2 d2
 | [false,false,false,false,true,false],_=>Z1c ha q ho hp k n1 d1 n2 d2
 | [false,false,false,false,false,true],_=>Z1d ha q ho hp k n1 d1 n2 d2
 | [false,false,false,false,false,false],_=>Z1e ha q ho hp k n1 d1 n2 d2
theorem Z2b {ns:Nat} (h2:2<=ns) (h6:ns<=6) (hns:a.ns=ns) (bs:List Bool) (hb:bs.length=ns):runPla ha q hns ⟨h2,h6⟩ ho hp bs k n1 d1 n2 d2=some (.ret,[],some (.a (.one (.val (.bool true)))),obPla a q ns 3 bs k n1 d1 n2 d2):=
 Zzg (p:=λn=>∀bs:List Bool,bs.length=n->PlaR ha q ho hp k n1 d1 n2 d2 n bs) (rP2 ha q ho hp k n1 d1 n2 d2) (rP3 ha q ho hp k n1 d1 n2 d2) (rP4 ha q ho hp k n1 d1 n2 d2) (rP5 ha q ho hp k n1 d1 n2 d2) (rP6 ha q ho hp k n1 d1 n2 d2) ⟨h2,h6⟩ bs hb hns ⟨h2,h6⟩
end
theorem Zzc (a:Lns) (k:Nat):∀n s,(plaBs a k s n).length=n
 | 0,_=>rfl
 | n+1,s=>congrArg (· + 1) (Zzc a k n (s+1))
end
end Go.Proofs.W
namespace Go.Mono
open Go.RowKit
section
section
variable {P:Program} {f:FuncId} {args:Array Value} {R:Ending->World->Prop} {w:World} {T0 T1 T2:TypeId} {c0 c1 c2:Array Value}
theorem Zy4 (h:∀W,Below w.heap.size w W->w.heap.size+3<=W.heap.size->Box W (w.heap.size) T0 c0->Box W (w.heap.size+1) T1 c1->Box W (w.heap.size+1+1) T2 c2->Calls P f args W R) :
  Calls P f args (((w.alloc (.cells c0 T0)).alloc (.cells c1 T1)).alloc (.cells c2 T2)) R:=by
 have b2:=Box.new ((w.alloc (.cells c0 T0)).alloc (.cells c1 T1)) T2 c2;simp only[Yav]at b2;have b1:=Box.new (w.alloc (.cells c0 T0)) T1 c1;simp only[Yav]at b1;exact h _ ((((Yae _ _).alloc (Yab _) _).alloc Zs _).alloc (by simp;omega) _) Zs (((Box.new _ _ _).alloc _).alloc _) (b1.alloc _) b2
end
end
end Go.Mono
namespace Go.Proofs.W
open Go.RowKit Go.Mono
section
open Go.Ex
theorem Zzj (d:LD) (hd:d.ok) (q:LDP) (kc wv n1 d1 n2 d2:Int) (hkc:U8 kc) (hwv:U8 wv) (h1:NumD n1 d1) (h2:NumD n2 d2) (w:World) (m:Nat) (hp:PowsAt w m) (hl:LDAt w d q) :
  Calls Tryz.prog 10 #[.agg ((ldC d q).push (.int .u8 kc)),.int .u8 wv,.agg #[.int .i16 n1,.int .u8 d1],.agg #[.int .i16 n2,.int .u8 d2]] w λe w'=>e=.returned (.bool true)∧Below w.heap.size w w':=by
 have q1:=λW (hW:Below w.heap.size w W)=>Zmi d hd q kc hkc W (hl.below hW);have ha:=Zso hd kc;have hz:(Tryz.prog.info? 30).map (·.size)=some ((ldC d q).push (.int .u8 kc)).size:=Zk;have hzo:∀a q,(Tryz.prog.info? 45).map (·.size)=some (Lns.ovals a q).size:=λ_ _=>Zk;have hns:(d.lns (d.kc kc)).ns=d.srfs.length:=rfl;have hn2:=(LD.srfs_ok hd).2.1;have hn3:=(LD.raw_ok hd).2;generalize hA:(ldC d q).push (.int .u8 kc)=A at *;generalize haa:d.lns (d.kc kc)=a at *;have hnw:=ha.base.nw;have hw0:IntKind.i64.wrap wv=wv:=Zd4 (by have:=hwv.1;omega) (by have:=hwv.2;omega);have ht0:wv.tmod (a.nw:Int)=wv%(a.nw:Int):=Ybr hwv.1;have hk0:=Ycc wv (show(a.nw:Int)≠0 by omega);have hk1:=Ybu wv (show(0:Int)<a.nw by omega);have hw1:IntKind.i64.wrap (wv%(a.nw:Int))=wv%(a.nw:Int):=Zd4 Zo Zo;have hne:(a.nw:Int)≠0:=Zo;have hmx:=Zws hnw.1;go_enter Tryz.func10,Tryz.ntmps10
 refine wp_seq_k (λK hK=>?_);replace hK:=Yah hK;go_wp2_with fail
 refine hK.out _ _ ?_;clear hK K;refine wp_seq_k (λK hK=>?_);replace hK:=Yah hK;go_wp2_with fail
 refine Zy4 λW hB hs b0 b1 b2=>?_;refine(Zto W m (hp.below hB)).mono ?_;rintro e W1 ⟨rfl,hb1⟩;replace hB:=Zaa hB hb1;replace b0:=b0.below hb1;replace b1:=b1.below hb1;replace b2:=b2.below hb1;clear hs hb1;go_wp2_with fail
 refine hK.out _ _ ?_;clear hK K;refine wp_seq_k (λK hK=>?_);replace hK:=Yah hK;go_wp2_with first|(refine Zac rfl 30 _ rfl _ rfl 30 _ b0 _ Tryz.underlying30 rfl hz ?_)
 refine(q1 W1 hB).mono ?_;rintro e W2 ⟨q',rfl,ho,hb2⟩;have hB2:=Zaa hB hb2;replace b1:=b1.below hb2;replace b2:=b2.below hb2;clear q1 hb2 b0 hB;go_wp2_with first|(refine Zaq rfl 45 rfl _ Zdn ?_;intro W3 B hle hB3 bo;refine Hid.out ?_)
 refine Zab rfl 45 (.tmp 9) (.tmp 28) rfl B 0 45 _ (a.ovals q') (a.ovals q') rfl rfl bo (hzo _ _) (Yaa rfl) (by simp[Lns.ovals,Value.oneCell']) rfl ?_;intro W4 hk bp;have hB4:=hk.below hB3 hle hB3.size;replace b1:=b1.below hB4;replace b2:=b2.below hB4;replace ho:=ho.below hB4;have hB:=Zaa hB2 hB4;clear hB4 hB3 hk hle bo hB2;go_wp2_with fail
 refine hK.out _ _ ?_;clear hK K;refine wp_seq_k (λK hK=>?_);replace hK:=Yah hK;have c6:W4.cell? ⟨B,6,none⟩=some (.slice q'.pw a.nw q'.cw):=bp.cell 6;have l6:=bp.lt;go_wp2_with fail
 refine hK.out _ _ ?_;clear hK K;refine Zwr (c':=cdPla) ?_ Zx;have hpW:=hp.below hB;obtain⟨bs,os,hps,hsv⟩:=Zyh ha hns ho;have hrun:=Z2b ha q' ho hpW (wv%(a.nw:Int)) n1 d1 n2 d2 (ns:=d.srfs.length) Zo Zo hns (plaBs a (wv%(a.nw:Int)).toNat 0 d.srfs.length) (Zzc _ _ _ _);refine Zw7 (t:=8) Ziu (spPla ha hns ⟨Zo,Zo⟩ ho hpW (nq n1 d1) (nq n2 d2)) [] (bkPla a q' d.srfs.length n1 d1 n2 d2) (vs:=[⟨32,[.sml .i16 n1,.sml .u8 d1],w.heap.size+1,0,[.int .i16 n1,.int .u8 d1]⟩,⟨32,[.sml .i16 n2,.sml .u8 d2],w.heap.size+1+1,0,[.int .i16 n2,.int .u8 d2]⟩,⟨45,optU a q' d.srfs.length 3,B,0,(a.ovals q').toList⟩,⟨117,srfsU a q' 0 d.srfs.length,bs,os,srfsC a q' 0 d.srfs.length⟩]) rfl rfl _ _ hrun (Zzm ha hns ⟨hk0,hk1⟩ h1 h2) ?_ ?_ rfl ?_
 ·intro v hv
  simp only[Ycp,List.not_mem_nil,or_false]at hv;rcases hv with rfl|rfl|rfl|rfl
  ·exact Zns b1
  ·exact Zns b2
  ·exact Zyo hns hps bp rfl
  ·exact hsv _ _
 ·refine Zq6 (n:=184) (by rfl) ?_
  exact⟨⟨_,rfl,_,rfl,rfl⟩,⟨_,rfl,_,rfl,rfl⟩,⟨_,rfl,_,rfl,rfl⟩,⟨_,rfl,rfl⟩,trivial⟩
 ·intro a' w' ρ' v hd' ht hv hb
  have e:v=.bool true:=by
   have:=hv.1;simpa using this
  subst e;refine bodyPost_ret (v:=.bool true) ?_ hd' ⟨rfl,Zaa hB hb⟩;simp[results,Tryz.results10,go_sem,ht]
end
end Go.Proofs.W
