/- The drafted optics of chapter 13: what it is and that it is valid. Part 6 of 16. No condition beside the row. -/
import Derived.Test.YtgkmjekkefmejaaGreatDoorA02
import Derived.Test.YtgkmjekkefmejaaGreatDoorA15
import Derived.Test.YtgkmjekkefmejaaGreatDoorD02
import Derived.Test.YtgkmjekkefmejaaGreatDoorD05
set_option linter.unusedVariables false
set_option linter.unusedSimpArgs false
set_option maxRecDepth 100000
set_option maxHeartbeats 4000000
namespace Go.Proofs.W
open Go.RowKit Go.Mono
def hasK (kind order p:Int):Bool:=
 decide (p=9) || (if kind=1 then decide (p=1) || decide (p=2) || (decide (5<=p)&&decide (p<9)) || decide (p=10) || ((decide (p=16) || decide (p=17))&&decide (order≠0))
  else if kind=2 then(decide (1<=p)&&decide (p<=4)) || decide (p=10)
  else if kind=3 then decide (11<=p)&&decide (p<=15)
  else decide (p=1) || decide (p=10))
theorem Zvt (A:Array Value) (hA:A.size=22) (kind order p:Int) (k1:1<=kind) (k2:kind<=4) (g0:A[0]? = some (.int .i64 kind)) (g11:A[11]? = some (.int .i64 order)) (w:World)
  (hr:∀W,Below w.heap.size w W->Calls Tryz.prog 199 #[.agg A] W λe w'=>e=.returned (.bool true)∧Below W.heap.size W w') :
  Calls Tryz.prog 246 #[.agg A,.int .i64 p] w λe w'=>e=.returned (.bool (hasK kind order p))∧Below w.heap.size w w':=by
 have hi:(Tryz.prog.info? 85).map (·.size)=some A.size:=by rw[hA];kernel_rfl
 obtain⟨b,hb⟩:∃b,hasK kind order p=b:=⟨_,rfl⟩
 rw[hb];replace hb:=Yah hb;go_enter Tryz.func246,Tryz.ntmps246
 go_step
 go_step
 go_step
 go_step
 go_step
 go_step
 go_step
 go_step
 go_step
 go_step
 go_step
 go_step
 go_step
 go_step
 go_step
 refine Zd5 λW hB hsz bS=>?_;refine Zac rfl 85 _ rfl w.heap.size rfl 85 A bS _ Tryz.underlying85 rfl hi ?_;go_wp2_with fail
 refine(hr W hB).mono ?_;rintro e W1 ⟨rfl,hb1⟩;replace hB:=Zaa hB hb1;replace bS:=bS.below hb1;have lS:=bS.lt;have f0:=(bS.cell 0).trans g0;have f11:=(bS.cell 11).trans g11;clear hr g0 g11 hA hi bS hb1 hsz;rcases(by omega:kind=1∨kind=2∨kind=3∨kind=4) with rfl|rfl|rfl|rfl
 all_goals
  go_wp2
  all_goals
   go_ret
   refine⟨?_,hB⟩;rw[<-hb.out];clear hb hB lS f0 f11;show Ending.returned (Value.bool _)=Ending.returned (Value.bool _);congr 2
   unfold hasK;simp only[beq_iff_eq,beq_eq_false_iff_ne,ne_eq]at *;rw[Ycx];simp;try omega
theorem Zon (s:Srf) (hs:s.ok) (p:Option Addr) (c:Nat) (k:Int) (w:World) (hco:CoatAt w p c s.co) :
  Calls Tryz.prog 246 #[.agg (s.cs p c),.int .i64 k] w λe w'=>e=.returned (.bool (hasS s k))∧Below w.heap.size w w':=
 Zvt (s.cs p c) rfl s.kind s.order k hs.k1 hs.k2 rfl rfl w λW hW=>Zct s hs p c W (hco.below hW)
def srf0:Array Value:=#[.int .i64 0,.int .i64 0,.int .i64 0,.int .i64 0,.int .i64 0,.int .i64 0,.int .i64 0,.int .i64 0,.int .i64 0,.int .i64 0,.int .i64 0,.int .i64 0,.int .i64 0,.string {data:=#[]},.int .i64 0,.int .i64 0,.int .i64 0,.int .i64 0,.int .i64 0,.int .i64 0,.int .i64 0,.slice none 0 0]
theorem Zbb {i:Option TypeInfo} {z:Value} {a b:Nat} (h:i.map (λi=>(i.zero,i.size,i.bytes))=some (some z,a,b)):∃t,i=some t∧t.zero=some z∧t.size=a∧t.bytes=b:=by
 cases i with
 | none=>cases h
 | some t =>
   simp only[Yfx,Ybp,Yco]at h;exact⟨t,rfl,h.1,h.2.1,h.2.2⟩
theorem Zhl:(Tryz.prog.info? 270).map (λi=>(i.zero,i.size,i.bytes))=some (some (.agg #[.int .i64 0,.int .i64 0,.int .i64 0]),3,24):=Zk
theorem Zly:(Tryz.prog.info? 85).map (λi=>(i.zero,i.size,i.bytes))=some (some (.agg srf0),22,200):=Zk
theorem Zwl (w:World):(Instr.buildSlice 83 0 #[]).run Tryz.prog w=.ok (.slice (some ⟨w.heap.size,0,none⟩) 0 0) (w.alloc (.cells #[] 270)):=Zk
theorem Zvv (A:Array Value) (hA:A.size=22) (k v:Int) (w:World)
  (hr:∀W,Below w.heap.size w W->Calls Tryz.prog 199 #[.agg A] W λe w'=>e=.returned (.bool true)∧Below W.heap.size W w')
  (hh:∀W,Below w.heap.size w W->Calls Tryz.prog 246 #[.agg A,.int .i64 k] W λe w'=>e=.returned (.bool false)∧Below W.heap.size W w') :
  Calls Tryz.prog 222 #[.agg A,.int .i64 k,.int .i64 v] w λe w'=>e=.returned (.tuple #[.agg srf0,.int .i64 2])∧Below w.heap.size w w':=by
 have hi:(Tryz.prog.info? 85).map (·.size)=some A.size:=by rw[hA];kernel_rfl
 have hi0:(Tryz.prog.info? 85).map (·.size)=some srf0.size:=Zk;go_enter Tryz.func222,Tryz.ntmps222
 go_wp2_with (refine Zb6 (T0:=85) λW hB hsz b0 b1=>?_;refine Zac rfl 85 (.tmp 3) rfl w.heap.size rfl 85 A b0 _ Tryz.underlying85 rfl hi ?_)
 refine(hr W hB).mono ?_;rintro e W1 ⟨rfl,hb⟩;replace hB:=Zaa hB hb;replace b0:=b0.below hb;replace b1:=b1.below hb;go_wp2_with (refine Zac rfl 85 (.tmp 3) rfl w.heap.size rfl 85 A b0 _ Tryz.underlying85 rfl hi ?_)
 refine(hh W1 hB).mono ?_;rintro e W2 ⟨rfl,hb2⟩;replace hB:=Zaa hB hb2;replace b1:=b1.below hb2;go_wp2_with first|(refine Zao rfl 85 _ rfl srf0 Zx ?_)|(refine Zab rfl 85 (.tmp 6) _ rfl (w.heap.size+1) 0 85 _ srf0 srf0 rfl rfl b1 hi0 (Yaa rfl) (by decide +kernel) rfl ?_;intro W3 hk3 b3)
 refine bodyPost_ret (b3.resultsT rfl _ _ rfl Tryz.underlying85 rfl hi0) rfl ?_;exact⟨rfl,hk3.below hB Zo hB.size⟩
end Go.Proofs.W
