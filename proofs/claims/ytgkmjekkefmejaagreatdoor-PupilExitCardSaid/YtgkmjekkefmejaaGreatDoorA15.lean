/- Contracts of package matrix,and a verified evaluator. Part 15 of 27. No condition beside the row. -/
import Derived.Outline
import Derived.Deep.RegionHeld3
import Derived.Test.YtgkmjekkefmejaaGreatDoorA02
import Derived.Test.YtgkmjekkefmejaaGreatDoorA14
set_option linter.unusedVariables false
set_option linter.unusedSimpArgs false
set_option maxRecDepth 100000
set_option maxHeartbeats 4000000
namespace Go.Proofs.W
open Go.RowKit Go.Mono
theorem Za8 (B off:Nat) (z:Int) (w:World) (hc:(w.cell? ⟨B,off,none⟩).isSome=true) (hf:w.frozen? ⟨B,off,none⟩=false):(Instr.storeAt 3 (.pointer (some ⟨B,off,none⟩)) (.int .i64 z)).run Tryz.prog w=.ok () (w.setCell ⟨B,off,none⟩ (.int .i64 z)):=by
 obtain⟨x,hx⟩:=Yct.1 hc;clear hc;go_simp
theorem Zr4 (B off:Nat) (z:ByteArray) (w:World) (hc:(w.cell? ⟨B,off,none⟩).isSome=true) (hf:w.frozen? ⟨B,off,none⟩=false):(Instr.storeAt 9 (.pointer (some ⟨B,off,none⟩)) (.string z)).run Tryz.prog w=.ok () (w.setCell ⟨B,off,none⟩ (.string z)):=by
 obtain⟨x,hx⟩:=Yct.1 hc;clear hc;go_simp
theorem Za6 (w:World):(Instr.alloc 85 true (.tuple #[])).run Tryz.prog w=.ok (.pointer (some ⟨w.heap.size,0,none⟩)) (w.alloc (.cells #[.int .i64 0,.int .i64 0,.int .i64 0,.int .i64 0,.int .i64 0,.int .i64 0,.int .i64 0,.int .i64 0,.int .i64 0,.int .i64 0,.int .i64 0,.int .i64 0,.int .i64 0,.string {data:=#[]},.int .i64 0,.int .i64 0,.int .i64 0,.int .i64 0,.int .i64 0,.int .i64 0,.int .i64 0,.slice none 0 0] 85)):=by
 go_simp
theorem Zg0 (B off:Nat) (p:Option Addr) (n c:Nat) (w:World) (hc:(w.cell? ⟨B,off,none⟩).isSome=true) (hf:w.frozen? ⟨B,off,none⟩=false):(Instr.storeAt 83 (.pointer (some ⟨B,off,none⟩)) (.slice p n c)).run Tryz.prog w=.ok () (w.setCell ⟨B,off,none⟩ (.slice p n c)):=by
 obtain⟨x,hx⟩:=Yct.1 hc;clear hc;go_simp
theorem Zy7 (curv conic curvx conicx a0 a1 a2 a3 p0 p1 order thick semi hole dx dy ax ay az:Int) (glass:ByteArray) (p:Option Addr) (nf c:Nat) (A:Array Value) (h1:¬order=0) (h2:(glass.toList==[77,73,82,82,79,82])=false)
  (e0:A[0]? = some (.int .i64 1))
  (e1:A[1]? = some (.int .i64 curv))
  (e2:A[2]? = some (.int .i64 conic))
  (e3:A[3]? = some (.int .i64 curvx))
  (e4:A[4]? = some (.int .i64 conicx))
  (e5:A[5]? = some (.int .i64 a0))
  (e6:A[6]? = some (.int .i64 a1))
  (e7:A[7]? = some (.int .i64 a2))
  (e8:A[8]? = some (.int .i64 a3))
  (e9:A[9]? = some (.int .i64 p0))
  (e10:A[10]? = some (.int .i64 p1))
  (e11:A[11]? = some (.int .i64 order))
  (e12:A[12]? = some (.int .i64 thick))
  (e13:A[13]? = some (.string glass))
  (e14:A[14]? = some (.int .i64 semi))
  (e15:A[15]? = some (.int .i64 hole))
  (e16:A[16]? = some (.int .i64 dx))
  (e17:A[17]? = some (.int .i64 dy))
  (e18:A[18]? = some (.int .i64 ax))
  (e19:A[19]? = some (.int .i64 ay))
  (e20:A[20]? = some (.int .i64 az))
  (e21:A[21]? = some (.slice p nf c))
  (w:World):Calls Tryz.prog 264 #[.agg A] w λe w'=>e=.returned (.agg #[.int .i64 1,.int .i64 curv,.int .i64 conic,.int .i64 0,.int .i64 0,.int .i64 a0,.int .i64 a1,.int .i64 a2,.int .i64 a3,.int .i64 p0,.int .i64 p1,.int .i64 order,.int .i64 thick,.string glass,.int .i64 semi,.int .i64 hole,.int .i64 0,.int .i64 0,.int .i64 0,.int .i64 0,.int .i64 0,.slice p nf c])∧Below w.heap.size w w':=by
 go_enter Tryz.func264,Tryz.ntmps264
 have hi:(Tryz.prog.info? 85).map (·.size)=some 22:=Zk;have hi2:(Tryz.prog.info? 82).map (·.size)=some 2:=Zk;have hi4:(Tryz.prog.info? 81).map (·.size)=some 4:=Zk;go_step
 go_step
 go_step
 go_step
 go_step
 go_step
 go_step
 go_step
 go_step
 refine Zb6 λW hB hsz b0 b1=>?_;have cb0:=b0.cell;have lb0:=b0.lt;go_wp2_with first|(refine Zao rfl 85 _ rfl #[.int .i64 1,.int .i64 0,.int .i64 0,.int .i64 0,.int .i64 0,.int .i64 0,.int .i64 0,.int .i64 0,.int .i64 0,.int .i64 0,.int .i64 0,.int .i64 0,.int .i64 thick,.string {data:=#[]},.int .i64 0,.int .i64 0,.int .i64 0,.int .i64 0,.int .i64 0,.int .i64 0,.int .i64 0,.slice none 0 0] Zx ?_)|(refine Zak rfl 85 rfl _ Za6 ?_;intro W1 B2 hle hB1 b2;have b01:=b0.below hB1;have b11:=b1.below hB1)|(refine Zab rfl 85 (.tmp 3) (.tmp 8) rfl B2 0 85 _ #[.int .i64 1,.int .i64 0,.int .i64 0,.int .i64 0,.int .i64 0,.int .i64 0,.int .i64 0,.int .i64 0,.int .i64 0,.int .i64 0,.int .i64 0,.int .i64 0,.int .i64 thick,.string {data:=#[]},.int .i64 0,.int .i64 0,.int .i64 0,.int .i64 0,.int .i64 0,.int .i64 0,.int .i64 0,.slice none 0 0] #[.int .i64 1,.int .i64 0,.int .i64 0,.int .i64 0,.int .i64 0,.int .i64 0,.int .i64 0,.int .i64 0,.int .i64 0,.int .i64 0,.int .i64 0,.int .i64 0,.int .i64 thick,.string {data:=#[]},.int .i64 0,.int .i64 0,.int .i64 0,.int .i64 0,.int .i64 0,.int .i64 0,.int .i64 0,.slice none 0 0] rfl rfl b2 hi (Yaa rfl) (by simp[Value.oneCell']) rfl ?_;intro W2 hk2 b22;have b02:=hk2.box b01 b01.lt (by have:=b0.lt;omega);have b12:=hk2.box b11 b11.lt (by have:=b1.lt;omega);have cb2:=b02.cell)|(refine Zab rfl 81 (.tmp 15) (.tmp 14) rfl B2 5 85 _ #[.int .i64 a0,.int .i64 a1,.int .i64 a2,.int .i64 a3] #[.int .i64 1,.int .i64 0,.int .i64 0,.int .i64 0,.int .i64 0,.int .i64 a0,.int .i64 a1,.int .i64 a2,.int .i64 a3,.int .i64 0,.int .i64 0,.int .i64 0,.int .i64 thick,.string {data:=#[]},.int .i64 0,.int .i64 0,.int .i64 0,.int .i64 0,.int .i64 0,.int .i64 0,.int .i64 0,.slice none 0 0] rfl rfl b22 hi4 (Yaa rfl) (by simp[Value.oneCell']) rfl ?_;intro W3 hk3 b23;have b03:=hk3.box b02 b02.lt (by have:=b0.lt;omega);have b13:=hk3.box b12 b12.lt (by have:=b1.lt;omega);have cb3:=b03.cell)
 have lw:=b0.lt;have hBW:Below w.heap.size w W3:=hk3.below (hk2.below (Zaa hB hB1) Zo (by have:=hB1.size;omega)) Zo (by have:=b02.lt;omega);have lb0:=b03.lt;have nb0:w.heap.size≠B2:=Zo;have lb2:w.heap.size+2<=B2:=Zo;clear cb0 cb2 cb3 hk2 hk3 b0 b1 b01 b11 b02 b12 b22 b2;have b0:=b03;have b2:=b23;clear b03 b23;refine wp_region_held_drew (S:=λw'=>(∀o,w'.cell? ⟨w.heap.size,o,none⟩=A[o]?)∧KeepBut B2 W3.heap.size W3 w') Zk ⟨b0.cell,(KeepBut.refl _ _).drew⟩ (λhHeld=>?_);have hst:∀(w':World) (i:Nat) (u:Value),((∀o,w'.cell? ⟨w.heap.size,o,none⟩=A[o]?)∧KeepBut B2 W3.heap.size W3 w')->((∀o,(w'.setCell ⟨B2,i,none⟩ u).cell? ⟨w.heap.size,o,none⟩=A[o]?)∧KeepBut B2 W3.heap.size W3 (w'.setCell ⟨B2,i,none⟩ u)):=λw' i u h=>⟨λo=>(Yet _ _ _ _ (by intro e;have:=congrArg Addr.block e;simp at this;omega)).trans (h.1 o),h.2.set i u⟩
 have g0:=b0;replace b2:=b2.drew;replace hst:=Yah hst;refine tk 0 (some 24) ?_;refine tk 1 (some 25) ?_;refine tk 2 (some 26) ?_;refine tk 3 (some 27) ?_;refine tk 4 (some 28) ?_;refine Zbk B2 85 5 rfl rfl rfl rfl 11 (.int .i64 order) _ #[.int .i64 1,.int .i64 0,.int .i64 0,.int .i64 0,.int .i64 0,.int .i64 a0,.int .i64 a1,.int .i64 a2,.int .i64 a3,.int .i64 0,.int .i64 0,.int .i64 order,.int .i64 thick,.string {data:=#[]},.int .i64 0,.int .i64 0,.int .i64 0,.int .i64 0,.int .i64 0,.int .i64 0,.int .i64 0,.slice none 0 0] Zx hst.out rfl rfl (Za8 _ _ _) b2 hHeld (Yaa rfl) rfl ?_;clear b2 hHeld;intro W4 b2 hHeld;try simp only[Zsi,Zs0,Zss]
 refine tk 6 (some 29) ?_;refine Zi6 B2 85 7 rfl rfl rfl rfl 9 #[.int .i64 p0,.int .i64 p1] _ #[.int .i64 1,.int .i64 0,.int .i64 0,.int .i64 0,.int .i64 0,.int .i64 a0,.int .i64 a1,.int .i64 a2,.int .i64 a3,.int .i64 p0,.int .i64 p1,.int .i64 order,.int .i64 thick,.string {data:=#[]},.int .i64 0,.int .i64 0,.int .i64 0,.int .i64 0,.int .i64 0,.int .i64 0,.int .i64 0,.slice none 0 0] Zx hst.out rfl rfl b2 hHeld hi2 (Yaa rfl) (by simp[Value.oneCell']) rfl ?_;clear b2 hHeld;intro W4 b2 hHeld;try simp only[Zsi,Zs0,Zss]
 refine wpAnyH_done Zx ?_ _;have b0:Box W4 w.heap.size 85 A:=hHeld.2.box g0 Zo Zo;have hK:KeepBut B2 W3.heap.size W3 W4:=hHeld.2;clear hHeld hst g0;have cb0:=b0.cell;have hBW1:=hK.below hBW Zo Zo;have b14:Box W4 (w.heap.size+1) 85 _:=hK.box b13 (by have:=b13.lt;omega) Zo;clear hK b13;have b13:=b14;clear b14;replace hBW:=hBW1;clear hBW1 lb0;have lb0:=b0.lt;go_wp2
 clear cb0;refine wp_region_held_drew (S:=λw'=>(∀o,w'.cell? ⟨w.heap.size,o,none⟩=A[o]?)∧KeepBut B2 W4.heap.size W4 w') Zk ⟨b0.cell,(KeepBut.refl _ _).drew⟩ (λhHeld=>?_);have hst:∀(w':World) (i:Nat) (u:Value),((∀o,w'.cell? ⟨w.heap.size,o,none⟩=A[o]?)∧KeepBut B2 W4.heap.size W4 w')->((∀o,(w'.setCell ⟨B2,i,none⟩ u).cell? ⟨w.heap.size,o,none⟩=A[o]?)∧KeepBut B2 W4.heap.size W4 (w'.setCell ⟨B2,i,none⟩ u)):=λw' i u h=>⟨λo=>(Yet _ _ _ _ (by intro e;have:=congrArg Addr.block e;simp at this;omega)).trans (h.1 o),h.2.set i u⟩
 have g0:=b0;replace b2:=b2.drew;replace hst:=Yah hst;refine tk 0 (some 68) ?_;refine tk 1 (some 69) ?_;refine tk 2 (some 70) ?_;refine tk 3 (some 71) ?_;refine tk 4 (some 72) ?_;refine tk 5 (some 73) ?_;refine tk 6 (some 74) ?_;refine tk 7 (some 75) ?_;refine tk 8 (some 76) ?_;refine tk 9 (some 77) ?_;refine tk 10 (some 78) ?_;refine tk 11 (some 79) ?_;refine tk 12 (some 80) ?_;refine Zbk B2 85 13 rfl rfl rfl rfl 1 (.int .i64 curv) _ #[.int .i64 1,.int .i64 curv,.int .i64 0,.int .i64 0,.int .i64 0,.int .i64 a0,.int .i64 a1,.int .i64 a2,.int .i64 a3,.int .i64 p0,.int .i64 p1,.int .i64 order,.int .i64 thick,.string {data:=#[]},.int .i64 0,.int .i64 0,.int .i64 0,.int .i64 0,.int .i64 0,.int .i64 0,.int .i64 0,.slice none 0 0] Zx hst.out rfl rfl (Za8 _ _ _) b2 hHeld (Yaa rfl) rfl ?_;clear b2 hHeld;intro W5 b2 hHeld;try simp only[Zsi,Zs0,Zss]
 refine tk 14 (some 81) ?_;refine Zbk B2 85 15 rfl rfl rfl rfl 2 (.int .i64 conic) _ #[.int .i64 1,.int .i64 curv,.int .i64 conic,.int .i64 0,.int .i64 0,.int .i64 a0,.int .i64 a1,.int .i64 a2,.int .i64 a3,.int .i64 p0,.int .i64 p1,.int .i64 order,.int .i64 thick,.string {data:=#[]},.int .i64 0,.int .i64 0,.int .i64 0,.int .i64 0,.int .i64 0,.int .i64 0,.int .i64 0,.slice none 0 0] Zx hst.out rfl rfl (Za8 _ _ _) b2 hHeld (Yaa rfl) rfl ?_;clear b2 hHeld;intro W5 b2 hHeld;try simp only[Zsi,Zs0,Zss]
 refine tk 16 (some 82) ?_;refine Zbk B2 85 17 rfl rfl rfl rfl 13 (.string glass) _ #[.int .i64 1,.int .i64 curv,.int .i64 conic,.int .i64 0,.int .i64 0,.int .i64 a0,.int .i64 a1,.int .i64 a2,.int .i64 a3,.int .i64 p0,.int .i64 p1,.int .i64 order,.int .i64 thick,.string glass,.int .i64 0,.int .i64 0,.int .i64 0,.int .i64 0,.int .i64 0,.int .i64 0,.int .i64 0,.slice none 0 0] Zx hst.out rfl rfl (Zr4 _ _ _) b2 hHeld (Yaa rfl) rfl ?_;clear b2 hHeld;intro W5 b2 hHeld;try simp only[Zsi,Zs0,Zss]
 refine tk 18 (some 83) ?_;refine Zbk B2 85 19 rfl rfl rfl rfl 14 (.int .i64 semi) _ #[.int .i64 1,.int .i64 curv,.int .i64 conic,.int .i64 0,.int .i64 0,.int .i64 a0,.int .i64 a1,.int .i64 a2,.int .i64 a3,.int .i64 p0,.int .i64 p1,.int .i64 order,.int .i64 thick,.string glass,.int .i64 semi,.int .i64 0,.int .i64 0,.int .i64 0,.int .i64 0,.int .i64 0,.int .i64 0,.slice none 0 0] Zx hst.out rfl rfl (Za8 _ _ _) b2 hHeld (Yaa rfl) rfl ?_;clear b2 hHeld;intro W5 b2 hHeld;try simp only[Zsi,Zs0,Zss]
 refine tk 20 (some 84) ?_;refine Zbk B2 85 21 rfl rfl rfl rfl 15 (.int .i64 hole) _ #[.int .i64 1,.int .i64 curv,.int .i64 conic,.int .i64 0,.int .i64 0,.int .i64 a0,.int .i64 a1,.int .i64 a2,.int .i64 a3,.int .i64 p0,.int .i64 p1,.int .i64 order,.int .i64 thick,.string glass,.int .i64 semi,.int .i64 hole,.int .i64 0,.int .i64 0,.int .i64 0,.int .i64 0,.int .i64 0,.slice none 0 0] Zx hst.out rfl rfl (Za8 _ _ _) b2 hHeld (Yaa rfl) rfl ?_;clear b2 hHeld;intro W5 b2 hHeld;try simp only[Zsi,Zs0,Zss]
 refine tk 22 (some 85) ?_;refine Zbk B2 85 23 rfl rfl rfl rfl 21 (.slice p nf c) _ #[.int .i64 1,.int .i64 curv,.int .i64 conic,.int .i64 0,.int .i64 0,.int .i64 a0,.int .i64 a1,.int .i64 a2,.int .i64 a3,.int .i64 p0,.int .i64 p1,.int .i64 order,.int .i64 thick,.string glass,.int .i64 semi,.int .i64 hole,.int .i64 0,.int .i64 0,.int .i64 0,.int .i64 0,.int .i64 0,.slice p nf c] Zx hst.out rfl rfl (Zg0 _ _ p nf c) b2 hHeld (Yaa rfl) rfl ?_;clear b2 hHeld;intro W5 b2 hHeld;try simp only[Zsi,Zs0,Zss]
 refine wpAnyH_done Zx ?_ _;have b0:Box W5 w.heap.size 85 A:=hHeld.2.box g0 Zo Zo;have hK:KeepBut B2 W4.heap.size W4 W5:=hHeld.2;clear hHeld hst g0;have b1:Box W5 (w.heap.size+1) 85 _:=hK.box b13 (by have:=b13.lt;omega) Zo;go_wp2_with first|(refine Zac rfl 85 (.tmp 3) rfl B2 rfl 85 _ b2 _ Tryz.underlying85 rfl hi ?_)|(refine Zab rfl 85 (.tmp 2) (.tmp 86) rfl (w.heap.size+1) 0 85 _ #[.int .i64 1,.int .i64 curv,.int .i64 conic,.int .i64 0,.int .i64 0,.int .i64 a0,.int .i64 a1,.int .i64 a2,.int .i64 a3,.int .i64 p0,.int .i64 p1,.int .i64 order,.int .i64 thick,.string glass,.int .i64 semi,.int .i64 hole,.int .i64 0,.int .i64 0,.int .i64 0,.int .i64 0,.int .i64 0,.slice p nf c] #[.int .i64 1,.int .i64 curv,.int .i64 conic,.int .i64 0,.int .i64 0,.int .i64 a0,.int .i64 a1,.int .i64 a2,.int .i64 a3,.int .i64 p0,.int .i64 p1,.int .i64 order,.int .i64 thick,.string glass,.int .i64 semi,.int .i64 hole,.int .i64 0,.int .i64 0,.int .i64 0,.int .i64 0,.int .i64 0,.slice p nf c] rfl rfl b1 hi (Yaa rfl) (by simp[Value.oneCell']) rfl ?_;intro W9 hk9 b19)
 refine bodyPost_ret (b19.results rfl _ _ rfl Tryz.underlying85 rfl hi) rfl ?_;exact⟨rfl,hk9.below (hK.below hBW Zo Zo) Zo (by have:=b0.lt;omega)⟩
end Go.Proofs.W
