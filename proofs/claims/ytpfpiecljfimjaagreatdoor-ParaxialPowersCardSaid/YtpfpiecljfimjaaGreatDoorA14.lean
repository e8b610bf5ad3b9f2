/- Contracts of package paraxial,and a verified evaluator. Part 14 of 26. No condition beside the row. -/
import Derived.Outline
import Derived.Deep.RegionHeld3
import Derived.Deep.Upon
import Derived.Laws.AppendOwn
import Derived.OrdersIn
import Derived.RecoverIn
import Derived.RangeFuncLeaves
import Derived.RangeFuncBound
import Derived.RangeFuncCalls
import Derived.RangeFuncNested
import Derived.Test.YtpfpiecljfimjaaGreatDoorA03
import Derived.Test.YtpfpiecljfimjaaGreatDoorA13
set_option linter.unusedVariables false
set_option linter.unusedSimpArgs false
set_option maxRecDepth 100000
set_option maxHeartbeats 4000000
namespace Go.Proofs.W
open Go.RowKit Go.Mono
theorem Zua (s:Srf) (p:Option Addr) (c:Nat) (w:World) (h1:s.kind=1) (h2:s.glass = {data:=#[]}) (h3:s.thick=0) (h4:s.order=0) (h5:s.co=[]) :
  Calls Tryz.prog 218 #[.agg (s.cs p c)] w λe w'=>e=.returned (.bool true)∧Below w.heap.size w w':=by
 simp only[Srf.cs,h1,h2,h3,h4,h5,Ydf];go_enter Tryz.func218,Tryz.ntmps218
 go_wp2
 go_ret
 exact⟨rfl,Zad (Yae _ _) _⟩
theorem Zi5 (w:World) :
  Calls Tryz.prog 220 #[.slice none 0 0] w λe w'=>e=.returned (.bool true)∧Below w.heap.size w w':=by
 have hmm:∀w:World,(Instr.makeMap 292 none).run Tryz.prog w=.ok (.map (some w.heap.size)) (w.alloc (.map #[] 0)):=λ_=>rfl;go_enter Tryz.func220,Tryz.ntmps220
 go_wp2
 go_loopw [9] (λa wr=>a=.int .i64 0∧Below w.heap.size w wr) (λ_ _=>0)
 case atStart=>exact⟨rfl,Zad (Yae _ _) _⟩
 case round=>
  obtain⟨rfl,hB⟩:=hrel;go_wp2
  go_ret
  exact⟨rfl,hB⟩
theorem Zov (B:Nat) (nm:ByteArray) (di pu st pr:Int) (pf pw' ps pc:Option Addr) (nf cf n cw ns cs cc:Nat) (w:World)
  (b0:Box w B 236 #[.string nm,.int .i64 di,.int .i64 pu,.int .i64 st,.int .i64 pr,.slice pf nf cf,.slice pw' n cw,.slice ps ns cs,.slice pc 0 cc]) :
  Calls Tryz.prog 197 #[.pointer (some ⟨B,0,none⟩)] w λe w'=>e=.returned (.bool true)∧Below w.heap.size w w':=by
 have cb0:=b0.cell;go_enter Tryz.func197,Tryz.ntmps197
 go_wp2
 go_loopw [3,14] (λl a wr=>l=.slice none 0 0∧a=.int .i64 0∧wr=w) (λ_ _ _=>0)
 case atStart=>exact⟨rfl,rfl,rfl⟩
 case round=>
  obtain⟨rfl,rfl,rfl⟩:=hrel;go_wp2_with (go_at_call 220;refine(Zi5 _).mono ?_;rintro e w' ⟨rfl,hb⟩)
  go_ret
  exact⟨rfl,hb⟩
theorem Zbh (B off:Nat) (z:Int) (w:World) (hc:(w.cell? ⟨B,off,none⟩).isSome=true) (hf:w.frozen? ⟨B,off,none⟩=false):(Instr.storeAt 3 (.pointer (some ⟨B,off,none⟩)) (.int .i64 z)).run Tryz.prog w=.ok () (w.setCell ⟨B,off,none⟩ (.int .i64 z)):=by
 obtain⟨x,hx⟩:=Yct.1 hc;clear hc;go_simp
theorem Zrf (B off:Nat) (z:ByteArray) (w:World) (hc:(w.cell? ⟨B,off,none⟩).isSome=true) (hf:w.frozen? ⟨B,off,none⟩=false):(Instr.storeAt 9 (.pointer (some ⟨B,off,none⟩)) (.string z)).run Tryz.prog w=.ok () (w.setCell ⟨B,off,none⟩ (.string z)):=by
 obtain⟨x,hx⟩:=Yct.1 hc;clear hc;go_simp
theorem Zav (w:World):(Instr.alloc 115 true (.tuple #[])).run Tryz.prog w=.ok (.pointer (some ⟨w.heap.size,0,none⟩)) (w.alloc (.cells #[.int .i64 0,.int .i64 0,.int .i64 0,.int .i64 0,.int .i64 0,.int .i64 0,.int .i64 0,.int .i64 0,.int .i64 0,.int .i64 0,.int .i64 0,.int .i64 0,.int .i64 0,.string {data:=#[]},.int .i64 0,.int .i64 0,.int .i64 0,.int .i64 0,.int .i64 0,.int .i64 0,.int .i64 0,.slice none 0 0] 115)):=by
 go_simp
theorem Zgy (B off:Nat) (p:Option Addr) (n c:Nat) (w:World) (hc:(w.cell? ⟨B,off,none⟩).isSome=true) (hf:w.frozen? ⟨B,off,none⟩=false):(Instr.storeAt 113 (.pointer (some ⟨B,off,none⟩)) (.slice p n c)).run Tryz.prog w=.ok () (w.setCell ⟨B,off,none⟩ (.slice p n c)):=by
 obtain⟨x,hx⟩:=Yct.1 hc;clear hc;go_simp
theorem Zx1 (curv conic curvx conicx a0 a1 a2 a3 p0 p1 order thick semi hole dx dy ax ay az:Int) (glass:ByteArray) (p:Option Addr) (nf c:Nat) (A:Array Value) (h1:¬order=0) (h2:(glass.toList==[77,73,82,82,79,82])=false)
  (e0:A[0]? = some (.int .i64 1))
  (e1:A[1]? = some (.int .i64 curv))
  (e2:A[2]? = some (.int .i64 conic))
  (e3:A[3]? = some (.int .i64 curvx))
  (e4:A[4]? = some (.int .i64 conicx))
  (e5:A[5]? = some (.int .i64 a0))
  (e6:A[6]? = some (.int .i64 a1))
  (e7:A[7]? = some (.int .i64 a2))
  (e8:A[8]? = some (.int .i64 a3))
  (e9:A[9]? = some (.int .i64 p0))
  (e10:A[10]? = some (.int .i64 p1))
  (e11:A[11]? = some (.int .i64 order))
  (e12:A[12]? = some (.int .i64 thick))
  (e13:A[13]? = some (.string glass))
  (e14:A[14]? = some (.int .i64 semi))
  (e15:A[15]? = some (.int .i64 hole))
  (e16:A[16]? = some (.int .i64 dx))
  (e17:A[17]? = some (.int .i64 dy))
  (e18:A[18]? = some (.int .i64 ax))
  (e19:A[19]? = some (.int .i64 ay))
  (e20:A[20]? = some (.int .i64 az))
  (e21:A[21]? = some (.slice p nf c))
  (w:World):Calls Tryz.prog 226 #[.agg A] w λe w'=>e=.returned (.agg #[.int .i64 1,.int .i64 curv,.int .i64 conic,.int .i64 0,.int .i64 0,.int .i64 a0,.int .i64 a1,.int .i64 a2,.int .i64 a3,.int .i64 p0,.int .i64 p1,.int .i64 order,.int .i64 thick,.string glass,.int .i64 semi,.int .i64 hole,.int .i64 0,.int .i64 0,.int .i64 0,.int .i64 0,.int .i64 0,.slice p nf c])∧Below w.heap.size w w':=by
 go_enter Tryz.func226,Tryz.ntmps226
 have hi:(Tryz.prog.info? 115).map (·.size)=some 22:=Zk;have hi2:(Tryz.prog.info? 45).map (·.size)=some 2:=Zk;have hi4:(Tryz.prog.info? 83).map (·.size)=some 4:=Zk;go_step
 go_step
 go_step
 go_step
 go_step
 go_step
 go_step
 go_step
 go_step
 refine Zbm λW hB hsz b0 b1=>?_;have cb0:=b0.cell;have lb0:=b0.lt;go_wp2_with first|(refine Zap rfl 115 _ rfl #[.int .i64 1,.int .i64 0,.int .i64 0,.int .i64 0,.int .i64 0,.int .i64 0,.int .i64 0,.int .i64 0,.int .i64 0,.int .i64 0,.int .i64 0,.int .i64 0,.int .i64 thick,.string {data:=#[]},.int .i64 0,.int .i64 0,.int .i64 0,.int .i64 0,.int .i64 0,.int .i64 0,.int .i64 0,.slice none 0 0] Zx ?_)|(refine Zan rfl 115 rfl _ Zav ?_;intro W1 B2 hle hB1 b2;have b01:=b0.below hB1;have b11:=b1.below hB1)|(refine Zab rfl 115 (.tmp 3) (.tmp 8) rfl B2 0 115 _ #[.int .i64 1,.int .i64 0,.int .i64 0,.int .i64 0,.int .i64 0,.int .i64 0,.int .i64 0,.int .i64 0,.int .i64 0,.int .i64 0,.int .i64 0,.int .i64 0,.int .i64 thick,.string {data:=#[]},.int .i64 0,.int .i64 0,.int .i64 0,.int .i64 0,.int .i64 0,.int .i64 0,.int .i64 0,.slice none 0 0] #[.int .i64 1,.int .i64 0,.int .i64 0,.int .i64 0,.int .i64 0,.int .i64 0,.int .i64 0,.int .i64 0,.int .i64 0,.int .i64 0,.int .i64 0,.int .i64 0,.int .i64 thick,.string {data:=#[]},.int .i64 0,.int .i64 0,.int .i64 0,.int .i64 0,.int .i64 0,.int .i64 0,.int .i64 0,.slice none 0 0] rfl rfl b2 hi (Yaa rfl) (by simp[Value.oneCell']) rfl ?_;intro W2 hk2 b22;have b02:=hk2.box b01 b01.lt (by have:=b0.lt;omega);have b12:=hk2.box b11 b11.lt (by have:=b1.lt;omega);have cb2:=b02.cell)|(refine Zab rfl 83 (.tmp 15) (.tmp 14) rfl B2 5 115 _ #[.int .i64 a0,.int .i64 a1,.int .i64 a2,.int .i64 a3] #[.int .i64 1,.int .i64 0,.int .i64 0,.int .i64 0,.int .i64 0,.int .i64 a0,.int .i64 a1,.int .i64 a2,.int .i64 a3,.int .i64 0,.int .i64 0,.int .i64 0,.int .i64 thick,.string {data:=#[]},.int .i64 0,.int .i64 0,.int .i64 0,.int .i64 0,.int .i64 0,.int .i64 0,.int .i64 0,.slice none 0 0] rfl rfl b22 hi4 (Yaa rfl) (by simp[Value.oneCell']) rfl ?_;intro W3 hk3 b23;have b03:=hk3.box b02 b02.lt (by have:=b0.lt;omega);have b13:=hk3.box b12 b12.lt (by have:=b1.lt;omega);have cb3:=b03.cell)
 have lw:=b0.lt;have hBW:Below w.heap.size w W3:=hk3.below (hk2.below (Zaa hB hB1) Zo (by have:=hB1.size;omega)) Zo (by have:=b02.lt;omega);have lb0:=b03.lt;have nb0:w.heap.size≠B2:=Zo;have lb2:w.heap.size+2<=B2:=Zo;clear cb0 cb2 cb3 hk2 hk3 b0 b1 b01 b11 b02 b12 b22 b2;have b0:=b03;have b2:=b23;clear b03 b23;refine wp_region_held_drew (S:=λw'=>(∀o,w'.cell? ⟨w.heap.size,o,none⟩=A[o]?)∧KeepBut B2 W3.heap.size W3 w') Zk ⟨b0.cell,(KeepBut.refl _ _).drew⟩ (λhHeld=>?_);have hst:∀(w':World) (i:Nat) (u:Value),((∀o,w'.cell? ⟨w.heap.size,o,none⟩=A[o]?)∧KeepBut B2 W3.heap.size W3 w')->((∀o,(w'.setCell ⟨B2,i,none⟩ u).cell? ⟨w.heap.size,o,none⟩=A[o]?)∧KeepBut B2 W3.heap.size W3 (w'.setCell ⟨B2,i,none⟩ u)):=λw' i u h=>⟨λo=>(Yet _ _ _ _ (by intro e;have:=congrArg Addr.block e;simp at this;omega)).trans (h.1 o),h.2.set i u⟩
 have g0:=b0;replace b2:=b2.drew;replace hst:=Yah hst;refine tk 0 (some 24) ?_;refine tk 1 (some 25) ?_;refine tk 2 (some 26) ?_;refine tk 3 (some 27) ?_;refine tk 4 (some 28) ?_;refine Zbl B2 115 5 rfl rfl rfl rfl 11 (.int .i64 order) _ #[.int .i64 1,.int .i64 0,.int .i64 0,.int .i64 0,.int .i64 0,.int .i64 a0,.int .i64 a1,.int .i64 a2,.int .i64 a3,.int .i64 0,.int .i64 0,.int .i64 order,.int .i64 thick,.string {data:=#[]},.int .i64 0,.int .i64 0,.int .i64 0,.int .i64 0,.int .i64 0,.int .i64 0,.int .i64 0,.slice none 0 0] Zx hst.out rfl rfl (Zbh _ _ _) b2 hHeld (Yaa rfl) rfl ?_;clear b2 hHeld;intro W4 b2 hHeld;try simp only[Zsi,Zs0,Zss]
 refine tk 6 (some 29) ?_;refine Zin B2 115 7 rfl rfl rfl rfl 9 #[.int .i64 p0,.int .i64 p1] _ #[.int .i64 1,.int .i64 0,.int .i64 0,.int .i64 0,.int .i64 0,.int .i64 a0,.int .i64 a1,.int .i64 a2,.int .i64 a3,.int .i64 p0,.int .i64 p1,.int .i64 order,.int .i64 thick,.string {data:=#[]},.int .i64 0,.int .i64 0,.int .i64 0,.int .i64 0,.int .i64 0,.int .i64 0,.int .i64 0,.slice none 0 0] Zx hst.out rfl rfl b2 hHeld hi2 (Yaa rfl) (by simp[Value.oneCell']) rfl ?_;clear b2 hHeld;intro W4 b2 hHeld;try simp only[Zsi,Zs0,Zss]
 refine wpAnyH_done Zx ?_ _;have b0:Box W4 w.heap.size 115 A:=hHeld.2.box g0 Zo Zo;have hK:KeepBut B2 W3.heap.size W3 W4:=hHeld.2;clear hHeld hst g0;have cb0:=b0.cell;have hBW1:=hK.below hBW Zo Zo;have b14:Box W4 (w.heap.size+1) 115 _:=hK.box b13 (by have:=b13.lt;omega) Zo;clear hK b13;have b13:=b14;clear b14;replace hBW:=hBW1;clear hBW1 lb0;have lb0:=b0.lt;go_wp2
 clear cb0;refine wp_region_held_drew (S:=λw'=>(∀o,w'.cell? ⟨w.heap.size,o,none⟩=A[o]?)∧KeepBut B2 W4.heap.size W4 w') Zk ⟨b0.cell,(KeepBut.refl _ _).drew⟩ (λhHeld=>?_);have hst:∀(w':World) (i:Nat) (u:Value),((∀o,w'.cell? ⟨w.heap.size,o,none⟩=A[o]?)∧KeepBut B2 W4.heap.size W4 w')->((∀o,(w'.setCell ⟨B2,i,none⟩ u).cell? ⟨w.heap.size,o,none⟩=A[o]?)∧KeepBut B2 W4.heap.size W4 (w'.setCell ⟨B2,i,none⟩ u)):=λw' i u h=>⟨λo=>(Yet _ _ _ _ (by intro e;have:=congrArg Addr.block e;simp at this;omega)).trans (h.1 o),h.2.set i u⟩
 have g0:=b0;replace b2:=b2.drew;replace hst:=Yah hst;refine tk 0 (some 68) ?_;refine tk 1 (some 69) ?_;refine tk 2 (some 70) ?_;refine tk 3 (some 71) ?_;refine tk 4 (some 72) ?_;refine tk 5 (some 73) ?_;refine tk 6 (some 74) ?_;refine tk 7 (some 75) ?_;refine tk 8 (some 76) ?_;refine tk 9 (some 77) ?_;refine tk 10 (some 78) ?_;refine tk 11 (some 79) ?_;refine tk 12 (some 80) ?_;refine Zbl B2 115 13 rfl rfl rfl rfl 1 (.int .i64 curv) _ #[.int .i64 1,.int .i64 curv,.int .i64 0,.int .i64 0,.int .i64 0,.int .i64 a0,.int .i64 a1,.int .i64 a2,.int .i64 a3,.int .i64 p0,.int .i64 p1,.int .i64 order,.int .i64 thick,.string {data:=#[]},.int .i64 0,.int .i64 0,.int .i64 0,.int .i64 0,.int .i64 0,.int .i64 0,.int .i64 0,.slice none 0 0] Zx hst.out rfl rfl (Zbh _ _ _) b2 hHeld (Yaa rfl) rfl ?_;clear b2 hHeld;intro W5 b2 hHeld;try simp only[Zsi,Zs0,Zss]
 refine tk 14 (some 81) ?_;refine Zbl B2 115 15 rfl rfl rfl rfl 2 (.int .i64 conic) _ #[.int .i64 1,.int .i64 curv,.int .i64 conic,.int .i64 0,.int .i64 0,.int .i64 a0,.int .i64 a1,.int .i64 a2,.int .i64 a3,.int .i64 p0,.int .i64 p1,.int .i64 order,.int .i64 thick,.string {data:=#[]},.int .i64 0,.int .i64 0,.int .i64 0,.int .i64 0,.int .i64 0,.int .i64 0,.int .i64 0,.slice none 0 0] Zx hst.out rfl rfl (Zbh _ _ _) b2 hHeld (Yaa rfl) rfl ?_;clear b2 hHeld;intro W5 b2 hHeld;try simp only[Zsi,Zs0,Zss]
 refine tk 16 (some 82) ?_;refine Zbl B2 115 17 rfl rfl rfl rfl 13 (.string glass) _ #[.int .i64 1,.int .i64 curv,.int .i64 conic,.int .i64 0,.int .i64 0,.int .i64 a0,.int .i64 a1,.int .i64 a2,.int .i64 a3,.int .i64 p0,.int .i64 p1,.int .i64 order,.int .i64 thick,.string glass,.int .i64 0,.int .i64 0,.int .i64 0,.int .i64 0,.int .i64 0,.int .i64 0,.int .i64 0,.slice none 0 0] Zx hst.out rfl rfl (Zrf _ _ _) b2 hHeld (Yaa rfl) rfl ?_;clear b2 hHeld;intro W5 b2 hHeld;try simp only[Zsi,Zs0,Zss]
 refine tk 18 (some 83) ?_;refine Zbl B2 115 19 rfl rfl rfl rfl 14 (.int .i64 semi) _ #[.int .i64 1,.int .i64 curv,.int .i64 conic,.int .i64 0,.int .i64 0,.int .i64 a0,.int .i64 a1,.int .i64 a2,.int .i64 a3,.int .i64 p0,.int .i64 p1,.int .i64 order,.int .i64 thick,.string glass,.int .i64 semi,.int .i64 0,.int .i64 0,.int .i64 0,.int .i64 0,.int .i64 0,.int .i64 0,.slice none 0 0] Zx hst.out rfl rfl (Zbh _ _ _) b2 hHeld (Yaa rfl) rfl ?_;clear b2 hHeld;intro W5 b2 hHeld;try simp only[Zsi,Zs0,Zss]
 refine tk 20 (some 84) ?_;refine Zbl B2 115 21 rfl rfl rfl rfl 15 (.int .i64 hole) _ #[.int .i64 1,.int .i64 curv,.int .i64 conic,.int .i64 0,.int .i64 0,.int .i64 a0,.int .i64 a1,.int .i64 a2,.int .i64 a3,.int .i64 p0,.int .i64 p1,.int .i64 order,.int .i64 thick,.string glass,.int .i64 semi,.int .i64 hole,.int .i64 0,.int .i64 0,.int .i64 0,.int .i64 0,.int .i64 0,.slice none 0 0] Zx hst.out rfl rfl (Zbh _ _ _) b2 hHeld (Yaa rfl) rfl ?_;clear b2 hHeld;intro W5 b2 hHeld;try simp only[Zsi,Zs0,Zss]
 refine tk 22 (some 85) ?_;refine Zbl B2 115 23 rfl rfl rfl rfl 21 (.slice p nf c) _ #[.int .i64 1,.int .i64 curv,.int .i64 conic,.int .i64 0,.int .i64 0,.int .i64 a0,.int .i64 a1,.int .i64 a2,.int .i64 a3,.int .i64 p0,.int .i64 p1,.int .i64 order,.int .i64 thick,.string glass,.int .i64 semi,.int .i64 hole,.int .i64 0,.int .i64 0,.int .i64 0,.int .i64 0,.int .i64 0,.slice p nf c] Zx hst.out rfl rfl (Zgy _ _ p nf c) b2 hHeld (Yaa rfl) rfl ?_;clear b2 hHeld;intro W5 b2 hHeld;try simp only[Zsi,Zs0,Zss]
 refine wpAnyH_done Zx ?_ _;have b0:Box W5 w.heap.size 115 A:=hHeld.2.box g0 Zo Zo;have hK:KeepBut B2 W4.heap.size W4 W5:=hHeld.2;clear hHeld hst g0;have b1:Box W5 (w.heap.size+1) 115 _:=hK.box b13 (by have:=b13.lt;omega) Zo;go_wp2_with first|(refine Zac rfl 115 (.tmp 3) rfl B2 rfl 115 _ b2 _ Tryz.underlying115 rfl hi ?_)|(refine Zab rfl 115 (.tmp 2) (.tmp 86) rfl (w.heap.size+1) 0 115 _ #[.int .i64 1,.int .i64 curv,.int .i64 conic,.int .i64 0,.int .i64 0,.int .i64 a0,.int .i64 a1,.int .i64 a2,.int .i64 a3,.int .i64 p0,.int .i64 p1,.int .i64 order,.int .i64 thick,.string glass,.int .i64 semi,.int .i64 hole,.int .i64 0,.int .i64 0,.int .i64 0,.int .i64 0,.int .i64 0,.slice p nf c] #[.int .i64 1,.int .i64 curv,.int .i64 conic,.int .i64 0,.int .i64 0,.int .i64 a0,.int .i64 a1,.int .i64 a2,.int .i64 a3,.int .i64 p0,.int .i64 p1,.int .i64 order,.int .i64 thick,.string glass,.int .i64 semi,.int .i64 hole,.int .i64 0,.int .i64 0,.int .i64 0,.int .i64 0,.int .i64 0,.slice p nf c] rfl rfl b1 hi (Yaa rfl) (by simp[Value.oneCell']) rfl ?_;intro W9 hk9 b19)
 refine bodyPost_ret (b19.results rfl _ _ rfl Tryz.underlying115 rfl hi) rfl ?_;exact⟨rfl,hk9.below (hK.below hBW Zo Zo) Zo (by have:=b0.lt;omega)⟩
theorem Zoz (kind curv conic curvx conicx a0 a1 a2 a3 p0 p1 order thick semi hole dx dy ax ay az:Int) (glass:ByteArray) (A:Array Value)
  (e0:A[0]? = some (.int .i64 kind))
  (e1:A[1]? = some (.int .i64 curv))
  (e2:A[2]? = some (.int .i64 conic))
  (e3:A[3]? = some (.int .i64 curvx))
  (e4:A[4]? = some (.int .i64 conicx))
  (e5:A[5]? = some (.int .i64 a0))
  (e6:A[6]? = some (.int .i64 a1))
  (e7:A[7]? = some (.int .i64 a2))
  (e8:A[8]? = some (.int .i64 a3))
  (e9:A[9]? = some (.int .i64 p0))
  (e10:A[10]? = some (.int .i64 p1))
  (e11:A[11]? = some (.int .i64 order))
  (e12:A[12]? = some (.int .i64 thick))
  (e13:A[13]? = some (.string glass))
  (e14:A[14]? = some (.int .i64 semi))
  (e15:A[15]? = some (.int .i64 hole))
  (e16:A[16]? = some (.int .i64 dx))
  (e17:A[17]? = some (.int .i64 dy))
  (e18:A[18]? = some (.int .i64 ax))
  (e19:A[19]? = some (.int .i64 ay))
  (e20:A[20]? = some (.int .i64 az))
  (w:World):Calls Tryz.prog 243 #[.agg A] w λe w'=>e=.returned (.agg #[.int .i64 kind,.int .i64 curv,.int .i64 conic,.int .i64 curvx,.int .i64 conicx,.int .i64 order,.int .i64 thick,.int .i64 semi,.int .i64 hole,.int .i64 dx,.int .i64 dy,.int .i64 ax,.int .i64 ay,.int .i64 az,.int .i64 0,.int .i64 0,.int .i64 a0,.int .i64 a1,.int .i64 a2,.int .i64 a3,.int .i64 p0,.int .i64 p1,.string glass])∧Below w.heap.size w w':=by
 go_enter Tryz.func243,Tryz.ntmps243
 have hi:(Tryz.prog.info? 295).map (·.size)=some 23:=Zk;go_step
 go_step
 go_step
 go_step
 go_step
 go_step
 go_step
 go_step
 go_step
 refine Zbm λW hB hsz b0 b1=>?_;have f0:W.cell? ⟨w.heap.size,0,none⟩=some (.int .i64 kind):=(b0.cell 0).trans e0;have f1:W.cell? ⟨w.heap.size,1,none⟩=some (.int .i64 curv):=(b0.cell 1).trans e1;have f2:W.cell? ⟨w.heap.size,2,none⟩=some (.int .i64 conic):=(b0.cell 2).trans e2;have f3:W.cell? ⟨w.heap.size,3,none⟩=some (.int .i64 curvx):=(b0.cell 3).trans e3;have f4:W.cell? ⟨w.heap.size,4,none⟩=some (.int .i64 conicx):=(b0.cell 4).trans e4;have f5:W.cell? ⟨w.heap.size,5,none⟩=some (.int .i64 a0):=(b0.cell 5).trans e5;have f6:W.cell? ⟨w.heap.size,6,none⟩=some (.int .i64 a1):=(b0.cell 6).trans e6;have f7:W.cell? ⟨w.heap.size,7,none⟩=some (.int .i64 a2):=(b0.cell 7).trans e7;have f8:W.cell? ⟨w.heap.size,8,none⟩=some (.int .i64 a3):=(b0.cell 8).trans e8;have f9:W.cell? ⟨w.heap.size,9,none⟩=some (.int .i64 p0):=(b0.cell 9).trans e9;have f10:W.cell? ⟨w.heap.size,10,none⟩=some (.int .i64 p1):=(b0.cell 10).trans e10;have f11:W.cell? ⟨w.heap.size,11,none⟩=some (.int .i64 order):=(b0.cell 11).trans e11;have f12:W.cell? ⟨w.heap.size,12,none⟩=some (.int .i64 thick):=(b0.cell 12).trans e12;have f13:W.cell? ⟨w.heap.size,13,none⟩=some (.string glass):=(b0.cell 13).trans e13;have f14:W.cell? ⟨w.heap.size,14,none⟩=some (.int .i64 semi):=(b0.cell 14).trans e14;have f15:W.cell? ⟨w.heap.size,15,none⟩=some (.int .i64 hole):=(b0.cell 15).trans e15;have f16:W.cell? ⟨w.heap.size,16,none⟩=some (.int .i64 dx):=(b0.cell 16).trans e16;have f17:W.cell? ⟨w.heap.size,17,none⟩=some (.int .i64 dy):=(b0.cell 17).trans e17;have f18:W.cell? ⟨w.heap.size,18,none⟩=some (.int .i64 ax):=(b0.cell 18).trans e18;have f19:W.cell? ⟨w.heap.size,19,none⟩=some (.int .i64 ay):=(b0.cell 19).trans e19;have f20:W.cell? ⟨w.heap.size,20,none⟩=some (.int .i64 az):=(b0.cell 20).trans e20;clear e0 e1 e2 e3 e4 e5 e6 e7 e8 e9 e10 e11 e12 e13 e14 e15 e16 e17 e18 e19 e20 b0;go_wp2_with first|(refine Zap rfl 293 _ rfl #[.int .i64 kind,.int .i64 curv,.int .i64 conic,.int .i64 curvx,.int .i64 conicx,.int .i64 order,.int .i64 thick,.int .i64 semi,.int .i64 hole,.int .i64 dx,.int .i64 dy,.int .i64 ax,.int .i64 ay,.int .i64 az,.int .i64 0,.int .i64 0] Zx ?_)|(refine Zap rfl 295 _ rfl #[.int .i64 kind,.int .i64 curv,.int .i64 conic,.int .i64 curvx,.int .i64 conicx,.int .i64 order,.int .i64 thick,.int .i64 semi,.int .i64 hole,.int .i64 dx,.int .i64 dy,.int .i64 ax,.int .i64 ay,.int .i64 az,.int .i64 0,.int .i64 0,.int .i64 a0,.int .i64 a1,.int .i64 a2,.int .i64 a3,.int .i64 p0,.int .i64 p1,.string glass] Zx ?_)|(refine Zab rfl 295 (.tmp 2) (.tmp 38) rfl (w.heap.size+1) 0 295 _ #[.int .i64 kind,.int .i64 curv,.int .i64 conic,.int .i64 curvx,.int .i64 conicx,.int .i64 order,.int .i64 thick,.int .i64 semi,.int .i64 hole,.int .i64 dx,.int .i64 dy,.int .i64 ax,.int .i64 ay,.int .i64 az,.int .i64 0,.int .i64 0,.int .i64 a0,.int .i64 a1,.int .i64 a2,.int .i64 a3,.int .i64 p0,.int .i64 p1,.string glass] #[.int .i64 kind,.int .i64 curv,.int .i64 conic,.int .i64 curvx,.int .i64 conicx,.int .i64 order,.int .i64 thick,.int .i64 semi,.int .i64 hole,.int .i64 dx,.int .i64 dy,.int .i64 ax,.int .i64 ay,.int .i64 az,.int .i64 0,.int .i64 0,.int .i64 a0,.int .i64 a1,.int .i64 a2,.int .i64 a3,.int .i64 p0,.int .i64 p1,.string glass] rfl rfl b1 hi (Yaa rfl) (by simp[Value.oneCell']) rfl ?_;intro W2 hk2 hb2)
 refine bodyPost_ret (hb2.results rfl _ _ rfl Tryz.underlying295 rfl hi) rfl ?_;exact⟨rfl,hk2.below hB Zo Zo⟩
end Go.Proofs.W
namespace Go.Ex
open Go.RowKit Go.Mono
section
theorem Zba {α:Type} (l m:List (Nat×α)) (k:Nat):(l++m).look k=(l.look k).or (m.look k):=by
 induction l with
 | nil=>simp
 | cons p r ih =>
   obtain⟨k',x⟩:=p;rw[Ydi,Zat,Zat,ih];split<;>rfl
def Sub {α:Type} (l m:List (Nat×α)):Prop:=∀k x,l.look k=some x->m.look k=some x
theorem Sub.liv {l m:List (Nat×Blk)} (h:Sub l m) {k:Nat} {b:Blk} (hk:Liv l k b):Liv m k b:=⟨h k b hk.1,hk.2⟩
section
variable {D:Den} {w0:World} {X:Nat->Prop} {th t':Nat} {ρ ρ':Nm} {wc w wc' w':World} {bk bkR wr F G:List (Nat×Blk)} {c c':Nat}
theorem Sat.sub (h:Sat D w0 X th ρ wc w bk) (hs:Sub bkR bk):Sat D w0 X th ρ wc w bkR:=
 ⟨h.fr,h.ext,λk k' b b' B B' h1 h2=>h.inj k k' b b' B B' (hs.liv h1) (hs.liv h2),h.lt,λk b hk=>h.box k b (hs.liv hk)⟩
theorem Evo.sub (h:Evo ρ wc w bk c c' ρ' wc' w' F) (hs:Sub G F):Evo ρ wc w bk c c' ρ' wc' w' G:=
 ⟨h.rho,h.ext,h.size,h.os,h.tape,h.output,h.loc,λk b hk=>h.ids k b (hs.liv hk),h.cc,h.dom⟩
abbrev Sub' (l m:List (Nat×Blk)):Prop:=∀k b,Liv l k b->Liv m k b
theorem Sat.sub' (h:Sat D w0 X th ρ wc w bk) (hs:Sub' bkR bk):Sat D w0 X th ρ wc w bkR:=
 ⟨h.fr,h.ext,λk k' b b' B B' h1 h2=>h.inj k k' b b' B B' (hs _ _ h1) (hs _ _ h2),h.lt,λk b hk=>h.box k b (hs _ _ hk)⟩
theorem Evo.sub' (h:Evo ρ wc w bk c c' ρ' wc' w' F) (hs:Sub' G F):Evo ρ wc w bk c c' ρ' wc' w' G:=
 ⟨h.rho,h.ext,h.size,h.os,h.tape,h.output,h.loc,λk b hk=>h.ids k b (hs _ _ hk),h.cc,h.dom⟩
theorem Sat.frame (h:Sat D w0 X th ρ wc w bk) (hs:Sub bkR bk) (hf:∀k b,bk.look k=some b->k<th) (g:Sat D w0 X t' ρ' wc' w' F) (e:Evo ρ wc w bkR c c' ρ' wc' w' F) (hc:c'<=th)
  (hG:∀k b,Liv G k b->Liv F k b∨(Liv bk k b∧bkR.look k=none)) :
  Sat D w0 X th ρ' wc' w' G∧Evo ρ wc w bk c c' ρ' wc' w' G:=by
 have mix:∀k k' b b' B B',Liv F k b->Liv bk k' b'->bkR.look k'=none->ρ' k=some B->ρ' k'=some B'->B.blk=B'.blk->B.ro=true∧B'.ro=true:=by
  intro k k' b b' B B' hk hk' hn h1 h2 he;obtain⟨C',hC'⟩:=h.named k' b' hk';have e2:=e.rho k' C' hC';rw[h2]at e2;cases e2;rcases e.ids k b hk with ⟨b0,hb0⟩|⟨_,_,C,hC,hle⟩
  ·obtain⟨C,hC⟩:=h.named k b0 (hs.liv hb0)
   have e1:=e.rho k C hC;rw[h1]at e1;cases e1;rcases h.inj k k' b0 b' B B' (hs.liv hb0) hk' hC hC' he with h7|h7
   ·subst h7
    rw[hb0.1]at hn;cases hn
   ·exact h7
  ·rw[h1]at hC
   cases hC;rcases hle with hle|⟨k0,b0,B0,g1,g2,g3,g4⟩
   ·have:=h.lt k' B' hC'
    omega
   ·rcases h.inj k0 k' b0 b' B0 B' (hs.liv g1) hk' g2 hC' (g4.trans he) with h7|h7
    ·subst h7
     rw[g1.1]at hn;cases hn
    ·rw[g3]at h7;cases h7.1
 refine⟨⟨g.fr,g.ext,?_,g.lt,?_⟩,⟨e.rho,e.ext,e.size,e.os,e.tape,e.output,?_,?_,e.cc,e.dom⟩⟩
 ·intro k k' b b' B B' hk hk' h1 h2 he
  rcases hG k b hk with hk|⟨hk,hn⟩<;>rcases hG k' b' hk' with hk'|⟨hk',hn'⟩
  ·exact g.inj k k' b b' B B' hk hk' h1 h2 he
  ·exact .inr (mix k k' b b' B B' hk hk' hn' h1 h2 he)
  ·exact .inr (mix k' k b' b B' B hk' hk hn h2 h1 he.symm).symm
  ·obtain⟨C,hC⟩:=h.named k b hk
   obtain⟨C',hC'⟩:=h.named k' b' hk';have e1:=e.rho k C hC;have e2:=e.rho k' C' hC';rw[h1]at e1;rw[h2]at e2;cases e1;cases e2;exact h.inj k k' b b' B B' hk hk' hC hC' he
 ·intro k b hk
  rcases hG k b hk with hk|⟨hk,hn⟩
  ·have hkt:k<th:=by
    rcases e.ids k b hk with ⟨b0,hb0⟩|⟨_,h2,_⟩
    ·exact hf k b0 (hs k b0 hb0.1)
    ·omega
   obtain⟨B,cs,h1,h2,h3,h4,h5,h6⟩:=g.box k b hk;exact⟨B,cs,h1,h2,h3,h4,λ_ hx=>absurd hx Zo,h6⟩
  ·obtain⟨B,cs,h1,h2,h3,h4,h5,h6⟩:=h.box k b hk
   have hkt:=hf k b hk.1;refine⟨B,cs,e.rho k B h1,h2.of_block (e.loc B.blk (h.lt k B h1) λk2 b2 B2 hk2 hB hro he=>?_),h3.mono e.rho e.ext,h4,λ_ hx=>absurd hx Zo,h6⟩;rcases h.inj k2 k b2 b B2 B (hs.liv hk2) hk hB h1 he with h7|h7
   ·subst h7
    rw[hk2.1]at hn;cases hn
   ·rw[hro]at h7;cases h7.1
 ·intro i hi hn
  exact e.loc i hi λk b B hk=>hn k b B (hs.liv hk)
 ·intro k b hk
  rcases hG k b hk with hk|⟨hk,hn⟩
  ·rcases e.ids k b hk with ⟨b0,hb0⟩|⟨h1,h2,B,hB,hle⟩
   ·exact .inl ⟨b0,hs.liv hb0⟩
   ·refine .inr ⟨h1,h2,B,hB,hle.imp id λ⟨k0,b0,B0,g1,g2⟩=>⟨k0,b0,B0,hs.liv g1,g2⟩⟩
  ·exact .inl ⟨b,hk⟩
end
structure OpR where
 v:SV
 wr:List (Nat×Blk)
 obl:List Prop
 orc:List (Option Bool)
 c:Nat
 th:Nat
 pan:Option Value:=none
def OpR.fin (r:OpR) (bk:List (Nat×Blk)):List (Nat×Blk):=
 match r.pan with
 | none=>r.wr++bk
 | some _=>r.wr
def OpR.ends (r:OpR) (e:Ending) (v:Value):Prop:=
 match r.pan with
 | none=>e=.returned v
 | some p=>e=.panicked [{v:=p,recovered:=false}]
abbrev YS:=List SA->List (Nat×Blk)->Nat->Nat->List (Option Bool)->Option OpR
abbrev YEnv:=List (Nat×YS)
abbrev CallF:=YEnv->FuncId->List SA->List (Nat×Blk)->Nat->Nat->List (Option Bool)->Option OpR
structure CallS where
 call:CallF
 op:Oper->(Operand->Option SV)->Option SV
def WF (ro:Option Nat):Fence:={fn:=λ_=>True,depth:=none,alive:=false,round:=ro}
theorem callsIn_WF {ro:Option Nat} {n:Nat} {P:Program} {f:FuncId} {args:Array Value} {w:World} {R:Ending->World->Prop}:CallsIn (WF ro) n P f args w R↔Calls P f args w R:=
 callsIn_wide (n:=n)
def Post (D:Den) (w0:World) (X:Nat->Prop) (ρ:Nm) (wc w:World) (bk:List (Nat×Blk)) (c:Nat) (r:OpR) (e:Ending) (w':World):Prop:=
 ∃v ρ' wc',r.ends e v∧denV D ρ' wc' r.v v∧Sat D w0 X r.th ρ' wc' w' (r.fin bk)∧Evo ρ wc w bk c r.c ρ' wc' w' (r.fin bk)
def YOk (D:Den) (P:Program) (w0:World) (X:Nat->Prop):Nat->YEnv->Nm->World->World->Prop
 | _,[],_,_,_=>True
 | bd, (k, h) :: ys, ρ, wc, w => ∃ B lp, ρ k = some B ∧ w.heap[B.blk]? = some (.loop lp) ∧ w0.heap.size <= B.blk ∧ B.blk < bd ∧ YOk D P w0 X B.blk ys ρ wc w ∧
   ∀args bk c th orc r,h args bk c th orc=some r->(∀p∈r.obl,p)->∀ρ' wc' w' vals,ρ.le ρ'->Ext wc wc'->Sat D w0 X th ρ' wc' w' bk->YOk D P w0 X B.blk ys ρ' wc' w'->(∀j x,bk.look j=some x->j<c)->th<=c->
     (∀j,c<=j->j<r.c->ρ' j=none)->denAs D ρ' wc' args vals->w'.heap[B.blk]? = some (.loop lp)->
     ∃fn tmps assign body,(Instr.yield B.blk vals.toArray).run P w'=.ok (.round B.blk fn tmps assign body) w'∧
       RoundIn (WF none) 0 P B.blk fn tmps assign body w' λe w''=>Post D w0 X ρ' wc' w' bk c r e w''∧w''.heap[B.blk]? = some (.loop lp)
def CallFOk (D:Den) (P:Program) (w0:World) (X:Nat->Prop) (cs:CallF):Prop:=
 ∀ys f args bk c th orc r,cs ys f args bk c th orc=some r->(∀p∈r.obl,p)->∀bd ρ wc w vals,Sat D w0 X th ρ wc w bk->YOk D P w0 X bd ys ρ wc w->(∀k b,bk.look k=some b->k<c)->th<=c->(∀k,c<=k->k<r.c->ρ k=none)->denAs D ρ wc args vals->
   Calls P f vals.toArray w (Post D w0 X ρ wc w bk c r)
structure CallOk (D:Den) (P:Program) (w0:World) (X:Nat->Prop) (cs:CallS):Prop where
 call:CallFOk D P w0 X cs.call
 op:∀o get x,cs.op o get=some x->∀ρ wc w ev,Frm w0 X w->(∀y z,get y=some z->denV D ρ wc z (ev y))->∃v,(execOp ev o).run P w=.ok (.value v) w∧denV D ρ wc x v
section
variable {D:Den} {P:Program} {w0:World} {X:Nat->Prop} {th:Nat} {ρ ρ':Nm} {wc w wc' w':World} {bk bk':List (Nat×Blk)} {c c':Nat}
theorem Sat.cells (h:Sat D w0 X th ρ wc w bk) {k:Nat} {b:Blk} {B:Pl} (hk:Liv bk k b) (hB:ρ k=some B) (hro:B.ro=false):∃cs T f,w.heap[B.blk]? = some (.cells cs T f):=by
 obtain⟨B',cs,h1,h2,h3,h4,h5,h6⟩:=h.box k b hk;cases hB.symm.trans h1;rcases h2 with ⟨g,_⟩|⟨_,_,rest,_,_,hb⟩
 ·rw[hro]at g;cases g
 ·exact⟨_,_,_,hb.blk⟩
theorem Sat.stays (h:Sat D w0 X th ρ wc w bk) (e:Evo ρ wc w bk c c' ρ' wc' w' bk') {l:Nat} {o:Obj} (hl:w.heap[l]? = some o) (ho:o.isCells=false):w'.heap[l]? = some o:=by
 rw[e.loc l (Zam hl) ?_]
 ·exact hl
 ·intro k b B hk hB hro he
  obtain⟨cs,T,f,hc⟩:=h.cells hk hB hro;rw[he,hl]at hc;cases hc;cases ho
theorem YOk.step:∀{bd:Nat} {ys:YEnv} {ρ ρ':Nm} {wc w wc' w':World},YOk D P w0 X bd ys ρ wc w->ρ.le ρ'->Ext wc wc'->(∀(l:Nat) (lp:Loop),l<bd->w.heap[l]? = some (Obj.loop lp)->w'.heap[l]? = some (Obj.loop lp))->YOk D P w0 X bd ys ρ' wc' w'
 | _,[],ρ,ρ',wc,w,wc',w',_,_,_,_=>trivial
 | bd, (k, h) :: ys, ρ, ρ', wc, w, wc', w', ⟨B, lp, h2, h3, hsz, hbd, h1, h4⟩, hr, hx, hl =>
   ⟨B,lp,hr k B h2,hl _ _ hbd h3,hsz,hbd,h1.step hr hx (λl lp hlt=>hl l lp (Nat.lt_trans hlt hbd)),λargs bk c th orc r hh ho ρ2 wc2 w2 vals g1 g2=>h4 args bk c th orc r hh ho ρ2 wc2 w2 vals (hr.trans g1) (hx.trans g2)⟩
theorem YOk.bound:∀{bd b:Nat} {ys:YEnv} {ρ:Nm} {wc w:World},YOk D P w0 X bd ys ρ wc w->(∀k B,ρ k=some B->B.blk<b)->YOk D P w0 X b ys ρ wc w
 | _,_,[],_,_,_,_,_=>trivial
 | _,_,(k,h)::ys,ρ,wc,w,⟨B,lp,h2,h3,hsz,hbd,h1,h4⟩,hb=>⟨B,lp,h2,h3,hsz,hb k B h2,h1,h4⟩
theorem YOk.evo {bd:Nat} {ys:YEnv} (h:YOk D P w0 X bd ys ρ wc w) (hS:Sat D w0 X th ρ wc w bk) (e:Evo ρ wc w bk c c' ρ' wc' w' bk'):YOk D P w0 X bd ys ρ' wc' w':=
 h.step e.rho e.ext λl lp _ hl=>hS.stays e hl rfl
end
end
end Go.Ex
namespace Go.Proofs.W
open Go.RowKit Go.Mono
theorem Zkl (B:Nat) (nm:ByteArray) (di pu st pr:Int) (pf pw' ps pc:Option Addr) (nf cf n cw ns cs nc cc:Nat) (X Y:Nat->Int) (w:World)
  (b0:Box w B 236 #[.string nm,.int .i64 di,.int .i64 pu,.int .i64 st,.int .i64 pr,.slice pf nf cf,.slice pw' n cw,.slice ps ns cs,.slice pc nc cc])
  (hr:RdC w pf nf cf 2 (λi j=>if j=0 then .int .i64 (X i) else .int .i64 (Y i)))
  (n1:1<=nf) (n2:nf<=5) (m:Int) (hm:m=if di=0 then 1000000 else 1000000000)
  (l0:∀i,i<nf->(-m<=X i∧X i<=m)∧-m<=Y i∧Y i<=m) (l1:∀i k,k<i->i<nf->¬(X i=X k∧Y i=Y k)) :
  Calls Tryz.prog 194 #[.pointer (some ⟨B,0,none⟩)] w λe w'=>e=.returned (.bool true)∧Below w.heap.size w w':=by
 have cb0:=b0.cell;have m1:0<=m∧m<=1000000000:=by subst hm;split<;>omega
 obtain⟨hc1,hn1,hx⟩:=hr;obtain⟨b,off,rfl,hb,hcell⟩:=hx Zo;clear hx;have hdd:(m=1000000∧di=0)∨(m=1000000000∧(di==0)=false):=by
  subst hm;by_cases hd:di=0
  ·left;simp[hd]
  ·right;simp[hd]
 clear hm;rcases hdd with ⟨rfl,rfl⟩|⟨rfl,hd⟩
 all_goals
  go_enter Tryz.func194,Tryz.ntmps194
  go_wp2
  go_loopw [20] (λa wr=>∃i:Nat,i<=nf∧a=.int .i64 (i:Int)∧Below w.heap.size w wr) (λa _=>(nf-intOf a).toNat)
  case atStart=>exact⟨0,Yat _,rfl,Yae _ _⟩
  case round=>
   obtain⟨i,hi,rfl,hB⟩:=hrel;have hbb:=b0.below hB;have cbb:=hbb.cell;have lbb:=hbb.lt;have hbw:b<wr.heap.size:=Yaf hb hB.size;by_cases hin:i<nf
   ·have hin':(i:Int)<nf:=by omega
    have a0:=(hB.cell hb).trans (hcell i 0 hin Zo);have a1:=(hB.cell hb).trans (hcell i 1 hin Zo);simp only[if_true,Yce,Nat.succ_ne_self,if_false]at a0 a1;replace l0:=Yah l0;replace l1:=Yah l1;replace hcell:=Yah hcell;clear cb0;go_wp2
    refine Zb1 λW1 hB1 hs1 bF=>?_;replace hbb:=hbb.below hB1;have hBW:=Zaa hB hB1;clear cbb lbb a0 a1;go_loopw [33] (λa w2=>∃k:Nat,k<=i∧a=.int .i64 (k:Int)∧Below W1.heap.size W1 w2) (λa _=>(i-intOf a).toNat)
    case atStart=>exact⟨0,Yat _,rfl,Yae _ _⟩
    case round=>
     obtain⟨k,hk,rfl,hB2⟩:=hrel;have bF2:=bF.below hB2;have cF:=bF2.cell;have lF:=bF2.lt;have fF:=bF2.frozen;have hBW2:=Zaa hBW hB2;have hbw2:b<wr.heap.size:=Yaf hb hBW2.size;by_cases hki:k<i
     ·have hki':(k:Int)<i:=by omega
      have a0:=(hBW2.cell hb).trans (hcell.out k 0 Zo Zo);have a1:=(hBW2.cell hb).trans (hcell.out k 1 Zo Zo);simp only[if_true,Yce,Nat.succ_ne_self,if_false]at a0 a1;have hne:=l1.out i k hki hin;by_cases hX:X i=X k
      ·have hqx:(X i==X k)=true:=by simpa using hX
       have hqy:(Y i==Y k)=false:=by
        rw[beq_eq_false_iff_ne];exact λh=>hne ⟨hX,h⟩
       replace hX:=Yah hX;replace hne:=Yah hne;go_wp2
       go_roundw
       case rel=>exact⟨k+1,Zo,Zs,Zad hB2 _⟩
       case measure=>simp[intOf];omega
      ·have hqx:(X i==X k)=false:=by rw[beq_eq_false_iff_ne];exact hX
       replace hX:=Yah hX;replace hne:=Yah hne;go_wp2
       go_roundw
       case rel=>exact⟨k+1,Zo,Zs,Zad hB2 _⟩
       case measure=>simp[intOf];omega
     ·obtain rfl:k=i:=by omega
      obtain⟨⟨x1,x2⟩,y1,y2⟩:=l0.out k hin;go_wp2_with first|(go_at_call 193;(with_reducible refine(Zbf (X k) _ _ x1 x2 _).mono ?_);rintro e w' ⟨rfl,rfl⟩)|(go_at_call 193;(with_reducible refine(Zbf (Y k) _ _ y1 y2 _).mono ?_);rintro e w' ⟨rfl,rfl⟩)
      go_roundw
      case rel=>exact⟨k+1,Zo,Zs,hBW2⟩
      case measure=>simp[intOf];omega
   ·obtain rfl:i=nf:=by omega
    have e1:(1:Int)<=i:=Zo;have e2:(i:Int)<=5:=Zo;clear hcell cb0 l0 l1;go_wp2_with (go_at_call 193;refine(Zbf (i:Int) 1 5 e1 e2 _).mono ?_;rintro e w' ⟨rfl,rfl⟩)
    go_ret
    exact⟨rfl,hB⟩
end Go.Proofs.W
namespace Go.Ex
open Go.RowKit Go.Mono
section
def newsS (bk:List (Nat×Blk)) (size:Nat) (x:Option SV):Option (Nat×List U):=
 match x with
 | some (.a (.one (.slc k off n _))) => match bk.look k with
   | some b=>if b.dead then none else(subU b.cells off (n*size)).map (n,·)
   | none=>none
 | some (.a (.one (.sli k off n))) => match bk.look k with
   | some b=>if b.dead then none else(subU b.cells off (n*size)).map (n,·)
   | none=>none
 | some (.a (.one (.own k n _))) => match bk.look k with
   | some b=>if b.dead then none else(subU b.cells 0 (n*size)).map (n,·)
   | none=>none
 | some (.a (.one .emp))=>some (0,[])
 | some (.a (.one (.val (.slice none 0 _))))=>some (0,[])
 | _=>none
section
variable {D:Den} {P:Program} {w0:World} {X:Nat->Prop} {th:Nat} {ρ:Nm} {wc w:World} {bk:List (Nat×Blk)} {c:Nat} {get:Operand->Option SV} {ev:Operand->Value}
theorem Src.of_sub {B:Pl} {T:TypeId} {sp:Bool} {cs:List Value} (hh:Holds w B T sp cs) {l us:List U} (hl:denL D ρ wc l cs) {off n size:Nat} (hs:subU l off (n*size)=some us) {tx e':TypeId} (hk:P.underlying tx=some (.slice e')) (cap:Nat) :
  ∃news,Src P size tx (.slice (some ⟨B.blk,B.base+off,none⟩) n cap) n news w∧denL D ρ wc us news∧news.length=n*size∧(∀m,m<=n->(Builtin.firstCells size m (.slice (some ⟨B.blk,B.base+off,none⟩) n cap)).run P w=.ok (news.take (m*size)).toArray w)∧
    ∀j u,news[j]? = some u->w.cell? ((⟨B.blk,B.base+off,none⟩:Addr).add j)=some u:=by
 obtain⟨h1,h2⟩:=Zf5 hs hl;have key:∀j u,((cs.drop off).take (n*size))[j]? = some u->w.cell? ((⟨B.blk,B.base+off,none⟩:Addr).add j)=some u:=?_
 ·refine⟨_,Src.ofSlice w hk ⟨B.blk,B.base+off,none⟩ n cap _ h2 key h1.ones,h1,h2,λm hm=>?_,key⟩
  have hle:=Ybd size hm;refine run_firstCells_some w size m _ n cap _ (by rw[Ycq,h2];omega) λj u hj=>key j u ?_;rw[Ycv]at hj;split at hj
  ·exact hj
  ·cases hj
 intro j u hj;rw[Yem,Ybj];refine hh.cell ?_;have hjl:j<n*size:=by
  have:=(Yan.1 hj).1;omega
 rw[Ycv,if_pos hjl,Yeh]at hj;simpa using hj
theorem Zne (hB:BkOk D ρ wc w bk) {x:SV} {v:Value} (hv:denV D ρ wc x v) {size n:Nat} {us:List U} (h:newsS bk size (some x)=some (n,us)) {tx e':TypeId} (hk:P.underlying tx=some (.slice e')) :
  ∃news,Src P size tx v n news w∧denL D ρ wc us news∧news.length=n*size∧∀m,m<=n->(Builtin.firstCells size m v).run P w=.ok (news.take (m*size)).toArray w:=by
 unfold newsS at h;split at h
 ·rename_i k off n' cap e
  cases e;split at h
  ·rename_i b hb
   split at h
   ·cases h
   ·rename_i hd
    obtain⟨m,hm,e2⟩:=Yad.1 h;cases e2;obtain⟨B,cs,h1,h2,h3,h4⟩:=hB k b hb (by simpa using hd);obtain⟨B',hB',e1⟩:=hv;cases h1.symm.trans hB';rw[show v=_ from by simpa using e1];obtain⟨news,q1,q2,q3,q4,_⟩:=Src.of_sub (P:=P) h2 h3 hm hk cap;exact⟨news,q1,q2,q3,q4⟩
  ·cases h
 ·rename_i k off n' e
  cases e;split at h
  ·rename_i b hb
   split at h
   ·cases h
   ·rename_i hd
    obtain⟨m,hm,e2⟩:=Yad.1 h;cases e2;obtain⟨B,cs,h1,h2,h3,h4⟩:=hB k b hb (by simpa using hd);obtain⟨B',cap,hB',hc,e1⟩:=hv;cases h1.symm.trans hB';rw[show v=_ from by simpa using e1];obtain⟨news,q1,q2,q3,q4,_⟩:=Src.of_sub (P:=P) h2 h3 hm hk cap;exact⟨news,q1,q2,q3,q4⟩
  ·cases h
 ·rename_i k n' s e
  cases e;split at h
  ·rename_i b hb
   split at h
   ·cases h
   ·rename_i hd
    obtain⟨m,hm,e2⟩:=Yad.1 h;cases e2;obtain⟨B,cs,h1,h2,h3,h4⟩:=hB k b hb (by simpa using hd);obtain⟨B',hB',_,_,hb0,e1⟩:=hv;cases h1.symm.trans hB';rw[show v=_ from by simpa using e1];obtain⟨news,q1,q2,q3,q4,_⟩:=Src.of_sub (P:=P) h2 h3 hm hk B.cap;rw[hb0]at q1 q4;exact⟨news,q1,q2,q3,q4⟩
  ·cases h
 ·rename_i e
  cases e;cases h;obtain⟨p,cp,hp,e1⟩:=hv;rw[show v=_ from by simpa using e1];refine⟨[],?_,rfl,Zs,λm hm=>?_⟩
  ·cases p with
   | none=>rw[hp rfl];exact Src.ofNil w hk 0
   | some a=>exact Src.ofSlice w hk a 0 cp [] Zs (λj u hj=>by simp at hj) Zs
  ·obtain rfl:m=0:=by omega
   cases p with
   | none=>simpa using run_firstCells_none w size 0 0 cp
   | some a=>simpa using run_firstCells_some w size 0 a 0 cp [] Zs (λj u hj=>by simp at hj)
 ·rename_i cp e
  cases e;cases h;rw[show v=_ from by simpa using hv.1];exact⟨[],Src.ofNil w hk _,rfl,Zs,λm hm=>by simpa using run_firstCells_none w size m 0 _⟩
 ·cases h
def EffOk (D:Den) (P:Program) (w0:World) (X:Nat->Prop) (th:Nat) (ρ:Nm) (wc w:World) (bk:List (Nat×Blk)) (c:Nat) (s:Sem Next) (x:SV) (wr:List (Nat×Blk)) (c':Nat):Prop:=
 ∃nx v w' ρ',s.run P w=.ok nx w'∧(nx=.value v∨(nx=.skip∧v=undef))∧denV D ρ' wc x v∧Sat D w0 X th ρ' wc w' (wr++bk)∧Evo ρ wc w bk c c' ρ' wc w' (wr++bk)
theorem Zl0 (h:Sat D w0 X th ρ wc w bk) (hc:ρ c=none) {t tx ty e:TypeId} {i:TypeInfo} {z:Value} (ht:P.underlying t=some (.slice e)) (hi:P.info? e=some i) (hz:i.zero=some z) (hzs:z.cells.size=i.size)
  {base:Option Addr} {sLen sCap:Nat} {olds news:List Value} {lo ln:List U} (hlo:denL D ρ wc lo olds) (hln:denL D ρ wc ln news) (hol:olds.length=sLen*i.size)
  (hold:∀w':World,w'.heap=w.heap->(Builtin.firstCells i.size sLen (.slice base sLen sCap)).run P w'=.ok olds.toArray w') {x:Value} {n:Nat} (hs:Src P i.size tx x n news w) (hnl:news.length=n*i.size)
  (hg:sCap<sLen+n) (h40:sLen+n<=2 ^ 40) (hby:(sLen+n)*i.bytes<=140737488355328) :
  ∃v w' ρ',(Builtin.append_ #[t,tx] ty #[.slice base sLen sCap,x]).run P w=.ok v w'∧denV D ρ' wc (.a (.one (.own c (sLen+n) i.size))) v∧
    Sat D w0 X th ρ' wc w' ((c,⟨e,lo++ln,false,true,false⟩)::bk)∧Evo ρ wc w bk c (c+1) ρ' wc w' ((c,⟨e,lo++ln,false,true,false⟩)::bk):=by
 have hrun:=run_append_grow_src (P:=P) w t tx ty e i z ht hi hz base sLen sCap olds (hold _ rfl) x n news hs hg Zo (growslice_fits hg hby);have hge:=grownCap_ge w (sLen+n) sCap e;generalize grownCap w (sLen+n) sCap e=cap at hrun hge;have hsz:(Builtin.zeroCells z.cells (cap-(sLen+n))).size=(cap-(sLen+n))*i.size:=by rw[size_zeroCells,hzs]
 obtain⟨k1,k2⟩:=(h.drew).alloc hc e true cap (cap*i.size) (l:=lo++ln) (cs:=olds++news) (rest:=(Builtin.zeroCells z.cells (cap-(sLen+n))).toList) (hlo.append hln) (λhh=>by cases hh) (λ_=>by
  simp only[Yay,Yaz,hsz,hol,hnl];rw[<-Nat.add_mul,<-Nat.add_mul];congr 1
  omega)
 have earr:(((olds++news)++(Builtin.zeroCells z.cells (cap-(sLen+n))).toList).toArray:Array Value)=(olds++news).toArray++Builtin.zeroCells z.cells (cap-(sLen+n)):=by
  apply Yee.1;simp
 rw[earr]at k1 k2;exact⟨_,_,_,hrun,⟨_,Zbt _ _ _,hge,rfl,rfl,rfl⟩,k1,(Evo.drew ρ wc w bk c).trans k2 h.named⟩
def infoZ (P:Program) (e:TypeId):Option (Nat×Nat):=
 match P.info? e with
 | some i => match i.zero with
   | some z=>if Nat.beq z.cells.size i.size then some (i.size,i.bytes) else none
   | none=>none
 | none=>none
theorem Znf {e:TypeId} {s b:Nat} (h:infoZ P e=some (s,b)):∃i z,P.info? e=some i∧i.zero=some z∧z.cells.size=i.size∧i.size=s∧i.bytes=b:=by
 unfold infoZ at h;split at h
 ·rename_i i hi
  split at h
  ·rename_i z hz
   split at h
   ·rename_i hs
    cases h;exact⟨i,z,hi,hz,Ybe hs,rfl,rfl⟩
   ·cases h
  ·cases h
 ·cases h
def small (n bytes:Nat):Bool:=Nat.ble n (2 ^ 40)&&Nat.ble (n*bytes) 140737488355328
end
def Zme (s:Option SV):Option SV:=
 match s with
 | some (.a (.one (.slc k off len cap)))=>if Nat.ble len cap then some (.a (.one (.slc k off len cap))) else none
 | some (.a (.one (.sli k off len)))=>some (.a (.one (.sli k off len)))
 | some (.a (.one (.own k len sz)))=>some (.a (.one (.own k len sz)))
 | some (.a (.one .emp))=>some (.a (.one .emp))
 | some (.a (.one (.val (.slice none 0 0))))=>some (.a (.one (.val (.slice none 0 0))))
 | _=>none
def appendS (P:Program) (t tx:TypeId) (s x:Option SV) (bk:List (Nat×Blk)) (th c:Nat):Option (SV×List (Nat×Blk)×Nat):=
 match P.underlying t,P.underlying tx with
 | some (.slice e), some (.slice _) => match infoZ P e with
   | some (size, bytes) => match newsS bk size x with
     | some (n, us) => if Nat.beq n 0 then (Zme s).map λr => (r, [], c) else match s with
       | some (.a (.one (.slc k off len cap))) => match bk.look k with
         | some b => if b.dead then none else
           if Nat.ble (len+n) cap then(if b.ro || !(b.T != 3 || Nat.ble th k) then none else
            (putX b.cells (off+len*size) us).map λl=>(.a (.one (.slc k off (len+n) cap)),[(k,⟨b.T,l,false,b.sp,false⟩)],c))
           else if small (len+n) bytes then(subU b.cells off (len*size)).map λlo=>(.a (.one (.own c (len+n) size)),[(c,⟨e,lo++us,false,true,false⟩)],c+1) else none
         | none=>none
       | some (.a (.one (.val (.slice none 0 0))))=>if small n bytes then some (.a (.one (.own c n size)),[(c,⟨e,us,false,true,false⟩)],c+1) else none
       | some (.a (.one (.own k len sz))) => match bk.look k with
         | some b => if b.dead || b.ro || !b.sp || !(b.T != 3 || Nat.ble th k) || !Nat.beq b.T e || !Nat.beq sz size || !Nat.beq (widths b.cells) (len * size) || !bk.all (λp => Nat.blt p.1 c) || !small (len + n) bytes then none else
           some (.a (.one (.own c (len+n) size)),[(k,⟨b.T,[],false,true,true⟩),(c,⟨e,b.cells++us,false,true,false⟩)],c+1)
         | none=>none
       | _=>none
     | none=>none
   | none=>none
 | _,_=>none
section
variable {D:Den} {P:Program} {w0:World} {X:Nat->Prop} {th:Nat} {ρ:Nm} {wc w:World} {bk:List (Nat×Blk)} {c:Nat}
theorem Zf9 {n b:Nat} (h:small n b=true):n<=2 ^ 40∧n*b<=140737488355328:=by
 unfold small at h;rw[Yam]at h;exact⟨Yaa h.1,Yaa h.2⟩
theorem Zt4 {s:SV} {r:SV} {v:Value} (h:Zme (some s)=some r) (hv:denV D ρ wc s v):r=s∧∃p n cap,v=.slice p n cap∧n<=cap:=by
 unfold Zme at h;split at h
 ·rename_i e
  cases e;split at h
  ·rename_i hb
   cases h;obtain⟨B,hB,e1⟩:=hv;exact⟨rfl,_,_,_,by simpa using e1,Yaa hb⟩
  ·cases h
 ·rename_i e
  cases e;cases h;obtain⟨B,cp,hB,hc,e1⟩:=hv;exact⟨rfl,_,_,_,by simpa using e1,hc⟩
 ·rename_i e
  cases e;cases h;obtain⟨B,hB,hc,_,_,e1⟩:=hv;exact⟨rfl,_,_,_,by simpa using e1,hc⟩
 ·rename_i e
  cases e;cases h;obtain⟨p,cp,hp,e1⟩:=hv;exact⟨rfl,_,_,_,by simpa using e1,Yat _⟩
 ·rename_i e
  cases e;cases h;exact⟨rfl,_,_,_,by simpa using hv.1,Yab _⟩
 ·cases h
theorem Zng {k:Nat} {x:Blk} {l:List (Nat×Blk)} (hd:x.dead=true):Sub' ((k,x)::l) l:=λj y hj=>by
 rcases Zce hj with ⟨_,e,hd'⟩|⟨_,hj⟩
 ·rw[hd]at hd';cases hd'
 ·exact hj
theorem Zok (h:Sat D w0 X th ρ wc w bk) {bkR:List (Nat×Blk)} (hs:Sub bkR bk) {s x:SV} {vs vx:Value} (hvs:denV D ρ wc s vs) (hvx:denV D ρ wc x vx) {t tx ty:TypeId} {r:SV} {wr:List (Nat×Blk)} {c':Nat}
  (ha:appendS P t tx (some s) (some x) bkR th c=some (r,wr,c')) (hn:∀k,c<=k->k<c'->ρ k=none) :
  ∃v w' ρ',(Builtin.append_ #[t,tx] ty #[vs,vx]).run P w=.ok v w'∧denV D ρ' wc r v∧Sat D w0 X th ρ' wc w' (wr++bk)∧Evo ρ wc w bk c c' ρ' wc w' (wr++bk):=by
 have hBk:BkOk D ρ wc w bkR:=λk b hk=>h.bkOk k b (hs k b hk);unfold appendS at ha;split at ha
 ·rename_i e e' ht htx
  split at ha
  ·rename_i size bytes hinf
   obtain⟨i,z,hi,hz,hzs,rfl,rfl⟩:=Znf hinf;split at ha
   ·rename_i n us hnews
    obtain⟨news,hsrc,hln,hnl,_⟩:=Zne (P:=P) hBk hvx hnews htx;split at ha
    ·rename_i hn0
     have hn0:=Ybe hn0;subst hn0;obtain⟨r',hr,e1⟩:=Yad.1 ha;cases e1;obtain⟨rfl,p,m,cap,rfl,hle⟩:=Zt4 hr hvs;obtain rfl:news=[]:=List.eq_nil_of_length_eq_zero (by simpa using hnl);exact⟨_,_,ρ,run_append_nothing w t tx ty e i ht hi p m cap hle vx hsrc,hvs,h,Evo.refl _ _ _ _ _⟩
    ·rename_i hn0
     have hnp:0<n:=by
      rcases Yff n with h0|h0
      ·subst h0;simp at hn0
      ·exact h0
     split at ha
     ·rename_i k off len cap e1
      cases e1;obtain⟨B,hB,e2⟩:=hvs;obtain rfl:vs=.slice (some ⟨B.blk,B.base+off,none⟩) len cap:=by simpa using e2
      split at ha
      ·rename_i b hb
       split at ha
       ·cases ha
       ·rename_i hd
        have hliv:Liv bk k b:=⟨hs k b hb,by simpa using hd⟩
        obtain⟨B',cs,h1,h2,h3,h4,h5,h6⟩:=h.box k b hliv;cases hB.symm.trans h1;split at ha
        ·rename_i hroom
         have hroom:=Yaa hroom;split at ha
         ·cases ha
         ·rename_i hT
          simp only[Ybo,Ydz,not_or,Bool.not_eq_true,Bool.or_eq_false_iff,bne_eq_false_iff_eq,Nat.ble_eq,not_and]at hT;obtain⟨hro,hT⟩:=hT;have hro:b.ro=false:=by simpa using hro
          have hT:b.T≠3∨th<=k:=by
           by_cases h3:b.T=3
           ·right
            have:=hT;simp[h3]at this;exact this
           ·exact .inl h3
          obtain⟨l,hl,e3⟩:=Yad.1 ha;cases e3;obtain⟨k1,k2,k3,k4⟩:=h.store hliv hro hl hln hT hB c;refine⟨.slice (some ⟨B.blk,B.base+off,none⟩) (len+n) cap,_,ρ,?_,⟨B,hB,rfl⟩,k1,k2⟩;rw[k4,Yba];refine run_append_room_src w t tx ty e i ht hi B.blk off len cap vx n news hsrc hroom (λj hj=>?_) (λj hj=>?_)
          ·exact(k3 j hj).1
          ·exact(k3 j hj).2
        ·rename_i hroom
         have hroom:cap<len+n:=by
          rcases Ydu cap (len+n) with h|h
          ·exact h
          ·rw[Nat.ble_eq_true_of_le h]at hroom;simp at hroom
         split at ha
         ·rename_i hsm
          obtain⟨g1,g2⟩:=Zf9 hsm;obtain⟨lo,hl,e3⟩:=Yad.1 ha;cases e3;obtain⟨olds,q1,q2,q3,_,q4⟩:=Src.of_sub (P:=P) h2 h3 hl htx cap;refine Zl0 h (hn c (Yab _) (Yca _)) ht hi hz hzs q2 hln q3 (λw' hw'=>?_) hsrc hnl hroom g1 g2;refine run_firstCells_some w' _ _ _ _ _ _ q3 λj u hj=>?_;rw[<-q4 j u hj];simp only[World.cell?,hw']
         ·cases ha
      ·cases ha
     ·rename_i e1
      cases e1;obtain rfl:vs=.slice none 0 0:=by simpa using hvs.1
      split at ha
      ·rename_i hsm
       obtain⟨g1,g2⟩:=Zf9 hsm;cases ha;have:=Zl0 (sLen:=0) (sCap:=0) (base:=none) (olds:=[]) (lo:=[]) (ty:=ty) h (hn c (Yab _) (Yca _)) ht hi hz hzs rfl hln Zs (λw' _=>run_firstCells_none w' _ _ _ _) hsrc hnl Zo Zo (by rw[Yba];exact g2);simpa using this
      ·cases ha
     ·rename_i k len sz e1
      cases e1;obtain⟨B,hB,hlc,htot,hb0,e2⟩:=hvs;obtain rfl:vs=.slice (some ⟨B.blk,0,none⟩) len B.cap:=by simpa using e2
      split at ha
      ·rename_i b hb
       split at ha
       ·cases ha
       ·rename_i hc
        simp only[Ybo,Ydz,not_or,Bool.not_eq_true,Bool.not_eq_false]at hc;obtain⟨⟨⟨⟨⟨⟨⟨⟨c1,c2⟩,c3⟩,c4⟩,c5⟩,c6⟩,c7⟩,c8⟩,c9⟩:=hc;cases ha;have c5:=Ybe c5;have c6:=Ybe c6;have c7:=Ybe c7;obtain⟨g1,g2⟩:=Zf9 c9;have hT:b.T≠3∨th<=k:=by
         rcases c4 with h|h
         ·exact .inl (by simpa using h)
         ·exact .inr (Yaa h)
        have hliv:Liv bk k b:=⟨hs k b hb,c1⟩
        have hkc:c≠k:=λe=>by
         have:=hn c (Yab _) (Yca _);rw[e,hB]at this;cases this
        obtain⟨B',cs,h1,h2,h3,h4,h5,h6⟩:=h.box k b hliv;cases hB.symm.trans h1;have hcn:=hn c (Yab _) (Yca _);subst c5;subst c6;by_cases hroom:len+n<=B.cap
        ·have hrm:widths b.cells+news.length<=B.tot:=by
          rw[c7,hnl,htot,<-Nat.add_mul];exact Ybd _ hroom
         obtain⟨k1,k2,k3,k4⟩:=h.push hliv c2 c3 hln hT hB hcn hrm hkc;refine⟨.slice (some ⟨B.blk,0,none⟩) (len+n) B.cap,_,_,?_,⟨B,Zbt _ _ _,hroom,htot,hb0,rfl⟩,k1,k2⟩;rw[c7]at k3 ⊢;have:=run_append_room_src w t tx ty b.T i ht hi B.blk 0 len B.cap vx n news hsrc hroom (λj hj=>by rw[Yba];exact(k3 j hj).1) (λj hj=>by rw[Yba];exact(k3 j hj).2);rw[Yba]at this;exact this
        ·have hcs:=h3.len
         obtain⟨v,w',ρ',q1,q2,q3,q4⟩:=Zl0 (ty:=ty) (olds:=cs) (base:=some ⟨B.blk,0,none⟩) (sLen:=len) (sCap:=B.cap) h hcn ht hi hz hzs h3 hln (by rw[hcs,c7]) (λw' hw'=>run_firstCells_some w' _ _ _ _ _ _ (by rw[hcs,c7]) λj u hj=>by
          have:=h2.cell hj;rw[hb0,Yba]at this;rw[Yem,Yba,<-this];simp only[World.cell?,hw']) hsrc hnl Zo g1 g2
         exact⟨v,w',ρ',q1,q2,q3.sub' (Zng rfl),q4.sub' (Zng rfl)⟩
      ·cases ha
     ·cases ha
   ·cases ha
  ·cases ha
 ·cases ha
end
end
end Go.Ex
