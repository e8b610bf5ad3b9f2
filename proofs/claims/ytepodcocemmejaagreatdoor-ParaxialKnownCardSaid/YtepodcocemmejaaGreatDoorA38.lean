/- Part 38 of 52 of the proof that the law ParaxialKnown returns true, whatever stands in memory, if the two listed variables hold what the text lays: contracts of the functions that it reaches. No condition beside the row. -/
import Derived.Test.YtepodcocemmejaaGreatDoorA12
import Derived.Test.YtepodcocemmejaaGreatDoorA33
set_option linter.unusedVariables false
set_option linter.unusedSimpArgs false
namespace Go.Mono
open Go.RowKit
theorem Box.third (w : World) (c0 c1 c2 : Array Value) (T0 T1 T2 : TypeId) : Box (((w.alloc (.cells c0 T0)).alloc (.cells c1 T1)).alloc (.cells c2 T2)) (w.heap.size + 1 + 1) T2 c2 := by
  have := Box.new ((w.alloc (.cells c0 T0)).alloc (.cells c1 T1)) T2 c2
  simpa only [World.size_alloc] using this
theorem Box.second (w : World) (c0 c1 c2 : Array Value) (T0 T1 T2 : TypeId) : Box (((w.alloc (.cells c0 T0)).alloc (.cells c1 T1)).alloc (.cells c2 T2)) (w.heap.size + 1) T1 c1 := by
  have := (Box.new (w.alloc (.cells c0 T0)) T1 c1).alloc (.cells c2 T2)
  simpa only [World.size_alloc] using this
end Go.Mono
namespace Go.Proofs.YtepodcocemmejaaGreatDoor
open Go.RowKit Go.Mono
theorem alloc_quot (w : World) : (Instr.alloc 54 true (.tuple #[])).run Tryz.prog w = .ok (.pointer (some ⟨w.heap.size, 0, none⟩)) (w.alloc (.cells #[.bool false, .slice none 0 0, .bool false, .slice none 0 0] 54)) := by
  go_simp
set_option maxRecDepth 100000 in
set_option maxHeartbeats 1000000 in
theorem fractions_ok (n : Nat) (p : Option Addr) (c : Nat) (C : Nat → Array Value) (f : Nat → Rat) (w : World) (hr : RdC w p n c 4 (fun i j => (C i).getD j undef)) (hC : ∀ i, (C i).size = 4) (hq : ∀ i, i < n → QV w (.agg (C i)) (f i)) :
    Calls Tryz.prog 48 #[.slice p n c] w fun e w' => e = .returned (.tuple #[]) ∧ Below w.heap.size w w' := by
  obtain ⟨hc1, hn1, hx⟩ := hr
  go_enter Tryz.func48, Tryz.ntmps48
  go_wp2
  go_loopw [7] (fun x wr => ∃ k : Nat, k ≤ n ∧ x = .int .i64 (k : Int) ∧ Below w.heap.size w wr) (fun x _ => (n - intOf x).toNat)
  case atStart => exact ⟨0, Nat.zero_le _, rfl, Below.refl _ _⟩
  case round =>
    obtain ⟨k, hk, rfl, hBr⟩ := hrel
    by_cases hkn : k < n
    · obtain ⟨b, off, rfl, hbl, hcell⟩ := hx (by omega)
      have hcel := hcell k
      have gz := hC k
      have Rk := hq k hkn
      obtain ⟨C', hC', _, g1⟩ := Rk.cells
      rw [Value.agg.injEq] at hC'
      rw [← hC'] at g1
      have hsz : (Tryz.prog.info? 54).map (·.size) = some (C k).size := by rw [gz]; exact sizeQuot
      have hsl : (Tryz.prog.info? 54).map (·.size) = some (C k).toList.length := by rw [Array.length_toList, gz]; exact sizeQuot
      have hrange : wr.rangeAt b (off + k * 4) (C k).toList := fun j v hv => by
        have hj : j < 4 := by
          have := (List.getElem?_eq_some_iff.1 hv).1
          simpa [gz] using this
        refine ((hBr.cell (p := ⟨b, off + k * 4 + j, none⟩) hbl).trans (hcel j hkn hj)).trans ?_
        rw [Array.getElem?_toList] at hv
        rw [Array.getD_eq_getD_getElem?, hv]
        rfl
      have hkn' : (k : Int) < n := by omega
      clear hcell hcel hx hC hq hC'
      generalize C k = A at *
      generalize f k = fk at *
      go_wp2_with first | (refine wpList_load_mid rfl 54 _ rfl b (off + k * 4) rfl A.toList _ hrange Tryz.underlying54 rfl hsl ?_) | (refine wpList_new rfl 54 rfl _ alloc_quot ?_; intro W1 B1 hle hB1 b1) | (refine wpList_store_box rfl 54 (.tmp 3) (.tmp 10) rfl B1 0 54 _ A A rfl rfl b1 hsz (Nat.le_of_eq (by rw [gz]; rfl)) g1 (whole_new (by rw [gz]; rfl)) ?_; intro W2 hk2 b2; have hBW2 : Below wr.heap.size wr W2 := hk2.below hB1 hle hB1.size) | (refine wpList_load_box rfl 54 (.tmp 3) rfl B1 rfl 54 A b2 _ Tryz.underlying54 rfl hsz ?_) | (go_at_call 95; refine (qcheck_ok (.agg A) fk W2 w (Ext.of_below (belowCall hBr hBW2)) Rk).mono ?_; rintro e W3 ⟨rfl, hb3⟩)
      go_roundw
      case rel => exact ⟨k + 1, by omega, by simp, belowCall (belowCall hBr hBW2) hb3⟩
      case measure => simp [intOf]; omega
    · obtain rfl : k = n := by omega
      clear hx
      go_wp2
      go_end0
      exact ⟨rfl, hBr⟩
set_option maxRecDepth 100000 in
set_option maxHeartbeats 1000000 in
theorem look_ok (a : Lns) (q : Plc) (hchk : Chk a q) (k : Nat) (w : World) (h : OptAt w a q) (k1 : k < a.nw) :
    Calls Tryz.prog 47 #[.agg (a.ovals q), .int .i64 (k : Int)] w fun e w' => e = .returned (.agg (a.vvals q k)) ∧ Below w.heap.size w w' := by
  have hc := fun W (hW : Below w.heap.size w W) => hchk W (h.below hW)
  have hi : (Tryz.prog.info? 104).map (·.size) = some 11 := by kernel_rfl
  have k1' : (k : Int) < a.nw := by omega
  simp only [Lns.ovals, Lns.vvals] at hc ⊢
  clear h hchk
  go_enter Tryz.func47, Tryz.ntmps47
  go_wp2_with fail
  refine boxes2c fun W hB hs bO bR => ?_
  refine (hc W hB).mono ?_
  rintro e W1 ⟨rfl, hb⟩
  replace hB := belowCall hB hb
  replace bO := bO.below hb
  replace bR := bR.below hb
  have cO := bO.cell
  have lO := bO.lt
  go_wp2_with (refine wpList_store_box rfl 104 (.tmp 4) (.tmp 27) rfl (w.heap.size + 1) 0 104 _ #[.string a.nm, .int .i64 a.di, .int .i64 a.pu, .int .i64 a.st, .int .i64 a.pr, .slice q.pf a.nf q.cf, .slice q.pw a.nw q.cw, .slice q.ps a.ns q.cs, .slice q.pc 0 q.cc, .slice q.pi a.ns q.ci, .int .i64 (k : Int)] #[.string a.nm, .int .i64 a.di, .int .i64 a.pu, .int .i64 a.st, .int .i64 a.pr, .slice q.pf a.nf q.cf, .slice q.pw a.nw q.cw, .slice q.ps a.ns q.cs, .slice q.pc 0 q.cc, .slice q.pi a.ns q.ci, .int .i64 (k : Int)] rfl rfl bR hi (Nat.le_of_ble_eq_true rfl) (by simp [Value.oneCell']) rfl ?_; intro W4 hk4 b4)
  refine bodyPost_ret (b4.results rfl _ _ rfl Tryz.underlying104 rfl hi) rfl ?_
  exact ⟨rfl, hk4.below hB (by omega) hB.size⟩
set_option maxRecDepth 100000 in
theorem order_ok (a : Lns) (q : Plc) (k : Nat) (back : Bool) (w : World) :
    Calls Tryz.prog 49 #[.agg (a.vvals q k), .bool back] w fun e w' => ∃ Bn Bb, e = .returned (.func (.func 96) #[] #[.pointer (some ⟨Bn, 0, none⟩), .pointer (some ⟨Bb, 0, none⟩)]) ∧ w.heap.size ≤ Bn ∧ w.heap.size ≤ Bb ∧ Box w' Bn 3 #[.int .i64 (a.ns : Int)] ∧ Box w' Bb 4 #[.bool back] ∧ Below w.heap.size w w' := by
  have hmf : ∀ (fn : Fn) (first cap : Array Value) (w : World), (Instr.makeFunc fn first cap).run Tryz.prog w = .ok (.func fn first cap) w := fun _ _ _ _ => rfl
  simp only [Lns.vvals]
  go_enter Tryz.func49, Tryz.ntmps49
  go_wp2
  go_ret
  exact ⟨_, _, rfl, by omega, by omega, Box.third _ _ _ _ _ _ _, Box.second _ _ _ _ _ _ _, (((Below.refl _ _).alloc (Nat.le_refl _) _).alloc (by simp) _).alloc (by simp; omega) _⟩
end Go.Proofs.YtepodcocemmejaaGreatDoor
