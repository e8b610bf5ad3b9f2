/- CoatSums returns true for every list of thin films and every two small numbers. Part 2 of 6. No condition beside the row. -/
import Derived.LaidOnce
import Derived.LaidMore
import Derived.ProofKit
import Derived.Stop.Joined
import Derived.Test.YtdgodcgdlfjpaaaGreatDoorRows
import Derived.Test.YtdgodcgdlfjpaaaGreatDoorTie
import Derived.Test.YtdgodcgdlfjpaaaGreatDoorCards
import Derived.SevenTiedAt
import Derived.Deep.Onto
import Derived.Test.YtdgodcgdlfjpaaaGreatDoorA03
import Derived.Test.YtdgodcgdlfjpaaaGreatDoorA10
import Derived.Test.YtdgodcgdlfjpaaaGreatDoorA21
import Derived.Test.YtdgodcgdlfjpaaaGreatDoorA22
import Derived.Test.YtdgodcgdlfjpaaaGreatDoorS01
set_option linter.unusedVariables false
set_option linter.unusedSimpArgs false
namespace Go.Proofs.YtdgodcgdlfjpaaaGreatDoor
open Go Go.ChangeShapes Go.WideShapes Go.ChangeAt Go.RowKit Go.Mono
theorem own40 : ownKnob Tryz.prog.godebug = none := by kernel_rfl
theorem door40 (os : Os) (args : Array Value) : laidMetH Tryz.prog Rows.coatKnownRow.laid ((World.doorLaid Tryz.prog 4000 os).forCall (fun _ _ => 0) ⟨#[], args, []⟩).memory :=
  laidMetH_of_parts3 (fuel := 8) (laidMet_of_run' 8 (by kernel_rfl) (by kernel_rfl)) (by kernel_rfl) (by kernel_rfl)
theorem keptBut40 {w w' : World} (h : Below w.heap.size w w') (may : MemPlace → Prop) : w.keptBut w' may :=
  (World.keptBut_refl w may).congr h.os h.output (fun i hi => h.block i hi)
end Go.Proofs.YtdgodcgdlfjpaaaGreatDoor
namespace Go.Proofs.YtdgodcgdlfjpaaaGreatDoor
open Go.RowKit Go.Mono
theorem madeI_ok (n : Int) (w : World) : Calls Tryz.prog 97 #[.int .i64 n, .int .i64 0] w fun e w' => e = .returned (.tuple #[.int .i64 n, .int .i64 0]) ∧ Below w.heap.size w w' := by
  go_enter Tryz.func97, Tryz.ntmps97
  go_wp2
  go_ret2
  exact ⟨rfl, Below.refl _ _⟩
set_option maxRecDepth 100000 in
theorem qsign_ok (a : Rat) (C : Array Value) (w : World) (h : QV w (.agg C) a) :
    Calls Tryz.prog 36 #[.agg C] w fun e w' => e = .returned (.tuple #[.int .i64 a.num.sign, .int .i64 0]) ∧ Below w.heap.size w w' := by
  have h' := h
  obtain ⟨p1, k1, c1, q1, l1, d1, eA, x1, x2⟩ := h
  cases eA
  have g1 := Sg.self a.num
  obtain ⟨zz, hzz⟩ : ∃ zz, a.num.sign = zz := ⟨_, rfl⟩
  rw [hzz]
  replace hzz := Lib.hid hzz
  generalize decide (a.num < 0) = sa at *
  go_enter Tryz.func36, Tryz.ntmps36
  go_wp2_with fail
  refine boxes1 (T0 := 37) fun W hB hs b0 => ?_
  refine wp_region_held_drew (S := fun w' => Below W.heap.size W w') (by as_aux_lemma => kernel_rfl) ((Below.refl _ _).drew) (fun hHeld => ?_)
  generalize W.drew = X0 at *
  refine tlf 0 (some 4) rfl (.agg #[.bool sa, .slice p1 k1 c1, .bool false, .slice q1 l1 d1]) (exec_load 37 _ rfl w.heap.size 0 (by as_aux_lemma => kernel_rfl) #[.bool sa, .slice p1 k1 c1, .bool false, .slice q1 l1 d1] (fun w h => (b0.below h).range) _ Tryz.underlying37 rfl sizeQuot) ?_
  refine tlf 4 (some 8) rfl (.agg #[.bool sa, .slice p1 k1 c1, .bool false, .slice q1 l1 d1]) (exec_load 37 _ rfl w.heap.size 0 (by as_aux_lemma => kernel_rfl) #[.bool sa, .slice p1 k1 c1, .bool false, .slice q1 l1 d1] (fun w h => (b0.below h).range) _ Tryz.underlying37 rfl sizeQuot) ?_
  refine Mono.stc 1 (some 5) (read_any sa false p1 q1 k1 c1 l1 d1 _) (fun e X1 hR => ?_)
  obtain ⟨rfl, hb1⟩ := hR
  refine ⟨(belowCall hHeld hb1), fun hHeld => Mono.pt ?_⟩
  have hX1 := hHeld
  refine tlf 2 (some 6) rfl (.agg #[.bool sa, .slice p1 k1 c1]) (fun w _ => by as_aux_lemma => kernel_rfl) ?_
  refine Mono.stc 3 (some 7) (wsign_ok sa 600 p1 k1 c1 a.num X1 ((x1.ext (.of_below hB)).ext (.of_below hX1)) g1) (fun e X2 hR => ?_)
  obtain ⟨rfl, hb2⟩ := hR
  refine ⟨(belowCall hHeld hb2), fun hHeld => Mono.pt ?_⟩
  rw [hzz.out]
  have hX2 := hHeld
  refine Mono.stc 5 (some 9) (qcheck_ok _ a X2 X2 (Ext.refl _) ((h'.ext (.of_below hB)).ext (.of_below hX2))) (fun e X3 hR => ?_)
  obtain ⟨rfl, hb3⟩ := hR
  refine ⟨(belowCall hHeld hb3), fun hHeld => Mono.pt ?_⟩
  refine Mono.stc 6 (some 10) (madeI_ok zz _) (fun e X4 hR => ?_)
  obtain ⟨rfl, hb4⟩ := hR
  refine ⟨(belowCall hHeld hb4), fun hHeld => Mono.pt ?_⟩
  refine tkf 7 (some 11) ?_
  refine tkf 8 (some 12) ?_
  refine tkf 9 (some 2) ?_
  refine tkf 10 (some 3) ?_
  refine wpAnyH_done (by as_aux_lemma => kernel_rfl) ?_ _
  go_wp2
  go_ret2
  exact ⟨rfl, belowCall hB hHeld⟩
end Go.Proofs.YtdgodcgdlfjpaaaGreatDoor
namespace Go.Proofs.YtdgodcgdlfjpaaaGreatDoor
open Go.RowKit Go.Mono
set_option maxRecDepth 100000 in
set_option maxHeartbeats 2000000 in
theorem films_ok (p : Option Addr) (n c : Nat) (G : Nat → Thn) (hG : ∀ i, i < n → (G i).ok) (most : Nat) (hm : most ≤ 9) (w : World) (h : ThinsAt w p n c G) :
    Calls Tryz.prog 13 #[.slice p n c, .int .i64 (most : Int)] w fun e w' => ∃ p' c', e = .returned (.slice p' (min n most) c') ∧ w'.ownsRow w.heap.size 24 3 (.slice p' (min n most) c') (min n most) (frow (fun i => (G i).film) (min n most)) ∧ Below w.heap.size w w' := by
  have hn63 : n ≤ 140737488351232 := h.2.1
  go_enter Tryz.func13, Tryz.ntmps13
  go_wp2_with fail
  go_loopw [5, 6] (fun v x wr => ∃ i : Nat, i ≤ min n most ∧ x = .int .i64 (i : Int) ∧ wr.ownsRow w.heap.size 24 3 v i (frow (fun i => (G i).film) i) ∧ Below w.heap.size w wr) (fun _ x _ => (most - intOf x).toNat)
  case atStart => exact ⟨0, Nat.zero_le _, rfl, World.ownsRow_nil _ _ _ _, Below.refl _ _⟩
  case round =>
    obtain ⟨i, hi, rfl, hown, hB⟩ := hrel
    by_cases him : i < min n most
    · have h1 : i < n := by omega
      have h2 : i < most := by omega
      obtain ⟨b, off, rfl, hbl, hrow0⟩ := h.rowAt (by omega)
      have hrow := hrow0 i h1 wr hB
      have hti := hG i h1
      obtain ⟨v0, v1, v2, hv⟩ : ∃ v0 v1 v2 : Int, G i = ⟨v0, v1, v2⟩ := ⟨_, _, _, rfl⟩
      have r0 : wr.cell? ⟨b, off + i * 3, none⟩ = some (.int .u8 v0) := by have := hrow 0 (by omega); rw [hv] at this; exact this
      have r1 : wr.cell? ⟨b, off + i * 3 + 1, none⟩ = some (.int .u8 v1) := by have := hrow 1 (by omega); rw [hv] at this; exact this
      have r2 : wr.cell? ⟨b, off + i * 3 + 2, none⟩ = some (.int .u8 v2) := by have := hrow 2 (by omega); rw [hv] at this; exact this
      have hrg : wr.rangeAt b (off + i * 3) (Thn.mk v0 v1 v2).vals.toList := by
        intro j u hj
        match j, hj with
        | 0, hj => cases hj; exact r0
        | 1, hj => cases hj; exact r1
        | 2, hj => cases hj; exact r2
      have hsl : (Tryz.prog.info? 112).map (·.size) = some (Thn.mk v0 v1 v2).vals.toList.length := by kernel_rfl
      have hin : (i : Int) < n := by omega
      have him' : (i : Int) < most := by omega
      obtain ⟨ti, hti1, htz, hts, htb⟩ := info_parts infoFilm
      have hwr := hB.size
      have hfi : (fun i => (G i).film) i = Thn.film ⟨v0, v1, v2⟩ := by simp only [hv]
      clear hrow0 hrow r0 r1 r2 h hG
      rw [hv] at hti
      go_wp2_with first | (refine wpList_load_mid rfl 112 _ rfl b (off + i * 3) rfl (Thn.mk v0 v1 v2).vals.toList _ hrg Tryz.underlying112 rfl hsl ?_)
      refine (thin_film ⟨v0, v1, v2⟩ hti wr).mono ?_
      rintro e W1 ⟨rfl, hb1⟩
      obtain ⟨x0, x1, x2, hx⟩ : ∃ x0 x1 x2 : Int, (Thn.film ⟨v0, v1, v2⟩).vals = #[.int .i64 x0, .int .i64 x1, .int .i64 x2] := ⟨_, _, _, rfl⟩
      rw [hx]
      have hown1 := ownsRow_below hown hb1
      have hB1 := belowCall hB hb1
      have hb2 : Below W1.heap.size W1 (W1.alloc (.cells #[.int .i64 x0, .int .i64 x1, .int .i64 x2] 24)) := belowAlloc (Below.refl _ _) _
      have hown2 := ownsRow_below hown1 hb2
      have hB2 := belowCall hB1 hb2
      have hcn := new_cells W1 #[.int .i64 x0, .int .i64 x1, .int .i64 x2] 24
      replace hx := Lib.hid hx
      replace hfi := Lib.hid hfi
      clear hown hown1 hb1 hrg
      go_wp2_with first | ((refine wpList_append_own _ rfl _ _ 27 rfl w.heap.size 24 ti _ 3 24 Tryz.underlying27 hti1 htz hts htb rfl (by decide) _ _ _ rfl hown2 ⟨W1.heap.size, 0, none⟩ 1 1 [.int .i64 x0, .int .i64 x1, .int .i64 x2] rfl rfl hcn (by simp [Value.oneCell']) (by simp [maxLen]; omega) (by omega) hB2.size ?_); intro v' W3 hown3 hgrow _)
      have hB3 := Below.appended hown2 hgrow hB2 (Nat.le_refl _)
      go_roundw
      case rel =>
        refine ⟨i + 1, by omega, by simp, ?_, hB3⟩
        rw [frow, hfi.out, hx.out]
        exact hown3
      case measure => simp [intOf]; omega
    · obtain rfl : i = min n most := by omega
      obtain ⟨p', c', rfl⟩ := ownsRow_slice hown
      by_cases hnm : (↑(min n most) : Int) < n
      · have hmm : ¬ (↑(min n most) : Int) < most := by omega
        go_wp2
        go_ret
        exact ⟨p', c', rfl, hown, hB⟩
      · go_wp2
        go_ret
        exact ⟨p', c', rfl, hown, hB⟩
end Go.Proofs.YtdgodcgdlfjpaaaGreatDoor
