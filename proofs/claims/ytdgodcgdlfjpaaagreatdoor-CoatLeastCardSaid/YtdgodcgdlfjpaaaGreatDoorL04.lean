/- CoatLeast returns true for every list of thin films, every list of octets and every two small numbers. Part 4 of 7. No condition beside the row. -/
import Derived.Test.YtdgodcgdlfjpaaaGreatDoorA03
import Derived.Test.YtdgodcgdlfjpaaaGreatDoorA38
import Derived.Test.YtdgodcgdlfjpaaaGreatDoorL01
import Derived.Test.YtdgodcgdlfjpaaaGreatDoorL03
set_option linter.unusedVariables false
set_option linter.unusedSimpArgs false
namespace Go.Proofs.YtdgodcgdlfjpaaaGreatDoor
open Go.RowKit Go.Mono
/-- films in a row of their own -/
def FRow (w : World) (g n cap : Nat) (H : Nat → Flm) : Prop := ∃ cs, Box w g 24 cs ∧ cs.size = cap * 3 ∧ n ≤ cap ∧ ∀ i j, i < n → j < 3 → cs[i * 3 + j]? = some ((H i).vals.getD j undef)
theorem put_film {cs : Array Value} {n cap i : Nat} {H : Nat → Flm} {f : Flm} (hs : cs.size = cap * 3) (hn : n ≤ cap) (hi : i < n) (h : ∀ i j, i < n → j < 3 → cs[i * 3 + j]? = some ((H i).vals.getD j undef)) :
    (cs.toList.take (i * 3) ++ f.vals.toList ++ cs.toList.drop (i * 3 + 3)).toArray.size = cap * 3 ∧ ∀ k j, k < n → j < 3 → (cs.toList.take (i * 3) ++ f.vals.toList ++ cs.toList.drop (i * 3 + 3)).toArray[k * 3 + j]? = some ((if k = i then f else H k).vals.getD j undef) := by
  have hv : f.vals.toList.length = 3 := rfl
  constructor
  · simp [hv]; omega
  · intro k j hk hj
    have hl : cs.toList.length = cap * 3 := by simpa using hs
    rw [List.getElem?_toArray]
    by_cases hki : k = i
    · subst hki
      rw [if_pos rfl, List.append_assoc, List.getElem?_append_right (by simp; omega), List.getElem?_append_left (by simp [hv]; omega)]
      rw [List.length_take, Nat.min_eq_left (by omega), show k * 3 + j - k * 3 = j by omega]
      rcases (by omega : j = 0 ∨ j = 1 ∨ j = 2) with rfl | rfl | rfl <;> rfl
    · rw [if_neg hki, ← h k j hk hj, ← Array.getElem?_toList]
      by_cases hlt : k < i
      · rw [List.append_assoc, List.getElem?_append_left (by simp; omega), List.getElem?_take_of_lt (by omega)]
      · rw [List.getElem?_append_right (by simp [hv]; omega), List.getElem?_drop]
        congr 1
        simp [hv]; omega
theorem FRow.range {w : World} {g n cap : Nat} {H : Nat → Flm} (h : FRow w g n cap H) {i : Nat} (hi : i < n) : w.rangeAt g (i * 3) (H i).vals.toList := by
  obtain ⟨cs, b, hs, hn, hc⟩ := h
  intro j v hj
  have hj3 : j < 3 := (List.getElem?_eq_some_iff.1 hj).1
  rw [b.cell, hc i j hi hj3]
  rcases (by omega : j = 0 ∨ j = 1 ∨ j = 2) with rfl | rfl | rfl <;> exact hj
theorem FRow.congr {w : World} {g n cap : Nat} {H H' : Nat → Flm} (h : FRow w g n cap H) (he : ∀ i, i < n → H i = H' i) : FRow w g n cap H' := by
  obtain ⟨cs, b, hs, hn, hc⟩ := h
  exact ⟨cs, b, hs, hn, fun i j hi hj => by rw [← he i hi]; exact hc i j hi hj⟩
theorem FRow.films {w : World} {g n cap : Nat} {H : Nat → Flm} (h : FRow w g n cap H) (hn : n ≤ 1000) : FilmsAt w (some ⟨g, 0, none⟩) n cap H := by
  obtain ⟨cs, b, hs, hn', hc⟩ := h
  exact ⟨hn', by omega, fun _ => ⟨g, 0, rfl, b.lt, fun i j hi hj => by rw [b.cell, Nat.zero_add]; exact hc i j hi hj⟩⟩
theorem FRow.of_owns {w : World} {base : Nat} {p : Option Addr} {n cap : Nat} {G : Nat → Flm} (h : w.ownsRow base 24 3 (.slice p n cap) n (frow G n)) (hn : 0 < n) : ∃ g, p = some ⟨g, 0, none⟩ ∧ base ≤ g ∧ FRow w g n cap G := by
  obtain ⟨hl, h⟩ := h
  rcases h with ⟨h1, h0⟩ | ⟨g', cap', cur, hv, hb, hg, h1, h2, h3, h4⟩
  · omega
  · cases hv
    refine ⟨g', rfl, hb, cur, Box.mk hg, h3, h1, fun i j hi hj => ?_⟩
    rw [← Array.getElem?_toList]
    have := frow_get G n i j hi hj
    rw [← h4, List.getElem?_take_of_lt (by omega)] at this
    exact this
theorem flip_next (F : Nat → Flm) (n i j k : Nat) (hj : (n : Int) - 1 - i = j) (hij : i < j) (hk : k < n) :
    (fun k => if k = j then (fun k => if k < i ∨ n - 1 - k < i then F (n - 1 - k) else F k) i else if k = i then (fun k => if k < i ∨ n - 1 - k < i then F (n - 1 - k) else F k) j else (fun k => if k < i ∨ n - 1 - k < i then F (n - 1 - k) else F k) k) k = if k < i + 1 ∨ n - 1 - k < i + 1 then F (n - 1 - k) else F k := by
  simp only
  rw [if_neg (by omega : ¬ (i < i ∨ n - 1 - i < i)), if_neg (by omega : ¬ (j < i ∨ n - 1 - j < i))]
  by_cases h1 : k = j
  · subst h1
    rw [if_pos rfl, if_pos (by omega)]
    congr 1; omega
  · rw [if_neg h1]
    by_cases h2 : k = i
    · subst h2
      rw [if_pos rfl, if_pos (by omega)]
      congr 1; omega
    · rw [if_neg h2]
      by_cases h3 : k < i ∨ n - 1 - k < i
      · rw [if_pos h3, if_pos (by omega)]
      · rw [if_neg h3, if_neg (by omega)]
theorem flip_all (F : Nat → Flm) (n i k : Nat) (hij : ¬ (i : Int) < (n : Int) - 1 - i) (hk : k < n) : (fun k => if k < i ∨ n - 1 - k < i then F (n - 1 - k) else F k) k = F (n - 1 - k) := by
  simp only
  by_cases h3 : k < i ∨ n - 1 - k < i
  · rw [if_pos h3]
  · rw [if_neg h3]
    congr 1; omega
set_option maxRecDepth 100000 in
set_option maxHeartbeats 2000000 in
theorem reverse_ok (p : Option Addr) (g n c : Nat) (hn9 : n ≤ 1000) (F : Nat → Flm) (w : World) (h : 0 < n → p = some ⟨g, 0, none⟩ ∧ FRow w g n c F) :
    Calls Tryz.prog 34 #[.slice p n c] w fun e w' => e = .returned (.tuple #[]) ∧ (0 < n → FRow w' g n c (fun i => F (n - 1 - i))) ∧ KeepBut g w.heap.size w w' := by
  go_enter Tryz.func34, Tryz.ntmps34
  go_wp2_with fail
  go_loopw [2, 3] (fun x y wr => ∃ i : Nat, 2 * i ≤ n ∧ x = .int .i64 (i : Int) ∧ y = .int .i64 ((n : Int) - 1 - i) ∧ (0 < n → FRow wr g n c (fun k => if k < i ∨ n - 1 - k < i then F (n - 1 - k) else F k)) ∧ KeepBut g w.heap.size w wr) (fun x _ _ => (n - intOf x).toNat)
  case atStart => exact ⟨0, Nat.zero_le _, rfl, by simp, fun hn => (h hn).2.congr fun i _ => by simp, KeepBut.refl _ _⟩
  case round =>
    obtain ⟨i, hi, rfl, rfl, hrow, hK⟩ := hrel
    by_cases hij : (i : Int) < (n : Int) - 1 - i
    · obtain ⟨j, hj⟩ : ∃ j : Nat, (n : Int) - 1 - i = j := ⟨n - 1 - i, by omega⟩
      obtain ⟨rfl, _⟩ := h (by omega)
      replace hrow := hrow (by omega)
      generalize hH : (fun k => if k < i ∨ n - 1 - k < i then F (n - 1 - k) else F k) = H at hrow
      rw [hj] at hij ⊢
      have hin : (i : Int) < n := by omega
      have hjn : (j : Int) < n := by omega
      have hin' : i < n := by omega
      have hjn' : j < n := by omega
      go_wp2_with fail
      obtain ⟨cs, b, hs, hn, hc⟩ := hrow
      have ri := FRow.range ⟨cs, b, hs, hn, hc⟩ hin'
      have rj := FRow.range ⟨cs, b, hs, hn, hc⟩ hjn'
      refine wp_region_held_drew (S := fun w' => KeepBut g w.heap.size w w') (by as_aux_lemma => kernel_rfl) hK.drew (fun hHeld => ?_)
      have bX := b.drew
      have rXi : wr.drew.rangeAt g (i * 3) (H i).vals.toList := ri
      have rXj : wr.drew.rangeAt g (j * 3) (H j).vals.toList := rj
      generalize wr.drew = X0 at *
      have hi3 : (Tryz.prog.info? 24).map (·.size) = some (H i).vals.size := by kernel_rfl
      have hj3 : (Tryz.prog.info? 24).map (·.size) = some (H j).vals.size := by kernel_rfl
      refine tkf 0 (some 14) ?_
      refine tkf 1 (some 15) ?_
      refine tkf 2 (some 16) ?_
      refine tkf 3 (some 17) ?_
      refine tkf 4 (some 18) ?_
      refine tkf 5 (some 19) ?_
      refine tkf 6 (some 20) ?_
      refine tkf 8 (some 22) ?_
      refine tkf 9 (some 23) ?_
      refine tkf 10 (some 24) ?_
      have hv3 : (H j).vals.size = 3 := rfl
      have hv3' : (H i).vals.size = 3 := rfl
      refine Mono.fork2 7 11 ?_ ?_
      · intro K hK
        refine Mono.arma (some 21) hK (.agg (H j).vals) X0 hHeld (fun hHeld => Mono.pt ?_) rfl (by as_aux_lemma => kernel_rfl) (exec_load (S := fun w => w = X0) 24 _ rfl g (j * 3) (by as_aux_lemma => kernel_rfl) (H j).vals (fun w hS => by subst hS; exact rXj) _ Tryz.underlying24 rfl hj3 X0 rfl)
        clear hK K
        refine Mono.sta 11 (some 25) (.agg (H i).vals) X0 hHeld (fun hHeld => Mono.pt ?_) rfl rfl (by as_aux_lemma => kernel_rfl) (by as_aux_lemma => kernel_rfl) (exec_load (S := fun w => w = X0) 24 _ rfl g (i * 3) (by as_aux_lemma => kernel_rfl) (H i).vals (fun w hS => by subst hS; exact rXi) _ Tryz.underlying24 rfl hi3 X0 rfl)
        refine tkf 12 (some 26) ?_
        refine wpAnyH_storeN g 24 13 rfl rfl rfl rfl (i * 3) (H j).vals cs (cs.toList.take (i * 3) ++ (H j).vals.toList ++ cs.toList.drop (i * 3 + 3)).toArray (by as_aux_lemma => kernel_rfl) (fun w i u h => h.set i u) (by as_aux_lemma => kernel_rfl) (by as_aux_lemma => kernel_rfl) bX hHeld hj3 (by rw [hs, hv3]; omega) (film_ones _) rfl (fun Y1 bY1 hHeld => ?_)
        have p1 := put_film (f := H j) hs hn hin' hc
        generalize (cs.toList.take (i * 3) ++ (H j).vals.toList ++ cs.toList.drop (i * 3 + 3)).toArray = cs1 at *
        refine tkf 14 (some 27) ?_
        refine wpAnyH_storeN g 24 15 rfl rfl rfl rfl (j * 3) (H i).vals cs1 (cs1.toList.take (j * 3) ++ (H i).vals.toList ++ cs1.toList.drop (j * 3 + 3)).toArray (by as_aux_lemma => kernel_rfl) (fun w i u h => h.set i u) (by as_aux_lemma => kernel_rfl) (by as_aux_lemma => kernel_rfl) bY1 hHeld hi3 (by rw [p1.1, hv3']; omega) (film_ones _) rfl (fun Y2 bY2 hHeld => ?_)
        have p2 := put_film (f := H i) p1.1 hn hjn' p1.2
        generalize (cs1.toList.take (j * 3) ++ (H i).vals.toList ++ cs1.toList.drop (j * 3 + 3)).toArray = cs2 at *
        refine wpAnyH_done (by as_aux_lemma => kernel_rfl) ?_ _
        have hrow2 : FRow Y2 g n c (fun k => if k = j then H i else if k = i then H j else H k) := ⟨cs2, bY2, p2.1, hn, p2.2⟩
        clear p1 p2 bY1 bY2 bX rXi rXj hi3 hj3
        go_wp2
        go_roundw
        case rel =>
          refine ⟨i + 1, by omega, by simp, by simp; omega, fun _ => hrow2.congr fun k hk => ?_, hHeld⟩
          rw [← hH]
          exact flip_next F n i j k (by omega) (by omega) hk
        case measure => simp [intOf]; omega
      · intro K hK
        refine Mono.arma (some 25) hK (.agg (H i).vals) X0 hHeld (fun hHeld => Mono.pt ?_) rfl (by as_aux_lemma => kernel_rfl) (exec_load (S := fun w => w = X0) 24 _ rfl g (i * 3) (by as_aux_lemma => kernel_rfl) (H i).vals (fun w hS => by subst hS; exact rXi) _ Tryz.underlying24 rfl hi3 X0 rfl)
        clear hK K
        refine Mono.sta 7 (some 21) (.agg (H j).vals) X0 hHeld (fun hHeld => Mono.pt ?_) rfl rfl (by as_aux_lemma => kernel_rfl) (by as_aux_lemma => kernel_rfl) (exec_load (S := fun w => w = X0) 24 _ rfl g (j * 3) (by as_aux_lemma => kernel_rfl) (H j).vals (fun w hS => by subst hS; exact rXj) _ Tryz.underlying24 rfl hj3 X0 rfl)
        refine tkf 12 (some 26) ?_
        refine wpAnyH_storeN g 24 13 rfl rfl rfl rfl (i * 3) (H j).vals cs (cs.toList.take (i * 3) ++ (H j).vals.toList ++ cs.toList.drop (i * 3 + 3)).toArray (by as_aux_lemma => kernel_rfl) (fun w i u h => h.set i u) (by as_aux_lemma => kernel_rfl) (by as_aux_lemma => kernel_rfl) bX hHeld hj3 (by rw [hs, hv3]; omega) (film_ones _) rfl (fun Y1 bY1 hHeld => ?_)
        have p1 := put_film (f := H j) hs hn hin' hc
        generalize (cs.toList.take (i * 3) ++ (H j).vals.toList ++ cs.toList.drop (i * 3 + 3)).toArray = cs1 at *
        refine tkf 14 (some 27) ?_
        refine wpAnyH_storeN g 24 15 rfl rfl rfl rfl (j * 3) (H i).vals cs1 (cs1.toList.take (j * 3) ++ (H i).vals.toList ++ cs1.toList.drop (j * 3 + 3)).toArray (by as_aux_lemma => kernel_rfl) (fun w i u h => h.set i u) (by as_aux_lemma => kernel_rfl) (by as_aux_lemma => kernel_rfl) bY1 hHeld hi3 (by rw [p1.1, hv3']; omega) (film_ones _) rfl (fun Y2 bY2 hHeld => ?_)
        have p2 := put_film (f := H i) p1.1 hn hjn' p1.2
        generalize (cs1.toList.take (j * 3) ++ (H i).vals.toList ++ cs1.toList.drop (j * 3 + 3)).toArray = cs2 at *
        refine wpAnyH_done (by as_aux_lemma => kernel_rfl) ?_ _
        have hrow2 : FRow Y2 g n c (fun k => if k = j then H i else if k = i then H j else H k) := ⟨cs2, bY2, p2.1, hn, p2.2⟩
        clear p1 p2 bY1 bY2 bX rXi rXj hi3 hj3
        go_wp2
        go_roundw
        case rel =>
          refine ⟨i + 1, by omega, by simp, by simp; omega, fun _ => hrow2.congr fun k hk => ?_, hHeld⟩
          rw [← hH]
          exact flip_next F n i j k (by omega) (by omega) hk
        case measure => simp [intOf]; omega
    · clear h
      go_wp2
      go_end0
      exact ⟨rfl, fun hn => (hrow hn).congr fun k hk => flip_all F n i k (by omega) hk, hK⟩
end Go.Proofs.YtdgodcgdlfjpaaaGreatDoor
namespace Go.Proofs.YtdgodcgdlfjpaaaGreatDoor
open Go.RowKit Go.Mono
theorem frow_ones (G : Nat → Flm) (n : Nat) : ∀ u ∈ frow G n, u.oneCell' = true := by
  induction n with
  | zero => intro u hu; cases hu
  | succ n ih =>
    intro u hu
    rw [frow, List.mem_append] at hu
    rcases hu with hu | hu
    · exact ih u hu
    · simp [Flm.vals] at hu
      rcases hu with rfl | rfl | rfl <;> rfl
theorem films_cells {w : World} {b : Addr} {n c : Nat} {F : Nat → Flm} (h : FilmsAt w (some b) n c F) : ∀ j u, (frow F n)[j]? = some u → w.cell? (b.add j) = some u := by
  intro j u hj
  have hl : j < (frow F n).length := (List.getElem?_eq_some_iff.1 hj).1
  rw [frow_length] at hl
  obtain ⟨b', off, hp, hb, hc⟩ := h.2.2 (by omega)
  cases hp
  have h1 := hc (j / 3) (j % 3) (by omega) (by omega)
  have h2 := frow_get F n (j / 3) (j % 3) (by omega) (by omega)
  rw [show j / 3 * 3 + j % 3 = j by omega] at h2
  rw [h2] at hj
  cases hj
  rw [Addr.add_lit, ← h1]
  congr 2
  omega
set_option maxRecDepth 100000 in
set_option maxHeartbeats 2000000 in
theorem clone_ok (p : Option Addr) (n c : Nat) (hn : n ≤ 1000) (F : Nat → Flm) (w : World) (h : FilmsAt w p n c F) (hp : p = none → n = 0 ∧ c = 0) :
    Calls Tryz.prog 33 #[.slice p n c] w fun e w' => ∃ p' c', e = .returned (.slice p' n c') ∧ w'.ownsRow w.heap.size 24 3 (.slice p' n c') n (frow F n) ∧ Below w.heap.size w w' := by
  obtain ⟨ti, hti1, htz, hts, htb⟩ := info_parts infoFilm
  cases p with
  | none =>
    obtain ⟨rfl, rfl⟩ := hp rfl
    have hnil : ∀ w, (binOp BinOp.eql 27 (Value.slice none 0 0) (Value.slice none 0 0)).run Tryz.prog w = .ok (.bool true) w := fun w => by kernel_rfl
    go_enter Tryz.func33, Tryz.ntmps33
    go_wp2
    go_ret
    exact ⟨none, 0, rfl, World.ownsRow_nil _ _ _ _, Below.refl _ _⟩
  | some b =>
    have hb1 : Below w.heap.size w (w.alloc (.cells #[] 24)) := belowAlloc (Below.refl _ _) _
    have hcl := films_cells (h.below hb1)
    have hown : (w.alloc (.cells #[] 24)).ownsRow w.heap.size 24 3 (.slice (some ⟨w.heap.size, 0, none⟩) 0 0) 0 [] := ⟨rfl, .inr ⟨w.heap.size, 0, #[], rfl, Nat.le_refl _, (Box.new _ _ _).blk, Nat.le_refl _, Nat.zero_le _, rfl, rfl⟩⟩
    have hnil : ∀ w, (binOp BinOp.eql 27 (Value.slice (some b) n c) (Value.slice none 0 0)).run Tryz.prog w = .ok (.bool false) w := fun w => by kernel_rfl
    have hfl := frow_length F n
    have hf1 := frow_ones F n
    generalize frow F n = row at *
    go_enter Tryz.func33, Tryz.ntmps33
    go_wp2_with first | (refine wpList_append_own _ rfl _ _ 27 rfl w.heap.size 24 ti _ 3 24 Tryz.underlying27 hti1 htz hts htb rfl (by decide) _ _ _ rfl hown b n c row rfl hfl hcl hf1 (by simp [maxLen]; omega) (by omega) hb1.size ?_; intro v' W3 hown3 hgrow _)
    have hB3 := Below.appended hown hgrow hb1 (Nat.le_refl _)
    rw [Nat.zero_add] at hown3
    obtain ⟨p', c', rfl⟩ := ownsRow_slice hown3
    go_wp2
    go_ret
    exact ⟨p', c', rfl, hown3, hB3⟩
end Go.Proofs.YtdgodcgdlfjpaaaGreatDoor
namespace Go.Mono
open Go.RowKit
/-- a fraction in a box -/
structure QB (X : World) (B : Nat) (T : TypeId) (C : Array Value) (q : Rat) : Prop where
  box : Box X B T C
  qv : QV X (.agg C) q
theorem QB.below {X Y : World} {B : Nat} {T : TypeId} {C : Array Value} {q : Rat} (h : QB X B T C q) (hB : Below X.heap.size X Y) : QB Y B T C q := ⟨h.box.below hB, h.qv.ext (.of_below hB)⟩
theorem QV.size {X : World} {C : Array Value} {q : Rat} (h : QV X (.agg C) q) : C.size = 4 := by
  obtain ⟨D, hD, hs, h1⟩ := h.cells
  cases hD
  exact hs
theorem QV.one {X : World} {C : Array Value} {q : Rat} (h : QV X (.agg C) q) : C.all (·.oneCell') = true := by
  obtain ⟨D, hD, hs, h1⟩ := h.cells
  cases hD
  exact h1
theorem QV.agg {X : World} {v : Value} {q : Rat} (h : QV X v q) : ∃ C, v = .agg C ∧ QV X (.agg C) q := by
  have h' := h
  obtain ⟨D, rfl, hs, h1⟩ := h.cells
  exact ⟨D, rfl, h'⟩
theorem rangeAt_below {X Y : World} {B o : Nat} {l : List Value} (h : X.rangeAt B o l) (hlt : B < X.heap.size) (hB : Below X.heap.size X Y) : Y.rangeAt B o l := fun j v hj => (hB.cell hlt).trans (h j v hj)
/-- a matrix in memory, fraction by fraction -/
structure QRow (X : World) (B : Nat) (A0 A1 A2 A3 : Array Value) (m : Mat) : Prop where
  lt : B < X.heap.size
  r0 : X.rangeAt B 0 A0.toList
  r1 : X.rangeAt B 4 A1.toList
  r2 : X.rangeAt B 8 A2.toList
  r3 : X.rangeAt B 12 A3.toList
  q0 : QV X (.agg A0) m.a
  q1 : QV X (.agg A1) m.b
  q2 : QV X (.agg A2) m.c
  q3 : QV X (.agg A3) m.d
theorem QRow.below {X Y : World} {B : Nat} {A0 A1 A2 A3 : Array Value} {m : Mat} (h : QRow X B A0 A1 A2 A3 m) (hB : Below X.heap.size X Y) : QRow Y B A0 A1 A2 A3 m :=
  ⟨Nat.lt_of_lt_of_le h.lt hB.size, rangeAt_below h.r0 h.lt hB, rangeAt_below h.r1 h.lt hB, rangeAt_below h.r2 h.lt hB, rangeAt_below h.r3 h.lt hB, h.q0.ext (.of_below hB), h.q1.ext (.of_below hB), h.q2.ext (.of_below hB), h.q3.ext (.of_below hB)⟩
theorem MV.row {X : World} {B : Nat} {T : TypeId} {C : Array Value} {m : Mat} (h : MV X C m) (b : Box X B T C) : ∃ A0 A1 A2 A3, QRow X B A0 A1 A2 A3 m := by
  obtain ⟨a0, a1, a2, a3, b0, b1, b2, b3, c0, c1, c2, c3, d0, d1, d2, d3, rfl, h1, h2, h3, h4⟩ := h.parts
  have hc := b.cell
  refine ⟨_, _, _, _, b.lt, ?_, ?_, ?_, ?_, h1, h2, h3, h4⟩
  all_goals
    intro j v hj
    rw [hc]
    have hj4 : j < 4 := (List.getElem?_eq_some_iff.1 hj).1
    rcases (by omega : j = 0 ∨ j = 1 ∨ j = 2 ∨ j = 3) with rfl | rfl | rfl | rfl <;> exact hj
theorem small_wrap (s : Int) (h : 0 ≤ s ∧ s ≤ 255) : IntKind.i64.wrap (10000000 + IntKind.i64.wrap (100000 * IntKind.i64.wrap s)) = 10000000 + 100000 * s := by
  simp [IntKind.wrap, IntKind.signed, IntKind.bits]
  omega
theorem one_div1 : (1 : Rat) = Rat.divInt 1 1 := by decide +kernel
theorem fits_one : Fits 1 := ⟨by decide +kernel, by decide +kernel⟩
theorem det_fits {F : Nat → Flm} {n : Nat} (hF : ∀ i, i < n → (F i).ok) (hn : n ≤ 8) : Fits ((stackN F n).a * (stackN F n).d) ∧ Fits ((stackN F n).b * (stackN F n).c) ∧ (stackN F n).a * (stackN F n).d + (stackN F n).b * (stackN F n).c = 1 := by
  have hd : (stackN F n).det = 1 := stack_det (filmsN_ok hF)
  obtain ⟨h1, h2, h3, h4⟩ := stack_hs _ (filmsN_ok hF) (by rw [filmsN_length]; omega)
  exact ⟨(h1.mul h4).fits (by decide), (h2.mul h3).fits (by decide), hd⟩
theorem filmsN_reverse (F : Nat → Flm) (n : Nat) : filmsN (fun i => F (n - 1 - i)) n = (filmsN F n).reverse := by
  apply List.ext_getElem?
  intro i
  by_cases hi : i < n
  · rw [List.getElem?_reverse (by rw [filmsN_length]; exact hi), filmsN_length]
    simp [filmsN, hi, show n - 1 - i < n by omega]
  · rw [List.getElem?_eq_none (by rw [filmsN_length]; omega), List.getElem?_eq_none (by rw [List.length_reverse, filmsN_length]; omega)]
theorem stackN_reverse (F : Nat → Flm) (n : Nat) : stackN (fun i => F (n - 1 - i)) n = (stackN F n).turn := by
  unfold stackN
  rw [filmsN_reverse, stack_reverse]
/-- what the law says of a stack, one way round and the other -/
theorem sums_plain {F : Nat → Flm} {n : Nat} (hF : ∀ i, i < n → (F i).ok) (na nb : Int) (a1 : 10000000 ≤ na) (b1 : 10000000 ≤ nb) :
    back (idx na) (idx nb) (stackN F n) + through (idx na) (idx nb) (stackN F n) = 1 ∧ 0 ≤ (back (idx na) (idx nb) (stackN F n)).num.sign ∧ 0 < (through (idx na) (idx nb) (stackN F n)).num.sign ∧
    back (idx nb) (idx na) (stackN (fun i => F (n - 1 - i)) n) = back (idx na) (idx nb) (stackN F n) ∧ through (idx nb) (idx na) (stackN (fun i => F (n - 1 - i)) n) = through (idx na) (idx nb) (stackN F n) := by
  have hd : (stackN F n).det = 1 := stack_det (filmsN_ok hF)
  have h1 := back_nonneg _ _ _ hd (idx_pos a1) (idx_pos b1)
  have h2 := through_pos _ _ _ hd (idx_pos a1) (idx_pos b1)
  refine ⟨sum_one _ _ _ hd (idx_pos a1) (idx_pos b1), ?_, ?_, ?_⟩
  · have := Rat.num_nonneg.2 h1
    exact Int.sign_nonneg_iff.2 this
  · have hn := Rat.num_nonneg.2 (Rat.le_of_lt h2)
    have h0 : (through (idx na) (idx nb) (stackN F n)).num ≠ 0 := fun e => by
      rw [Rat.num_eq_zero.1 e] at h2
      exact absurd h2 (Rat.lt_irrefl)
    exact Int.sign_pos_iff.2 (by omega)
  · rw [stackN_reverse]
    exact back_turn _ _ _
end Go.Mono
namespace Go.Proofs.YtdgodcgdlfjpaaaGreatDoor
open Go.RowKit Go.Mono
theorem owns_nil {w : World} {base : Nat} {e : TypeId} {size : Nat} {p : Option Addr} {n cap : Nat} {xs : List Value} (h : w.ownsRow base e size (.slice p n cap) n xs) : p = none → n = 0 ∧ cap = 0 := by
  rintro rfl
  obtain ⟨hl, h⟩ := h
  rcases h with ⟨h1, h0⟩ | ⟨g', cap', cur, hv, hb, hg, h1, h2, h3, h4⟩
  · cases h1; exact ⟨rfl, rfl⟩
  · cases hv
theorem row_some {w : World} {base : Nat} {p : Option Addr} {n cap : Nat} {G : Nat → Flm} (h : w.ownsRow base 24 3 (.slice p n cap) n (frow G n)) : ∃ g, base ≤ g ∧ (0 < n → p = some ⟨g, 0, none⟩ ∧ FRow w g n cap G) := by
  by_cases hn : 0 < n
  · obtain ⟨g, hp, hb, hr⟩ := FRow.of_owns h hn
    exact ⟨g, hb, fun _ => ⟨hp, hr⟩⟩
  · exact ⟨base, Nat.le_refl _, fun h => absurd h hn⟩
end Go.Proofs.YtdgodcgdlfjpaaaGreatDoor
