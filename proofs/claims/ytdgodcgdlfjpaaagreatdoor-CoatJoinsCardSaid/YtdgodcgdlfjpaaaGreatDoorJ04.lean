/- The law CoatJoins: two films of one index are one, and films of the outer indices change nothing: its walk and its card. Part 4 of 9. No condition beside the row. -/
import Derived.Test.YtdgodcgdlfjpaaaGreatDoorA02
import Derived.Test.YtdgodcgdlfjpaaaGreatDoorA04
import Derived.Test.YtdgodcgdlfjpaaaGreatDoorJ01
set_option linter.unusedVariables false
set_option linter.unusedSimpArgs false
namespace Go.Proofs.YtdgodcgdlfjpaaaGreatDoor
open Go.RowKit Go.Mono
set_option maxRecDepth 100000 in
set_option maxHeartbeats 2000000 in
theorem films_ok (p : Option Addr) (n c : Nat) (G : Nat → Thn) (hG : ∀ i, i < n → (G i).ok) (most : Nat) (hm : most ≤ 9) (w : World) (h : ThinsAt w p n c G) :
  Calls Tryz.prog 13 #[.slice p n c, .int .i64 (most : Int)] w fun e w' => ∃ p' c', e = .returned (.slice p' (min n most) c') ∧ w'.ownsRow w.heap.size 24 3 (.slice p' (min n most) c') (min n most) (frow (fun i => (G i).film) (min n most)) ∧ Below w.heap.size w w' := by
 have hn63 : n ≤ 140737488351232 := h.2.1
 go_enter Tryz.func13, Tryz.ntmps13
 go_wp2_with fail
 go_loopw [5, 6] (fun v x wr => ∃ i : Nat, i ≤ min n most ∧ x = .int .i64 (i : Int) ∧ wr.ownsRow w.heap.size 24 3 v i (frow (fun i => (G i).film) i) ∧ Below w.heap.size w wr) (fun _ x _ => (most - intOf x).toNat)
 case atStart => exact ⟨0, Nat.zero_le _, rfl, World.ownsRow_nil _ _ _ _, Below.refl _ _⟩
 case round =>
  obtain ⟨i, hi, rfl, hown, hB⟩ := hrel
  by_cases him : i < min n most
  ·have h1 : i < n := by omega
   have h2 : i < most := by omega
   obtain ⟨b, off, rfl, hbl, hrow0⟩ := h.rowAt (by omega)
   have hrow := hrow0 i h1 wr hB
   have hti := hG i h1
   obtain ⟨v0, v1, v2, hv⟩ : ∃ v0 v1 v2 : Int, G i = ⟨v0, v1, v2⟩ := ⟨_, _, _, rfl⟩
   have r0 : wr.cell? ⟨b, off + i * 3, none⟩ = some (.int .u8 v0) := by have := hrow 0 (by omega); rw [hv] at this; exact this
   have r1 : wr.cell? ⟨b, off + i * 3 + 1, none⟩ = some (.int .u8 v1) := by have := hrow 1 (by omega); rw [hv] at this; exact this
   have r2 : wr.cell? ⟨b, off + i * 3 + 2, none⟩ = some (.int .u8 v2) := by have := hrow 2 (by omega); rw [hv] at this; exact this
   have hrg : wr.rangeAt b (off + i * 3) (Thn.mk v0 v1 v2).vals.toList := by
    intro j u hj
    match j, hj with
    | 0, hj => cases hj; exact r0
    | 1, hj => cases hj; exact r1
    | 2, hj => cases hj; exact r2
   have hsl : (Tryz.prog.info? 112).map (·.size) = some (Thn.mk v0 v1 v2).vals.toList.length := by kernel_rfl
   have hin : (i : Int) < n := by omega
   have him' : (i : Int) < most := by omega
   obtain ⟨ti, hti1, htz, hts, htb⟩ := info_parts infoFilm
   have hwr := hB.size
   have hfi : (fun i => (G i).film) i = Thn.film ⟨v0, v1, v2⟩ := by simp only [hv]
   clear hrow0 hrow r0 r1 r2 h hG
   rw [hv] at hti
   go_wp2_with first | (refine wpList_load_mid rfl 112 _ rfl b (off + i * 3) rfl (Thn.mk v0 v1 v2).vals.toList _ hrg Tryz.underlying112 rfl hsl ?_)
   refine (thin_film ⟨v0, v1, v2⟩ hti wr).mono ?_
   rintro e W1 ⟨rfl, hb1⟩
   obtain ⟨x0, x1, x2, hx⟩ : ∃ x0 x1 x2 : Int, (Thn.film ⟨v0, v1, v2⟩).vals = #[.int .i64 x0, .int .i64 x1, .int .i64 x2] := ⟨_, _, _, rfl⟩
   rw [hx]
   have hown1 := ownsRow_below hown hb1
   have hB1 := belowCall hB hb1
   have hb2 : Below W1.heap.size W1 (W1.alloc (.cells #[.int .i64 x0, .int .i64 x1, .int .i64 x2] 24)) := belowAlloc (Below.refl _ _) _
   have hown2 := ownsRow_below hown1 hb2
   have hB2 := belowCall hB1 hb2
   have hcn := new_cells W1 #[.int .i64 x0, .int .i64 x1, .int .i64 x2] 24
   replace hx := Lib.hid hx
   replace hfi := Lib.hid hfi
   clear hown hown1 hb1 hrg
   go_wp2_with first | ((refine wpList_append_own _ rfl _ _ 27 rfl w.heap.size 24 ti _ 3 24 Tryz.underlying27 hti1 htz hts htb rfl (by decide) _ _ _ rfl hown2 ⟨W1.heap.size, 0, none⟩ 1 1 [.int .i64 x0, .int .i64 x1, .int .i64 x2] rfl rfl hcn (by simp [Value.oneCell']) (by simp [maxLen]; omega) (by omega) hB2.size ?_); intro v' W3 hown3 hgrow _)
   have hB3 := Below.appended hown2 hgrow hB2 (Nat.le_refl _)
   go_roundw
   case rel =>
    refine ⟨i + 1, by omega, by simp, ?_, hB3⟩
    rw [frow, hfi.out, hx.out]
    exact hown3
   case measure => simp [intOf]; omega
  ·obtain rfl : i = min n most := by omega
   obtain ⟨p', c', rfl⟩ := ownsRow_slice hown
   by_cases hnm : (↑(min n most) : Int) < n
   ·have hmm : ¬ (↑(min n most) : Int) < most := by omega
    go_wp2
    go_ret
    exact ⟨p', c', rfl, hown, hB⟩
   ·go_wp2
    go_ret
    exact ⟨p', c', rfl, hown, hB⟩
end Go.Proofs.YtdgodcgdlfjpaaaGreatDoor
namespace Go.Proofs.YtdgodcgdlfjpaaaGreatDoor
open Go.RowKit Go.Mono
/-- films in a row of their own -/
def FRow (w : World) (g n cap : Nat) (H : Nat → Flm) : Prop := ∃ cs, Box w g 24 cs ∧ cs.size = cap * 3 ∧ n ≤ cap ∧ ∀ i j, i < n → j < 3 → cs[i * 3 + j]? = some ((H i).vals.getD j undef)
theorem put_film {cs : Array Value} {n cap i : Nat} {H : Nat → Flm} {f : Flm} (hs : cs.size = cap * 3) (hn : n ≤ cap) (hi : i < n) (h : ∀ i j, i < n → j < 3 → cs[i * 3 + j]? = some ((H i).vals.getD j undef)) :
  (cs.toList.take (i * 3) ++ f.vals.toList ++ cs.toList.drop (i * 3 + 3)).toArray.size = cap * 3 ∧ ∀ k j, k < n → j < 3 → (cs.toList.take (i * 3) ++ f.vals.toList ++ cs.toList.drop (i * 3 + 3)).toArray[k * 3 + j]? = some ((if k = i then f else H k).vals.getD j undef) := by
 have hv : f.vals.toList.length = 3 := rfl
 constructor
 ·simp [hv]; omega
 ·intro k j hk hj
  have hl : cs.toList.length = cap * 3 := by simpa using hs
  rw [List.getElem?_toArray]
  by_cases hki : k = i
  ·subst hki
   rw [if_pos rfl, List.append_assoc, List.getElem?_append_right (by simp; omega), List.getElem?_append_left (by simp [hv]; omega)]
   rw [List.length_take, Nat.min_eq_left (by omega), show k * 3 + j - k * 3 = j by omega]
   rcases (by omega : j = 0 ∨ j = 1 ∨ j = 2) with rfl | rfl | rfl <;> rfl
  ·rw [if_neg hki, ← h k j hk hj, ← Array.getElem?_toList]
   by_cases hlt : k < i
   ·rw [List.append_assoc, List.getElem?_append_left (by simp; omega), List.getElem?_take_of_lt (by omega)]
   ·rw [List.getElem?_append_right (by simp [hv]; omega), List.getElem?_drop]
    congr 1
    simp [hv]; omega
theorem FRow.range {w : World} {g n cap : Nat} {H : Nat → Flm} (h : FRow w g n cap H) {i : Nat} (hi : i < n) : w.rangeAt g (i * 3) (H i).vals.toList := by
 obtain ⟨cs, b, hs, hn, hc⟩ := h
 intro j v hj
 have hj3 : j < 3 := (List.getElem?_eq_some_iff.1 hj).1
 rw [b.cell, hc i j hi hj3]
 rcases (by omega : j = 0 ∨ j = 1 ∨ j = 2) with rfl | rfl | rfl <;> exact hj
theorem FRow.congr {w : World} {g n cap : Nat} {H H' : Nat → Flm} (h : FRow w g n cap H) (he : ∀ i, i < n → H i = H' i) : FRow w g n cap H' := by
 obtain ⟨cs, b, hs, hn, hc⟩ := h
 exact ⟨cs, b, hs, hn, fun i j hi hj => by rw [← he i hi]; exact hc i j hi hj⟩
theorem FRow.films {w : World} {g n cap : Nat} {H : Nat → Flm} (h : FRow w g n cap H) (hn : n ≤ 1000) : FilmsAt w (some ⟨g, 0, none⟩) n cap H := by
 obtain ⟨cs, b, hs, hn', hc⟩ := h
 exact ⟨hn', by omega, fun _ => ⟨g, 0, rfl, b.lt, fun i j hi hj => by rw [b.cell, Nat.zero_add]; exact hc i j hi hj⟩⟩
theorem FRow.of_owns {w : World} {base : Nat} {p : Option Addr} {n cap : Nat} {G : Nat → Flm} (h : w.ownsRow base 24 3 (.slice p n cap) n (frow G n)) (hn : 0 < n) : ∃ g, p = some ⟨g, 0, none⟩ ∧ base ≤ g ∧ FRow w g n cap G := by
 obtain ⟨hl, h⟩ := h
 rcases h with ⟨h1, h0⟩ | ⟨g', cap', cur, hv, hb, hg, h1, h2, h3, h4⟩
 ·omega
 ·cases hv
  refine ⟨g', rfl, hb, cur, Box.mk hg, h3, h1, fun i j hi hj => ?_⟩
  rw [← Array.getElem?_toList]
  have := frow_get G n i j hi hj
  rw [← h4, List.getElem?_take_of_lt (by omega)] at this
  exact this
theorem flip_next (F : Nat → Flm) (n i j k : Nat) (hj : (n : Int) - 1 - i = j) (hij : i < j) (hk : k < n) :
  (fun k => if k = j then (fun k => if k < i ∨ n - 1 - k < i then F (n - 1 - k) else F k) i else if k = i then (fun k => if k < i ∨ n - 1 - k < i then F (n - 1 - k) else F k) j else (fun k => if k < i ∨ n - 1 - k < i then F (n - 1 - k) else F k) k) k = if k < i + 1 ∨ n - 1 - k < i + 1 then F (n - 1 - k) else F k := by
 simp only
 rw [if_neg (by omega : ¬ (i < i ∨ n - 1 - i < i)), if_neg (by omega : ¬ (j < i ∨ n - 1 - j < i))]
 by_cases h1 : k = j
 ·subst h1
  rw [if_pos rfl, if_pos (by omega)]
  congr 1; omega
 ·rw [if_neg h1]
  by_cases h2 : k = i
  ·subst h2
   rw [if_pos rfl, if_pos (by omega)]
   congr 1; omega
  ·rw [if_neg h2]
   by_cases h3 : k < i ∨ n - 1 - k < i
   ·rw [if_pos h3, if_pos (by omega)]
   ·rw [if_neg h3, if_neg (by omega)]
theorem flip_all (F : Nat → Flm) (n i k : Nat) (hij : ¬ (i : Int) < (n : Int) - 1 - i) (hk : k < n) : (fun k => if k < i ∨ n - 1 - k < i then F (n - 1 - k) else F k) k = F (n - 1 - k) := by
 simp only
 by_cases h3 : k < i ∨ n - 1 - k < i
 ·rw [if_pos h3]
 ·rw [if_neg h3]
  congr 1; omega
set_option maxRecDepth 100000 in
set_option maxHeartbeats 2000000 in
theorem reverse_ok (p : Option Addr) (g n c : Nat) (hn9 : n ≤ 1000) (F : Nat → Flm) (w : World) (h : 0 < n → p = some ⟨g, 0, none⟩ ∧ FRow w g n c F) :
  Calls Tryz.prog 34 #[.slice p n c] w fun e w' => e = .returned (.tuple #[]) ∧ (0 < n → FRow w' g n c (fun i => F (n - 1 - i))) ∧ KeepBut g w.heap.size w w' := by
 go_enter Tryz.func34, Tryz.ntmps34
 go_wp2_with fail
 go_loopw [2, 3] (fun x y wr => ∃ i : Nat, 2 * i ≤ n ∧ x = .int .i64 (i : Int) ∧ y = .int .i64 ((n : Int) - 1 - i) ∧ (0 < n → FRow wr g n c (fun k => if k < i ∨ n - 1 - k < i then F (n - 1 - k) else F k)) ∧ KeepBut g w.heap.size w wr) (fun x _ _ => (n - intOf x).toNat)
 case atStart => exact ⟨0, Nat.zero_le _, rfl, by simp, fun hn => (h hn).2.congr fun i _ => by simp, KeepBut.refl _ _⟩
 case round =>
  obtain ⟨i, hi, rfl, rfl, hrow, hK⟩ := hrel
  by_cases hij : (i : Int) < (n : Int) - 1 - i
  ·obtain ⟨j, hj⟩ : ∃ j : Nat, (n : Int) - 1 - i = j := ⟨n - 1 - i, by omega⟩
   obtain ⟨rfl, _⟩ := h (by omega)
   replace hrow := hrow (by omega)
   generalize hH : (fun k => if k < i ∨ n - 1 - k < i then F (n - 1 - k) else F k) = H at hrow
   rw [hj] at hij ⊢
   have hin : (i : Int) < n := by omega
   have hjn : (j : Int) < n := by omega
   have hin' : i < n := by omega
   have hjn' : j < n := by omega
   go_wp2_with fail
   obtain ⟨cs, b, hs, hn, hc⟩ := hrow
   have ri := FRow.range ⟨cs, b, hs, hn, hc⟩ hin'
   have rj := FRow.range ⟨cs, b, hs, hn, hc⟩ hjn'
   refine wp_region_held_drew (S := fun w' => KeepBut g w.heap.size w w') (by as_aux_lemma => kernel_rfl) hK.drew (fun hHeld => ?_)
   have bX := b.drew
   have rXi : wr.drew.rangeAt g (i * 3) (H i).vals.toList := ri
   have rXj : wr.drew.rangeAt g (j * 3) (H j).vals.toList := rj
   generalize wr.drew = X0 at *
   have hi3 : (Tryz.prog.info? 24).map (·.size) = some (H i).vals.size := by kernel_rfl
   have hj3 : (Tryz.prog.info? 24).map (·.size) = some (H j).vals.size := by kernel_rfl
   refine tkf 0 (some 14) ?_
   refine tkf 1 (some 15) ?_
   refine tkf 2 (some 16) ?_
   refine tkf 3 (some 17) ?_
   refine tkf 4 (some 18) ?_
   refine tkf 5 (some 19) ?_
   refine tkf 6 (some 20) ?_
   refine tkf 8 (some 22) ?_
   refine tkf 9 (some 23) ?_
   refine tkf 10 (some 24) ?_
   have hv3 : (H j).vals.size = 3 := rfl
   have hv3' : (H i).vals.size = 3 := rfl
   refine Mono.fork2 7 11 ?_ ?_
   ·intro K hK
    refine Mono.arma (some 21) hK (.agg (H j).vals) X0 hHeld (fun hHeld => Mono.pt ?_) rfl (by as_aux_lemma => kernel_rfl) (exec_load (S := fun w => w = X0) 24 _ rfl g (j * 3) (by as_aux_lemma => kernel_rfl) (H j).vals (fun w hS => by subst hS; exact rXj) _ Tryz.underlying24 rfl hj3 X0 rfl)
    clear hK K
    refine Mono.sta 11 (some 25) (.agg (H i).vals) X0 hHeld (fun hHeld => Mono.pt ?_) rfl rfl (by as_aux_lemma => kernel_rfl) (by as_aux_lemma => kernel_rfl) (exec_load (S := fun w => w = X0) 24 _ rfl g (i * 3) (by as_aux_lemma => kernel_rfl) (H i).vals (fun w hS => by subst hS; exact rXi) _ Tryz.underlying24 rfl hi3 X0 rfl)
    refine tkf 12 (some 26) ?_
    refine wpAnyH_storeN g 24 13 rfl rfl rfl rfl (i * 3) (H j).vals cs (cs.toList.take (i * 3) ++ (H j).vals.toList ++ cs.toList.drop (i * 3 + 3)).toArray (by as_aux_lemma => kernel_rfl) (fun w i u h => h.set i u) (by as_aux_lemma => kernel_rfl) (by as_aux_lemma => kernel_rfl) bX hHeld hj3 (by rw [hs, hv3]; omega) (film_ones _) rfl (fun Y1 bY1 hHeld => ?_)
    have p1 := put_film (f := H j) hs hn hin' hc
    generalize (cs.toList.take (i * 3) ++ (H j).vals.toList ++ cs.toList.drop (i * 3 + 3)).toArray = cs1 at *
    refine tkf 14 (some 27) ?_
    refine wpAnyH_storeN g 24 15 rfl rfl rfl rfl (j * 3) (H i).vals cs1 (cs1.toList.take (j * 3) ++ (H i).vals.toList ++ cs1.toList.drop (j * 3 + 3)).toArray (by as_aux_lemma => kernel_rfl) (fun w i u h => h.set i u) (by as_aux_lemma => kernel_rfl) (by as_aux_lemma => kernel_rfl) bY1 hHeld hi3 (by rw [p1.1, hv3']; omega) (film_ones _) rfl (fun Y2 bY2 hHeld => ?_)
    have p2 := put_film (f := H i) p1.1 hn hjn' p1.2
    generalize (cs1.toList.take (j * 3) ++ (H i).vals.toList ++ cs1.toList.drop (j * 3 + 3)).toArray = cs2 at *
    refine wpAnyH_done (by as_aux_lemma => kernel_rfl) ?_ _
    have hrow2 : FRow Y2 g n c (fun k => if k = j then H i else if k = i then H j else H k) := ⟨cs2, bY2, p2.1, hn, p2.2⟩
    clear p1 p2 bY1 bY2 bX rXi rXj hi3 hj3
    go_wp2
    go_roundw
    case rel =>
     refine ⟨i + 1, by omega, by simp, by simp; omega, fun _ => hrow2.congr fun k hk => ?_, hHeld⟩
     rw [← hH]
     exact flip_next F n i j k (by omega) (by omega) hk
    case measure => simp [intOf]; omega
   ·intro K hK
    refine Mono.arma (some 25) hK (.agg (H i).vals) X0 hHeld (fun hHeld => Mono.pt ?_) rfl (by as_aux_lemma => kernel_rfl) (exec_load (S := fun w => w = X0) 24 _ rfl g (i * 3) (by as_aux_lemma => kernel_rfl) (H i).vals (fun w hS => by subst hS; exact rXi) _ Tryz.underlying24 rfl hi3 X0 rfl)
    clear hK K
    refine Mono.sta 7 (some 21) (.agg (H j).vals) X0 hHeld (fun hHeld => Mono.pt ?_) rfl rfl (by as_aux_lemma => kernel_rfl) (by as_aux_lemma => kernel_rfl) (exec_load (S := fun w => w = X0) 24 _ rfl g (j * 3) (by as_aux_lemma => kernel_rfl) (H j).vals (fun w hS => by subst hS; exact rXj) _ Tryz.underlying24 rfl hj3 X0 rfl)
    refine tkf 12 (some 26) ?_
    refine wpAnyH_storeN g 24 13 rfl rfl rfl rfl (i * 3) (H j).vals cs (cs.toList.take (i * 3) ++ (H j).vals.toList ++ cs.toList.drop (i * 3 + 3)).toArray (by as_aux_lemma => kernel_rfl) (fun w i u h => h.set i u) (by as_aux_lemma => kernel_rfl) (by as_aux_lemma => kernel_rfl) bX hHeld hj3 (by rw [hs, hv3]; omega) (film_ones _) rfl (fun Y1 bY1 hHeld => ?_)
    have p1 := put_film (f := H j) hs hn hin' hc
    generalize (cs.toList.take (i * 3) ++ (H j).vals.toList ++ cs.toList.drop (i * 3 + 3)).toArray = cs1 at *
    refine tkf 14 (some 27) ?_
    refine wpAnyH_storeN g 24 15 rfl rfl rfl rfl (j * 3) (H i).vals cs1 (cs1.toList.take (j * 3) ++ (H i).vals.toList ++ cs1.toList.drop (j * 3 + 3)).toArray (by as_aux_lemma => kernel_rfl) (fun w i u h => h.set i u) (by as_aux_lemma => kernel_rfl) (by as_aux_lemma => kernel_rfl) bY1 hHeld hi3 (by rw [p1.1, hv3']; omega) (film_ones _) rfl (fun Y2 bY2 hHeld => ?_)
    have p2 := put_film (f := H i) p1.1 hn hjn' p1.2
    generalize (cs1.toList.take (j * 3) ++ (H i).vals.toList ++ cs1.toList.drop (j * 3 + 3)).toArray = cs2 at *
    refine wpAnyH_done (by as_aux_lemma => kernel_rfl) ?_ _
    have hrow2 : FRow Y2 g n c (fun k => if k = j then H i else if k = i then H j else H k) := ⟨cs2, bY2, p2.1, hn, p2.2⟩
    clear p1 p2 bY1 bY2 bX rXi rXj hi3 hj3
    go_wp2
    go_roundw
    case rel =>
     refine ⟨i + 1, by omega, by simp, by simp; omega, fun _ => hrow2.congr fun k hk => ?_, hHeld⟩
     rw [← hH]
     exact flip_next F n i j k (by omega) (by omega) hk
    case measure => simp [intOf]; omega
  ·clear h
   go_wp2
   go_end0
   exact ⟨rfl, fun hn => (hrow hn).congr fun k hk => flip_all F n i k (by omega) hk, hK⟩
end Go.Proofs.YtdgodcgdlfjpaaaGreatDoor
