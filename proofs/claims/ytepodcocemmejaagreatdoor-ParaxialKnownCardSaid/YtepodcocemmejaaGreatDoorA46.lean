/- Part 46 of 52 of the proof that the law ParaxialKnown returns true, whatever stands in memory, if the two listed variables hold what the text lays: contracts of the functions that it reaches. No condition beside the row. -/
import Derived.Laws.AppendOwn
import Derived.Test.YtepodcocemmejaaGreatDoorA45
set_option linter.unusedVariables false
set_option linter.unusedSimpArgs false
namespace Go.Mono
open Go.RowKit
theorem rows_length (C : Nat → Array Value) (z i : Nat) (h : ∀ j, j < i → (C j).size = z) : (pens C i).length = i * z := by
  induction i with
  | zero => simp [pens]
  | succ i ih => rw [pens_succ, List.length_append, ih (fun j hj => h j (by omega)), Array.length_toList, h i (by omega), Nat.succ_mul]
theorem rows_get (C : Nat → Array Value) (z n : Nat) (h : ∀ j, j < n → (C j).size = z) (i j : Nat) (hi : i < n) (hj : j < z) : (pens C n)[i * z + j]? = some ((C i).getD j undef) := by
  induction n with
  | zero => omega
  | succ n ih =>
    have hl := rows_length C z n (fun j hj => h j (by omega))
    rw [pens_succ]
    by_cases hin : i < n
    · have : i * z + j < n * z := by
        have := Nat.mul_le_mul_right z (show i + 1 ≤ n by omega)
        rw [Nat.succ_mul] at this
        omega
      rw [List.getElem?_append_left (by omega)]
      exact ih (fun j hj => h j (by omega)) hin
    · obtain rfl : i = n := by omega
      have hs := h i hi
      rw [List.getElem?_append_right (by omega), hl, show i * z + j - i * z = j by omega, Array.getElem?_toList, Array.getD_eq_getD_getElem?, Array.getElem?_eq_getElem (by omega)]
      rfl
/-- n fractions lie in a row of their own -/
def QuotsAt (w : World) (base : Nat) (T : TypeId) (p : Option Addr) (n c : Nat) (f : Nat → Rat) : Prop :=
  ∃ C : Nat → Array Value, w.ownsRow base T 4 (.slice p n c) n (pens C n) ∧ ∀ j, j < n → (C j).size = 4 ∧ QV w (.agg (C j)) (f j)
theorem QuotsAt.below {w w' : World} {base : Nat} {T : TypeId} {p : Option Addr} {n c : Nat} {f : Nat → Rat} (h : QuotsAt w base T p n c f) (hB : Below w.heap.size w w') : QuotsAt w' base T p n c f := by
  obtain ⟨C, h1, h2⟩ := h
  exact ⟨C, ownsRow_below h1 hB, fun j hj => ⟨(h2 j hj).1, (h2 j hj).2.ext (.of_below hB)⟩⟩
theorem QuotsAt.keep {w w' : World} {base : Nat} {T : TypeId} {p : Option Addr} {n c : Nat} {f : Nat → Rat} (h : QuotsAt w base T p n c f) {R : Nat} {T' : TypeId} {cs : Array Value} (b : Box w R T' cs) (hT : T' ≠ T) (h3 : T' ≠ 3) (hk : KeepBut R w.heap.size w w') : QuotsAt w' base T p n c f := by
  obtain ⟨C, h1, h2⟩ := h
  exact ⟨C, ownsRow_keep h1 b hT hk, fun j hj => ⟨(h2 j hj).1, (h2 j hj).2.ext (hk.ext b h3)⟩⟩
theorem QuotsAt.rd {w : World} {base : Nat} {T : TypeId} {p : Option Addr} {n c : Nat} {f : Nat → Rat} (h : QuotsAt w base T p n c f) (hn : 0 < n) (hm : n ≤ 16) : ∃ C : Nat → Array Value, RdC w p n c 4 (fun i j => (C i).getD j undef) ∧ ∀ j, j < n → (C j).size = 4 ∧ QV w (.agg (C j)) (f j) := by
  obtain ⟨C, h1, h2⟩ := h
  refine ⟨C, ?_, h2⟩
  obtain ⟨hl, hh⟩ := h1
  rcases hh with ⟨h1, _⟩ | ⟨g, cap, cur, hv, hb, hg, h1, h2', h3, h4⟩
  · cases h1
    omega
  · cases hv
    refine ⟨h1, by omega, fun _ => ⟨g, 0, rfl, lt_of_some hg, fun i j hi hj => ?_⟩⟩
    have hc := (Box.mk hg).cell (0 + i * 4 + j)
    rw [hc, ← Array.getElem?_toList]
    have := rows_get C 4 n (fun j hj => (h2 j hj).1) i j hi hj
    rw [← h4, List.getElem?_take_of_lt (by omega)] at this
    rw [Nat.zero_add]
    exact this
theorem half_range {w : World} {B : Nat} {T : TypeId} {a0 a1 a2 a3 a4 a5 a6 a7 : Value} (b : Box w B T #[a0, a1, a2, a3, a4, a5, a6, a7]) : w.rangeAt B 4 (#[a4, a5, a6, a7] : Array Value).toList := fun j v hv => by
  rw [b.cell]
  match j, hv with
  | 0, hv => simpa using hv
  | 1, hv => simpa using hv
  | 2, hv => simpa using hv
  | 3, hv => simpa using hv
  | n + 4, hv => simp at hv
end Go.Mono
namespace Go.Proofs.YtepodcocemmejaaGreatDoor
open Go.RowKit Go.Mono
theorem quotInfo : ∃ i z, Tryz.prog.info? 54 = some i ∧ i.zero = some z ∧ i.size = 4 ∧ i.bytes = 64 ∧ z.cells.size = 4 := by
  have h : (Tryz.prog.info? 54).map (fun i => (i.size, i.bytes, i.zero.map fun z => z.cells.size)) = some (4, 64, some 4) := by kernel_rfl
  cases hi : Tryz.prog.info? 54 with
  | none => rw [hi] at h; cases h
  | some i =>
    rw [hi] at h
    simp only [Option.map_some, Option.some.injEq, Prod.mk.injEq] at h
    obtain ⟨h1, h2, h3⟩ := h
    cases hz : i.zero with
    | none => rw [hz] at h3; cases h3
    | some z => rw [hz] at h3; exact ⟨i, z, rfl, hz, h1, h2, by simpa using h3⟩
set_option maxRecDepth 100000 in
set_option maxHeartbeats 1500000 in
theorem slopes1_ok (a : Lns) (ha : a.opt) (q : Plc) (hchk : Chk a q) (k : Nat) (k1 : k < a.nw) (base : Nat) (p : Option Addr) (c : Nat) (f : Nat → Rat × Rat) (hnz : ∀ s, s < a.ns → (a.nI k s).num ≠ 0) (hfit : ∀ s, s < a.ns → Fits ((f s).2 / a.nI k s)) (w : World) (h : OptAt w a q)
    (Bo Bk Bl : Nat) (bo : Box w Bo 45 (a.ovals q)) (bk : Box w Bk 3 #[.int .i64 (k : Int)]) (bl : Box w Bl 58 #[.slice p a.ns c]) (hP : PensAt w base 65 p a.ns c f) :
    Calls Tryz.prog 65 #[.pointer (some ⟨Bo, 0, none⟩), .pointer (some ⟨Bk, 0, none⟩), .pointer (some ⟨Bl, 0, none⟩)] w fun e w' => ∃ p' c', e = .returned (.slice p' a.ns c') ∧ QuotsAt w' w.heap.size 54 p' a.ns c' (fun s => (f s).2 / a.nI k s) ∧ Below w.heap.size w w' := by
  have hlook := fun W (hW : Below w.heap.size w W) => look_ok a q hchk k W (h.below hW) k1
  have hns := ha.base.ns
  obtain ⟨C, hR, hQ⟩ := hP.rd (by omega) hns.2
  clear hP
  obtain ⟨hc1, hn1, hx⟩ := hR
  obtain ⟨b, off, rfl, hbl, hcell⟩ := hx (by omega)
  have co := bo.cell
  have lo := bo.lt
  have ck := bk.cell
  have lk := bk.lt
  simp only [Lns.ovals, Lns.vvals] at hlook
  simp only [Lns.ovals] at co
  clear hx
  go_enter Tryz.func65, Tryz.ntmps65
  go_wp2_with fail
  refine (hlook w (Below.refl _ _)).mono ?_
  rintro e W1 ⟨rfl, hB1⟩
  clear hlook co lo ck lk
  have cl := (bl.below hB1).cell
  have ll := (bl.below hB1).lt
  go_wp2_with fail
  refine boxes1 fun W2 hB2 hs2 bV => ?_
  have hB2' := belowCall hB1 hB2
  clear cl ll
  go_loopw [24] (fun x wr => ∃ i : Nat, i ≤ a.ns ∧ x = .int .i64 (i : Int) ∧ Below W2.heap.size W2 wr) (fun x _ => (a.ns - intOf x).toNat)
  case atStart => exact ⟨0, by omega, rfl, Below.refl _ _⟩
  case round =>
    obtain ⟨i, hi, rfl, hBr⟩ := hrel
    have hBw := belowCall hB2' hBr
    by_cases hin : i < a.ns
    · replace hi := hin
      have hi' : (i : Int) < a.ns := by omega
      obtain ⟨p1, n1, d1, p2, n2, d2, p3, n3, d3, p4, n4, d4, hCi, Ry, Ru⟩ := (hQ i hi).2
      have e0 : wr.cell? ⟨b, off + i * 8, none⟩ = some ((.bool (decide ((f i).1.num < 0)))) := (hBw.cell (p := ⟨b, off + i * 8 + 0, none⟩) hbl).trans ((hcell i 0 hi (by decide)).trans (by rw [hCi]; rfl))
      have e1 : wr.cell? ⟨b, off + i * 8 + 1, none⟩ = some (.slice p1 n1 d1) := (hBw.cell (p := ⟨b, off + i * 8 + 1, none⟩) hbl).trans ((hcell i 1 hi (by decide)).trans (by rw [hCi]; rfl))
      have e2 : wr.cell? ⟨b, off + i * 8 + 2, none⟩ = some (.bool false) := (hBw.cell (p := ⟨b, off + i * 8 + 2, none⟩) hbl).trans ((hcell i 2 hi (by decide)).trans (by rw [hCi]; rfl))
      have e3 : wr.cell? ⟨b, off + i * 8 + 3, none⟩ = some (.slice p2 n2 d2) := (hBw.cell (p := ⟨b, off + i * 8 + 3, none⟩) hbl).trans ((hcell i 3 hi (by decide)).trans (by rw [hCi]; rfl))
      have e4 : wr.cell? ⟨b, off + i * 8 + 4, none⟩ = some ((.bool (decide ((f i).2.num < 0)))) := (hBw.cell (p := ⟨b, off + i * 8 + 4, none⟩) hbl).trans ((hcell i 4 hi (by decide)).trans (by rw [hCi]; rfl))
      have e5 : wr.cell? ⟨b, off + i * 8 + 5, none⟩ = some (.slice p3 n3 d3) := (hBw.cell (p := ⟨b, off + i * 8 + 5, none⟩) hbl).trans ((hcell i 5 hi (by decide)).trans (by rw [hCi]; rfl))
      have e6 : wr.cell? ⟨b, off + i * 8 + 6, none⟩ = some (.bool false) := (hBw.cell (p := ⟨b, off + i * 8 + 6, none⟩) hbl).trans ((hcell i 6 hi (by decide)).trans (by rw [hCi]; rfl))
      have e7 : wr.cell? ⟨b, off + i * 8 + 7, none⟩ = some (.slice p4 n4 d4) := (hBw.cell (p := ⟨b, off + i * 8 + 7, none⟩) hbl).trans ((hcell i 7 hi (by decide)).trans (by rw [hCi]; rfl))
      have lb := Nat.lt_of_lt_of_le hbl hBw.size
      go_wp2_with fail
      refine boxes2c fun W3 hB3 hs3 bP bF => ?_
      have hB3' := belowCall hBw hB3
      have cF := bF.cell
      have Ry2 := Ry.ext (.of_below hB3')
      have Ru2 := Ru.ext (.of_below hB3')
      refine (fractions_ok 2 _ 2 (fun j => if j = 0 then #[.bool (decide ((f i).1.num < 0)), .slice p1 n1 d1, .bool false, .slice p2 n2 d2] else #[.bool (decide ((f i).2.num < 0)), .slice p3 n3 d3, .bool false, .slice p4 n4 d4]) (fun j => if j = 0 then (f i).1 else (f i).2) W3 ⟨Nat.le_refl _, by decide, fun _ => ⟨_, _, rfl, bF.lt, fun i j hi hj => ?_⟩⟩ (fun i => by split <;> rfl) (fun i hi => by split <;> assumption)).mono ?_
      · rw [cF]
        match i, j, hi, hj with
        | 0, 0, _, _ => rfl
        | 0, 1, _, _ => rfl
        | 0, 2, _, _ => rfl
        | 0, 3, _, _ => rfl
        | 1, 0, _, _ => rfl
        | 1, 1, _, _ => rfl
        | 1, 2, _, _ => rfl
        | 1, 3, _, _ => rfl
      rintro e W4 ⟨rfl, hb4⟩
      go_wp2
      go_roundw
      case rel => exact ⟨i + 1, by omega, by simp, belowCall hBr (belowCall hB3 hb4)⟩
      case measure => simp [intOf]; omega
    · obtain rfl : i = a.ns := by omega
      have cl := (bl.below hBw).cell
      have ll := (bl.below hBw).lt
      go_wp2_with fail
      have bV2 := bV.below hBr
      have hix := fun W (hW : Below w.heap.size w W) => fun (s : Nat) (hs : s < a.ns) => index_ok a ha q hchk s k W (h.below hW) hs k1
      simp only [Lns.vvals] at hix
      obtain ⟨i0, z0, pi1, pi2, pi3, pi4, pi5⟩ := quotInfo
      clear cl ll
      go_loopw [3, 37] (fun v x V => ∃ (i : Nat) (D : Nat → Array Value), i ≤ a.ns ∧ x = .int .i64 (i : Int) ∧ V.ownsRow w.heap.size 54 4 v i (pens D i) ∧ (∀ j, j < i → (D j).size = 4 ∧ QV V (.agg (D j)) ((f j).2 / a.nI k j)) ∧ Below w.heap.size w V ∧ Box V W1.heap.size 104 #[.string a.nm, .int .i64 a.di, .int .i64 a.pu, .int .i64 a.st, .int .i64 a.pr, .slice q.pf a.nf q.cf, .slice q.pw a.nw q.cw, .slice q.ps a.ns q.cs, .slice q.pc 0 q.cc, .slice q.pi a.ns q.ci, .int .i64 (k : Int)]) (fun _ x _ => (a.ns - intOf x).toNat)
      case atStart => exact ⟨0, fun _ => #[], by omega, rfl, World.ownsRow_nil _ _ _ _, fun j hj => by omega, hBw, bV2⟩
      case round =>
        clear hBr hBw bV2 bV hi hin
        obtain ⟨i, D, hi, rfl, hown, hD, hBV, bV⟩ := hrel
        by_cases hin : i < a.ns
        · replace hi := hin
          have hi' : (i : Int) < a.ns := by omega
          obtain ⟨p1, n1, d1, p2, n2, d2, p3, n3, d3, p4, n4, d4, hCi, Ry, Ru⟩ := (hQ i hi).2
          have e0 : wr.cell? ⟨b, off + i * 8, none⟩ = some ((.bool (decide ((f i).1.num < 0)))) := (hBV.cell (p := ⟨b, off + i * 8 + 0, none⟩) hbl).trans ((hcell i 0 hi (by decide)).trans (by rw [hCi]; rfl))
          have e1 : wr.cell? ⟨b, off + i * 8 + 1, none⟩ = some (.slice p1 n1 d1) := (hBV.cell (p := ⟨b, off + i * 8 + 1, none⟩) hbl).trans ((hcell i 1 hi (by decide)).trans (by rw [hCi]; rfl))
          have e2 : wr.cell? ⟨b, off + i * 8 + 2, none⟩ = some (.bool false) := (hBV.cell (p := ⟨b, off + i * 8 + 2, none⟩) hbl).trans ((hcell i 2 hi (by decide)).trans (by rw [hCi]; rfl))
          have e3 : wr.cell? ⟨b, off + i * 8 + 3, none⟩ = some (.slice p2 n2 d2) := (hBV.cell (p := ⟨b, off + i * 8 + 3, none⟩) hbl).trans ((hcell i 3 hi (by decide)).trans (by rw [hCi]; rfl))
          have e4 : wr.cell? ⟨b, off + i * 8 + 4, none⟩ = some ((.bool (decide ((f i).2.num < 0)))) := (hBV.cell (p := ⟨b, off + i * 8 + 4, none⟩) hbl).trans ((hcell i 4 hi (by decide)).trans (by rw [hCi]; rfl))
          have e5 : wr.cell? ⟨b, off + i * 8 + 5, none⟩ = some (.slice p3 n3 d3) := (hBV.cell (p := ⟨b, off + i * 8 + 5, none⟩) hbl).trans ((hcell i 5 hi (by decide)).trans (by rw [hCi]; rfl))
          have e6 : wr.cell? ⟨b, off + i * 8 + 6, none⟩ = some (.bool false) := (hBV.cell (p := ⟨b, off + i * 8 + 6, none⟩) hbl).trans ((hcell i 6 hi (by decide)).trans (by rw [hCi]; rfl))
          have e7 : wr.cell? ⟨b, off + i * 8 + 7, none⟩ = some (.slice p4 n4 d4) := (hBV.cell (p := ⟨b, off + i * 8 + 7, none⟩) hbl).trans ((hcell i 7 hi (by decide)).trans (by rw [hCi]; rfl))
          have lb := Nat.lt_of_lt_of_le hbl hBV.size
          go_wp2_with fail
          refine boxes1 fun W5 hB5 hs5 bP => ?_
          have hB5' := hB5.drew
          have hD5 := fun j hj => (hD j hj).2.ext (.of_below hB5')
          have hown5 := ownsRow_below hown hB5'
          have hBV5 := belowCall hBV hB5'
          have bV5 := bV.below hB5'
          have bP5 := bP.drew
          have Ru5 := Ru.ext (.of_below hBV5)
          have hvi : (Tryz.prog.info? 104).map (·.size) = some 11 := by kernel_rfl
          refine wp_region_held_drew (S := fun w' => Box w' W1.heap.size 104 #[.string a.nm, .int .i64 a.di, .int .i64 a.pu, .int .i64 a.st, .int .i64 a.pr, .slice q.pf a.nf q.cf, .slice q.pw a.nw q.cw, .slice q.ps a.ns q.cs, .slice q.pc 0 q.cc, .slice q.pi a.ns q.ci, .int .i64 (k : Int)] ∧ Box w' wr.heap.size 65 #[.bool (decide ((f i).1.num < 0)), .slice p1 n1 d1, .bool false, .slice p2 n2 d2, .bool (decide ((f i).2.num < 0)), .slice p3 n3 d3, .bool false, .slice p4 n4 d4]) (by kernel_rfl) ⟨bV5, bP5⟩ (fun hHeld => ?_)
          generalize W5.drew = W6 at *
          refine take_want 0 (some 42) rfl (by kernel_rfl) (by kernel_rfl) (by kernel_rfl) rfl (fun _ _ _ h => h) (by rfl) (v := ?_) ?_ (by assumption) ?_
          rotate_left
          · intro w hSw; (try dsimp only at hSw); go_simp; all_goals with_reducible rfl
          simp only [Act.put, List.setIfInBounds_toArray, List.set_cons_zero, List.set_cons_succ]
          refine take_want 1 (some 43) rfl (by kernel_rfl) (by kernel_rfl) (by kernel_rfl) rfl (fun _ _ _ h => h) (by rfl) (v := ?_) ?_ (by assumption) ?_
          rotate_left
          · intro w hSw; (try dsimp only at hSw); go_simp; all_goals with_reducible rfl
          simp only [Act.put, List.setIfInBounds_toArray, List.set_cons_zero, List.set_cons_succ]
          refine take_want 2 (some 44) rfl (by as_aux_lemma => kernel_rfl) (by as_aux_lemma => kernel_rfl) (by as_aux_lemma => kernel_rfl) rfl (fun _ _ _ h => h) (by rfl) (v := (.agg #[.bool (decide ((f i).2.num < 0)), .slice p3 n3 d3, .bool false, .slice p4 n4 d4])) (exec_load 54 _ rfl wr.heap.size 4 rfl #[.bool (decide ((f i).2.num < 0)), .slice p3 n3 d3, .bool false, .slice p4 n4 d4] (fun w hS => half_range hS.2) _ Tryz.underlying54 rfl sizeQuot) (by assumption) ?_
          simp only [Act.put, List.setIfInBounds_toArray, List.set_cons_zero, List.set_cons_succ]
          refine take_want 3 (some 45) rfl (by as_aux_lemma => kernel_rfl) (by as_aux_lemma => kernel_rfl) (by as_aux_lemma => kernel_rfl) rfl (fun _ _ _ h => h) (by rfl) (v := (.agg #[.string a.nm, .int .i64 a.di, .int .i64 a.pu, .int .i64 a.st, .int .i64 a.pr, .slice q.pf a.nf q.cf, .slice q.pw a.nw q.cw, .slice q.ps a.ns q.cs, .slice q.pc 0 q.cc, .slice q.pi a.ns q.ci, .int .i64 (k : Int)])) (exec_load 104 _ rfl W1.heap.size 0 rfl #[.string a.nm, .int .i64 a.di, .int .i64 a.pu, .int .i64 a.st, .int .i64 a.pr, .slice q.pf a.nf q.cf, .slice q.pw a.nw q.cw, .slice q.ps a.ns q.cs, .slice q.pc 0 q.cc, .slice q.pi a.ns q.ci, .int .i64 (k : Int)] (fun w hS => hS.1.range) _ Tryz.underlying104 rfl hvi) (by assumption) ?_
          simp only [Act.put, List.setIfInBounds_toArray, List.set_cons_zero, List.set_cons_succ]
          refine take_want 4 (some 46) rfl (by kernel_rfl) (by kernel_rfl) (by kernel_rfl) rfl (fun _ _ _ h => h) (by rfl) (v := ?_) ?_ (by assumption) ?_
          rotate_left
          · intro w hSw; (try dsimp only at hSw); go_simp; all_goals with_reducible rfl
          simp only [Act.put, List.setIfInBounds_toArray, List.set_cons_zero, List.set_cons_succ]
          refine wpAnyH_ready (rs := [5]) (by kernel_rfl) (by simp) ?_
          refine AllReadyH.cons rfl (fun K hK => ?_) AllReadyH.nil
          go_simp
          (refine (hix W6 hBV5 i hi).mono ?_; rintro e W7 ⟨C7, rfl, R7, hb7⟩)
          refine hK.out _ _ ?_ (fun hHeld => ?_)
          · first | exact (⟨hHeld.1.below hb7, hHeld.2.below hb7⟩) | fail "keep"
          clear hK K
          try simp only [Act.put, List.setIfInBounds_toArray, List.set_cons_zero, List.set_cons_succ]
          replace Ru5 := Ru5.ext (.of_below hb7)
          refine wpAnyH_ready (rs := [6]) (by kernel_rfl) (by simp) ?_
          refine AllReadyH.cons rfl (fun K hK => ?_) AllReadyH.nil
          go_simp
          (refine (div_ok (f i).2 (a.nI k i) _ _ W7 _ (Ext.refl _) Ru5 R7 (hnz i hi) (hfit i hi)).mono ?_; rintro e W8 ⟨r8, rfl, R8, hb8⟩)
          refine hK.out _ _ ?_ (fun hHeld => ?_)
          · first | exact (⟨hHeld.1.below hb8, hHeld.2.below hb8⟩) | fail "keep"
          clear hK K
          try simp only [Act.put, List.setIfInBounds_toArray, List.set_cons_zero, List.set_cons_succ]
          obtain ⟨pa, na, da, pb, nb, db, rfl, y8, z8⟩ := id R8
          refine take_want 7 (some 49) rfl (by kernel_rfl) (by kernel_rfl) (by kernel_rfl) rfl (fun _ _ _ h => h) (by rfl) (v := ?_) ?_ (by assumption) ?_
          rotate_left
          · intro w hSw; (try dsimp only at hSw); go_simp; all_goals with_reducible rfl
          simp only [Act.put, List.setIfInBounds_toArray, List.set_cons_zero, List.set_cons_succ]
          refine take_want 8 (some 50) rfl (by kernel_rfl) (by kernel_rfl) (by kernel_rfl) rfl (fun _ _ _ h => h) (by rfl) (v := ?_) ?_ (by assumption) ?_
          rotate_left
          · intro w hSw; (try dsimp only at hSw); go_simp; all_goals with_reducible rfl
          simp only [Act.put, List.setIfInBounds_toArray, List.set_cons_zero, List.set_cons_succ]
          refine wpAnyH_ready (rs := [9]) (by kernel_rfl) (by simp) ?_
          refine AllReadyH.cons rfl (fun K hK => ?_) AllReadyH.nil
          go_simp
          (refine (mustq_ok _ rfl (by simp [Value.oneCell']) W8).mono ?_; rintro e W9 ⟨rfl, hb9⟩)
          refine hK.out _ _ ?_ (fun hHeld => ?_)
          · first | exact (⟨hHeld.1.below hb9, hHeld.2.below hb9⟩) | fail "keep"
          clear hK K
          try simp only [Act.put, List.setIfInBounds_toArray, List.set_cons_zero, List.set_cons_succ]
          have hb79 := belowCall (belowCall hb7 hb8) hb9
          have hown9 := ownsRow_below hown5 hb79
          have hBV9 := belowCall hBV5 hb79
          have R9 := R8.ext (.of_below hb9)
          have hD9 := fun j hj => (hD5 j hj).ext (.of_below hb79)
          refine wpAnyH_ready (rs := [10]) (by kernel_rfl) (by simp) ?_
          refine AllReadyH.cons rfl (fun K hK => ?_) AllReadyH.nil
          go_simp
          skip
          refine hK.out _ _ ?_ (fun hHeld => ?_)
          · first | exact (⟨hHeld.1.alloc _, hHeld.2.alloc _⟩) | fail "keep"
          clear hK K
          try simp only [Act.put, List.setIfInBounds_toArray, List.set_cons_zero, List.set_cons_succ]
          have bV9 := hHeld.1
          have bP9 := hHeld.2
          refine wpAnyH_ready (rs := [11]) (by kernel_rfl) (by simp) ?_
          refine AllReadyH.cons rfl (fun K hK => ?_) AllReadyH.nil
          rw [if_pos (by rfl)]
          refine wp_append_own _ _ _ 71 rfl w.heap.size 54 i0 z0 4 64 Tryz.underlying71 pi1 pi2 pi3 pi4 pi5 (by decide) _ i _ rfl (hown9.alloc _) ⟨W9.heap.size, 0, none⟩ 1 1 [_, _, _, _] rfl rfl (cells_new W9 #[_, _, _, _] _) (by simp [Value.oneCell']) (by unfold maxLen; omega) (by omega) (by have := hBV9.size; simp; omega) ?_
          intro v' w1 hown' hgrow _
          refine hK.out _ _ ⟨Box.appended (hown9.alloc _) hgrow bV9 (by decide), Box.appended (hown9.alloc _) hgrow bP9 (by decide)⟩ (fun hHeld2 => ?_)
          clear hK K
          refine take_want 12 (some 3) rfl (by kernel_rfl) (by kernel_rfl) (by kernel_rfl) rfl (fun _ _ _ h => h) (by rfl) (v := ?_) ?_ (by assumption) ?_
          rotate_left
          · intro w hSw; (try dsimp only at hSw); go_simp; all_goals with_reducible rfl
          simp only [Act.put, List.setIfInBounds_toArray, List.set_cons_zero, List.set_cons_succ]
          refine wpAnyH_done (by kernel_rfl) ?_ _
          go_wp2
          go_roundw
          case rel =>
            have hx := ((Ext.refl W9).alloc _).trans (Ext.appended (hown9.alloc _) hgrow (by decide))
            refine ⟨i + 1, fun j => if j = i then #[.bool (decide (((f i).2 / a.nI k i).num < 0)), .slice pa na da, .bool false, .slice pb nb db] else D j, by omega, by simp, ?_, fun j hj => ?_, Below.appended (hown9.alloc _) hgrow (belowAlloc hBV9 _) (Nat.le_refl _), hHeld2.1⟩
            · rw [pens_succ, pens_congr _ D i (fun j hj => if_neg (by omega)), if_pos rfl]
              exact hown'
            · by_cases e : j = i
              · subst e
                dsimp only
                rw [if_pos rfl]
                exact ⟨rfl, R9.ext hx⟩
              · dsimp only
                rw [if_neg e]
                exact ⟨(hD j (by omega)).1, (hD9 j (by omega)).ext hx⟩
          case measure => simp [intOf]; omega
        · obtain rfl : i = a.ns := by omega
          obtain ⟨n', hn'⟩ : ∃ n', a.ns = n' + 1 := ⟨a.ns - 1, by omega⟩
          have hown2 := hown
          rw [hn'] at hown2
          obtain ⟨g, cap, e⟩ := ownsRow_succ hown2
          rw [← hn'] at e
          subst e
          go_wp2
          go_ret
          exact ⟨_, _, rfl, ⟨D, hown, hD⟩, hBV⟩
end Go.Proofs.YtepodcocemmejaaGreatDoor
