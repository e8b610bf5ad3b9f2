/- The law MatrixKnown: the examples of the ray transfer matrices, afocal lenses, mirrors and the order of errors; its walk by a verified evaluator of the model, and its card. Part 24 of 36. No condition beside the row. -/
import Derived.Test.YtdgodcgdlfjpaaaGreatDoorM17
import Derived.Test.YtdgodcgdlfjpaaaGreatDoorM23
set_option linter.unusedVariables false
set_option linter.unusedSimpArgs false
set_option maxRecDepth 100000
set_option maxHeartbeats 4000000
namespace Go.Mono
open Go.RowKit
section
section
variable {P : Program} {ops : Array Oper} {rest : List Oper} {o : Oper} {a : Act} {Q : Exit → Act → World → Prop}
theorem wpList_copy_rd (w : World) (hg : o.guard = none) (d s : Operand) (dT sT : TypeId) (ho : o.op = .call { callee := .builtin .copy, args := #[d, s], argTypes := #[dT, sT] })
  (hu : P.underlying dT = some (.slice 3)) (hsz : (P.info? 3).map (·.size) = some 1)
  (g N cap R : Nat) (h : Nat → Int) (p : Option Addr) (n c : Nat) (f : Nat → Int) (hd : a.eval d = .slice (some ⟨g, 0, none⟩) N cap) (hs : a.eval s = .slice p n c)
  (hrow : RowF w g R h) (hsrc : RdF w p n c f) (hnN : n ≤ N) (hNR : N ≤ R) (B : Nat) (w0 : World) (hb : Below B w0 w) (hBg : B ≤ g)
  (hK : ∀ w', RowF w' g R (fun j => if j < n then f j else h j) → Below B w0 w' → wpList P ops Q rest (a.put o.dst (goInt n)) w') :
  wpList P ops Q (o :: rest) a w := by
 obtain ⟨cs, h1, h2, h3⟩ := hrow
 have hlen : ((List.range n).map fun i => Value.int .i64 (f i)).length = n := by simp
 refine wpList_copy_splice (w := w) hg d s dT sT ho 3 hu hsz _ _ N cap n c hd hs g 0 cs.toList 3 (by simpa using h1) ((List.range n).map fun i => Value.int .i64 (f i)) (by rw [hlen]; exact (Nat.min_eq_left hnN).symm) ?_ (by rw [hlen]; simp; omega) ?_ B w0 hb hBg ?_
 ·intro hp
  rw [hlen] at hp
  obtain ⟨_, _, hx⟩ := hsrc
  obtain ⟨b, off, rfl, _, hcell⟩ := hx hp
  refine ⟨rfl, _, rfl, fun j v hj => ?_⟩
  simp only [List.getElem?_map, Option.map_eq_some_iff] at hj
  obtain ⟨i, hi, rfl⟩ := hj
  obtain ⟨hlt, he⟩ := List.getElem?_eq_some_iff.1 hi
  simp at hlt he
  subst he
  have := hcell j hlt
  by_cases h0 : j = 0
  ·subst h0; simpa [Addr.add] using this
  ·simpa [Addr.add, h0] using this
 ·intro v hv
  simp at hv
  obtain ⟨i, _, rfl⟩ := hv
  rfl
 ·intro w' hw' hb'
  rw [hlen]
  refine hK w' ⟨_, hw'.out, ?_, fun j hj => ?_⟩ hb'
  ·simp [splice]; omega
  ·simp only [splice, List.take_zero, List.nil_append, Nat.zero_add, hlen]
   simp only [List.getElem?_toArray, List.getElem?_append, List.length_map, List.length_range, List.getElem?_drop]
   by_cases hjn : j < n
   ·simp [hjn]
   ·simp only [hjn, if_false]
    rw [show n + (j - n) = j by omega]
    simpa using h3 j hj
end
end
end Go.Mono
namespace Go.Proofs.YtdgodcgdlfjpaaaGreatDoor
open Go.RowKit Go.Mono
theorem repeat1_ok (p : Option Addr) (c : Nat) (z : Int) (w : World) (h : RdF w p 1 c (fun _ => z)) :
  Calls Tryz.prog 244 #[.slice p 1 c, .int .i64 1] w fun e w' => ∃ p' c', e = .returned (.slice p' 1 c') ∧ RdF w' p' 1 c' (fun _ => z) ∧ Below w.heap.size w w' := by
 go_enter Tryz.func244, Tryz.ntmps244
 go_wp2_with first | (at_make; refine wpList_make_ints _ rfl _ _ 33 rfl Tryz.underlying33 infoInt _ _ 1 rfl rfl (by simp) (by simp) (by omega) ?_; intro w1 r1 b1; have s1 := b1.size; have L1 := r1.lt) | (with_reducible refine wpList_copy_rd _ rfl (.tmp 31) (.tmp 32) 33 33 rfl Tryz.underlying33 sizeInt w.heap.size 1 _ 1 _ _ 1 c (fun _ => z) rfl rfl r1 (h.below b1) (by omega) (by omega) w.heap.size w b1 (Nat.le_refl _) ?_; intro w2 r2 b2) | go_in
 go_loopw [8] (fun a wr => a = .int .i64 1 ∧ wr = w2) (fun _ _ => 0)
 case atStart => exact ⟨rfl, rfl⟩
 case round =>
  obtain ⟨rfl, rfl⟩ := hrel
  go_wp2
  go_ret
  refine ⟨_, _, rfl, ⟨by omega, by omega, fun _ => ⟨_, 0, rfl, r2.lt, fun i hi => ?_⟩⟩, b2⟩
  rw [Nat.zero_add, r2.cell i hi]
  simp [hi]
theorem air1_ok (M : Nat) (pw : Option Addr) (cw : Nat) (w : World) (hw : w.cell? ⟨M, 6, none⟩ = some (.slice pw 1 cw)) :
  Calls Tryz.prog 193 #[.pointer (some ⟨M, 0, none⟩)] w fun e w' => ∃ p' c', e = .returned (.slice p' 1 c') ∧ RdF w' p' 1 c' (fun _ => 10000000) ∧ Below w.heap.size w w' := by
 have hlt : M < w.heap.size := block_lt_of_cell hw
 go_enter Tryz.func193, Tryz.ntmps193
 go_wp2_with fail
 refine boxes1c fun W hB hs b0 => ?_
 refine (repeat1_ok _ _ 10000000 W (.box b0 0 1 _ (fun i hi => by obtain rfl : i = 0 := (by omega); rfl) (by omega))).mono ?_
 rintro e w' ⟨p', c', rfl, hr, hb⟩
 go_wp2
 go_ret
 exact ⟨_, _, rfl, hr, belowCall hB hb⟩
end Go.Proofs.YtdgodcgdlfjpaaaGreatDoor
