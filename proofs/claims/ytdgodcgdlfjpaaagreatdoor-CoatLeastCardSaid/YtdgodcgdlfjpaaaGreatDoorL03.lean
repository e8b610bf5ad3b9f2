/- CoatLeast returns true for every list of thin films, every list of octets and every two small numbers. Part 3 of 7. No condition beside the row. -/
import Derived.Test.YtdgodcgdlfjpaaaGreatDoorA02
import Derived.Test.YtdgodcgdlfjpaaaGreatDoorA03
import Derived.Test.YtdgodcgdlfjpaaaGreatDoorA10
import Derived.Test.YtdgodcgdlfjpaaaGreatDoorA22
import Derived.Test.YtdgodcgdlfjpaaaGreatDoorA34
import Derived.Test.YtdgodcgdlfjpaaaGreatDoorA37
import Derived.Test.YtdgodcgdlfjpaaaGreatDoorL01
set_option linter.unusedVariables false
set_option linter.unusedSimpArgs false
namespace Go.Proofs.YtdgodcgdlfjpaaaGreatDoor
open Go.RowKit Go.Mono
theorem film_ne (f0 f1 f2 g0 g1 g2 : Int) (h : ¬ (f0 = g0 ∧ f1 = g1 ∧ f2 = g2)) (w : World) : (binOp BinOp.eql 24 (.agg #[.int .i64 f0, .int .i64 f1, .int .i64 f2]) (.agg #[.int .i64 g0, .int .i64 g1, .int .i64 g2])).run Tryz.prog w = .ok (.bool false) w := by
  by_cases h0 : f0 = g0
  · by_cases h1 : f1 = g1
    · have h2 : ¬ f2 = g2 := fun h2 => h ⟨h0, h1, h2⟩
      go_simp
    · go_simp
  · go_simp
set_option maxRecDepth 100000 in
set_option maxHeartbeats 2000000 in
theorem indexF_ok (p : Option Addr) (n c : Nat) (F : Nat → Flm) (f : Flm) (w : World) (h : FilmsAt w p n c F) (hex : Hid (∃ j, j < n ∧ f = F j)) :
    Calls Tryz.prog 84 #[.slice p n c, .agg f.vals] w fun e w' => ∃ i : Nat, e = .returned (.int .i64 (i : Int)) ∧ Below w.heap.size w w' := by
  have hnn := h.2.1
  obtain ⟨f0, f1, f2⟩ := f
  simp only [show (Flm.mk f0 f1 f2).vals = #[.int .i64 f0, .int .i64 f1, .int .i64 f2] from rfl]
  go_enter Tryz.func84, Tryz.ntmps84
  go_wp2
  refine boxes1 fun W hB hs b0 => ?_
  go_loopw [8] (fun a wr => ∃ i : Nat, i ≤ n ∧ a = .int .i64 (i : Int) ∧ (∀ j, j < i → F j ≠ ⟨f0, f1, f2⟩) ∧ ∃ k, wr = W.drewN k) (fun a _ => (n - intOf a).toNat)
  case atStart => exact ⟨0, Nat.zero_le _, rfl, fun j hj => absurd hj (Nat.not_lt_zero _), 0, rfl⟩
  case round =>
    obtain ⟨i, hi, rfl, hno, k, rfl⟩ := hrel
    replace hno := Lib.hid hno
    by_cases hin : i < n
    · obtain ⟨b, off, rfl, hb, hc⟩ := h.2.2 (by omega)
      have a0 := (hB.cell (p := ⟨b, off + i * 3 + 0, none⟩) hb).trans (hc i 0 hin (by decide))
      have a1 := (hB.cell (p := ⟨b, off + i * 3 + 1, none⟩) hb).trans (hc i 1 hin (by decide))
      have a2 := (hB.cell (p := ⟨b, off + i * 3 + 2, none⟩) hb).trans (hc i 2 hin (by decide))
      simp only [show ∀ f : Flm, f.vals = #[.int .i64 f.ix, .int .i64 f.p, .int .i64 f.q] from fun _ => rfl, Nat.add_zero] at a0 a1 a2
      have hin' : (i : Int) < n := by omega
      obtain ⟨g0, g1, g2, hg⟩ : ∃ g0 g1 g2, F i = ⟨g0, g1, g2⟩ := ⟨_, _, _, rfl⟩
      rw [hg] at a0 a1 a2
      dsimp only at a0 a1 a2
      have c0 := b0.cell
      clear hc
      by_cases heq : f0 = g0 ∧ f1 = g1 ∧ f2 = g2
      · obtain ⟨rfl, rfl, rfl⟩ := heq
        replace hg := Lib.hid hg
        clear h
        go_wp2
        go_quiet (fail)
        go_wp2
        go_ret
        exact ⟨i, rfl, below_drewN (below_drewN hB _) _⟩
      · have hq := film_ne f0 f1 f2 g0 g1 g2 heq
        replace hg := Lib.hid hg
        replace heq := Lib.hid heq
        clear h
        go_wp2
        go_quiet (fail)
        go_wp2
        go_roundw
        case rel =>
          refine ⟨i + 1, by omega, by simp, fun j hj => ?_, _, rfl⟩
          by_cases hji : j = i
          · subst hji
            rw [hg.out]
            intro e
            injection e with e0 e1 e2
            exact heq.out ⟨e0.symm, e1.symm, e2.symm⟩
          · exact hno.out j (by omega)
        case measure => simp [intOf]; omega
    · obtain rfl : i = n := by omega
      obtain ⟨j, hj, he⟩ := hex.out
      exact absurd he.symm (hno.out j hj)
set_option maxRecDepth 100000 in
theorem contF_ok (p : Option Addr) (n c : Nat) (F : Nat → Flm) (f : Flm) (w : World) (h : FilmsAt w p n c F) (hex : ∃ j, j < n ∧ f = F j) :
    Calls Tryz.prog 23 #[.slice p n c, .agg f.vals] w fun e w' => e = .returned (.bool true) ∧ Below w.heap.size w w' := by
  have hix := fun (W : World) (hW : Below w.heap.size w W) => indexF_ok p n c F f W (h.below hW) (Lib.hid hex)
  have hge : ∀ i : Nat, decide ((i : Int) ≥ 0) = true := fun i => by simp
  obtain ⟨f0, f1, f2⟩ := f
  simp only [show (Flm.mk f0 f1 f2).vals = #[.int .i64 f0, .int .i64 f1, .int .i64 f2] from rfl] at hix ⊢
  go_enter Tryz.func23, Tryz.ntmps23
  go_wp2_with fail
  refine boxes1c fun W hB hs b0 => ?_
  refine (hix W hB).mono ?_
  rintro e W1 ⟨i, rfl, hb⟩
  have hi0 : (0 : Int) ≤ i := by omega
  have hB1 := belowCall hB hb
  clear hix
  go_wp2
  go_ret
  exact ⟨rfl, hB1⟩
end Go.Proofs.YtdgodcgdlfjpaaaGreatDoor
namespace Go.Proofs.YtdgodcgdlfjpaaaGreatDoor
open Go.RowKit Go.Mono
theorem madeI_ok (n : Int) (w : World) : Calls Tryz.prog 97 #[.int .i64 n, .int .i64 0] w fun e w' => e = .returned (.tuple #[.int .i64 n, .int .i64 0]) ∧ Below w.heap.size w w' := by
  go_enter Tryz.func97, Tryz.ntmps97
  go_wp2
  go_ret2
  exact ⟨rfl, Below.refl _ _⟩
set_option maxRecDepth 100000 in
theorem qsign_ok (a : Rat) (C : Array Value) (w : World) (h : QV w (.agg C) a) :
    Calls Tryz.prog 36 #[.agg C] w fun e w' => e = .returned (.tuple #[.int .i64 a.num.sign, .int .i64 0]) ∧ Below w.heap.size w w' := by
  have h' := h
  obtain ⟨p1, k1, c1, q1, l1, d1, eA, x1, x2⟩ := h
  cases eA
  have g1 := Sg.self a.num
  obtain ⟨zz, hzz⟩ : ∃ zz, a.num.sign = zz := ⟨_, rfl⟩
  rw [hzz]
  replace hzz := Lib.hid hzz
  generalize decide (a.num < 0) = sa at *
  go_enter Tryz.func36, Tryz.ntmps36
  go_wp2_with fail
  refine boxes1 (T0 := 37) fun W hB hs b0 => ?_
  refine wp_region_held_drew (S := fun w' => Below W.heap.size W w') (by as_aux_lemma => kernel_rfl) ((Below.refl _ _).drew) (fun hHeld => ?_)
  generalize W.drew = X0 at *
  refine tlf 0 (some 4) rfl (.agg #[.bool sa, .slice p1 k1 c1, .bool false, .slice q1 l1 d1]) (exec_load 37 _ rfl w.heap.size 0 (by as_aux_lemma => kernel_rfl) #[.bool sa, .slice p1 k1 c1, .bool false, .slice q1 l1 d1] (fun w h => (b0.below h).range) _ Tryz.underlying37 rfl sizeQuot) ?_
  refine tlf 4 (some 8) rfl (.agg #[.bool sa, .slice p1 k1 c1, .bool false, .slice q1 l1 d1]) (exec_load 37 _ rfl w.heap.size 0 (by as_aux_lemma => kernel_rfl) #[.bool sa, .slice p1 k1 c1, .bool false, .slice q1 l1 d1] (fun w h => (b0.below h).range) _ Tryz.underlying37 rfl sizeQuot) ?_
  refine Mono.stc 1 (some 5) (read_any sa false p1 q1 k1 c1 l1 d1 _) (fun e X1 hR => ?_)
  obtain ⟨rfl, hb1⟩ := hR
  refine ⟨(belowCall hHeld hb1), fun hHeld => Mono.pt ?_⟩
  have hX1 := hHeld
  refine tlf 2 (some 6) rfl (.agg #[.bool sa, .slice p1 k1 c1]) (fun w _ => by as_aux_lemma => kernel_rfl) ?_
  refine Mono.stc 3 (some 7) (wsign_ok sa 600 p1 k1 c1 a.num X1 ((x1.ext (.of_below hB)).ext (.of_below hX1)) g1) (fun e X2 hR => ?_)
  obtain ⟨rfl, hb2⟩ := hR
  refine ⟨(belowCall hHeld hb2), fun hHeld => Mono.pt ?_⟩
  rw [hzz.out]
  have hX2 := hHeld
  refine Mono.stc 5 (some 9) (qcheck_ok _ a X2 X2 (Ext.refl _) ((h'.ext (.of_below hB)).ext (.of_below hX2))) (fun e X3 hR => ?_)
  obtain ⟨rfl, hb3⟩ := hR
  refine ⟨(belowCall hHeld hb3), fun hHeld => Mono.pt ?_⟩
  refine Mono.stc 6 (some 10) (madeI_ok zz _) (fun e X4 hR => ?_)
  obtain ⟨rfl, hb4⟩ := hR
  refine ⟨(belowCall hHeld hb4), fun hHeld => Mono.pt ?_⟩
  refine tkf 7 (some 11) ?_
  refine tkf 8 (some 12) ?_
  refine tkf 9 (some 2) ?_
  refine tkf 10 (some 3) ?_
  refine wpAnyH_done (by as_aux_lemma => kernel_rfl) ?_ _
  go_wp2
  go_ret2
  exact ⟨rfl, belowCall hB hHeld⟩
end Go.Proofs.YtdgodcgdlfjpaaaGreatDoor
namespace Go.Mono
open Go.RowKit
theorem OwnF.lower {w : World} {base base' : Nat} {v : Value} {n : Nat} {f : Nat → Int} (h : OwnF w base v n f) (hb : base' ≤ base) : OwnF w base' v n f := by
  obtain ⟨hl, h | ⟨g, cap, cur, hv, hb', hh, hr⟩⟩ := h
  · exact ⟨hl, .inl h⟩
  · exact ⟨hl, .inr ⟨g, cap, cur, hv, Nat.le_trans hb hb', hh, hr⟩⟩
/-- one number appended onto an own slice of numbers -/
theorem wp_push_int {P : Program} {w : World} {o : Oper} {a : Act} {K : Act → World → Prop} {Q : Exit → Act → World → Prop} (s x : Operand) (t : TypeId) (ho : o.op = .call { callee := .builtin .append, args := #[s, x], argTypes := #[t, t] })
    (h1 : P.underlying t = some (.slice 3)) (h2 : (P.info? 3).map (fun i => (i.zero, i.size, i.bytes)) = some (some (.int .i64 0), 1, 8))
    (base : Nat) (v : Value) (n : Nat) (f : Nat → Int) (hs : a.eval s = v) (hown : OwnF w base v n f) (B : Nat) (y : Int) (hx : a.eval x = .slice (some ⟨B, 0, none⟩) 1 1) (hb : Box w B 3 #[.int .i64 y]) (hn : n ≤ 1000000) (hbase : base ≤ w.heap.size)
    (h : ∀ v' w', OwnF w' base v' (n + 1) (fun i => if i < n then f i else y) → w.grownBy w' v.ownBlock → K (a.put o.dst v') w') : o.wp P a w K Q := by
  obtain ⟨i, hi, hz, hs1, hb1⟩ := info_parts h2
  refine wp_append_own w s x t ho base 3 i (.int .i64 0) 1 8 h1 hi hz hs1 hb1 rfl (by decide) v n _ hs hown ⟨B, 0, none⟩ 1 1 [.int .i64 y] hx rfl ?_ (by simp [Value.oneCell']) (by simp [maxLen]; omega) (by omega) hbase ?_
  · intro j u hj
    match j, hj with
    | 0, hj =>
      have := hb.cell 0
      simp at hj
      subst hj
      simpa [Addr.add] using this
    | j + 1, hj => simp at hj
  · intro v' w' h3 h4 _
    refine h v' w' ?_ h4
    have e : (List.range n).map (fun i => Value.int .i64 (f i)) ++ [.int .i64 y] = (List.range (n + 1)).map fun i => .int .i64 (if i < n then f i else y) := by
      rw [List.range_succ, List.map_append]
      congr 1
      · exact List.map_congr_left fun i hi => by rw [if_pos (List.mem_range.1 hi)]
      · simp
    unfold OwnF
    rw [← e]
    exact h3
section
variable {P : Program} {ops : Array Oper} {Q : Exit → Act → World → Prop} {md : Region.Mode} {S : World → Prop}
/-- a store of some cells that comes up alone; what else lies stays -/
theorem wpAnyH_storeK (B : Nat) (T : TypeId) (i : Nat) {o : Oper} (hi : ops[i]? = some o) (hg : o.guard = none) (hd : o.dst = none) {ty : TypeId} {x y : Operand} (ho : o.op = .store ty x y) (off : Nat) (cells cs new : Array Value) {a : Act} {fuel : Nat} {listed : Array Bool} {w : World}
    (hr : Region.ready md ops listed = [i]) (hS : ∀ w i u, S w → S (w.setCell ⟨B, i, none⟩ u)) (hx : a.eval x = .pointer (some ⟨B, off, none⟩)) (hy : a.eval y = .agg cells)
    (hb : Box w B T cs) (hs : S w) (hi2 : (P.info? ty).map (·.size) = some cells.size) (hoff : off + cells.size ≤ cs.size) (h1 : cells.all (·.oneCell') = true)
    (hn : cs.toList.take off ++ cells.toList ++ cs.toList.drop (off + cells.size) = new.toList)
    (h : ∀ w', KeepBut B w.heap.size w w' → Box w' B T new → S w' → wpAnyH P md ops Q S fuel (listed.setIfInBounds i true) a w') : wpAnyH P md ops Q S (fuel + 1) listed a w := by
  refine wpAnyH_all hr (by simp) fun j hj => ?_
  obtain rfl : j = i := by simpa using hj
  unfold wpOp
  rw [hi]
  have hw : Region.wanted o (yielded ops a.tmps) = true := by simp [Region.wanted, hg]
  simp only [hw, if_true]
  left
  have hb2 := Box.setCells cells.toList off w cs hb (by simpa using hoff)
  have hb3 : Box (w.setCells B off cells.toList) B T new := by simpa [hn] using hb2
  have hs2 := setCells_keeps hS cells.toList off w hs
  refine wp_store_mid ty x y ho B off cells hx hy (hb.there off cells.size hoff) hi2 h1 ?_
  rw [hd]
  exact ⟨hs2, h _ ((KeepBut.refl _ _).setCells _ _ _) hb3 hs2⟩
end
/-- a value is put into a slot, as a letter -/
theorem wpList_assign_as {P : Program} {ops : Array Oper} {rest : List Oper} {op : Oper} {a : Act} {w : World} {Q : Exit → Act → World → Prop} {v : Value} (hg : op.guard = none) (x : Operand) (ho : op.op = .assign x) (hx : a.eval x = v)
    (h : wpList P ops Q rest (a.put op.dst v) w) : wpList P ops Q (op :: rest) a w :=
  wpList_step fun K hK => by
    have hw : Region.wanted op (yielded ops a.tmps) = true := by simp [Region.wanted, hg]
    simp only [hw, if_true]
    unfold Oper.wp execOp
    simp only [ho, hx, Sem.run_bind, Result.andThen_ok, Sem.run_pure]
    exact hK _ _ h
/-- an operation whose value is known -/
theorem wpList_known {P : Program} {ops : Array Oper} {rest : List Oper} {op : Oper} {a : Act} {w : World} {Q : Exit → Act → World → Prop} {v : Value} (hg : op.guard = none) (hx : (execOp a.eval op).run P w = .ok (.value v) w)
    (h : wpList P ops Q rest (a.put op.dst v) w) : wpList P ops Q (op :: rest) a w :=
  wpList_step fun K hK => by
    have hw : Region.wanted op (yielded ops a.tmps) = true := by simp [Region.wanted, hg]
    simp only [hw, if_true]
    unfold Oper.wp
    rw [hx, Oper.upon_value]
    exact hK _ _ h
/-- the lesser of two lengths, as a letter -/
theorem wpList_min2 {P : Program} {ops : Array Oper} {rest : List Oper} {op : Oper} {a : Act} {w : World} {Q : Exit → Act → World → Prop} (hg : op.guard = none) (x y : Operand) (T : Array TypeId) (ho : op.op = .call { callee := .builtin .min, args := #[x, y], argTypes := T })
    (m k L : Nat) (hx : a.eval x = .int .i64 (m : Int)) (hy : a.eval y = .int .i64 (k : Int)) (hL : min m k = L) (h : wpList P ops Q rest (a.put op.dst (.int .i64 (L : Int))) w) : wpList P ops Q (op :: rest) a w := by
  refine wpList_known hg ?_ h
  subst hL
  unfold execOp
  simp only [ho, resolve, invoke, builtin, Sem.run_bind, Sem.run_pure, Result.andThen_ok, List.map_toArray, List.map_cons, List.map_nil, hx, hy]
  by_cases hmk : m ≤ k
  · have hmk' : (m : Int) ≤ k := by omega
    rw [Nat.min_eq_left hmk]
    simp [Builtin.min_, Builtin.min2, hmk', Result.andThen]
    omega
  · have hmk' : ¬ (m : Int) ≤ k := by omega
    rw [Nat.min_eq_right (by omega)]
    simp [Builtin.min_, Builtin.min2, hmk', Result.andThen]
    omega
end Go.Mono
namespace Go.Proofs.YtdgodcgdlfjpaaaGreatDoor
open Go.RowKit Go.Mono
set_option maxRecDepth 100000 in
set_option maxHeartbeats 2000000 in
theorem films_ok (p : Option Addr) (n c : Nat) (G : Nat → Thn) (hG : ∀ i, i < n → (G i).ok) (most : Nat) (hm : most ≤ 9) (w : World) (h : ThinsAt w p n c G) :
    Calls Tryz.prog 13 #[.slice p n c, .int .i64 (most : Int)] w fun e w' => ∃ p' c', e = .returned (.slice p' (min n most) c') ∧ w'.ownsRow w.heap.size 24 3 (.slice p' (min n most) c') (min n most) (frow (fun i => (G i).film) (min n most)) ∧ Below w.heap.size w w' := by
  have hn63 : n ≤ 140737488351232 := h.2.1
  go_enter Tryz.func13, Tryz.ntmps13
  go_wp2_with fail
  go_loopw [5, 6] (fun v x wr => ∃ i : Nat, i ≤ min n most ∧ x = .int .i64 (i : Int) ∧ wr.ownsRow w.heap.size 24 3 v i (frow (fun i => (G i).film) i) ∧ Below w.heap.size w wr) (fun _ x _ => (most - intOf x).toNat)
  case atStart => exact ⟨0, Nat.zero_le _, rfl, World.ownsRow_nil _ _ _ _, Below.refl _ _⟩
  case round =>
    obtain ⟨i, hi, rfl, hown, hB⟩ := hrel
    by_cases him : i < min n most
    · have h1 : i < n := by omega
      have h2 : i < most := by omega
      obtain ⟨b, off, rfl, hbl, hrow0⟩ := h.rowAt (by omega)
      have hrow := hrow0 i h1 wr hB
      have hti := hG i h1
      obtain ⟨v0, v1, v2, hv⟩ : ∃ v0 v1 v2 : Int, G i = ⟨v0, v1, v2⟩ := ⟨_, _, _, rfl⟩
      have r0 : wr.cell? ⟨b, off + i * 3, none⟩ = some (.int .u8 v0) := by have := hrow 0 (by omega); rw [hv] at this; exact this
      have r1 : wr.cell? ⟨b, off + i * 3 + 1, none⟩ = some (.int .u8 v1) := by have := hrow 1 (by omega); rw [hv] at this; exact this
      have r2 : wr.cell? ⟨b, off + i * 3 + 2, none⟩ = some (.int .u8 v2) := by have := hrow 2 (by omega); rw [hv] at this; exact this
      have hrg : wr.rangeAt b (off + i * 3) (Thn.mk v0 v1 v2).vals.toList := by
        intro j u hj
        match j, hj with
        | 0, hj => cases hj; exact r0
        | 1, hj => cases hj; exact r1
        | 2, hj => cases hj; exact r2
      have hsl : (Tryz.prog.info? 112).map (·.size) = some (Thn.mk v0 v1 v2).vals.toList.length := by kernel_rfl
      have hin : (i : Int) < n := by omega
      have him' : (i : Int) < most := by omega
      obtain ⟨ti, hti1, htz, hts, htb⟩ := info_parts infoFilm
      have hwr := hB.size
      have hfi : (fun i => (G i).film) i = Thn.film ⟨v0, v1, v2⟩ := by simp only [hv]
      clear hrow0 hrow r0 r1 r2 h hG
      rw [hv] at hti
      go_wp2_with first | (refine wpList_load_mid rfl 112 _ rfl b (off + i * 3) rfl (Thn.mk v0 v1 v2).vals.toList _ hrg Tryz.underlying112 rfl hsl ?_)
      refine (thin_film ⟨v0, v1, v2⟩ hti wr).mono ?_
      rintro e W1 ⟨rfl, hb1⟩
      obtain ⟨x0, x1, x2, hx⟩ : ∃ x0 x1 x2 : Int, (Thn.film ⟨v0, v1, v2⟩).vals = #[.int .i64 x0, .int .i64 x1, .int .i64 x2] := ⟨_, _, _, rfl⟩
      rw [hx]
      have hown1 := ownsRow_below hown hb1
      have hB1 := belowCall hB hb1
      have hb2 : Below W1.heap.size W1 (W1.alloc (.cells #[.int .i64 x0, .int .i64 x1, .int .i64 x2] 24)) := belowAlloc (Below.refl _ _) _
      have hown2 := ownsRow_below hown1 hb2
      have hB2 := belowCall hB1 hb2
      have hcn := new_cells W1 #[.int .i64 x0, .int .i64 x1, .int .i64 x2] 24
      replace hx := Lib.hid hx
      replace hfi := Lib.hid hfi
      clear hown hown1 hb1 hrg
      go_wp2_with first | ((refine wpList_append_own _ rfl _ _ 27 rfl w.heap.size 24 ti _ 3 24 Tryz.underlying27 hti1 htz hts htb rfl (by decide) _ _ _ rfl hown2 ⟨W1.heap.size, 0, none⟩ 1 1 [.int .i64 x0, .int .i64 x1, .int .i64 x2] rfl rfl hcn (by simp [Value.oneCell']) (by simp [maxLen]; omega) (by omega) hB2.size ?_); intro v' W3 hown3 hgrow _)
      have hB3 := Below.appended hown2 hgrow hB2 (Nat.le_refl _)
      go_roundw
      case rel =>
        refine ⟨i + 1, by omega, by simp, ?_, hB3⟩
        rw [frow, hfi.out, hx.out]
        exact hown3
      case measure => simp [intOf]; omega
    · obtain rfl : i = min n most := by omega
      obtain ⟨p', c', rfl⟩ := ownsRow_slice hown
      by_cases hnm : (↑(min n most) : Int) < n
      · have hmm : ¬ (↑(min n most) : Int) < most := by omega
        go_wp2
        go_ret
        exact ⟨p', c', rfl, hown, hB⟩
      · go_wp2
        go_ret
        exact ⟨p', c', rfl, hown, hB⟩
end Go.Proofs.YtdgodcgdlfjpaaaGreatDoor
