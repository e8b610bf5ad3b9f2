/- The law SeidelShifts: Shift equals the reference: its walk by a verified evaluator, and its card. Part 10 of 11. No condition beside the row. -/
import Derived.Test.YtcgfdibagldafaaGreatDoorG06
import Derived.Test.YtcgfdibagldafaaGreatDoorH01
import Derived.Test.YtcgfdibagldafaaGreatDoorH06
import Derived.Test.YtcgfdibagldafaaGreatDoorH07
import Derived.Test.YtcgfdibagldafaaGreatDoorH08
import Derived.Test.YtcgfdibagldafaaGreatDoorH09
set_option linter.unusedVariables false
set_option linter.unusedSimpArgs false
set_option maxRecDepth 100000
set_option maxHeartbeats 4000000
namespace Go.Proofs.YtcgfdibagldafaaGreatDoor
open Go.RowKit Go.Mono Go.Ex
theorem sworks_ok (w : World) (m : Nat) (h : PowsAt w m) : Calls Tryz.prog 23 #[] w fun e w' => e = .returned (.bool true) ∧ Below w.heap.size w w' := true_of (d := 50) (Ctr.or (cMemoL h (so1 m)) (cMemoL h (so3 m)) rfl :: cMemo h (so2 m) :: spM h) [powF h] (by kernel_rfl)
section
section
variable {m : Nat} {l : List Rat}
def QB.val : QB → Rat
 | .q x => x
 | .bad => 0
theorem QB.val_hs : ∀ {q : QB}, q.ok → Hs 27 q.val
 | .q _, h => h
 | .bad, _ => ⟨by decide, by decide⟩
theorem toQe {q : Rat} {i : Nat} (h : l.getD i 0 = q) (ρ : Nm) (w : World) (c : List Value) (hc : denU (qDen (lK m l) (lK1 m l)) ρ w (QB.q q).u c) : denU (qDen (lK m l) (lK1 m l)) ρ w (.qe (polVar i)) c := by
 show (qDen (lK m l) (lK1 m l)).R w (polEv (qDen (lK m l) (lK1 m l)).env (polVar i)) c
 rw [polVar_ev, lK_env, h]
 exact hc
theorem toQb (q : QB) (ρ : Nm) (w : World) (c : List Value) (hc : denU (qDen (lK m l) (lK1 m l)) ρ w q.u c) : denU (qDen (lK m l) (lK1 m l)) ρ w .qb c := by
 cases q with
 | q x => exact .inl ⟨x, hc⟩
 | bad => exact .inr hc
end
end
section
theorem numC_one (ns ds : Nat → Int) (i : Nat) : ∀ v ∈ numC ns ds i, v.oneCell' = true := by
 intro v hv
 simp only [numC, List.mem_cons, List.not_mem_nil, or_false] at hv
 rcases hv with rfl | rfl <;> rfl
section
variable {K : Nat → Value} {hK : ∀ i, (K i).oneCell' = true}
theorem nqEv {w0 : World} (n d : Int) : (evF Tryz.prog (w0 := w0) (X := fun _ => False) (D := qDen K hK) [cR4Of w0 _] [] 5 [] 12 [.agg [.sml .i16 n, .sml .u8 d]] [] 0 0 []).map (fun r => (r.v, r.obl, r.pan)) = some (.a (.agg [.quo (nq n d)]), numL n d, none) := by kernel_rfl
end
theorem nq_ok {m : Nat} {l : List Rat} {ns ds : Nat → Int} (w0 : World) (hb : ∀ i, i < 6 → (-32768 ≤ ns i ∧ ns i ≤ 32767) ∧ (0 ≤ ds i ∧ ds i ≤ 255)) (hl : ∀ i, i < 6 → l.getD i 0 = nq (ns i) (ds i)) : NQ m l w0 ns ds := by
 intro i hi ρ w hw
 refine (evRun0 (D := qDen (lK m l) (lK1 m l)) (d := 5) (orc := []) (args := [.agg [.sml .i16 (ns i), .sml .u8 (ds i)]]) wide_ [cR4Of w _] [] _ (numL (ns i) (ds i)) (nqEv (ns i) (ds i)) (numL_ok (hb i hi).1 (hb i hi).2) (vals := [.agg (numC ns ds i).toArray]) ⟨_, [], rfl, ⟨_, rfl, [_], _, rfl, rfl, [_], [], rfl, rfl, rfl⟩, rfl⟩).mono ?_
 rintro e w' ⟨v, ρ', rfl, ⟨cs, rfl, c0, d0, e0, u0, hd⟩, hb'⟩
 exact ⟨_, rfl, ⟨cs, rfl, c0, d0, e0, toQe (hl i hi) ρ w' c0 u0, hd⟩, hb'⟩
theorem shifts_ok (w : World) (m : Nat) (hp : PowsAt w m) (ns ds : Nat → Int) (hb : ∀ i, i < 6 → (-32768 ≤ ns i ∧ ns i ≤ 32767) ∧ (0 ≤ ds i ∧ ds i ≤ 255)) (p q : Option Addr) (n n' c e : Nat) (f g : Nat → Int) (s : Bool) (hN : OddL w p n c f) (hD : OddL w q n' e g) (k : Int) (hk : 0 ≤ k ∧ k ≤ 255) :
  Calls Tryz.prog 7 #[.agg #[.int .i16 (ns 0), .int .u8 (ds 0), .int .i16 (ns 1), .int .u8 (ds 1), .int .i16 (ns 2), .int .u8 (ds 2), .int .i16 (ns 3), .int .u8 (ds 3), .int .i16 (ns 4), .int .u8 (ds 4), .int .i16 (ns 5), .int .u8 (ds 5)], .agg #[.slice p n c, .slice q n' e, .bool s], .int .u8 k] w fun e w' => e = .returned (.bool true) ∧ Below w.heap.size w w' := by
 obtain ⟨o, ho, hden⟩ := odd_qb (K := kZ) (hK := kZ1) s (min n 3) (min n' 3) f g (by omega) (by omega)
 have hw : SW m := fun w h => sworks_ok w m h
 have hall : ∀ l : List Rat, l = [nq (ns 0) (ds 0), nq (ns 1) (ds 1), nq (ns 2) (ds 2), nq (ns 3) (ds 3), nq (ns 4) (ds 4), nq (ns 5) (ds 5), o.val] → LetS (qDen (lK m l) (lK1 m l)).env kS ∧ NQ m l w ns ds := by
  rintro l rfl
  refine ⟨lK_let fun i k hi => ?_, nq_ok w hb fun i hi => ?_⟩
  ·match i, hi with
   | 0, hi => obtain rfl := Option.some.inj hi; exact nq_hs (hb 0 (by omega)).1.1 (hb 0 (by omega)).1.2 (hb 0 (by omega)).2.1 (hb 0 (by omega)).2.2
   | 1, hi => obtain rfl := Option.some.inj hi; exact nq_hs (hb 1 (by omega)).1.1 (hb 1 (by omega)).1.2 (hb 1 (by omega)).2.1 (hb 1 (by omega)).2.2
   | 2, hi => obtain rfl := Option.some.inj hi; exact nq_hs (hb 2 (by omega)).1.1 (hb 2 (by omega)).1.2 (hb 2 (by omega)).2.1 (hb 2 (by omega)).2.2
   | 3, hi => obtain rfl := Option.some.inj hi; exact nq_hs (hb 3 (by omega)).1.1 (hb 3 (by omega)).1.2 (hb 3 (by omega)).2.1 (hb 3 (by omega)).2.2
   | 4, hi => obtain rfl := Option.some.inj hi; exact nq_hs (hb 4 (by omega)).1.1 (hb 4 (by omega)).1.2 (hb 4 (by omega)).2.1 (hb 4 (by omega)).2.2
   | 5, hi => obtain rfl := Option.some.inj hi; exact nq_hs (hb 5 (by omega)).1.1 (hb 5 (by omega)).1.2 (hb 5 (by omega)).2.1 (hb 5 (by omega)).2.2
   | 6, hi => obtain rfl := Option.some.inj hi; exact QB.val_hs ho
   | _ + 7, hi => cases hi
  ·rcases (by omega : i = 0 ∨ i = 1 ∨ i = 2 ∨ i = 3 ∨ i = 4 ∨ i = 5) with rfl | rfl | rfl | rfl | rfl | rfl <;> rfl
 have hl6 : ∃ l : List Rat, l = [nq (ns 0) (ds 0), nq (ns 1) (ds 1), nq (ns 2) (ds 2), nq (ns 3) (ds 3), nq (ns 4) (ds 4), nq (ns 5) (ds 5), o.val] ∧ l.getD 6 0 = o.val := ⟨_, rfl, rfl⟩
 obtain ⟨l, hl, hg6⟩ := hl6
 obtain ⟨hks, h0⟩ := hall l hl
 clear hall hl
 have hodd : ∀ (o' : U), (∀ ρ w c, denU (qDen (lK m l) (lK1 m l)) ρ w o.u c → denU (qDen (lK m l) (lK1 m l)) ρ w o' c) → OQ m l w (.slice p n c) (.slice q n' e) (.bool s) o' := fun o' hc ρ w1 hw1 => (oddQuot_ok s p q n n' c e f g w1 ⟨hN.1.below hw1.below, hN.2⟩ ⟨hD.1.below hw1.below, hD.2⟩).mono fun e w' ⟨v1, v2, he, s1, s2, hb⟩ => by
  obtain ⟨cs, hv, c0, d0, e0, u0, hd⟩ := hden ρ w' v1 v2 s1 s2
  exact ⟨_, he, ⟨cs, hv, c0, d0, e0, hc ρ w' c0 (by cases o <;> exact u0), hd⟩, hb⟩
 have fin : ∀ (o' : U) (orc : List (Option Bool)) (L : List Prop) (h1 : OQ m l w (.slice p n c) (.slice q n' e) (.bool s) o'),
   (evF Tryz.prog (spH hp hks h0 h1 hw) [] 30 [] 7 (shA ns ds (.slice p n c) (.slice q n' e) (.bool s) k) [] 0 0 orc).map (fun r => (r.v, r.obl, r.pan)) = some (.a (.one (.val (.bool true))), shN ns ds L, none) → AllP L →
   Calls Tryz.prog 7 #[.agg #[.int .i16 (ns 0), .int .u8 (ds 0), .int .i16 (ns 1), .int .u8 (ds 1), .int .i16 (ns 2), .int .u8 (ds 2), .int .i16 (ns 3), .int .u8 (ds 3), .int .i16 (ns 4), .int .u8 (ds 4), .int .i16 (ns 5), .int .u8 (ds 5)], .agg #[.slice p n c, .slice q n' e, .bool s], .int .u8 k] w fun e w' => e = .returned (.bool true) ∧ Below w.heap.size w w' := by
  intro o' orc L h1 R hL
  refine (evRun0 (D := qDen (lK m l) (lK1 m l)) (d := 30) (orc := orc) (args := shA ns ds (.slice p n c) (.slice q n' e) (.bool s) k) wide_ (spH hp hks h0 h1 hw) [] (.a (.one (.val (.bool true)))) _ R ⟨rfl, rfl, rfl, rfl, rfl, rfl, hL⟩ (vals := [.agg #[.int .i16 (ns 0), .int .u8 (ds 0), .int .i16 (ns 1), .int .u8 (ds 1), .int .i16 (ns 2), .int .u8 (ds 2), .int .i16 (ns 3), .int .u8 (ds 3), .int .i16 (ns 4), .int .u8 (ds 4), .int .i16 (ns 5), .int .u8 (ds 5)], .agg #[.slice p n c, .slice q n' e, .bool s], .int .u8 k])
   ⟨_, _, rfl, ⟨_, rfl, numC ns ds 0, _, rfl, ⟨rfl, rfl, numC_one ns ds 0⟩, numC ns ds 1, _, rfl, ⟨rfl, rfl, numC_one ns ds 1⟩, numC ns ds 2, _, rfl, ⟨rfl, rfl, numC_one ns ds 2⟩, numC ns ds 3, _, rfl, ⟨rfl, rfl, numC_one ns ds 3⟩, numC ns ds 4, _, rfl, ⟨rfl, rfl, numC_one ns ds 4⟩, numC ns ds 5, [], rfl, ⟨rfl, rfl, numC_one ns ds 5⟩, rfl⟩,
    _, _, rfl, ⟨_, rfl, [_], _, rfl, ⟨rfl, rfl, by simp [Value.oneCell']⟩, [_], _, rfl, ⟨rfl, rfl, by simp [Value.oneCell']⟩, [_], [], rfl, ⟨rfl, rfl, by simp [Value.oneCell']⟩, rfl⟩, _, [], rfl, rfl, rfl⟩).mono ?_
  rintro e w' ⟨v, ρ', rfl, hv, hb⟩
  obtain rfl : v = .bool true := by simpa using hv.1
  exact ⟨rfl, hb⟩
 have hm : k.tmod 6 = k % 6 := Int.tmod_eq_emod_of_nonneg hk.1
 rcases (by omega : k % 6 = 0 ∨ k % 6 = 1 ∨ k % 6 = 2 ∨ k % 6 = 3 ∨ k % 6 = 4 ∨ k % 6 = 5) with h | h | h | h | h | h
 ·cases o with
  | q t => exact fin (.qe (polVar 6)) _ _ (hodd _ fun ρ w c hc => toQe hg6 ρ w c hc) (sh0q hp hks h0 _ hw k) ⟨by decide, decide_eq_true (by rw [hm, h]; decide), by decide, rfl, rfl, rfl, by rw [hm, h]; rfl, rfl, rfl, trivial⟩
  | bad => exact fin .bad _ _ (hodd _ fun ρ w c hc => hc) (sh0b hp hks h0 _ hw k) ⟨by decide, decide_eq_true (by rw [hm, h]; decide), by decide, rfl, rfl, rfl, by rw [hm, h]; rfl, rfl, rfl, trivial⟩
 ·cases o with
  | q t => exact fin (.qe (polVar 6)) _ _ (hodd _ fun ρ w c hc => toQe hg6 ρ w c hc) (sh1q hp hks h0 _ hw k) ⟨by decide, decide_eq_true (by rw [hm, h]; decide), by decide, rfl, rfl, rfl, by rw [hm, h]; rfl, rfl, rfl, trivial⟩
  | bad => exact fin .bad _ _ (hodd _ fun ρ w c hc => hc) (sh1b hp hks h0 _ hw k) ⟨by decide, decide_eq_true (by rw [hm, h]; decide), by decide, rfl, rfl, rfl, by rw [hm, h]; rfl, rfl, rfl, trivial⟩
 ·cases o with
  | q t => exact fin (.qe (polVar 6)) _ _ (hodd _ fun ρ w c hc => toQe hg6 ρ w c hc) (sh2q hp hks h0 _ hw k) ⟨by decide, decide_eq_true (by rw [hm, h]; decide), by decide, rfl, rfl, rfl, by rw [hm, h]; rfl, rfl, rfl, trivial⟩
  | bad => exact fin .bad _ _ (hodd _ fun ρ w c hc => hc) (sh2b hp hks h0 _ hw k) ⟨by decide, decide_eq_true (by rw [hm, h]; decide), by decide, rfl, rfl, rfl, by rw [hm, h]; rfl, rfl, rfl, trivial⟩
 ·cases o with
  | q t => exact fin (.qe (polVar 6)) _ _ (hodd _ fun ρ w c hc => toQe hg6 ρ w c hc) (sh3q hp hks h0 _ hw k) ⟨by decide, decide_eq_true (by rw [hm, h]; decide), by decide, rfl, rfl, rfl, by rw [hm, h]; rfl, rfl, rfl, trivial⟩
  | bad => exact fin .bad _ _ (hodd _ fun ρ w c hc => hc) (sh3b hp hks h0 _ hw k) ⟨by decide, decide_eq_true (by rw [hm, h]; decide), by decide, rfl, rfl, rfl, by rw [hm, h]; rfl, rfl, rfl, trivial⟩
 ·cases o with
  | q t => exact fin (.qe (polVar 6)) _ _ (hodd _ fun ρ w c hc => toQe hg6 ρ w c hc) (sh4q hp hks h0 _ hw k) ⟨by decide, decide_eq_true (by rw [hm, h]; decide), by decide, rfl, rfl, rfl, by rw [hm, h]; rfl, rfl, rfl, trivial⟩
  | bad => exact fin .bad _ _ (hodd _ fun ρ w c hc => hc) (sh4b hp hks h0 _ hw k) ⟨by decide, decide_eq_true (by rw [hm, h]; decide), by decide, rfl, rfl, rfl, by rw [hm, h]; rfl, rfl, rfl, trivial⟩
 ·cases o with
  | q t => exact fin (.qe (polVar 6)) _ _ (hodd _ fun ρ w c hc => toQe hg6 ρ w c hc) (sh5q hp hks h0 _ hw k) ⟨by decide, decide_eq_false (by rw [hm, h]; decide), rfl, rfl, rfl, rfl, rfl, trivial⟩
  | bad => exact fin .bad _ _ (hodd _ fun ρ w c hc => hc) (sh5b hp hks h0 _ hw k) ⟨by decide, decide_eq_false (by rw [hm, h]; decide), rfl, rfl, rfl, rfl, rfl, trivial⟩
end
section
open Go Go.ChangeShapes Go.WideShapes Go.ChangeAt
section
variable {H : Type} {enc : TypeId × Value → H} {W : World} {base : Nat} {r : Reach} {v : Value} {d : DataW H} {p : List MemPlace} {fuel : Nat} {cs : List Value} {x : DataW H × List MemPlace}
theorem nums6_cells (h : DataW.trod enc Tryz.prog W 0 (fun _ => true) true fuel 72 cs = some x) : ∃ ns ds : Nat → Int, (∀ i, i < 6 → (-32768 ≤ ns i ∧ ns i ≤ 32767) ∧ (0 ≤ ds i ∧ ds i ≤ 255)) ∧ cs = [.int .i16 (ns 0), .int .u8 (ds 0), .int .i16 (ns 1), .int .u8 (ds 1), .int .i16 (ns 2), .int .u8 (ds 2), .int .i16 (ns 3), .int .u8 (ds 3), .int .i16 (ns 4), .int .u8 (ds 4), .int .i16 (ns 5), .int .u8 (ds 5)] := by
 have hc : Tryz.prog.cellsOf 72 = 12 := by kernel_rfl
 have hn : Tryz.prog.cellsOf 32 = 2 := by kernel_rfl
 obtain ⟨xs, m, rfl, _, hl, hx, hel⟩ := DataW.trod_array Tryz.underlying72 h
 rw [hc] at hl
 match cs, hl, xs, hx with
 | [c0, c1, c2, c3, c4, c5, c6, c7, c8, c9, c10, c11], _, [x0, x1, x2, x3, x4, x5], _ =>
   have e0 := hel 0 (by omega)
   have e1 := hel 1 (by omega)
   have e2 := hel 2 (by omega)
   have e3 := hel 3 (by omega)
   have e4 := hel 4 (by omega)
   have e5 := hel 5 (by omega)
   simp [hn] at e0 e1 e2 e3 e4 e5
   obtain ⟨n0, d0, g0, g0', k0⟩ := num_cells e0
   obtain ⟨n1, d1, g1, g1', k1⟩ := num_cells e1
   obtain ⟨n2, d2, g2, g2', k2⟩ := num_cells e2
   obtain ⟨n3, d3, g3, g3', k3⟩ := num_cells e3
   obtain ⟨n4, d4, g4, g4', k4⟩ := num_cells e4
   obtain ⟨n5, d5, g5, g5', k5⟩ := num_cells e5
   cases k0; cases k1; cases k2; cases k3; cases k4; cases k5
   refine ⟨fun i => [n0, n1, n2, n3, n4, n5].getD i 0, fun i => [d0, d1, d2, d3, d4, d5].getD i 0, fun i hi => ?_, rfl⟩
   rcases (by omega : i = 0 ∨ i = 1 ∨ i = 2 ∨ i = 3 ∨ i = 4 ∨ i = 5) with rfl | rfl | rfl | rfl | rfl | rfl
   ·exact ⟨g0, g0'⟩
   ·exact ⟨g1, g1'⟩
   ·exact ⟨g2, g2'⟩
   ·exact ⟨g3, g3'⟩
   ·exact ⟨g4, g4'⟩
   ·exact ⟨g5, g5'⟩
theorem open_nums6 (hv : Value.okWide Tryz.prog W r base 72 v) (h : DataW.Trod enc Tryz.prog W 0 (fun _ => true) true 72 v d p) : ∃ ns ds : Nat → Int, (∀ i, i < 6 → (-32768 ≤ ns i ∧ ns i ≤ 32767) ∧ (0 ≤ ds i ∧ ds i ≤ 255)) ∧ v = .agg #[.int .i16 (ns 0), .int .u8 (ds 0), .int .i16 (ns 1), .int .u8 (ds 1), .int .i16 (ns 2), .int .u8 (ds 2), .int .i16 (ns 3), .int .u8 (ds 3), .int .i16 (ns 4), .int .u8 (ds 4), .int .i16 (ns 5), .int .u8 (ds 5)] := by
 obtain ⟨cs, rfl⟩ : ∃ cs, v = .agg cs := by
  simp only [Value.okWide, Tryz.underlying72] at hv
  obtain ⟨cs, e, _⟩ := hv
  exact ⟨cs, e⟩
 obtain ⟨fuel, hf⟩ := h
 obtain ⟨ns, ds, hb, e⟩ := nums6_cells hf
 exact ⟨ns, ds, hb, congrArg Value.agg (Array.ext' e)⟩
theorem open_odd (hv : Value.okWide Tryz.prog W r base 74 v) (h : DataW.Trod enc Tryz.prog W 0 (fun _ => true) true 74 v d p) (hsz : ∀ n ∈ d.weights Tryz.prog 74, n ≤ reachBytes) : ∃ (p q : Option Addr) (n m c e : Nat) (f g : Nat → Int) (s : Bool), OddL W p n c f ∧ OddL W q m e g ∧ v = .agg #[.slice p n c, .slice q m e, .bool s] := by
 obtain ⟨cs, rfl, _⟩ := okWide_struct Tryz.underlying74 hv
 obtain ⟨fuel, hf⟩ := h
 obtain ⟨p, q, n, m, c, e, f, g, s, hN, hD, e'⟩ := odd_cells (x := (d, _)) hf hsz
 exact ⟨p, q, n, m, c, e, f, g, s, hN, hD, congrArg Value.agg (Array.ext' e')⟩
theorem open_u8 (hv : Value.okWide Tryz.prog W r base 5 v) (h : DataW.Trod enc Tryz.prog W 0 (fun _ => true) true 5 v d p) : ∃ o : Int, v = .int .u8 o ∧ (0 ≤ o ∧ o ≤ 255) := by
 obtain ⟨x, rfl, rfl, rfl, wx⟩ := open_int Tryz.underlying5 hv h
 exact ⟨x, rfl, bounds_u8 wx⟩
end
end
end Go.Proofs.YtcgfdibagldafaaGreatDoor
