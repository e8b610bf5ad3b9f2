/- The law CoatReflects: Reflect equals the reference, its walk by a verified evaluator, and its card. Part 3 of 4. No condition beside the row. -/
import Derived.Test.YtdgodcgdlfjpaaaGreatDoorR02
set_option linter.unusedVariables false
set_option linter.unusedSimpArgs false
set_option maxRecDepth 100000
set_option maxHeartbeats 4000000
namespace Go.Proofs.YtdgodcgdlfjpaaaGreatDoor
open Go.RowKit Go.Mono Go.Ev
section
def smallIx (s : Int) : Int := IntKind.i64.wrap (10000000 + IntKind.i64.wrap (100000 * IntKind.i64.wrap s))
def pairL (bk by_ : Bool) (na nb : Int) (fs : List Flm) : List Prop :=
 if bk then [inIx na ∧ inIx nb, okOr by_ (okAll fs), inIx na ∧ inIx nb, okOr by_ (okAll fs)] ++ (if by_ then [decide (back (idx na) (idx nb) (stackM fs) = back (idx na) (idx nb) (stackM fs)) = true, decide (through (idx na) (idx nb) (stackM fs) = through (idx na) (idx nb) (stackM fs)) = true] else [])
 else [¬ (inIx na ∧ inIx nb), ¬ (inIx na ∧ inIx nb)]
theorem pairL_ok {bk by_ : Bool} {na nb : Int} {fs : List Flm} (h1 : bk = true ↔ (inIx na ∧ inIx nb)) (h2 : by_ = true ↔ okAll fs) : ∀ p ∈ pairL bk by_ na nb fs, p := by
 intro p hp
 unfold pairL at hp
 cases bk with
 | false =>
   have hno : ¬ (inIx na ∧ inIx nb) := fun h => by have := h1.2 h; cases this
   simp only [Bool.false_eq_true, if_false, List.mem_cons, List.not_mem_nil, or_false] at hp
   rcases hp with rfl | rfl <;> exact hno
 | true =>
   have hyes := h1.1 rfl
   rw [if_pos rfl] at hp
   rcases List.mem_append.1 hp with hp | hp
   ·simp only [List.mem_cons, List.not_mem_nil, or_false] at hp
    rcases hp with rfl | rfl | rfl | rfl <;> first | exact hyes | exact okOr_of h2
   ·cases by_ with
    | false => cases hp
    | true =>
      rw [if_pos rfl] at hp
      rcases List.mem_cons.1 hp with rfl | hp
      ·exact decide_eq_true rfl
      ·obtain rfl := List.mem_singleton.1 hp
       exact decide_eq_true rfl
def withO (G : Nat → Thn) (m : Nat) (f : Flm) (k : Int) : Prop := filmsN (filmOf G) m = filmsN (filmOf G) m ∧ f = f ∧ Value.int .u8 k = Value.int .u8 k
def reflectsL (p : Option Addr) (n c : Nat) (G : Nat → Thn) (m m' j : Nat) (f : Flm) (k na nb s0 s1 : Int) (ba bb b : Bool) : List Prop :=
 let A := filmsN (filmOf G) m
 let B := filmsN (upd (filmOf G) j f) m'
 let one := fun (bk : Bool) (x y : Int) => [withO G m f k] ++ (pairL bk true x y A ++ pairL bk b x y B)
 [Value.slice p n c = Value.slice p n c ∧ (5 : Int) = ((5 : Nat) : Int)] ++ (one true (smallIx s0) (smallIx s1) ++ (one ba na (smallIx s1) ++ (one bb (smallIx s0) nb ++ one true (smallIx s1) (smallIx s1))))
section
variable (w : World) (p : Option Addr) (n c : Nat) (G : Nat → Thn) (hG : ∀ i, i < n → (G i).ok) (h : ThinsAt w p n c G) (f : Flm) (k : Int) (hk : 0 ≤ k ∧ k ≤ 255) (j : Nat) (na nb s0 s1 : Int)
def ReE (m m' : Nat) (ba bb b : Bool) : Prop := ∀ (hm : min n 5 = m) (hj : k % (m + 1) = (j : Int)) (hm9 : m ≤ 9) (hm' : m' = if j < m then m else m + 1),
    (evF Tryz.prog (law2Sps w p n c G hG h 5 m (by decide) hm f k hk j hj hm9 m' hm') 4 3 [.one (.val (.slice p n c)), .agg [.sym f.ix, .sym f.p, .sym f.q], .one (.val (.int .u8 k)), .one (.sym na), .one (.sym nb), .agg [.val (.int .u8 s0), .val (.int .u8 s1)]] [] 0 (reflectsO ba bb b)).map (fun r => (r.v, r.obl)) =
     some (.a (.one (.val (.bool true))), reflectsL p n c G m m' j f k na nb s0 s1 ba bb b)
theorem re0_1_0 : ReE w p n c G hG h f k hk j na nb s0 s1 0 1 false false false := fun hm hj hm9 hm' => by kernel_rfl
theorem re0_1_1 : ReE w p n c G hG h f k hk j na nb s0 s1 0 1 true false false := fun hm hj hm9 hm' => by kernel_rfl
theorem re0_1_2 : ReE w p n c G hG h f k hk j na nb s0 s1 0 1 false true false := fun hm hj hm9 hm' => by kernel_rfl
theorem re0_1_3 : ReE w p n c G hG h f k hk j na nb s0 s1 0 1 true true false := fun hm hj hm9 hm' => by kernel_rfl
theorem re0_1_4 : ReE w p n c G hG h f k hk j na nb s0 s1 0 1 false false true := fun hm hj hm9 hm' => by kernel_rfl
theorem re0_1_5 : ReE w p n c G hG h f k hk j na nb s0 s1 0 1 true false true := fun hm hj hm9 hm' => by kernel_rfl
theorem re0_1_6 : ReE w p n c G hG h f k hk j na nb s0 s1 0 1 false true true := fun hm hj hm9 hm' => by kernel_rfl
theorem re0_1_7 : ReE w p n c G hG h f k hk j na nb s0 s1 0 1 true true true := fun hm hj hm9 hm' => by kernel_rfl
theorem re1_1_0 : ReE w p n c G hG h f k hk j na nb s0 s1 1 1 false false false := fun hm hj hm9 hm' => by kernel_rfl
theorem re1_1_1 : ReE w p n c G hG h f k hk j na nb s0 s1 1 1 true false false := fun hm hj hm9 hm' => by kernel_rfl
theorem re1_1_2 : ReE w p n c G hG h f k hk j na nb s0 s1 1 1 false true false := fun hm hj hm9 hm' => by kernel_rfl
theorem re1_1_3 : ReE w p n c G hG h f k hk j na nb s0 s1 1 1 true true false := fun hm hj hm9 hm' => by kernel_rfl
theorem re1_1_4 : ReE w p n c G hG h f k hk j na nb s0 s1 1 1 false false true := fun hm hj hm9 hm' => by kernel_rfl
theorem re1_1_5 : ReE w p n c G hG h f k hk j na nb s0 s1 1 1 true false true := fun hm hj hm9 hm' => by kernel_rfl
theorem re1_1_6 : ReE w p n c G hG h f k hk j na nb s0 s1 1 1 false true true := fun hm hj hm9 hm' => by kernel_rfl
theorem re1_1_7 : ReE w p n c G hG h f k hk j na nb s0 s1 1 1 true true true := fun hm hj hm9 hm' => by kernel_rfl
theorem re1_2_0 : ReE w p n c G hG h f k hk j na nb s0 s1 1 2 false false false := fun hm hj hm9 hm' => by kernel_rfl
theorem re1_2_1 : ReE w p n c G hG h f k hk j na nb s0 s1 1 2 true false false := fun hm hj hm9 hm' => by kernel_rfl
theorem re1_2_2 : ReE w p n c G hG h f k hk j na nb s0 s1 1 2 false true false := fun hm hj hm9 hm' => by kernel_rfl
theorem re1_2_3 : ReE w p n c G hG h f k hk j na nb s0 s1 1 2 true true false := fun hm hj hm9 hm' => by kernel_rfl
theorem re1_2_4 : ReE w p n c G hG h f k hk j na nb s0 s1 1 2 false false true := fun hm hj hm9 hm' => by kernel_rfl
theorem re1_2_5 : ReE w p n c G hG h f k hk j na nb s0 s1 1 2 true false true := fun hm hj hm9 hm' => by kernel_rfl
theorem re1_2_6 : ReE w p n c G hG h f k hk j na nb s0 s1 1 2 false true true := fun hm hj hm9 hm' => by kernel_rfl
theorem re1_2_7 : ReE w p n c G hG h f k hk j na nb s0 s1 1 2 true true true := fun hm hj hm9 hm' => by kernel_rfl
theorem re2_2_0 : ReE w p n c G hG h f k hk j na nb s0 s1 2 2 false false false := fun hm hj hm9 hm' => by kernel_rfl
theorem re2_2_1 : ReE w p n c G hG h f k hk j na nb s0 s1 2 2 true false false := fun hm hj hm9 hm' => by kernel_rfl
theorem re2_2_2 : ReE w p n c G hG h f k hk j na nb s0 s1 2 2 false true false := fun hm hj hm9 hm' => by kernel_rfl
theorem re2_2_3 : ReE w p n c G hG h f k hk j na nb s0 s1 2 2 true true false := fun hm hj hm9 hm' => by kernel_rfl
theorem re2_2_4 : ReE w p n c G hG h f k hk j na nb s0 s1 2 2 false false true := fun hm hj hm9 hm' => by kernel_rfl
theorem re2_2_5 : ReE w p n c G hG h f k hk j na nb s0 s1 2 2 true false true := fun hm hj hm9 hm' => by kernel_rfl
theorem re2_2_6 : ReE w p n c G hG h f k hk j na nb s0 s1 2 2 false true true := fun hm hj hm9 hm' => by kernel_rfl
theorem re2_2_7 : ReE w p n c G hG h f k hk j na nb s0 s1 2 2 true true true := fun hm hj hm9 hm' => by kernel_rfl
theorem re2_3_0 : ReE w p n c G hG h f k hk j na nb s0 s1 2 3 false false false := fun hm hj hm9 hm' => by kernel_rfl
theorem re2_3_1 : ReE w p n c G hG h f k hk j na nb s0 s1 2 3 true false false := fun hm hj hm9 hm' => by kernel_rfl
theorem re2_3_2 : ReE w p n c G hG h f k hk j na nb s0 s1 2 3 false true false := fun hm hj hm9 hm' => by kernel_rfl
theorem re2_3_3 : ReE w p n c G hG h f k hk j na nb s0 s1 2 3 true true false := fun hm hj hm9 hm' => by kernel_rfl
theorem re2_3_4 : ReE w p n c G hG h f k hk j na nb s0 s1 2 3 false false true := fun hm hj hm9 hm' => by kernel_rfl
theorem re2_3_5 : ReE w p n c G hG h f k hk j na nb s0 s1 2 3 true false true := fun hm hj hm9 hm' => by kernel_rfl
theorem re2_3_6 : ReE w p n c G hG h f k hk j na nb s0 s1 2 3 false true true := fun hm hj hm9 hm' => by kernel_rfl
theorem re2_3_7 : ReE w p n c G hG h f k hk j na nb s0 s1 2 3 true true true := fun hm hj hm9 hm' => by kernel_rfl
theorem re3_3_0 : ReE w p n c G hG h f k hk j na nb s0 s1 3 3 false false false := fun hm hj hm9 hm' => by kernel_rfl
theorem re3_3_1 : ReE w p n c G hG h f k hk j na nb s0 s1 3 3 true false false := fun hm hj hm9 hm' => by kernel_rfl
theorem re3_3_2 : ReE w p n c G hG h f k hk j na nb s0 s1 3 3 false true false := fun hm hj hm9 hm' => by kernel_rfl
theorem re3_3_3 : ReE w p n c G hG h f k hk j na nb s0 s1 3 3 true true false := fun hm hj hm9 hm' => by kernel_rfl
theorem re3_3_4 : ReE w p n c G hG h f k hk j na nb s0 s1 3 3 false false true := fun hm hj hm9 hm' => by kernel_rfl
theorem re3_3_5 : ReE w p n c G hG h f k hk j na nb s0 s1 3 3 true false true := fun hm hj hm9 hm' => by kernel_rfl
theorem re3_3_6 : ReE w p n c G hG h f k hk j na nb s0 s1 3 3 false true true := fun hm hj hm9 hm' => by kernel_rfl
theorem re3_3_7 : ReE w p n c G hG h f k hk j na nb s0 s1 3 3 true true true := fun hm hj hm9 hm' => by kernel_rfl
theorem re3_4_0 : ReE w p n c G hG h f k hk j na nb s0 s1 3 4 false false false := fun hm hj hm9 hm' => by kernel_rfl
theorem re3_4_1 : ReE w p n c G hG h f k hk j na nb s0 s1 3 4 true false false := fun hm hj hm9 hm' => by kernel_rfl
theorem re3_4_2 : ReE w p n c G hG h f k hk j na nb s0 s1 3 4 false true false := fun hm hj hm9 hm' => by kernel_rfl
theorem re3_4_3 : ReE w p n c G hG h f k hk j na nb s0 s1 3 4 true true false := fun hm hj hm9 hm' => by kernel_rfl
theorem re3_4_4 : ReE w p n c G hG h f k hk j na nb s0 s1 3 4 false false true := fun hm hj hm9 hm' => by kernel_rfl
theorem re3_4_5 : ReE w p n c G hG h f k hk j na nb s0 s1 3 4 true false true := fun hm hj hm9 hm' => by kernel_rfl
theorem re3_4_6 : ReE w p n c G hG h f k hk j na nb s0 s1 3 4 false true true := fun hm hj hm9 hm' => by kernel_rfl
theorem re3_4_7 : ReE w p n c G hG h f k hk j na nb s0 s1 3 4 true true true := fun hm hj hm9 hm' => by kernel_rfl
theorem re4_4_0 : ReE w p n c G hG h f k hk j na nb s0 s1 4 4 false false false := fun hm hj hm9 hm' => by kernel_rfl
theorem re4_4_1 : ReE w p n c G hG h f k hk j na nb s0 s1 4 4 true false false := fun hm hj hm9 hm' => by kernel_rfl
theorem re4_4_2 : ReE w p n c G hG h f k hk j na nb s0 s1 4 4 false true false := fun hm hj hm9 hm' => by kernel_rfl
theorem re4_4_3 : ReE w p n c G hG h f k hk j na nb s0 s1 4 4 true true false := fun hm hj hm9 hm' => by kernel_rfl
theorem re4_4_4 : ReE w p n c G hG h f k hk j na nb s0 s1 4 4 false false true := fun hm hj hm9 hm' => by kernel_rfl
theorem re4_4_5 : ReE w p n c G hG h f k hk j na nb s0 s1 4 4 true false true := fun hm hj hm9 hm' => by kernel_rfl
theorem re4_4_6 : ReE w p n c G hG h f k hk j na nb s0 s1 4 4 false true true := fun hm hj hm9 hm' => by kernel_rfl
theorem re4_4_7 : ReE w p n c G hG h f k hk j na nb s0 s1 4 4 true true true := fun hm hj hm9 hm' => by kernel_rfl
theorem re4_5_0 : ReE w p n c G hG h f k hk j na nb s0 s1 4 5 false false false := fun hm hj hm9 hm' => by kernel_rfl
theorem re4_5_1 : ReE w p n c G hG h f k hk j na nb s0 s1 4 5 true false false := fun hm hj hm9 hm' => by kernel_rfl
theorem re4_5_2 : ReE w p n c G hG h f k hk j na nb s0 s1 4 5 false true false := fun hm hj hm9 hm' => by kernel_rfl
theorem re4_5_3 : ReE w p n c G hG h f k hk j na nb s0 s1 4 5 true true false := fun hm hj hm9 hm' => by kernel_rfl
theorem re4_5_4 : ReE w p n c G hG h f k hk j na nb s0 s1 4 5 false false true := fun hm hj hm9 hm' => by kernel_rfl
theorem re4_5_5 : ReE w p n c G hG h f k hk j na nb s0 s1 4 5 true false true := fun hm hj hm9 hm' => by kernel_rfl
theorem re4_5_6 : ReE w p n c G hG h f k hk j na nb s0 s1 4 5 false true true := fun hm hj hm9 hm' => by kernel_rfl
theorem re4_5_7 : ReE w p n c G hG h f k hk j na nb s0 s1 4 5 true true true := fun hm hj hm9 hm' => by kernel_rfl
theorem re5_5_0 : ReE w p n c G hG h f k hk j na nb s0 s1 5 5 false false false := fun hm hj hm9 hm' => by kernel_rfl
theorem re5_5_1 : ReE w p n c G hG h f k hk j na nb s0 s1 5 5 true false false := fun hm hj hm9 hm' => by kernel_rfl
theorem re5_5_2 : ReE w p n c G hG h f k hk j na nb s0 s1 5 5 false true false := fun hm hj hm9 hm' => by kernel_rfl
theorem re5_5_3 : ReE w p n c G hG h f k hk j na nb s0 s1 5 5 true true false := fun hm hj hm9 hm' => by kernel_rfl
theorem re5_5_4 : ReE w p n c G hG h f k hk j na nb s0 s1 5 5 false false true := fun hm hj hm9 hm' => by kernel_rfl
theorem re5_5_5 : ReE w p n c G hG h f k hk j na nb s0 s1 5 5 true false true := fun hm hj hm9 hm' => by kernel_rfl
theorem re5_5_6 : ReE w p n c G hG h f k hk j na nb s0 s1 5 5 false true true := fun hm hj hm9 hm' => by kernel_rfl
theorem re5_5_7 : ReE w p n c G hG h f k hk j na nb s0 s1 5 5 true true true := fun hm hj hm9 hm' => by kernel_rfl
theorem re5_6_0 : ReE w p n c G hG h f k hk j na nb s0 s1 5 6 false false false := fun hm hj hm9 hm' => by kernel_rfl
theorem re5_6_1 : ReE w p n c G hG h f k hk j na nb s0 s1 5 6 true false false := fun hm hj hm9 hm' => by kernel_rfl
theorem re5_6_2 : ReE w p n c G hG h f k hk j na nb s0 s1 5 6 false true false := fun hm hj hm9 hm' => by kernel_rfl
theorem re5_6_3 : ReE w p n c G hG h f k hk j na nb s0 s1 5 6 true true false := fun hm hj hm9 hm' => by kernel_rfl
theorem re5_6_4 : ReE w p n c G hG h f k hk j na nb s0 s1 5 6 false false true := fun hm hj hm9 hm' => by kernel_rfl
theorem re5_6_5 : ReE w p n c G hG h f k hk j na nb s0 s1 5 6 true false true := fun hm hj hm9 hm' => by kernel_rfl
theorem re5_6_6 : ReE w p n c G hG h f k hk j na nb s0 s1 5 6 false true true := fun hm hj hm9 hm' => by kernel_rfl
theorem re5_6_7 : ReE w p n c G hG h f k hk j na nb s0 s1 5 6 true true true := fun hm hj hm9 hm' => by kernel_rfl
theorem reflects_ev (m m' : Nat) (ba bb b : Bool) (hm5 : m ≤ 5) (hc : (m' = m ∧ 0 < m) ∨ m' = m + 1) : ReE w p n c G hG h f k hk j na nb s0 s1 m m' ba bb b := by
 rcases (show m = 0 ∨ m = 1 ∨ m = 2 ∨ m = 3 ∨ m = 4 ∨ m = 5 by omega) with rfl | rfl | rfl | rfl | rfl | rfl <;> rcases hc with ⟨rfl, h0⟩ | rfl
 ·omega
 ·cases ba <;> cases bb <;> cases b
  ·exact re0_1_0 w p n c G hG h f k hk j na nb s0 s1
  ·exact re0_1_4 w p n c G hG h f k hk j na nb s0 s1
  ·exact re0_1_2 w p n c G hG h f k hk j na nb s0 s1
  ·exact re0_1_6 w p n c G hG h f k hk j na nb s0 s1
  ·exact re0_1_1 w p n c G hG h f k hk j na nb s0 s1
  ·exact re0_1_5 w p n c G hG h f k hk j na nb s0 s1
  ·exact re0_1_3 w p n c G hG h f k hk j na nb s0 s1
  ·exact re0_1_7 w p n c G hG h f k hk j na nb s0 s1
 ·cases ba <;> cases bb <;> cases b
  ·exact re1_1_0 w p n c G hG h f k hk j na nb s0 s1
  ·exact re1_1_4 w p n c G hG h f k hk j na nb s0 s1
  ·exact re1_1_2 w p n c G hG h f k hk j na nb s0 s1
  ·exact re1_1_6 w p n c G hG h f k hk j na nb s0 s1
  ·exact re1_1_1 w p n c G hG h f k hk j na nb s0 s1
  ·exact re1_1_5 w p n c G hG h f k hk j na nb s0 s1
  ·exact re1_1_3 w p n c G hG h f k hk j na nb s0 s1
  ·exact re1_1_7 w p n c G hG h f k hk j na nb s0 s1
 ·cases ba <;> cases bb <;> cases b
  ·exact re1_2_0 w p n c G hG h f k hk j na nb s0 s1
  ·exact re1_2_4 w p n c G hG h f k hk j na nb s0 s1
  ·exact re1_2_2 w p n c G hG h f k hk j na nb s0 s1
  ·exact re1_2_6 w p n c G hG h f k hk j na nb s0 s1
  ·exact re1_2_1 w p n c G hG h f k hk j na nb s0 s1
  ·exact re1_2_5 w p n c G hG h f k hk j na nb s0 s1
  ·exact re1_2_3 w p n c G hG h f k hk j na nb s0 s1
  ·exact re1_2_7 w p n c G hG h f k hk j na nb s0 s1
 ·cases ba <;> cases bb <;> cases b
  ·exact re2_2_0 w p n c G hG h f k hk j na nb s0 s1
  ·exact re2_2_4 w p n c G hG h f k hk j na nb s0 s1
  ·exact re2_2_2 w p n c G hG h f k hk j na nb s0 s1
  ·exact re2_2_6 w p n c G hG h f k hk j na nb s0 s1
  ·exact re2_2_1 w p n c G hG h f k hk j na nb s0 s1
  ·exact re2_2_5 w p n c G hG h f k hk j na nb s0 s1
  ·exact re2_2_3 w p n c G hG h f k hk j na nb s0 s1
  ·exact re2_2_7 w p n c G hG h f k hk j na nb s0 s1
 ·cases ba <;> cases bb <;> cases b
  ·exact re2_3_0 w p n c G hG h f k hk j na nb s0 s1
  ·exact re2_3_4 w p n c G hG h f k hk j na nb s0 s1
  ·exact re2_3_2 w p n c G hG h f k hk j na nb s0 s1
  ·exact re2_3_6 w p n c G hG h f k hk j na nb s0 s1
  ·exact re2_3_1 w p n c G hG h f k hk j na nb s0 s1
  ·exact re2_3_5 w p n c G hG h f k hk j na nb s0 s1
  ·exact re2_3_3 w p n c G hG h f k hk j na nb s0 s1
  ·exact re2_3_7 w p n c G hG h f k hk j na nb s0 s1
 ·cases ba <;> cases bb <;> cases b
  ·exact re3_3_0 w p n c G hG h f k hk j na nb s0 s1
  ·exact re3_3_4 w p n c G hG h f k hk j na nb s0 s1
  ·exact re3_3_2 w p n c G hG h f k hk j na nb s0 s1
  ·exact re3_3_6 w p n c G hG h f k hk j na nb s0 s1
  ·exact re3_3_1 w p n c G hG h f k hk j na nb s0 s1
  ·exact re3_3_5 w p n c G hG h f k hk j na nb s0 s1
  ·exact re3_3_3 w p n c G hG h f k hk j na nb s0 s1
  ·exact re3_3_7 w p n c G hG h f k hk j na nb s0 s1
 ·cases ba <;> cases bb <;> cases b
  ·exact re3_4_0 w p n c G hG h f k hk j na nb s0 s1
  ·exact re3_4_4 w p n c G hG h f k hk j na nb s0 s1
  ·exact re3_4_2 w p n c G hG h f k hk j na nb s0 s1
  ·exact re3_4_6 w p n c G hG h f k hk j na nb s0 s1
  ·exact re3_4_1 w p n c G hG h f k hk j na nb s0 s1
  ·exact re3_4_5 w p n c G hG h f k hk j na nb s0 s1
  ·exact re3_4_3 w p n c G hG h f k hk j na nb s0 s1
  ·exact re3_4_7 w p n c G hG h f k hk j na nb s0 s1
 ·cases ba <;> cases bb <;> cases b
  ·exact re4_4_0 w p n c G hG h f k hk j na nb s0 s1
  ·exact re4_4_4 w p n c G hG h f k hk j na nb s0 s1
  ·exact re4_4_2 w p n c G hG h f k hk j na nb s0 s1
  ·exact re4_4_6 w p n c G hG h f k hk j na nb s0 s1
  ·exact re4_4_1 w p n c G hG h f k hk j na nb s0 s1
  ·exact re4_4_5 w p n c G hG h f k hk j na nb s0 s1
  ·exact re4_4_3 w p n c G hG h f k hk j na nb s0 s1
  ·exact re4_4_7 w p n c G hG h f k hk j na nb s0 s1
 ·cases ba <;> cases bb <;> cases b
  ·exact re4_5_0 w p n c G hG h f k hk j na nb s0 s1
  ·exact re4_5_4 w p n c G hG h f k hk j na nb s0 s1
  ·exact re4_5_2 w p n c G hG h f k hk j na nb s0 s1
  ·exact re4_5_6 w p n c G hG h f k hk j na nb s0 s1
  ·exact re4_5_1 w p n c G hG h f k hk j na nb s0 s1
  ·exact re4_5_5 w p n c G hG h f k hk j na nb s0 s1
  ·exact re4_5_3 w p n c G hG h f k hk j na nb s0 s1
  ·exact re4_5_7 w p n c G hG h f k hk j na nb s0 s1
 ·cases ba <;> cases bb <;> cases b
  ·exact re5_5_0 w p n c G hG h f k hk j na nb s0 s1
  ·exact re5_5_4 w p n c G hG h f k hk j na nb s0 s1
  ·exact re5_5_2 w p n c G hG h f k hk j na nb s0 s1
  ·exact re5_5_6 w p n c G hG h f k hk j na nb s0 s1
  ·exact re5_5_1 w p n c G hG h f k hk j na nb s0 s1
  ·exact re5_5_5 w p n c G hG h f k hk j na nb s0 s1
  ·exact re5_5_3 w p n c G hG h f k hk j na nb s0 s1
  ·exact re5_5_7 w p n c G hG h f k hk j na nb s0 s1
 ·cases ba <;> cases bb <;> cases b
  ·exact re5_6_0 w p n c G hG h f k hk j na nb s0 s1
  ·exact re5_6_4 w p n c G hG h f k hk j na nb s0 s1
  ·exact re5_6_2 w p n c G hG h f k hk j na nb s0 s1
  ·exact re5_6_6 w p n c G hG h f k hk j na nb s0 s1
  ·exact re5_6_1 w p n c G hG h f k hk j na nb s0 s1
  ·exact re5_6_5 w p n c G hG h f k hk j na nb s0 s1
  ·exact re5_6_3 w p n c G hG h f k hk j na nb s0 s1
  ·exact re5_6_7 w p n c G hG h f k hk j na nb s0 s1
end
end
section
open Go Go.ChangeShapes Go.WideShapes Go.ChangeAt
section
variable {H : Type} {enc : TypeId × Value → H} {W : World} {base : Nat} {r : Reach} {v : Value} {d : DataW H} {p : List MemPlace}
theorem film_cells' {fuel : Nat} {cs : List Value} {x : DataW H × List MemPlace} (h : DataW.trod enc Tryz.prog W 0 (fun _ => true) true fuel 24 cs = some x) : ∃ f : Flm, cs = f.vals.toList := by
 have hc : Tryz.prog.cellsOf 24 = 3 := by kernel_rfl
 have h1 : Tryz.prog.cellsOf 3 = 1 := by kernel_rfl
 obtain ⟨xs, m, rfl, _, hl, hx, hel⟩ := DataW.trod_struct Tryz.underlying24 h
 rw [hc] at hl
 match cs, hl, xs, hx with
 | [c0, c1, c2], _, [x0, x1, x2], _ =>
   have e0 := hel 0 _ rfl
   have e1 := hel 1 _ rfl
   have e2 := hel 2 _ rfl
   simp [h1] at e0 e1 e2
   obtain ⟨s0, k0, _, w0⟩ := DataW.trod_int Tryz.underlying3 e0
   obtain ⟨s1, k1, _, w1⟩ := DataW.trod_int Tryz.underlying3 e1
   obtain ⟨s2, k2, _, w2⟩ := DataW.trod_int Tryz.underlying3 e2
   cases k0; cases k1; cases k2
   exact ⟨⟨s0, s1, s2⟩, rfl⟩
theorem open_film (hv : Value.okWide Tryz.prog W r base 24 v) (h : DataW.Trod enc Tryz.prog W 0 (fun _ => true) true 24 v d p) : ∃ f : Flm, v = .agg f.vals := by
 obtain ⟨cs, rfl, _⟩ := okWide_struct Tryz.underlying24 hv
 obtain ⟨fuel, hf⟩ := h
 obtain ⟨t, hc⟩ := film_cells' hf
 refine ⟨t, ?_⟩
 rw [show cs = t.vals from Array.ext' hc]
theorem open_i64 (hv : Value.okWide Tryz.prog W r base 3 v) (h : DataW.Trod enc Tryz.prog W 0 (fun _ => true) true 3 v d p) : ∃ o : Int, v = .int .i64 o := by
 obtain ⟨x, rfl, rfl, rfl, wx⟩ := open_int Tryz.underlying3 hv h
 exact ⟨x, rfl⟩
end
end
theorem smallIx_in {s : Int} (h : 0 ≤ s ∧ s ≤ 255) : inIx (smallIx s) := by
 unfold smallIx inIx
 have e1 : IntKind.i64.wrap s = s := wrap_inR ⟨by omega, by omega⟩
 have e2 : IntKind.i64.wrap (100000 * s) = 100000 * s := wrap_inR ⟨by omega, by omega⟩
 have e3 : IntKind.i64.wrap (10000000 + 100000 * s) = 10000000 + 100000 * s := wrap_inR ⟨by omega, by omega⟩
 rw [e1, e2, e3]
 omega
theorem vreflects_ok (p : Option Addr) (n c : Nat) (G : Nat → Thn) (hG : ∀ i, i < n → (G i).ok) (f : Flm) (k : Int) (hk : 0 ≤ k ∧ k ≤ 255) (na nb s0 s1 : Int) (h0 : 0 ≤ s0 ∧ s0 ≤ 255) (h1 : 0 ≤ s1 ∧ s1 ≤ 255) (w : World) (h : ThinsAt w p n c G) :
  Calls Tryz.prog 3 #[.slice p n c, .agg f.vals, .int .u8 k, .int .i64 na, .int .i64 nb, .agg #[.int .u8 s0, .int .u8 s1]] w fun e w' => e = .returned (.bool true) ∧ Below w.heap.size w w' := by
 obtain ⟨m, hm⟩ : ∃ m, min n 5 = m := ⟨_, rfl⟩
 have hm5 : m ≤ 5 := by omega
 have hmn : m ≤ n := by omega
 have hpos := Int.emod_nonneg k (show ((m : Int) + 1) ≠ 0 by omega)
 have hlt := Int.emod_lt_of_pos k (show (0 : Int) < m + 1 by omega)
 obtain ⟨j, hj⟩ : ∃ j : Nat, k % (m + 1) = (j : Int) := ⟨(k % (m + 1)).toNat, by omega⟩
 have hjm : j ≤ m := by omega
 obtain ⟨m', hm'⟩ : ∃ m', m' = if j < m then m else m + 1 := ⟨_, rfl⟩
 have hF : ∀ i, i < m → (filmOf G i).ok := fun i hi => Thn.film_ok (hG i (by omega))
 have hc : (m' = m ∧ 0 < m) ∨ m' = m + 1 := by
  rw [hm']
  split
  ·exact .inl ⟨rfl, by omega⟩
  ·exact .inr rfl
 obtain ⟨b, hb⟩ : ∃ b : Bool, b = true ↔ f.ok := ⟨decide f.ok, by simp⟩
 obtain ⟨ba, hba⟩ : ∃ b : Bool, b = true ↔ inIx na := ⟨decide (inIx na), by simp⟩
 obtain ⟨bb, hbb⟩ : ∃ b : Bool, b = true ↔ inIx nb := ⟨decide (inIx nb), by simp⟩
 have hB := hb.trans (okAll_upd (F := filmOf G) (f := f) hF hjm hm').symm
 have hA : true = true ↔ okAll (filmsN (filmOf G) m) := ⟨fun _ => okAll_films.2 hF, fun _ => rfl⟩
 have i0 := smallIx_in h0
 have i1 := smallIx_in h1
 have one : ∀ (bk : Bool) (x y : Int), (bk = true ↔ (inIx x ∧ inIx y)) → ∀ q ∈ [withO G m f k] ++ (pairL bk true x y (filmsN (filmOf G) m) ++ pairL bk b x y (filmsN (upd (filmOf G) j f) m')), q := by
  intro bk x y hxy q hq
  rcases List.mem_append.1 hq with hq | hq
  ·obtain rfl := List.mem_singleton.1 hq
   exact ⟨rfl, rfl, rfl⟩
  ·rcases List.mem_append.1 hq with hq | hq
   ·exact pairL_ok hxy hA q hq
   ·exact pairL_ok hxy hB q hq
 refine (evRun0 wide_ _ _ _ (reflects_ev w p n c G hG h f k hk j na nb s0 s1 m m' ba bb b hm5 hc hm hj (by omega) hm') (AllP.of fun q hq => ?_) (vals := [.slice p n c, .agg f.vals, .int .u8 k, .int .i64 na, .int .i64 nb, .agg #[.int .u8 s0, .int .u8 s1]])
  ⟨_, _, rfl, ⟨rfl, rfl⟩, _, _, rfl, den_film f, _, _, rfl, ⟨rfl, rfl⟩, _, _, rfl, rfl, _, _, rfl, rfl, _, _, rfl, ⟨[.int .u8 s0, .int .u8 s1], rfl, _, _, rfl, ⟨rfl, rfl⟩, _, _, rfl, ⟨rfl, rfl⟩, rfl⟩, rfl⟩).mono ?_
 ·unfold reflectsL at hq
  dsimp only at hq
  rcases List.mem_append.1 hq with hq | hq
  ·obtain rfl := List.mem_singleton.1 hq
   exact ⟨rfl, rfl⟩
  ·rcases List.mem_append.1 hq with hq | hq
   ·exact one true _ _ ⟨fun _ => ⟨i0, i1⟩, fun _ => rfl⟩ q hq
   ·rcases List.mem_append.1 hq with hq | hq
    ·exact one ba _ _ (hba.trans ⟨fun h => ⟨h, i1⟩, fun h => h.1⟩) q hq
    ·rcases List.mem_append.1 hq with hq | hq
     ·exact one bb _ _ (hbb.trans ⟨fun h => ⟨i0, h⟩, fun h => h.2⟩) q hq
     ·exact one true _ _ ⟨fun _ => ⟨i1, i1⟩, fun _ => rfl⟩ q hq
 ·rintro e w' ⟨v, ρ', rfl, hv, hbl⟩
  exact ⟨by rw [show v = .bool true by simpa using hv.1], hbl⟩
end Go.Proofs.YtdgodcgdlfjpaaaGreatDoor
