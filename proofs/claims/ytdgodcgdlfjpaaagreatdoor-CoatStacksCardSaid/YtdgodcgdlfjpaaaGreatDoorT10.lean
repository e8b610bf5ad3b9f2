/- The law CoatStacks: Film and Stack equal the reference, its walk by a verified evaluator, and its card. Part 10 of 11. No condition beside the row. -/
import Derived.Test.YtdgodcgdlfjpaaaGreatDoorA39
import Derived.Test.YtdgodcgdlfjpaaaGreatDoorA40
import Derived.Test.YtdgodcgdlfjpaaaGreatDoorT02
import Derived.Test.YtdgodcgdlfjpaaaGreatDoorT05
import Derived.Test.YtdgodcgdlfjpaaaGreatDoorT09
set_option linter.unusedVariables false
set_option linter.unusedSimpArgs false
namespace Go.Proofs.YtdgodcgdlfjpaaaGreatDoor
open Go.RowKit Go.Mono Go.Ev
theorem film_no0 (f : Flm) (hf : ¬ f.ok) (w : World) : Calls Tryz.prog 24 #[.agg f.vals] w fun e w' => e = .returned (.tuple #[.agg quad0, .int .i64 400]) ∧ Below w.heap.size w w' :=
 filmX_panic f.vals rfl (film_ones f) 400 w fun W _ => layer_bad f hf W
theorem stack_no0 (F : Nat → Flm) (n m : Nat) (hn : n ≤ 8) (hm : m < n) (hF : ∀ i, i < m → (F i).ok) (hbad : ¬ (F m).ok) (p : Option Addr) (c : Nat) (w : World) (h : FilmsAt w p n c F) :
  Calls Tryz.prog 27 #[.slice p n c] w fun e w' => e = .returned (.tuple #[.agg quad0, .int .i64 400]) ∧ Below w.heap.size w w' :=
 stackX_panic p n c 400 w fun W hW => cstack_bad F n m hn hm hF hbad p c W (h.below hW)
theorem stack_long0 (n : Nat) (hn : 8 < n) (p : Option Addr) (c : Nat) (w : World) :
  Calls Tryz.prog 27 #[.slice p n c] w fun e w' => e = .returned (.tuple #[.agg quad0, .int .i64 3]) ∧ Below w.heap.size w w' :=
 stackX_panic p n c 3 w fun W hW => cstack_long n hn p c W
theorem cell_lt0 {w : World} {a : Addr} {u : Value} (h : w.cell? a = some u) : a.block < w.heap.size := by
 unfold World.cell? at h
 cases hb : w.heap[a.block]? with
 | none => rw [hb] at h; cases h
 | some o => exact lt_of_some hb
def triples : List U → Option (List Flm)
 | [] => some []
 | .sym a :: .sym b :: .sym c :: r => (triples r).map (⟨a, b, c⟩ :: ·)
 | _ => none
def zF : Flm := ⟨0, 0, 0⟩
def asF (fs : List Flm) (i : Nat) : Flm := fs.getD i zF
theorem filmsN_asF (fs : List Flm) : filmsN (asF fs) fs.length = fs := by
 unfold filmsN asF
 apply List.ext_getElem?
 intro i
 rw [List.getElem?_map]
 by_cases h : i < fs.length
 ·simp [h]
 ·simp [h]
theorem triples_den {ρ : Nm} {w : World} : ∀ {l : List U} {fs : List Flm} {cs : List Value}, triples l = some fs → denL qDen ρ w l cs → cs = frow (asF fs) fs.length
 | [], fs, cs, h, hd => by
   cases h
   exact hd
 | .sym a :: .sym b :: .sym c :: r, fs, cs, h, hd => by
   simp only [triples] at h
   obtain ⟨q, hq, rfl⟩ := Option.map_eq_some_iff.1 h
   obtain ⟨x1, r1, rfl, h1, x2, r2, rfl, h2, x3, r3, rfl, h3, h4⟩ := hd
   have ih := triples_den hq h4
   rw [show x1 = _ from h1, show x2 = _ from h2, show x3 = _ from h3, ih]
   have key : ∀ n, n ≤ q.length → [Value.int .i64 a] ++ ([Value.int .i64 b] ++ ([Value.int .i64 c] ++ frow (asF q) n)) = frow (asF (⟨a, b, c⟩ :: q)) (n + 1) := by
    intro n
    induction n with
    | zero => intro _; rfl
    | succ n ih2 =>
      intro hn
      show _ = frow (asF (⟨a, b, c⟩ :: q)) (n + 1) ++ (asF (⟨a, b, c⟩ :: q) (n + 1)).vals.toList
      rw [← ih2 (by omega)]
      simp [frow, asF]
   exact key _ (Nat.le_refl _)
 | .val _ :: _, _, _, h, _ => by simp [triples] at h
 | .raw _ _ :: _, _, _, h, _ => by simp [triples] at h
 | .ptr _ _ :: _, _, _, h, _ => by simp [triples] at h
 | .slc _ _ _ _ :: _, _, _, h, _ => by simp [triples] at h
 | .clo _ _ :: _, _, _, h, _ => by simp [triples] at h
 | .quo _ :: _, _, _, h, _ => by simp [triples] at h
 | .tst _ :: _, _, _, h, _ => by simp [triples] at h
 | .sli _ _ _ :: _, _, _, h, _ => by simp [triples] at h
 | .emp :: _, _, _, h, _ => by simp [triples] at h
 | [.sym _], _, _, h, _ => by simp [triples] at h
 | .sym _ :: .val _ :: _, _, _, h, _ => by simp [triples] at h
 | .sym _ :: .raw _ _ :: _, _, _, h, _ => by simp [triples] at h
 | .sym _ :: .ptr _ _ :: _, _, _, h, _ => by simp [triples] at h
 | .sym _ :: .slc _ _ _ _ :: _, _, _, h, _ => by simp [triples] at h
 | .sym _ :: .clo _ _ :: _, _, _, h, _ => by simp [triples] at h
 | .sym _ :: .quo _ :: _, _, _, h, _ => by simp [triples] at h
 | .sym _ :: .tst _ :: _, _, _, h, _ => by simp [triples] at h
 | .sym _ :: .sli _ _ _ :: _, _, _, h, _ => by simp [triples] at h
 | .sym _ :: .emp :: _, _, _, h, _ => by simp [triples] at h
 | [.sym _, .sym _], _, _, h, _ => by simp [triples] at h
 | .sym _ :: .sym _ :: .val _ :: _, _, _, h, _ => by simp [triples] at h
 | .sym _ :: .sym _ :: .raw _ _ :: _, _, _, h, _ => by simp [triples] at h
 | .sym _ :: .sym _ :: .ptr _ _ :: _, _, _, h, _ => by simp [triples] at h
 | .sym _ :: .sym _ :: .slc _ _ _ _ :: _, _, _, h, _ => by simp [triples] at h
 | .sym _ :: .sym _ :: .clo _ _ :: _, _, _, h, _ => by simp [triples] at h
 | .sym _ :: .sym _ :: .quo _ :: _, _, _, h, _ => by simp [triples] at h
 | .sym _ :: .sym _ :: .tst _ :: _, _, _, h, _ => by simp [triples] at h
 | .sym _ :: .sym _ :: .sli _ _ _ :: _, _, _, h, _ => by simp [triples] at h
 | .sym _ :: .sym _ :: .emp :: _, _, _, h, _ => by simp [triples] at h
def listOf (x : SA) (bk : List (Nat × Blk)) : Option (List Flm) :=
 match x with
 | .one .emp => some []
 | .one (.sli k 0 n) => match bk.lookup k with
   | some b => match triples b.cells with
     | some fs => if Nat.beq fs.length n && Nat.ble n 1000 then some fs else none
     | none => none
   | none => none
 | _ => none
theorem listOf_ok {ρ : Nm} {w : World} {x : SA} {bk : List (Nat × Blk)} {fs : List Flm} {v : Value} (h : listOf x bk = some fs) (hb : BkOk qDen ρ w w bk) (hv : denA qDen ρ w x v) :
  ∃ p c, v = .slice p fs.length c ∧ FilmsAt w p fs.length c (asF fs) ∧ (p = none → fs.length = 0 ∧ c = 0) := by
 unfold listOf at h
 split at h
 ·cases h
  obtain ⟨p, c, hp, e⟩ := hv
  refine ⟨p, c, by simpa using e, ⟨Nat.zero_le _, by simp, fun h => absurd h (by simp)⟩, fun h => ⟨rfl, hp h⟩⟩
 ·rename_i k n
  split at h
  ·rename_i b hk
   split at h
   ·rename_i fs' ht
    split at h
    ·rename_i hc
     cases h
     rw [Bool.and_eq_true] at hc
     have hn := Nat.eq_of_beq_eq_true hc.1
     have hn2 := Nat.le_of_ble_eq_true hc.2
     obtain ⟨B, cs, h1, h2, h3, h4⟩ := hb k b hk
     obtain ⟨B', c, hB', hcc, e⟩ := hv
     cases h1.symm.trans hB'
     obtain rfl := triples_den ht h3
     subst hn
     refine ⟨some ⟨B.blk, B.base, none⟩, c, by simpa using e, ⟨hcc, by omega, fun hpos => ⟨B.blk, B.base, rfl, ?_, fun i j hi hj => ?_⟩⟩, fun h => by cases h⟩
     ·have h0 : (frow (asF fs) fs.length)[0]? = some ((asF fs 0).vals.getD 0 undef) := by simpa using frow_get (asF fs) fs.length 0 0 hpos (by omega)
      have := h2.cell h0
      exact cell_lt0 this
     ·have := h2.cell (frow_get (asF fs) fs.length i j hi hj)
      rwa [← Nat.add_assoc] at this
    ·cases h
   ·cases h
  ·cases h
 ·cases h
def okAll (fs : List Flm) : Prop := ∀ f ∈ fs, f.ok
theorem okAll_at {fs : List Flm} (h : okAll fs) : ∀ i, i < fs.length → (asF fs i).ok := fun i hi => by
 unfold asF
 rw [List.getD_eq_getElem?_getD, List.getElem?_eq_getElem hi, Option.getD_some]
 exact h _ (List.getElem_mem hi)
theorem first_bad {fs : List Flm} (h : ¬ okAll fs) : ∃ j, j < fs.length ∧ (∀ i, i < j → (asF fs i).ok) ∧ ¬ (asF fs j).ok := by
 have hex : ∃ j, j < fs.length ∧ ¬ (asF fs j).ok := by
  apply Classical.byContradiction
  intro hno
  apply h
  intro f hf
  obtain ⟨i, hi, rfl⟩ := List.getElem_of_mem hf
  apply Classical.byContradiction
  intro hb
  refine hno ⟨i, hi, ?_⟩
  unfold asF
  rw [List.getD_eq_getElem?_getD, List.getElem?_eq_getElem hi, Option.getD_some]
  exact hb
 obtain ⟨j, ⟨hj, hb⟩, hmin⟩ := exists_least hex
 refine ⟨j, hj, fun i hi => ?_, hb⟩
 apply Classical.byContradiction
 intro hb2
 have := hmin i ⟨by omega, hb2⟩
 omega
def badSV (z : Int) : SV := .tup [.agg (quad0.toList.map .val), .one (.val (.int .i64 z))]
theorem bad_den {ρ : Nm} {w : World} {z : Int} : denV qDen ρ w (badSV z) (.tuple #[.agg quad0, .int .i64 z]) := by
 refine den_tup2 ⟨quad0.toList, by simp, denL_vals _ ?_⟩ ⟨rfl, rfl⟩
 unfold quad0
 simp [Value.oneCell']
def goodSV (m : Mat) : SV := .tup [.agg [.quo m.a, .quo m.b, .quo m.c, .quo m.d], .one (.val (.int .i64 0))]
theorem good_den {ρ : Nm} {w : World} {m : Mat} {C : Array Value} (h : MV w C m) : denV qDen ρ w (goodSV m) (.tuple #[.agg C, .int .i64 0]) := den_tup2 (den_mat.2 ⟨C, rfl, h⟩) ⟨rfl, rfl⟩
def filmRun (args : List SA) (bk : List (Nat × Blk)) (orc : List (Option Bool)) : Option (SV × List Prop × List (Option Bool)) :=
 match args, orc with
 | [.agg [.sym a, .sym b, .sym c]], some true :: r => some (goodSV (Flm.mat ⟨a, b, c⟩), [Flm.ok ⟨a, b, c⟩], r)
 | [.agg [.sym a, .sym b, .sym c]], some false :: r => some (badSV 400, [¬ Flm.ok ⟨a, b, c⟩], r)
 | _, _ => none
def filmSpec (w0 : World) (X : Nat → Prop) (f : FuncId) (h1 : ∀ (x : Flm) (_ : x.ok) (w : World), Calls Tryz.prog f #[.agg x.vals] w fun e w' => ∃ C, e = .returned (.tuple #[.agg C, .int .i64 0]) ∧ MV w' C x.mat ∧ Below w.heap.size w w')
    (h2 : ∀ (x : Flm) (_ : ¬ x.ok) (w : World), Calls Tryz.prog f #[.agg x.vals] w fun e w' => e = .returned (.tuple #[.agg quad0, .int .i64 400]) ∧ Below w.heap.size w w') : Ctr qDen Tryz.prog w0 X := .plain f filmRun <| by
 intro args bk orc v obl orc' hr hobl ρ w vals hfr hb hargs
 unfold filmRun at hr
 split at hr
 ·rename_i a b c r
  cases hr
  obtain ⟨v1, r1, rfl, k1, k2⟩ := hargs
  obtain rfl : r1 = [] := k2
  obtain rfl := film_den k1
  refine (h1 ⟨a, b, c⟩ (hobl _ (List.mem_singleton.2 rfl)) w).mono ?_
  rintro e w' ⟨C, rfl, hC, hbl⟩
  exact ⟨_, rfl, good_den hC, hbl⟩
 ·rename_i a b c r
  cases hr
  obtain ⟨v1, r1, rfl, k1, k2⟩ := hargs
  obtain rfl : r1 = [] := k2
  obtain rfl := film_den k1
  refine (h2 ⟨a, b, c⟩ (hobl _ (List.mem_singleton.2 rfl)) w).mono ?_
  rintro e w' ⟨rfl, hbl⟩
  exact ⟨_, rfl, bad_den, hbl⟩
 ·cases hr
def stackRun (args : List SA) (bk : List (Nat × Blk)) (orc : List (Option Bool)) : Option (SV × List Prop × List (Option Bool)) :=
 match args with
 | [x] => match listOf x bk with
   | some fs => if Nat.ble fs.length 8 then (match orc with
     | some true :: r => some (goodSV (stackM fs), [okAll fs], r)
     | some false :: r => some (badSV 400, [¬ okAll fs], r)
     | _ => none) else if Nat.ble fs.length 10 then some (badSV 3, [], orc) else none
   | none => none
 | _ => none
def stackSpec (w0 : World) (X : Nat → Prop) (f : FuncId)
    (h1 : ∀ (F : Nat → Flm) (n : Nat) (_ : n ≤ 8) (_ : ∀ i, i < n → (F i).ok) (p : Option Addr) (c : Nat) (w : World) (_ : FilmsAt w p n c F), Calls Tryz.prog f #[.slice p n c] w fun e w' => ∃ C, e = .returned (.tuple #[.agg C, .int .i64 0]) ∧ MV w' C (stackN F n) ∧ Below w.heap.size w w')
    (h2 : ∀ (F : Nat → Flm) (n m : Nat) (_ : n ≤ 8) (_ : m < n) (_ : ∀ i, i < m → (F i).ok) (_ : ¬ (F m).ok) (p : Option Addr) (c : Nat) (w : World) (_ : FilmsAt w p n c F), Calls Tryz.prog f #[.slice p n c] w fun e w' => e = .returned (.tuple #[.agg quad0, .int .i64 400]) ∧ Below w.heap.size w w')
    (h3 : ∀ (n : Nat) (_ : n = 9 ∨ n = 10) (p : Option Addr) (c : Nat) (w : World), Calls Tryz.prog f #[.slice p n c] w fun e w' => e = .returned (.tuple #[.agg quad0, .int .i64 3]) ∧ Below w.heap.size w w') : Ctr qDen Tryz.prog w0 X := .plain f stackRun <| by
 intro args bk orc v obl orc' hr hobl ρ w vals hfr hb hargs
 unfold stackRun at hr
 split at hr
 ·rename_i x
  obtain ⟨v1, r1, rfl, k1, k2⟩ := hargs
  obtain rfl : r1 = [] := k2
  split at hr
  ·rename_i fs hfs
   obtain ⟨p, c, rfl, hF, _⟩ := listOf_ok hfs hb k1
   split at hr
   ·rename_i h8
    have h8 := Nat.le_of_ble_eq_true h8
    split at hr
    ·cases hr
     refine (h1 (asF fs) fs.length h8 (okAll_at (hobl _ (List.mem_singleton.2 rfl))) p c w hF).mono ?_
     rintro e w' ⟨C, rfl, hC, hbl⟩
     refine ⟨_, rfl, good_den (m := stackM fs) ?_, hbl⟩
     unfold stackN at hC
     rw [filmsN_asF] at hC
     exact hC
    ·cases hr
     obtain ⟨j, hj, g1, g2⟩ := first_bad (hobl (¬ okAll fs) (List.mem_singleton.2 rfl))
     refine (h2 (asF fs) fs.length j h8 hj g1 g2 p c w hF).mono ?_
     rintro e w' ⟨rfl, hbl⟩
     exact ⟨_, rfl, bad_den, hbl⟩
    ·cases hr
   ·rename_i h8
    split at hr
    ·rename_i h10
     cases hr
     have h10 := Nat.le_of_ble_eq_true h10
     have h8' : 8 < fs.length := by
      apply Nat.lt_of_not_le
      intro hh
      exact h8 (Nat.ble_eq_true_of_le hh)
     refine (h3 fs.length (by omega) p c w).mono ?_
     rintro e w' ⟨rfl, hbl⟩
     exact ⟨_, rfl, bad_den, hbl⟩
    ·cases hr
  ·cases hr
 ·cases hr
end Go.Proofs.YtdgodcgdlfjpaaaGreatDoor
namespace Go.Proofs.YtdgodcgdlfjpaaaGreatDoor
open Go.RowKit Go.Mono Go.Ev
def specWorks (w0 : World) (X : Nat → Prop) : Ctr qDen Tryz.prog w0 X := .plain 12 (fun args _ orc => match args with
 | [] => some (.a (.one (.val (.bool true))), [], orc)
 | _ => none) <| by
 intro args bk orc v obl orc' hr hobl ρ w vals hfr hb hargs
 split at hr
 ·cases hr
  obtain rfl : vals = [] := hargs
  refine (vworks_ok w).mono ?_
  rintro e w' ⟨rfl, hbl⟩
  exact ⟨_, rfl, ⟨rfl, rfl⟩, hbl⟩
 ·cases hr
def tellF (F : Nat → Flm) (n : Nat) : List U := filmU F n
def specFilms (w : World) (p : Option Addr) (n c : Nat) (G : Nat → Thn) (hG : ∀ i, i < n → (G i).ok) (h : ThinsAt w p n c G) (most m : Nat) (hmost : most ≤ 9) (hm : min n most = m) (hm0 : 0 < m) : Ctr qDen Tryz.prog w (fun _ => False) :=
 .list 13 24 (fun args _ orc => match args with
  | [.one (.val v), .one (.val (.int .i64 z))] => some (m, filmU (fun i => (G i).film) m, [v = .slice p n c ∧ z = (most : Int)], orc)
  | _ => none) <| by
 intro args bk orc m' l obl orc' hr hobl ρ w1 vals hfr hb hargs
 split at hr
 ·rename_i v z
  cases hr
  obtain ⟨v1, r1, rfl, k1, v2, r2, rfl, k2, k3⟩ := hargs
  obtain rfl : r2 = [] := k3
  obtain ⟨rfl, rfl⟩ := hobl _ (List.mem_singleton.2 rfl)
  obtain rfl : v1 = .slice p n c := by simpa using k1.1
  obtain rfl : v2 = .int .i64 (most : Int) := by simpa using k2.1
  refine (films_ok p n c G hG most hmost w1 (RdC.below h hfr.below)).mono ?_
  rintro e w' ⟨p', c', rfl, hown, hbl⟩
  rw [hm] at hown ⊢
  have hF := ownsRow_films hown (by omega)
  obtain ⟨b, off, rfl, hbw, hrg⟩ := films_view hm0 hF
  exact ⟨b, off, c', _, rfl, hF.1, ownsRow_block hown, hbw, hrg, filmU_den _ ρ w' m, hbl⟩
 ·cases hr
def specFilms0 (w : World) (p : Option Addr) (n c : Nat) (G : Nat → Thn) (hG : ∀ i, i < n → (G i).ok) (h : ThinsAt w p n c G) (most : Nat) (hmost : most ≤ 9) (hm : min n most = 0) : Ctr qDen Tryz.prog w (fun _ => False) :=
 .plain 13 (fun args _ orc => match args with
  | [.one (.val v), .one (.val (.int .i64 z))] => some (.a (.one .emp), [v = .slice p n c ∧ z = (most : Int)], orc)
  | _ => none) <| by
 intro args bk orc v' obl orc' hr hobl ρ w1 vals hfr hb hargs
 split at hr
 ·rename_i v z
  cases hr
  obtain ⟨v1, r1, rfl, k1, v2, r2, rfl, k2, k3⟩ := hargs
  obtain rfl : r2 = [] := k3
  obtain ⟨rfl, rfl⟩ := hobl _ (List.mem_singleton.2 rfl)
  obtain rfl : v1 = .slice p n c := by simpa using k1.1
  obtain rfl : v2 = .int .i64 (most : Int) := by simpa using k2.1
  refine (films_ok p n c G hG most hmost w1 (RdC.below h hfr.below)).mono ?_
  rintro e w' ⟨p', c', rfl, hown, hbl⟩
  rw [hm] at hown ⊢
  refine ⟨_, rfl, ⟨p', c', fun hp => ?_, rfl⟩, hbl⟩
  obtain ⟨_, ⟨h1, _⟩ | ⟨g, cap, cur, h1, _⟩⟩ := hown
  ·cases h1; rfl
  ·rw [hp] at h1; cases h1
 ·cases hr
def specWith (w : World) (F : Nat → Flm) (m : Nat) (f : Flm) (k : Int) (hk : 0 ≤ k ∧ k ≤ 255) (j : Nat) (hj : k % (m + 1) = (j : Int)) (hm : m ≤ 9) (m' : Nat) (hm' : m' = if j < m then m else m + 1) : Ctr qDen Tryz.prog w (fun _ => False) :=
 .list 14 24 (fun args bk orc => match args with
  | [x, .agg [.sym a, .sym b, .sym c], .one (.val v)] => match listOf x bk with
    | some fs => some (m', filmU (upd F j f) m', [fs = filmsN F m ∧ Flm.mk a b c = f ∧ v = .int .u8 k], orc)
    | none => none
  | _ => none) <| by
 intro args bk orc m2 l obl orc' hr hobl ρ w1 vals hfr hb hargs
 split at hr
 ·rename_i x a b c v
  split at hr
  ·rename_i fs hfs
   cases hr
   obtain ⟨v1, r1, rfl, k1, v2, r2, rfl, k2, v3, r3, rfl, k3, k4⟩ := hargs
   obtain rfl : r3 = [] := k4
   obtain ⟨rfl, rfl, rfl⟩ := hobl _ (List.mem_singleton.2 rfl)
   obtain rfl := film_den k2
   obtain rfl : v3 = .int .u8 k := by simpa using k3.1
   obtain ⟨p, c', rfl, hF, hnil⟩ := listOf_ok hfs hb k1
   rw [filmsN_length] at hF hnil
   rw [filmsN_length]
   refine (with_ok p m c' (asF (filmsN F m)) ⟨a, b, c⟩ k hk j hj hm hnil w1 hF).mono ?_
   rintro e w' ⟨p', m2, c2, rfl, hm2, hown, hbl⟩
   rw [← hm'] at hm2
   subst hm2
   have hpos : 0 < m2 := by
    rw [hm']
    split <;> omega
   have hle : m2 ≤ m + 1 := by
    rw [hm']
    split <;> omega
   have hjm : j ≤ m := by
    have := Int.emod_lt_of_pos k (show (0 : Int) < m + 1 by omega)
    omega
   rw [frow_congr (H := upd F j ⟨a, b, c⟩) (fun i hi => by
    unfold upd
    by_cases e : i = j
    ·rw [if_pos e, if_pos e]
    ·rw [if_neg e, if_neg e]
     unfold asF filmsN
     have him : i < m := by
      rw [hm'] at hi
      split at hi <;> omega
     simp [him])] at hown
   have hF2 := ownsRow_films hown (by omega)
   obtain ⟨b', off, rfl, hbw, hrg⟩ := films_view hpos hF2
   exact ⟨b', off, c2, _, rfl, hF2.1, ownsRow_block hown, hbw, hrg, filmU_den _ ρ w' m2, hbl⟩
  ·cases hr
 ·cases hr
end Go.Proofs.YtdgodcgdlfjpaaaGreatDoor
namespace Go.Proofs.YtdgodcgdlfjpaaaGreatDoor
open Go.RowKit Go.Mono Go.Ev
def someFilms (w : World) (p : Option Addr) (n c : Nat) (G : Nat → Thn) (hG : ∀ i, i < n → (G i).ok) (h : ThinsAt w p n c G) (most m : Nat) (hmost : most ≤ 9) (hm : min n most = m) : Ctr qDen Tryz.prog w (fun _ => False) :=
 if h0 : m = 0 then specFilms0 w p n c G hG h most hmost (hm.trans h0) else specFilms w p n c G hG h most m hmost hm (Nat.pos_of_ne_zero h0)
def filmOf (G : Nat → Thn) (i : Nat) : Flm := (G i).film
def okOr (b : Bool) (p : Prop) : Prop := if b then p else ¬ p
theorem okOr_of {b : Bool} {p : Prop} (h : b = true ↔ p) : okOr b p := by
 unfold okOr
 cases b
 ·simp only [Bool.false_eq_true, if_false]
  exact fun hp => by have := h.2 hp; cases this
 ·simpa using h
theorem okAll_films {F : Nat → Flm} {m : Nat} : okAll (filmsN F m) ↔ ∀ i, i < m → (F i).ok := by
 unfold okAll filmsN
 constructor
 ·intro h i hi
  exact h _ (List.mem_map.2 ⟨i, List.mem_range.2 hi, rfl⟩)
 ·intro h f hf
  obtain ⟨i, hi, rfl⟩ := List.mem_map.1 hf
  exact h i (List.mem_range.1 hi)
theorem okAll_upd {F : Nat → Flm} {f : Flm} {m j m' : Nat} (hF : ∀ i, i < m → (F i).ok) (hj : j ≤ m) (hm' : m' = if j < m then m else m + 1) : okAll (filmsN (upd F j f) m') ↔ f.ok := by
 rw [okAll_films]
 constructor
 ·intro h
  have := h j (by rw [hm']; split <;> omega)
  unfold upd at this
  rwa [if_pos rfl] at this
 ·intro hf i hi
  unfold upd
  by_cases e : i = j
  ·rw [if_pos e]; exact hf
  ·rw [if_neg e]
   refine hF i ?_
   rw [hm'] at hi
   split at hi <;> omega
end Go.Proofs.YtdgodcgdlfjpaaaGreatDoor
namespace Go.Proofs.YtdgodcgdlfjpaaaGreatDoor
open Go.RowKit Go.Mono Go.Ev
def lawSps (w : World) (p : Option Addr) (n c : Nat) (G : Nat → Thn) (hG : ∀ i, i < n → (G i).ok) (h : ThinsAt w p n c G) (most m : Nat) (hmost : most ≤ 9) (hm : min n most = m)
    (f : Flm) (k : Int) (hk : 0 ≤ k ∧ k ≤ 255) (j : Nat) (hj : k % (m + 1) = (j : Int)) (hm9 : m ≤ 9) (m' : Nat) (hm' : m' = if j < m then m else m + 1) : List (Ctr qDen Tryz.prog w (fun _ => False)) :=
 [specWorks w _, filmSpec w _ 24 film_ex film_no0, filmSpec w _ 25 r40film_ok r40film_no, someFilms w p n c G hG h most m hmost hm, specWith w (filmOf G) m f k hk j hj hm9 m' hm',
  stackSpec w _ 27 stack_ex stack_no0 (fun n hn => stack_long0 n (by omega)), stackSpec w _ 28 r40stack_ok (fun F n m hn hm hF hb => r40stack_bad F n m hn hm hF hb) (fun n hn => r40stack_long (fun _ => zF) n hn), specSame04 w _]
def sameL (b : Bool) (x : Mat) : List Prop := if b then [decide (x.a = x.a) = true, decide (x.b = x.b) = true, decide (x.c = x.c) = true, decide (x.d = x.d) = true] else []
theorem sameL_ok (b : Bool) (x : Mat) : ∀ p ∈ sameL b x, p := by
 intro p hp
 unfold sameL at hp
 cases b
 ·cases hp
 ·simp only [if_true, List.mem_cons, List.not_mem_nil, or_false] at hp
  rcases hp with rfl | rfl | rfl | rfl <;> first | trivial | exact decide_eq_true rfl
def onlyIf (b : Bool) (l : List Prop) : List Prop := if b then l else []
theorem onlyIf_ok {b : Bool} {l : List Prop} (h : ∀ p ∈ l, p) : ∀ p ∈ onlyIf b l, p := by
 intro p hp
 unfold onlyIf at hp
 cases b
 ·cases hp
 ·exact h p hp
def stacksL (p : Option Addr) (n c : Nat) (G : Nat → Thn) (m m' j : Nat) (f : Flm) (k : Int) (b : Bool) : List Prop :=
 [okOr b f.ok, okOr b f.ok] ++ (sameL b f.mat ++ ([Value.slice p n c = Value.slice p n c ∧ (9 : Int) = ((9 : Nat) : Int), filmsN (filmOf G) m = filmsN (filmOf G) m ∧ f = f ∧ Value.int .u8 k = Value.int .u8 k] ++
  (onlyIf (Nat.ble m 8) ([okAll (filmsN (filmOf G) m), okAll (filmsN (filmOf G) m)] ++ sameL true (stackM (filmsN (filmOf G) m))) ++
   onlyIf (Nat.ble m' 8) ([okOr b (okAll (filmsN (upd (filmOf G) j f) m')), okOr b (okAll (filmsN (upd (filmOf G) j f) m'))] ++ sameL b (stackM (filmsN (upd (filmOf G) j f) m'))))))
def stacksO (m m' : Nat) (b : Bool) : List (Option Bool) :=
 [some b, some b] ++ ((if b then yes 4 else []) ++ ((if Nat.ble m 8 then yes 6 else []) ++ (if Nat.ble m' 8 then [some b, some b] ++ (if b then yes 4 else []) else [])))
section
variable (w : World) (p : Option Addr) (n c : Nat) (G : Nat → Thn) (hG : ∀ i, i < n → (G i).ok) (h : ThinsAt w p n c G) (f : Flm) (k : Int) (hk : 0 ≤ k ∧ k ≤ 255) (j : Nat)
def StE (m m' : Nat) (b : Bool) : Prop := ∀ (hm : min n 9 = m) (hj : k % (m + 1) = (j : Int)) (hm9 : m ≤ 9) (hm' : m' = if j < m then m else m + 1),
    (evF Tryz.prog (lawSps w p n c G hG h 9 m (by decide) hm f k hk j hj hm9 m' hm') 4 6 [.one (.val (.slice p n c)), .agg [.sym f.ix, .sym f.p, .sym f.q], .one (.val (.int .u8 k))] [] 0 (stacksO m m' b)).map (fun r => (r.v, r.obl)) =
     some (.a (.one (.val (.bool true))), stacksL p n c G m m' j f k b)
theorem st0_1f : StE w p n c G hG h f k hk j 0 1 false := fun hm hj hm9 hm' => by kernel_rfl
theorem st0_1t : StE w p n c G hG h f k hk j 0 1 true := fun hm hj hm9 hm' => by kernel_rfl
theorem st1_1f : StE w p n c G hG h f k hk j 1 1 false := fun hm hj hm9 hm' => by kernel_rfl
theorem st1_1t : StE w p n c G hG h f k hk j 1 1 true := fun hm hj hm9 hm' => by kernel_rfl
theorem st1_2f : StE w p n c G hG h f k hk j 1 2 false := fun hm hj hm9 hm' => by kernel_rfl
theorem st1_2t : StE w p n c G hG h f k hk j 1 2 true := fun hm hj hm9 hm' => by kernel_rfl
theorem st2_2f : StE w p n c G hG h f k hk j 2 2 false := fun hm hj hm9 hm' => by kernel_rfl
theorem st2_2t : StE w p n c G hG h f k hk j 2 2 true := fun hm hj hm9 hm' => by kernel_rfl
theorem st2_3f : StE w p n c G hG h f k hk j 2 3 false := fun hm hj hm9 hm' => by kernel_rfl
theorem st2_3t : StE w p n c G hG h f k hk j 2 3 true := fun hm hj hm9 hm' => by kernel_rfl
theorem st3_3f : StE w p n c G hG h f k hk j 3 3 false := fun hm hj hm9 hm' => by kernel_rfl
theorem st3_3t : StE w p n c G hG h f k hk j 3 3 true := fun hm hj hm9 hm' => by kernel_rfl
theorem st3_4f : StE w p n c G hG h f k hk j 3 4 false := fun hm hj hm9 hm' => by kernel_rfl
theorem st3_4t : StE w p n c G hG h f k hk j 3 4 true := fun hm hj hm9 hm' => by kernel_rfl
theorem st4_4f : StE w p n c G hG h f k hk j 4 4 false := fun hm hj hm9 hm' => by kernel_rfl
theorem st4_4t : StE w p n c G hG h f k hk j 4 4 true := fun hm hj hm9 hm' => by kernel_rfl
theorem st4_5f : StE w p n c G hG h f k hk j 4 5 false := fun hm hj hm9 hm' => by kernel_rfl
theorem st4_5t : StE w p n c G hG h f k hk j 4 5 true := fun hm hj hm9 hm' => by kernel_rfl
theorem st5_5f : StE w p n c G hG h f k hk j 5 5 false := fun hm hj hm9 hm' => by kernel_rfl
theorem st5_5t : StE w p n c G hG h f k hk j 5 5 true := fun hm hj hm9 hm' => by kernel_rfl
theorem st5_6f : StE w p n c G hG h f k hk j 5 6 false := fun hm hj hm9 hm' => by kernel_rfl
theorem st5_6t : StE w p n c G hG h f k hk j 5 6 true := fun hm hj hm9 hm' => by kernel_rfl
theorem st6_6f : StE w p n c G hG h f k hk j 6 6 false := fun hm hj hm9 hm' => by kernel_rfl
theorem st6_6t : StE w p n c G hG h f k hk j 6 6 true := fun hm hj hm9 hm' => by kernel_rfl
theorem st6_7f : StE w p n c G hG h f k hk j 6 7 false := fun hm hj hm9 hm' => by kernel_rfl
theorem st6_7t : StE w p n c G hG h f k hk j 6 7 true := fun hm hj hm9 hm' => by kernel_rfl
theorem st7_7f : StE w p n c G hG h f k hk j 7 7 false := fun hm hj hm9 hm' => by kernel_rfl
theorem st7_7t : StE w p n c G hG h f k hk j 7 7 true := fun hm hj hm9 hm' => by kernel_rfl
theorem st7_8f : StE w p n c G hG h f k hk j 7 8 false := fun hm hj hm9 hm' => by kernel_rfl
theorem st7_8t : StE w p n c G hG h f k hk j 7 8 true := fun hm hj hm9 hm' => by kernel_rfl
theorem st8_8f : StE w p n c G hG h f k hk j 8 8 false := fun hm hj hm9 hm' => by kernel_rfl
theorem st8_8t : StE w p n c G hG h f k hk j 8 8 true := fun hm hj hm9 hm' => by kernel_rfl
theorem st8_9f : StE w p n c G hG h f k hk j 8 9 false := fun hm hj hm9 hm' => by kernel_rfl
theorem st8_9t : StE w p n c G hG h f k hk j 8 9 true := fun hm hj hm9 hm' => by kernel_rfl
theorem st9_9f : StE w p n c G hG h f k hk j 9 9 false := fun hm hj hm9 hm' => by kernel_rfl
theorem st9_9t : StE w p n c G hG h f k hk j 9 9 true := fun hm hj hm9 hm' => by kernel_rfl
theorem st9_10f : StE w p n c G hG h f k hk j 9 10 false := fun hm hj hm9 hm' => by kernel_rfl
theorem st9_10t : StE w p n c G hG h f k hk j 9 10 true := fun hm hj hm9 hm' => by kernel_rfl
theorem stacks_ev (m m' : Nat) (b : Bool) (hm9 : m ≤ 9) (hc : (m' = m ∧ 0 < m) ∨ m' = m + 1) : StE w p n c G hG h f k hk j m m' b := by
 rcases (show m = 0 ∨ m = 1 ∨ m = 2 ∨ m = 3 ∨ m = 4 ∨ m = 5 ∨ m = 6 ∨ m = 7 ∨ m = 8 ∨ m = 9 by omega) with rfl | rfl | rfl | rfl | rfl | rfl | rfl | rfl | rfl | rfl <;> rcases hc with ⟨rfl, h0⟩ | rfl
 ·omega
 ·cases b
  ·exact st0_1f w p n c G hG h f k hk j
  ·exact st0_1t w p n c G hG h f k hk j
 ·cases b
  ·exact st1_1f w p n c G hG h f k hk j
  ·exact st1_1t w p n c G hG h f k hk j
 ·cases b
  ·exact st1_2f w p n c G hG h f k hk j
  ·exact st1_2t w p n c G hG h f k hk j
 ·cases b
  ·exact st2_2f w p n c G hG h f k hk j
  ·exact st2_2t w p n c G hG h f k hk j
 ·cases b
  ·exact st2_3f w p n c G hG h f k hk j
  ·exact st2_3t w p n c G hG h f k hk j
 ·cases b
  ·exact st3_3f w p n c G hG h f k hk j
  ·exact st3_3t w p n c G hG h f k hk j
 ·cases b
  ·exact st3_4f w p n c G hG h f k hk j
  ·exact st3_4t w p n c G hG h f k hk j
 ·cases b
  ·exact st4_4f w p n c G hG h f k hk j
  ·exact st4_4t w p n c G hG h f k hk j
 ·cases b
  ·exact st4_5f w p n c G hG h f k hk j
  ·exact st4_5t w p n c G hG h f k hk j
 ·cases b
  ·exact st5_5f w p n c G hG h f k hk j
  ·exact st5_5t w p n c G hG h f k hk j
 ·cases b
  ·exact st5_6f w p n c G hG h f k hk j
  ·exact st5_6t w p n c G hG h f k hk j
 ·cases b
  ·exact st6_6f w p n c G hG h f k hk j
  ·exact st6_6t w p n c G hG h f k hk j
 ·cases b
  ·exact st6_7f w p n c G hG h f k hk j
  ·exact st6_7t w p n c G hG h f k hk j
 ·cases b
  ·exact st7_7f w p n c G hG h f k hk j
  ·exact st7_7t w p n c G hG h f k hk j
 ·cases b
  ·exact st7_8f w p n c G hG h f k hk j
  ·exact st7_8t w p n c G hG h f k hk j
 ·cases b
  ·exact st8_8f w p n c G hG h f k hk j
  ·exact st8_8t w p n c G hG h f k hk j
 ·cases b
  ·exact st8_9f w p n c G hG h f k hk j
  ·exact st8_9t w p n c G hG h f k hk j
 ·cases b
  ·exact st9_9f w p n c G hG h f k hk j
  ·exact st9_9t w p n c G hG h f k hk j
 ·cases b
  ·exact st9_10f w p n c G hG h f k hk j
  ·exact st9_10t w p n c G hG h f k hk j
end
end Go.Proofs.YtdgodcgdlfjpaaaGreatDoor
namespace Go.Proofs.YtdgodcgdlfjpaaaGreatDoor
open Go.RowKit Go.Mono Go.Ev
theorem vstacks_ok (p : Option Addr) (n c : Nat) (G : Nat → Thn) (hG : ∀ i, i < n → (G i).ok) (f : Flm) (k : Int) (hk : 0 ≤ k ∧ k ≤ 255) (w : World) (h : ThinsAt w p n c G) :
  Calls Tryz.prog 6 #[.slice p n c, .agg f.vals, .int .u8 k] w fun e w' => e = .returned (.bool true) ∧ Below w.heap.size w w' := by
 obtain ⟨m, hm⟩ : ∃ m, min n 9 = m := ⟨_, rfl⟩
 have hm9 : m ≤ 9 := by omega
 have hmn : m ≤ n := by omega
 have hpos := Int.emod_nonneg k (show ((m : Int) + 1) ≠ 0 by omega)
 have hlt := Int.emod_lt_of_pos k (show (0 : Int) < m + 1 by omega)
 obtain ⟨j, hj⟩ : ∃ j : Nat, k % (m + 1) = (j : Int) := ⟨(k % (m + 1)).toNat, by omega⟩
 have hjm : j ≤ m := by omega
 obtain ⟨m', hm'⟩ : ∃ m', m' = if j < m then m else m + 1 := ⟨_, rfl⟩
 have hF : ∀ i, i < m → (filmOf G i).ok := fun i hi => Thn.film_ok (hG i (by omega))
 have hc : (m' = m ∧ 0 < m) ∨ m' = m + 1 := by
  rw [hm']
  split
  ·exact .inl ⟨rfl, by omega⟩
  ·exact .inr rfl
 obtain ⟨b, hb⟩ : ∃ b : Bool, b = true ↔ f.ok := ⟨decide f.ok, by simp⟩
 have hB := okAll_upd (F := filmOf G) (f := f) hF hjm hm'
 have hA := okAll_films.2 hF
 refine (evRun0 wide_ _ _ _ (stacks_ev w p n c G hG h f k hk j m m' b hm9 hc hm hj hm9 hm') (AllP.of fun q hq => ?_) (vals := [.slice p n c, .agg f.vals, .int .u8 k])
  ⟨_, _, rfl, ⟨rfl, rfl⟩, _, _, rfl, den_film f, _, _, rfl, ⟨rfl, rfl⟩, rfl⟩).mono ?_
 ·unfold stacksL at hq
  rcases List.mem_append.1 hq with hq | hq
  ·simp only [List.mem_cons, List.not_mem_nil, or_false] at hq
   rcases hq with rfl | rfl <;> exact okOr_of hb
  ·rcases List.mem_append.1 hq with hq | hq
   ·exact sameL_ok b _ q hq
   ·rcases List.mem_append.1 hq with hq | hq
    ·rcases List.mem_cons.1 hq with rfl | hq
     ·exact ⟨rfl, rfl⟩
     ·obtain rfl := List.mem_singleton.1 hq
      exact ⟨rfl, rfl, rfl⟩
    ·rcases List.mem_append.1 hq with hq | hq
     ·refine onlyIf_ok (fun q hq => ?_) q hq
      rcases List.mem_append.1 hq with hq | hq
      ·simp only [List.mem_cons, List.not_mem_nil, or_false] at hq
       rcases hq with rfl | rfl <;> exact hA
      ·exact sameL_ok _ _ q hq
     ·refine onlyIf_ok (fun q hq => ?_) q hq
      rcases List.mem_append.1 hq with hq | hq
      ·simp only [List.mem_cons, List.not_mem_nil, or_false] at hq
       rcases hq with rfl | rfl <;> exact okOr_of (hb.trans hB.symm)
      ·exact sameL_ok _ _ q hq
 ·rintro e w' ⟨v, ρ', rfl, hv, hbl⟩
  exact ⟨by rw [show v = .bool true by simpa using hv.1], hbl⟩
end Go.Proofs.YtdgodcgdlfjpaaaGreatDoor
