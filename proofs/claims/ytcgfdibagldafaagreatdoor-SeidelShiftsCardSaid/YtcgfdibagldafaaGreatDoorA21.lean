/- Contracts of the program's fractions, lenses and rays, and a verified evaluator of the model. Part 21 of 30. No condition beside the row. -/
import Derived.Test.YtcgfdibagldafaaGreatDoorA09
import Derived.Test.YtcgfdibagldafaaGreatDoorA11
import Derived.Test.YtcgfdibagldafaaGreatDoorA13
import Derived.Test.YtcgfdibagldafaaGreatDoorA14
import Derived.Test.YtcgfdibagldafaaGreatDoorA20
set_option linter.unusedVariables false
set_option linter.unusedSimpArgs false
set_option maxRecDepth 100000
set_option maxHeartbeats 4000000
namespace Go.Proofs.YtcgfdibagldafaaGreatDoor
open Go.RowKit Go.Mono Go.Ex
section
def LongOk (s : Bool) (n : Nat) (f : Nat → Int) : Prop := Digs f n ∧ (s = true → 0 < n)
def BadQ (w : World) (cs : List Value) : Prop :=
 ∃ (s t : Bool) (p q : Option Addr) (n m c e : Nat) (f g : Nat → Int), cs = [.bool s, .slice p n c, .bool t, .slice q m e] ∧ SlF w (.slice p n c) n f ∧ SlF w (.slice q m e) m g ∧ n ≤ 600 ∧ m ≤ 600 ∧
   ¬ (LongOk s n f ∧ LongOk t m g ∧ t = false ∧ 0 < m ∧ gcdZ (vf f n) (vf g m) = 1)
def qDen (K : Nat → Value) (hK : ∀ i, (K i).oneCell' = true) : Den where
 K := K
 kone := hK
 R := fun w q cs => QV w (.agg cs.toArray) q
 ext := fun h hx => h.ext hx
 len := fun h => by
  obtain ⟨p, k, c, p', k', c', e, _⟩ := h
  have := congrArg Value.cells e
  simp only [Value.cells] at this
  have := congrArg Array.size this
  simpa using this
 one := fun h => by
  obtain ⟨p, k, c, p', k', c', e, _⟩ := h
  have := congrArg Value.cells e
  simp only [Value.cells] at this
  have := congrArg Array.toList this
  simp only [List.toList_toArray] at this
  rw [this]
  simp [Value.oneCell']
 S := fun w n v => (∃ p k c, v = .slice p k c) ∧ Sz 600 w v (n : Int)
 sext := fun h hx => ⟨h.1, h.2.ext hx⟩
 sone := fun h => by
  obtain ⟨⟨p, k, c, rfl⟩, _⟩ := h
  simp [Value.oneCell']
 env := fun i => match K (1000 + 2 * i), K (1001 + 2 * i) with
  | .int _ n, .int _ d => mkRat n d.toNat
  | _, _ => 0
 B := BadQ
 bext := fun ⟨s, t, p, q, n, m, c, e, f, g, h1, h2, h3, h4⟩ hx => ⟨s, t, p, q, n, m, c, e, f, g, h1, h2.ext hx, h3.ext hx, h4⟩
 blen := fun ⟨s, t, p, q, n, m, c, e, f, g, h1, h2⟩ => by rw [h1]; rfl
 bone := fun ⟨s, t, p, q, n, m, c, e, f, g, h1, h2⟩ => by rw [h1]; simp [Value.oneCell']
 split := fun h => by
  obtain ⟨p, k, c, p', k', c', e, h2, h3⟩ := h
  have := congrArg Value.cells e
  simp only [Value.cells] at this
  have := congrArg Array.toList this
  simp only [List.toList_toArray] at this
  exact ⟨_, _, this, ⟨⟨_, _, _, rfl⟩, h2⟩, ⟨_, _, _, rfl⟩, h3⟩
variable {K : Nat → Value} {hK : ∀ i, (K i).oneCell' = true}
theorem den_quo {ρ : Nm} {w : World} {q : Rat} {v : Value} : denA (qDen K hK) ρ w (.agg [.quo q]) v ↔ QV w v q := by
 constructor
 ·rintro ⟨cs, e, c, d, e2, hc, hd⟩
  obtain rfl : d = [] := hd
  rw [List.append_nil] at e2
  subst e2
  rw [e]
  exact hc
 ·intro h
  obtain ⟨p, k, c, p', k', c', e, h2⟩ := h
  refine ⟨[.bool (decide (q.num < 0)), .slice p k c, .bool false, .slice p' k' c'], e, _, [], (List.append_nil _).symm, ?_, rfl⟩
  exact ⟨p, k, c, p', k', c', rfl, h2⟩
theorem QV.agg {w : World} {v : Value} {q : Rat} (h : QV w v q) : ∃ C : Array Value, v = .agg C := by
 obtain ⟨p, k, c, p', k', c', e, h2⟩ := h
 exact ⟨_, e⟩
def asQ (l : List U) : Option Rat :=
 match l with
 | [.quo q] => some q
 | [.val (.bool s), .dig n, .val (.bool false), .dig d] =>
   if hd : d ≠ 0 then if hg : Nat.Coprime n d then bif s && Nat.beq n 0 then none else some ⟨bif s then -(n : Int) else n, d, hd, by cases s <;> simpa using hg⟩ else none else none
 | _ => none
theorem asQ_ok {ρ : Nm} {w : World} {l : List U} {q : Rat} (h : asQ l = some q) {v : Value} (hv : denA (qDen K hK) ρ w (.agg l) v) : QV w v q := by
 unfold asQ at h
 split at h
 ·cases h
  exact den_quo.1 hv
 ·rename_i s n d
  split at h
  ·rename_i hd
   split at h
   ·rename_i hg
    cases hsn : (s && Nat.beq n 0) with
    | true => rw [hsn] at h; cases h
    | false =>
      rw [hsn] at h
      cases h
      obtain ⟨cs, rfl, c1, d1, rfl, ⟨rfl, _⟩, c2, d2, rfl, ⟨v2, ⟨⟨p, k, c, rfl⟩, hs2⟩, rfl⟩, c3, d3, rfl, ⟨rfl, _⟩, c4, d4, rfl, ⟨v4, ⟨⟨p', k', c', rfl⟩, hs4⟩, rfl⟩, hd4⟩ := hv
      obtain rfl : d4 = [] := hd4
      have hnum : decide ((bif s then -(n : Int) else (n : Int)) < 0) = s := by
       cases s with
       | false => simp
       | true =>
         have : n ≠ 0 := fun e => by subst e; simp at hsn
         simp; omega
      have habs : (bif s then -(n : Int) else (n : Int)).natAbs = n := by cases s <;> simp
      refine ⟨p, k, c, p', k', c', ?_, ?_, hs4⟩
      ·show Value.agg _ = _
       dsimp only
       rw [hnum]
       rfl
      ·dsimp only
       rw [habs]
       exact hs2
   ·cases h
  ·cases h
 ·cases h
def okV : SA := .one (.val (.int .i64 0))
def binRun (cl : Bool) (op : Rat → Rat → Rat) (side : Rat → Rat → Option (List Prop)) (args : List SA) (bk : List (Nat × Blk)) (orc : List (Option Bool)) : Option (SV × List Prop × List (Option Bool)) :=
 match args with
 | [.agg x, .agg y] => match asQ x, asQ y with
   | some a, some b => (side a b).bind fun L => bif cl then qcase (op a b) fun q => some (.tup [.agg [.quo q], okV], L, orc) else some (.tup [.agg [.quo (op a b)], okV], L, orc)
   | _, _ => none
 | _ => none
def binSpec (cl : Bool) (w0 : World) (X : Nat → Prop) (f : FuncId) (op : Rat → Rat → Rat) (side : Rat → Rat → Option (List Prop))
    (h : ∀ (a b : Rat) (u v : Value) (L : List Prop) (w : World), side a b = some L → (∀ p ∈ L, p) → QV w u a → QV w v b →
     Calls Tryz.prog f #[u, v] w fun e w' => ∃ r, e = .returned (.tuple #[r, .int .i64 0]) ∧ QV w' r (op a b) ∧ Below w.heap.size w w') : Ctr (qDen K hK) Tryz.prog w0 X := .plain f (binRun cl op side) <| by
    intro args bk orc v obl orc' hr hobl ρ w vals hfr hb hargs
    unfold binRun at hr
    split at hr
    ·rename_i x y
     split at hr
     ·rename_i a b ha hb'
      obtain ⟨L, hL, e⟩ := Option.bind_eq_some_iff.1 hr
      have e : some (SV.tup [SA.agg [U.quo (op a b)], okV], L, orc) = some (v, obl, orc') := by
       cases cl with
       | false => exact e
       | true => exact (qcase_eq (op a b) (fun q => some (SV.tup [SA.agg [U.quo q], okV], L, orc))).symm.trans e
      cases e
      obtain ⟨v1, r1, rfl, h1, v2, r2, rfl, h2, h3⟩ := hargs
      obtain rfl : r2 = [] := h3
      refine (h a b v1 v2 _ w hL hobl (asQ_ok ha h1) (asQ_ok hb' h2)).mono ?_
      rintro e w' ⟨r, rfl, hr, hbl⟩
      exact ⟨_, rfl, ⟨[r, .int .i64 0], rfl, _, _, rfl, den_quo.2 hr, _, _, rfl, ⟨rfl, rfl⟩, rfl⟩, hbl⟩
     ·cases hr
    ·cases hr
structure Side where
 cl : Bool
 fit : Rat → Option (List Prop)
 nz : Rat → Option (List Prop)
 hfit : ∀ q L, fit q = some L → (∀ p ∈ L, p) → Fits q
 hnz : ∀ q L, nz q = some L → (∀ p ∈ L, p) → q.num ≠ 0
 pos : Rat → Option (List Prop)
 hpos : ∀ q L, pos q = some L → (∀ p ∈ L, p) → 0 < q
def Side.two (S : Side) (a b : Rat) : Option (List Prop) :=
 match S.nz b, S.fit (a / b) with
 | some L, some M => some (L ++ M)
 | _, _ => none
def cAdd (S : Side) (w0 : World) (X : Nat → Prop) : Ctr (qDen K hK) Tryz.prog w0 X := binSpec S.cl w0 X 17 (fun a b => a + b) (fun a b => S.fit (a + b)) fun a b u v L w hs hL h1 h2 => add_ok a b u v w w (Ext.refl _) h1 h2 (S.hfit _ _ hs hL)
def cSub (S : Side) (w0 : World) (X : Nat → Prop) : Ctr (qDen K hK) Tryz.prog w0 X := binSpec S.cl w0 X 46 (fun a b => a - b) (fun a b => S.fit (a - b)) fun a b u v L w hs hL h1 h2 => sub_ok a b u v w w (Ext.refl _) h1 h2 (S.hfit _ _ hs hL)
def cMul (S : Side) (w0 : World) (X : Nat → Prop) : Ctr (qDen K hK) Tryz.prog w0 X := binSpec S.cl w0 X 16 (fun a b => a * b) (fun a b => S.fit (a * b)) fun a b u v L w hs hL h1 h2 => mul_ok a b u v w w (Ext.refl _) h1 h2 (S.hfit _ _ hs hL)
def cDiv (S : Side) (w0 : World) (X : Nat → Prop) : Ctr (qDen K hK) Tryz.prog w0 X := binSpec S.cl w0 X 57 (fun a b => a / b) S.two fun a b u v L w hs hL h1 h2 => by
 unfold Side.two at hs
 split at hs
 ·rename_i L1 L2 e1 e2
  cases hs
  exact div_ok a b u v w w (Ext.refl _) h1 h2 (S.hnz _ _ e1 fun p hp => hL p (List.mem_append_left _ hp)) (S.hfit _ _ e2 fun p hp => hL p (List.mem_append_right _ hp))
 ·cases hs
def ofRun (args : List SA) (bk : List (Nat × Blk)) (orc : List (Option Bool)) : Option (SV × List Prop × List (Option Bool)) :=
 match args with
 | [.one (.val (.int .i64 n)), .one (.val (.int .i64 d))] => if -9223372036854775808 ≤ n ∧ n ≤ 9223372036854775807 ∧ -9223372036854775808 ≤ d ∧ d ≤ 9223372036854775807 ∧ d ≠ 0 then qcase (Rat.divInt n d) fun q => some (.tup [.agg [.quo q], okV], [], orc) else none
 | _ => none
def cOf (w0 : World) (X : Nat → Prop) : Ctr (qDen K hK) Tryz.prog w0 X := .plain 53 ofRun <| by
    intro args bk orc v obl orc' hr hobl ρ w vals hfr hb hargs
    unfold ofRun at hr
    split at hr
    ·rename_i n d
     split at hr
     ·rename_i hc
      rw [qcase_eq] at hr
      cases hr
      obtain ⟨v1, r1, rfl, h1, v2, r2, rfl, h2, h3⟩ := hargs
      obtain rfl : r2 = [] := h3
      obtain rfl : v1 = .int .i64 n := by simpa using h1.1
      obtain rfl : v2 = .int .i64 d := by simpa using h2.1
      refine (qof_ok n d hc.2.2.2.2 w hc.1 hc.2.1 hc.2.2.1 hc.2.2.2.1).mono ?_
      rintro e w' ⟨r, rfl, hr, hbl⟩
      exact ⟨_, rfl, ⟨[r, .int .i64 0], rfl, _, _, rfl, den_quo.2 hr, _, _, rfl, ⟨rfl, rfl⟩, rfl⟩, hbl⟩
     ·cases hr
    ·cases hr
def sameRun (args : List SA) (bk : List (Nat × Blk)) (orc : List (Option Bool)) : Option (SV × List Prop × List (Option Bool)) :=
 match args with
 | [.agg x, .agg y] => match asQ x, asQ y with
   | some a, some b => some (.a (.one (.tst (decide (a = b)))), [], orc)
   | _, _ => none
 | _ => none
def cSame (w0 : World) (X : Nat → Prop) : Ctr (qDen K hK) Tryz.prog w0 X := .plain 14 sameRun <| by
    intro args bk orc v obl orc' hr hobl ρ w vals hfr hb hargs
    unfold sameRun at hr
    split at hr
    ·rename_i x y
     split at hr
     ·rename_i a b ha hb'
      cases hr
      obtain ⟨v1, r1, rfl, h1, v2, r2, rfl, h2, h3⟩ := hargs
      obtain rfl : r2 = [] := h3
      refine (qsame_ok v1 v2 a b w w (Ext.refl _) (asQ_ok ha h1) (asQ_ok hb' h2)).mono ?_
      rintro e w' ⟨rfl, hbl⟩
      exact ⟨_, rfl, rfl, hbl⟩
     ·cases hr
    ·cases hr
def isZ (l : List U) : Bool :=
 match l with
 | [.val (.bool false), .val (.slice none 0 0), .val (.bool false), .val (.slice none 0 0)] => true
 | _ => false
def checkRun (args : List SA) (bk : List (Nat × Blk)) (orc : List (Option Bool)) : Option (SV × List Prop × List (Option Bool)) :=
 match args with
 | [.agg x] => match asQ x with
   | some a => some (.a okV, [], orc)
   | none => if isZ x then some (.a (.one (.val (.int .i64 40))), [], orc) else none
 | _ => none
def cCheck (w0 : World) (X : Nat → Prop) : Ctr (qDen K hK) Tryz.prog w0 X := .plain 67 checkRun <| by
    intro args bk orc v obl orc' hr hobl ρ w vals hfr hb hargs
    unfold checkRun at hr
    split at hr
    ·rename_i x
     obtain ⟨v1, r1, rfl, h1, h3⟩ := hargs
     obtain rfl : r1 = [] := h3
     split at hr
     ·rename_i a ha
      cases hr
      refine (qcheck_ok v1 a w w (Ext.refl _) (asQ_ok ha h1)).mono ?_
      rintro e w' ⟨rfl, hbl⟩
      exact ⟨_, rfl, ⟨rfl, rfl⟩, hbl⟩
     ·split at hr
      ·rename_i hz
       cases hr
       unfold isZ at hz
       split at hz
       ·obtain ⟨cs, rfl, c1, d1, rfl, ⟨rfl, _⟩, c2, d2, rfl, ⟨rfl, _⟩, c3, d3, rfl, ⟨rfl, _⟩, c4, d4, rfl, ⟨rfl, _⟩, hd4⟩ := h1
        obtain rfl : d4 = [] := hd4
        refine (qcheck_z0 w).mono ?_
        rintro e w' ⟨rfl, hbl⟩
        exact ⟨_, rfl, ⟨rfl, rfl⟩, hbl⟩
       ·cases hz
      ·cases hr
    ·cases hr
def asR (l : List U) : Option Rat :=
 match l with
 | [.val (.bool s), .dig n, .dig d] =>
   if hd : d ≠ 0 then if hg : Nat.Coprime n d then some ⟨bif s then -(n : Int) else n, d, hd, by cases s <;> simpa using hg⟩ else none else none
 | _ => none
def toldRun (args : List SA) (bk : List (Nat × Blk)) (orc : List (Option Bool)) : Option (SV × List Prop × List (Option Bool)) :=
 match args with
 | [.agg x] => (asR x).bind fun q => qcase q fun q => some (.tup [.agg [.quo q], okV], [], orc)
 | _ => none
def ofRunS (args : List SA) (bk : List (Nat × Blk)) (orc : List (Option Bool)) : Option (SV × List Prop × List (Option Bool)) :=
 match args with
 | [x, y] => match intOf (some (.a x)), intOf (some (.a y)) with
   | some (.i64, n, _), some (.i64, d, _) => some (.tup [.agg [.quo (Rat.divInt n d)], okV], [inR n, inR d, d ≠ 0], orc)
   | _, _ => none
 | _ => none
def cOfS (w0 : World) (X : Nat → Prop) : Ctr (qDen K hK) Tryz.prog w0 X := .plain 53 ofRunS <| by
    intro args bk orc v obl orc' hr hobl ρ w vals hfr hb hargs
    unfold ofRunS at hr
    split at hr
    ·rename_i x y
     split at hr
     ·rename_i n s d s' hx hy
      cases hr
      obtain ⟨v1, r1, rfl, h1, v2, r2, rfl, h2, h3⟩ := hargs
      obtain rfl : r2 = [] := h3
      obtain rfl := intOf_ok (D := qDen K hK) (ρ := ρ) (w := w) hx h1
      obtain rfl := intOf_ok (D := qDen K hK) (ρ := ρ) (w := w) hy h2
      obtain ⟨a1, a2⟩ := hobl (inR n) (by simp)
      obtain ⟨b1, b2⟩ := hobl (inR d) (by simp)
      refine (qof_ok n d (hobl (d ≠ 0) (by simp)) w a1 a2 b1 b2).mono ?_
      rintro e w' ⟨r, rfl, hr, hbl⟩
      exact ⟨_, rfl, ⟨[r, .int .i64 0], rfl, _, _, rfl, den_quo.2 hr, _, _, rfl, ⟨rfl, rfl⟩, rfl⟩, hbl⟩
     ·cases hr
    ·cases hr
def cTold (w0 : World) (X : Nat → Prop) : Ctr (qDen K hK) Tryz.prog w0 X := .plain 100 toldRun <| by
    intro args bk orc v obl orc' hr hobl ρ w vals hfr hb hargs
    unfold toldRun at hr
    split at hr
    ·rename_i x
     obtain ⟨q, hq, e⟩ := Option.bind_eq_some_iff.1 hr
     rw [qcase_eq] at e
     cases e
     obtain ⟨v1, r1, rfl, h1, h3⟩ := hargs
     obtain rfl : r1 = [] := h3
     unfold asR at hq
     split at hq
     ·rename_i s n d
      split at hq
      ·rename_i hd
       split at hq
       ·rename_i hg
        cases hq
        obtain ⟨cs, rfl, c1, d1, rfl, ⟨rfl, _⟩, c2, d2, rfl, ⟨v2, ⟨⟨p, k, c, rfl⟩, hs2⟩, rfl⟩, c4, d4, rfl, ⟨v4, ⟨⟨p', k', c', rfl⟩, hs4⟩, rfl⟩, hd4⟩ := h1
        obtain rfl : d4 = [] := hd4
        have habs : (bif s then -(n : Int) else (n : Int)).natAbs = n := by cases s <;> simp
        refine (told_ok 600 s p p' k c k' c' ⟨bif s then -(n : Int) else n, d, hd, by cases s <;> simpa using hg⟩ w w (Ext.refl _) (by cases s <;> constructor <;> intro h <;> first | (cases h; done) | (show -(n : Int) ≤ 0; omega) | (show (0 : Int) ≤ n; omega)) (by dsimp only; rw [habs]; exact hs2) hs4 (by decide)).mono ?_
        rintro e w' ⟨p, n', c, q, l, d', rfl, z1, z2, hbl⟩
        exact ⟨_, rfl, ⟨[_, .int .i64 0], rfl, _, _, rfl, den_quo.2 ⟨_, _, _, _, _, _, rfl, z1, z2⟩, _, _, rfl, ⟨rfl, rfl⟩, rfl⟩, hbl⟩
       ·cases hq
      ·cases hq
     ·cases hq
    ·cases hr
def fitC (q : Rat) : Option (List Prop) := if Nat.blt q.num.natAbs (Nat.pow 10 90) && Nat.blt q.den (Nat.pow 10 90) then some [] else none
def sideC : Side where
 cl := true
 fit := fitC
 nz := fun q => match q.num with
  | .ofNat 0 => none
  | _ => some []
 hfit := fun q L h _ => by
  unfold fitC at h
  split at h
  ·rename_i hc
   rw [Bool.and_eq_true, Nat.blt_eq, Nat.blt_eq] at hc
   have : pw 10 = ((Nat.pow 10 90 : Nat) : Int) := by decide +kernel
   exact Fits.of 10 (by decide) (by rw [this]; exact Int.ofNat_lt.2 hc.1) (by rw [this]; exact Int.ofNat_lt.2 hc.2)
  ·cases h
 hnz := fun q L h _ => by
  intro hz
  rw [hz] at h
  cases h
 pos := fun q => match q.num with
  | .ofNat (_ + 1) => some []
  | _ => none
 hpos := fun q L h _ => by
  split at h
  ·rename_i n e
   rw [Rat.lt_iff, e]
   simp
  ·cases h
def sideS : Side where
 cl := false
 fit := fun q => some [Fits q]
 nz := fun q => some [q.num ≠ 0]
 hfit := fun q L h hL => by cases h; exact hL _ (by simp)
 hnz := fun q L h hL => by cases h; exact hL _ (by simp)
 pos := fun q => some [0 < q]
 hpos := fun q L h hL => by cases h; exact hL _ (by simp)
def spS (w0 : World) (X : Nat → Prop) : List (Ctr (qDen K hK) Tryz.prog w0 X) := [cAdd sideS w0 X, cSub sideS w0 X, cMul sideS w0 X, cDiv sideS w0 X, cOf w0 X, cSame w0 X, cCheck w0 X, cTold w0 X]
def spC (w0 : World) (X : Nat → Prop) : List (Ctr (qDen K hK) Tryz.prog w0 X) := [cAdd sideC w0 X, cSub sideC w0 X, cMul sideC w0 X, cDiv sideC w0 X, cOf w0 X, cSame w0 X, cCheck w0 X, cTold w0 X]
theorem wide_ : Tryz.prog.follows .mixedOrders = true := by kernel_rfl
end
end Go.Proofs.YtcgfdibagldafaaGreatDoor
namespace Go.Ex
open Go.RowKit Go.Mono
structure Vw where
 T : TypeId
 l : List U
 blk : Nat
 off : Nat
 cs : List Value
def nmV (vs : List Vw) : Nm := fun k => (vs[k]?).map fun v => ⟨v.blk, v.off, true, 0, 0⟩
def bkV : Nat → List Vw → List (Nat × Blk)
 | _, [] => []
 | k, v :: r => (k, ⟨v.T, v.l, true, false, false⟩) :: bkV (k + 1) r
theorem bkV_look : ∀ {vs : List Vw} {i k : Nat} {b : Blk}, (bkV i vs).look k = some b → ∃ v, i ≤ k ∧ vs[k - i]? = some v ∧ b = ⟨v.T, v.l, true, false, false⟩
 | [], i, k, b, h => by simp [bkV] at h
 | v :: r, i, k, b, h => by
   unfold bkV at h
   rw [look_cons] at h
   split at h
   ·rename_i e
    subst e
    cases h
    exact ⟨v, Nat.le_refl _, by simp, rfl⟩
   ·rename_i e
    obtain ⟨u, h1, h2, h3⟩ := bkV_look h
    refine ⟨u, by omega, ?_, h3⟩
    rw [show k - i = (k - (i + 1)) + 1 by omega, List.getElem?_cons_succ]
    exact h2
structure VwOk (D : Den) (w : World) (vs : List Vw) (v : Vw) : Prop where
 lt : v.blk < w.heap.size
 rng : w.rangeAt v.blk v.off v.cs
 den : denL D (nmV vs) w v.l v.cs
theorem sat_views {D : Den} {w : World} {vs : List Vw} (hv : ∀ v ∈ vs, VwOk D w vs v) : Sat D w (fun _ => False) vs.length (nmV vs) w w (bkV 0 vs) := by
 have ro : ∀ {k : Nat} {B : Pl}, nmV vs k = some B → ∃ v, vs[k]? = some v ∧ B = ⟨v.blk, v.off, true, 0, 0⟩ := by
  intro k B h
  obtain ⟨v, h1, h2⟩ := Option.map_eq_some_iff.1 h
  exact ⟨v, h1, h2.symm⟩
 refine ⟨Frm.refl _ _, Ext.refl _, ?_, ?_, ?_⟩
 ·intro k k' b b' B B' _ _ h1 h2 _
  obtain ⟨v, _, rfl⟩ := ro h1
  obtain ⟨v', _, rfl⟩ := ro h2
  exact .inr ⟨rfl, rfl⟩
 ·intro k B h1
  obtain ⟨v, h, rfl⟩ := ro h1
  exact (hv v (List.mem_of_getElem? h)).lt
 ·intro k b hk
  obtain ⟨v, _, h2, rfl⟩ := bkV_look hk.1
  rw [Nat.sub_zero] at h2
  have := hv v (List.mem_of_getElem? h2)
  refine ⟨⟨v.blk, v.off, true, 0, 0⟩, v.cs, by simp [nmV, h2], .inl ⟨rfl, this.rng⟩, this.den, (fun h => by cases h), fun _ h => ?_, rfl⟩
  have := (List.getElem?_eq_some_iff.1 h2).1
  omega
theorem evRunV {D : Den} {P : Program} (hm : P.follows .mixedOrders = true) {w : World} (sp : List (Ctr D P w (fun _ => False))) (fx : List (Fct D P w (fun _ => False))) {f : FuncId} {d n : Nat} {args : List SA} {orc : List (Option Bool)} {vs : List Vw} (bk : List (Nat × Blk)) (hbk : bk = bkV 0 vs) (hn : n = vs.length) (V : SV) (L : List Prop) (W : List (Nat × Blk))
  (hev : (evF P sp fx d [] f args bk n n orc).map (fun r => (r.v, r.obl, r.wr, r.pan)) = some (V, L, W, none)) (hL : AllP L) {vals : List Value} (hv : ∀ v ∈ vs, VwOk D w vs v) (hargs : denAs D (nmV vs) w args vals) :
  Calls P f vals.toArray w fun e w' => ∃ v ρ', e = .returned v ∧ denV D ρ' w' V v ∧ Below w.heap.size w w' ∧ (nmV vs).le ρ' ∧ BkOk D ρ' w' w' (W ++ bk) ∧ ∀ k b B, Liv (W ++ bk) k b → ρ' k = some B → (b.ro = false → w.heap.size ≤ B.blk) ∧ B.blk < w'.heap.size := by
 obtain ⟨r, hr, he⟩ := Option.map_eq_some_iff.1 hev
 simp only [Prod.mk.injEq] at he
 obtain ⟨rfl, rfl, rfl, hpan⟩ := he
 subst hbk
 subst hn
 have hlt : ∀ k b, (bkV 0 vs).look k = some b → k < vs.length := fun k b hk => by
  obtain ⟨v, _, h2, _⟩ := bkV_look hk
  have := (List.getElem?_eq_some_iff.1 h2).1
  omega
 refine (evF_ok hm sp fx d [] f args _ _ _ orc _ hr hL.all 0 (nmV vs) w w vals (sat_views hv) trivial hlt (Nat.le_refl _) (fun k h1 _ => by simp [nmV]; omega) hargs).mono ?_
 rintro e w' ⟨u, ρ', wc', hend, hu, k1, k2⟩
 unfold OpR.ends at hend
 rw [hpan] at hend
 have ef : r.fin (bkV 0 vs) = r.wr ++ bkV 0 vs := by unfold OpR.fin; rw [hpan]
 rw [ef] at k1 k2
 refine ⟨u, ρ', hend, hu.mono (Nm.le.refl _) k1.ext, ⟨k2.os, k2.tape, k2.output, k2.size, fun i hi => k2.loc i hi fun k b B hk hB hro => ?_⟩, k2.rho, ?_, ?_⟩
 ·obtain ⟨v, _, h2, rfl⟩ := bkV_look hk.1
  obtain ⟨v', _, rfl⟩ := Option.map_eq_some_iff.1 hB
  cases hro
 ·intro k b hk hd
  obtain ⟨B, cs, h1, h2, h3, h4⟩ := k1.bkOk k b hk hd
  exact ⟨B, cs, h1, h2, h3.mono (Nm.le.refl _) k1.ext, h4⟩
 ·intro k b B hk hB
  obtain ⟨B', cs, h1, h2, h3, h4, _, h6⟩ := k1.box k b hk
  cases h1.symm.trans hB
  exact ⟨fun hro => (h4 hro).elim id False.elim, k1.lt k B hB⟩
end Go.Ex
namespace Go.Proofs.YtcgfdibagldafaaGreatDoor
open Go.RowKit Go.Mono
theorem lenscheck_ok (nm : ByteArray) (di pu st pr : Int) (pf pw' ps pc : Option Addr) (nf cf n cw ns cs nc cc : Nat) (w : World)
  (hv : ∀ B W, Below w.heap.size w W → Box W B 291 #[.string nm, .int .i64 di, .int .i64 pu, .int .i64 st, .int .i64 pr, .slice pf nf cf, .slice pw' n cw, .slice ps ns cs, .slice pc nc cc] → Calls Tryz.prog 205 #[.pointer (some ⟨B, 0, none⟩)] W fun e w' => e = .returned (.bool true) ∧ Below W.heap.size W w') :
  Calls Tryz.prog 153 #[.agg #[.string nm, .int .i64 di, .int .i64 pu, .int .i64 st, .int .i64 pr, .slice pf nf cf, .slice pw' n cw, .slice ps ns cs, .slice pc nc cc]] w fun e w' => e = .returned (.int .i64 0) ∧ Below w.heap.size w w' := by
 have hmf : ∀ (fn : Fn) (first cap : Array Value) (w : World), (Instr.makeFunc fn first cap).run Tryz.prog w = .ok (.func fn first cap) w := fun _ _ _ _ => rfl
 go_enter Tryz.func153, Tryz.ntmps153
 go_wp2_with fail
 refine boxes2c fun W hB hs b0 b1 => ?_
 refine (hv _ W hB b1).mono ?_
 rintro e w' ⟨rfl, hb⟩
 go_wp2
 go_ret
 exact ⟨rfl, belowCall hB hb⟩
section
open Go.Ex
variable {K : Nat → Value} {hK : ∀ i, (K i).oneCell' = true}
def PFits (a b c d e f g h : Rat) : Prop :=
 Fits (a * e) ∧ Fits (b * g) ∧ Fits (a * e + b * g) ∧ Fits (a * f) ∧ Fits (b * h) ∧ Fits (a * f + b * h) ∧ Fits (c * e) ∧ Fits (d * g) ∧ Fits (c * e + d * g) ∧ Fits (c * f) ∧ Fits (d * h) ∧ Fits (c * f + d * h)
theorem z0_ : mkRat (Int.ofNat 0) (0 + 1) = 0 := rfl
theorem quos_any {ρ ρ' : Nm} {w : World} : ∀ {l : List Rat} {cs : List Value}, denL (qDen K hK) ρ w (l.map .quo) cs → denL (qDen K hK) ρ' w (l.map .quo) cs
 | [], _, h => h
 | q :: l, _, ⟨c, d, e, hc, hd⟩ => ⟨c, d, e, hc, quos_any hd⟩
theorem product_ev (a b c d e f g h : Rat) (H : PFits a b c d e f g h) (w : World) {u v : Value} (hu : denA (qDen K hK) (fun _ => none) w (.agg [.quo a, .quo b, .quo c, .quo d]) u) (hv : denA (qDen K hK) (fun _ => none) w (.agg [.quo e, .quo f, .quo g, .quo h]) v) :
  Calls Tryz.prog 318 #[u, v] w fun e' w' => ∃ x ρ', e' = .returned x ∧ denV (qDen K hK) ρ' w' (.a (.agg [.quo (mkRat (Int.ofNat 0) (0 + 1) + a * e + b * g), .quo (mkRat (Int.ofNat 0) (0 + 1) + a * f + b * h), .quo (mkRat (Int.ofNat 0) (0 + 1) + c * e + d * g), .quo (mkRat (Int.ofNat 0) (0 + 1) + c * f + d * h)])) x ∧ Below w.heap.size w w' := by
 obtain ⟨h1, h2, h3, h4, h5, h6, h7, h8, h9, h10, h11, h12⟩ := H
 refine evRun0 (D := qDen K hK) (d := 12) (orc := []) (args := [.agg [.quo a, .quo b, .quo c, .quo d], .agg [.quo e, .quo f, .quo g, .quo h]]) wide_ (spS w (fun _ => False)) [] _
  [Fits (a * e), Fits (mkRat (Int.ofNat 0) (0 + 1) + a * e), Fits (b * g), Fits (mkRat (Int.ofNat 0) (0 + 1) + a * e + b * g),
   Fits (a * f), Fits (mkRat (Int.ofNat 0) (0 + 1) + a * f), Fits (b * h), Fits (mkRat (Int.ofNat 0) (0 + 1) + a * f + b * h),
   Fits (c * e), Fits (mkRat (Int.ofNat 0) (0 + 1) + c * e), Fits (d * g), Fits (mkRat (Int.ofNat 0) (0 + 1) + c * e + d * g),
   Fits (c * f), Fits (mkRat (Int.ofNat 0) (0 + 1) + c * f), Fits (d * h), Fits (mkRat (Int.ofNat 0) (0 + 1) + c * f + d * h)]
  (by kernel_rfl) ?_ (vals := [u, v]) ⟨u, _, rfl, hu, v, _, rfl, hv, rfl⟩
 rw [z0_]
 simp only [Rat.zero_add]
 exact ⟨h1, h1, h2, h3, h4, h4, h5, h6, h7, h7, h8, h9, h10, h10, h11, h12, trivial⟩
def fitsC : List Rat → Bool
 | [] => true
 | q :: r => match fitC q with
   | some _ => fitsC r
   | none => false
theorem fitC_ok' {q : Rat} {L : List Prop} (h : fitC q = some L) : Fits q := by
 have hL : L = [] := by
  unfold fitC at h
  split at h
  ·cases h; rfl
  ·cases h
 subst hL
 exact sideC.hfit q [] h (by simp)
theorem fitsC_ok : ∀ {l : List Rat}, fitsC l = true → ∀ q ∈ l, Fits q
 | [], _, q, hq => by cases hq
 | x :: r, h, q, hq => by
   unfold fitsC at h
   split at h
   ·rename_i L hL
    rcases List.mem_cons.1 hq with rfl | hq
    ·exact fitC_ok' hL
    ·exact fitsC_ok h q hq
   ·cases h
def prodRun (args : List SA) (bk : List (Nat × Blk)) (orc : List (Option Bool)) : Option (SV × List Prop × List (Option Bool)) :=
 match args with
 | [.agg [.quo a, .quo b, .quo c, .quo d], .agg [.quo e, .quo f, .quo g, .quo h]] =>
   if fitsC [a * e, b * g, a * e + b * g, a * f, b * h, a * f + b * h, c * e, d * g, c * e + d * g, c * f, d * h, c * f + d * h] then
    qcase (a * e + b * g) fun x => qcase (a * f + b * h) fun y => qcase (c * e + d * g) fun z => qcase (c * f + d * h) fun t => some (.a (.agg [.quo x, .quo y, .quo z, .quo t]), [], orc)
   else none
 | _ => none
def cProduct (w0 : World) (X : Nat → Prop) : Ctr (qDen K hK) Tryz.prog w0 X := .plain 318 prodRun <| by
    intro args bk orc v obl orc' hr hobl ρ w vals hfr hb hargs
    unfold prodRun at hr
    split at hr
    ·rename_i a b c d e f g h
     split at hr
     ·rename_i hok
      rw [qcase_eq, qcase_eq, qcase_eq, qcase_eq] at hr
      cases hr
      obtain ⟨v1, r1, rfl, ⟨cs1, rfl, h1⟩, v2, r2, rfl, ⟨cs2, rfl, h2⟩, h3⟩ := hargs
      obtain rfl : r2 = [] := h3
      have F := fitsC_ok hok
      refine (product_ev a b c d e f g h ⟨F _ (by simp), F _ (by simp), F _ (by simp), F _ (by simp), F _ (by simp), F _ (by simp), F _ (by simp), F _ (by simp), F _ (by simp), F _ (by simp), F _ (by simp), F _ (by simp)⟩ w
       ⟨cs1, rfl, quos_any (l := [a, b, c, d]) h1⟩ ⟨cs2, rfl, quos_any (l := [e, f, g, h]) h2⟩).mono ?_
      rintro e' w' ⟨x, ρ', rfl, ⟨cs, rfl, hx⟩, hbl⟩
      rw [z0_] at hx
      simp only [Rat.zero_add] at hx
      exact ⟨_, rfl, ⟨cs, rfl, quos_any (l := [a * e + b * g, a * f + b * h, c * e + d * g, c * f + d * h]) hx⟩, hbl⟩
     ·cases hr
    ·cases hr
end
theorem possible_ok (z : Int) (h1 : 10000000 ≤ z) (h2 : z ≤ 40000000) (w : World) :
  Calls Tryz.prog 155 #[.int .i64 z] w fun e w' => e = .returned (.bool true) ∧ w' = w := by
 go_enter Tryz.func155, Tryz.ntmps155
 go_wp2
 go_ret
 exact ⟨rfl, rfl⟩
theorem enters_possible : ∀ args w, (callFunc 155 args).run Tryz.prog w = .ok (.enter 155 args) w := Go.Proofs.enters_of Tryz.func155 (by kernel_rfl) rfl
theorem every_ok (n : Nat) (p : Option Addr) (c : Nat) (f : Nat → Int) (w : World) (h : RdF w p n c f) (hf : ∀ i, i < n → 10000000 ≤ f i ∧ f i ≤ 40000000) :
  Calls Tryz.prog 157 #[.slice p n c, .func (.func 155) #[] #[]] w fun e w' => e = .returned (.bool true) ∧ w' = w := by
 obtain ⟨hc1, hn1, hx1⟩ := h
 go_enter Tryz.func157, Tryz.ntmps157
 go_wp2
 go_loopw [9] (fun a wr => ∃ k : Nat, k ≤ n ∧ a = .int .i64 (k : Int) ∧ wr = w) (fun a _ => (n - intOf a).toNat)
 case atStart => exact ⟨0, Nat.zero_le _, rfl, rfl⟩
 case round =>
  obtain ⟨k, hk, rfl, rfl⟩ := hrel
  by_cases h0 : k < n
  ·obtain ⟨b, off, rfl, hb, hcell⟩ := hx1 (by omega)
   have a1 := hcell k (by omega)
   obtain ⟨f1, f2⟩ := hf k h0
   clear hcell hx1 hf
   have h0' : (k : Int) < n := by omega
   go_wp2_with (go_at_call 155; refine (possible_ok _ f1 f2 _).mono ?_; rintro e w' ⟨rfl, rfl⟩)
   go_roundw
   case rel => refine ⟨k + 1, by omega, ?_⟩; simp
   case measure => simp [intOf]; omega
  ·obtain rfl : k = n := by omega
   go_wp2
   go_ret
   exact ⟨rfl, rfl⟩
end Go.Proofs.YtcgfdibagldafaaGreatDoor
namespace Go.Mono
open Go.RowKit
structure Lns where
 nm : ByteArray
 di : Int
 pu : Int
 st : Int
 pr : Int
 nf : Nat
 X : Nat → Int
 Y : Nat → Int
 nw : Nat
 L : Nat → Int
 W : Nat → Int
 ns : Nat
 S : Nat → Srf
 ix : Nat → Nat → Int
structure Plc where
 pf : Option Addr
 cf : Nat
 pw : Option Addr
 cw : Nat
 ps : Option Addr
 cs : Nat
 pc : Option Addr
 cc : Nat
 cp : Nat → Option Addr
 cl : Nat → Nat
 pi : Option Addr
 ci : Nat
 pI : Nat → Option Addr
 cI : Nat → Nat
def Lns.lvals (a : Lns) (q : Plc) : Array Value :=
 #[.string a.nm, .int .i64 a.di, .int .i64 a.pu, .int .i64 a.st, .int .i64 a.pr, .slice q.pf a.nf q.cf, .slice q.pw a.nw q.cw, .slice q.ps a.ns q.cs, .slice q.pc 0 q.cc]
def Lns.ovals (a : Lns) (q : Plc) : Array Value :=
 #[.string a.nm, .int .i64 a.di, .int .i64 a.pu, .int .i64 a.st, .int .i64 a.pr, .slice q.pf a.nf q.cf, .slice q.pw a.nw q.cw, .slice q.ps a.ns q.cs, .slice q.pc 0 q.cc, .slice q.pi a.ns q.ci]
structure LnsAt (w : World) (a : Lns) (q : Plc) : Prop where
 fields : RdC w q.pf a.nf q.cf 2 (fun i j => if j = 0 then .int .i64 (a.X i) else .int .i64 (a.Y i))
 waves : RdC w q.pw a.nw q.cw 2 (fun i j => if j = 0 then .int .i64 (a.L i) else .int .i64 (a.W i))
 surfs : RdC w q.ps a.ns q.cs 22 (fun i j => ((a.S i).cs (q.cp i) (q.cl i)).getD j undef)
theorem LnsAt.below {w w' : World} {a : Lns} {q : Plc} (h : LnsAt w a q) (hB : Below w.heap.size w w') : LnsAt w' a q := ⟨h.fields.below hB, h.waves.below hB, h.surfs.below hB⟩
structure OptAt (w : World) (a : Lns) (q : Plc) : Prop extends LnsAt w a q where
 index : RdC w q.pi a.ns q.ci 1 (fun i _ => .slice (q.pI i) a.nw (q.cI i))
 row : ∀ i, i < a.ns → RdF w (q.pI i) a.nw (q.cI i) (a.ix i)
theorem OptAt.below {w w' : World} {a : Lns} {q : Plc} (h : OptAt w a q) (hB : Below w.heap.size w w') : OptAt w' a q := ⟨h.toLnsAt.below hB, h.index.below hB, fun i hi => (h.row i hi).below hB⟩
structure Lns.ok (a : Lns) : Prop where
 name : NameOk a.nm
 di : 0 ≤ a.di ∧ a.di ≤ 1000000000
 pu : 1 ≤ a.pu ∧ a.pu ≤ 1000000000
 nf : 1 ≤ a.nf ∧ a.nf ≤ 5
 fr : ∀ i, i < a.nf → In (if a.di = 0 then 1000000 else 1000000000) (a.X i) ∧ In (if a.di = 0 then 1000000 else 1000000000) (a.Y i)
 fd : ∀ i k, k < i → i < a.nf → ¬ (a.X i = a.X k ∧ a.Y i = a.Y k)
 nw : 1 ≤ a.nw ∧ a.nw ≤ 5
 pr : 0 ≤ a.pr ∧ a.pr ≤ a.nw - 1
 wl : ∀ i, i < a.nw → 300000 ≤ a.L i ∧ a.L i ≤ 2500000
 wm : ∀ i, i + 1 < a.nw → a.L i < a.L (i + 1)
 ww : ∀ i, i < a.nw → 1 ≤ a.W i ∧ a.W i ≤ 100
 ns : 2 ≤ a.ns ∧ a.ns ≤ 16
 st : 0 ≤ a.st ∧ a.st ≤ a.ns - 2
 sok : ∀ i, i < a.ns → (a.S i).ok
 image : (a.S (a.ns - 1)).kind = 1 ∧ (a.S (a.ns - 1)).glass = { data := #[] } ∧ (a.S (a.ns - 1)).thick = 0 ∧ (a.S (a.ns - 1)).order = 0
 stop : (a.S a.st.toNat).kind ≠ 3
def Lns.through (a : Lns) (i : Nat) : Prop := (a.S i).glass = mirror ∨ (a.S i).kind = 3 ∨ (a.S i).kind = 4 ∨ i + 1 = a.ns
def Lns.ahead (a : Lns) (i j : Nat) : Int := if i = 0 then 10000000 else a.ix (i - 1) j
structure Lns.opt (a : Lns) : Prop where
 base : Lns.ok a
 ir : ∀ i j, i < a.ns → j < a.nw → 10000000 ≤ a.ix i j ∧ a.ix i j ≤ 40000000
 it : ∀ i j, i < a.ns → a.through i → j < a.nw → a.ix i j = a.ahead i j
 ia : ∀ i j, i < a.ns → ¬ a.through i → (a.S i).glass = { data := #[] } → j < a.nw → a.ix i j = 10000000
section
section
variable {P : Program} {ops : Array Oper} {rest : List Oper} {o : Oper} {a : Act} {Q : Exit → Act → World → Prop}
theorem wpList_copy_rd (w : World) (hg : o.guard = none) (d s : Operand) (dT sT : TypeId) (ho : o.op = .call { callee := .builtin .copy, args := #[d, s], argTypes := #[dT, sT] })
  (hu : P.underlying dT = some (.slice 3)) (hsz : (P.info? 3).map (·.size) = some 1)
  (g N cap R : Nat) (h : Nat → Int) (p : Option Addr) (n c : Nat) (f : Nat → Int) (hd : a.eval d = .slice (some ⟨g, 0, none⟩) N cap) (hs : a.eval s = .slice p n c)
  (hrow : RowF w g R h) (hsrc : RdF w p n c f) (hnN : n ≤ N) (hNR : N ≤ R) (B : Nat) (w0 : World) (hb : Below B w0 w) (hBg : B ≤ g)
  (hK : ∀ w', RowF w' g R (fun j => if j < n then f j else h j) → Below B w0 w' → wpList P ops Q rest (a.put o.dst (goInt n)) w') :
  wpList P ops Q (o :: rest) a w := by
 obtain ⟨cs, h1, h2, h3⟩ := hrow
 have hlen : ((List.range n).map fun i => Value.int .i64 (f i)).length = n := by simp
 refine wpList_copy_splice (w := w) hg d s dT sT ho 3 hu hsz _ _ N cap n c hd hs g 0 cs.toList 3 (by simpa using h1) ((List.range n).map fun i => Value.int .i64 (f i)) (by rw [hlen]; exact (Nat.min_eq_left hnN).symm) ?_ (by rw [hlen]; simp; omega) ?_ B w0 hb hBg ?_
 ·intro hp
  rw [hlen] at hp
  obtain ⟨_, _, hx⟩ := hsrc
  obtain ⟨b, off, rfl, _, hcell⟩ := hx hp
  refine ⟨rfl, _, rfl, fun j v hj => ?_⟩
  simp only [List.getElem?_map, Option.map_eq_some_iff] at hj
  obtain ⟨i, hi, rfl⟩ := hj
  obtain ⟨hlt, he⟩ := List.getElem?_eq_some_iff.1 hi
  simp at hlt he
  subst he
  have := hcell j hlt
  by_cases h0 : j = 0
  ·subst h0; simpa [Addr.add] using this
  ·simpa [Addr.add, h0] using this
 ·intro v hv
  simp at hv
  obtain ⟨i, _, rfl⟩ := hv
  rfl
 ·intro w' hw' hb'
  rw [hlen]
  refine hK w' ⟨_, hw'.out, ?_, fun j hj => ?_⟩ hb'
  ·simp [splice]; omega
  ·simp only [splice, List.take_zero, List.nil_append, Nat.zero_add, hlen]
   simp only [List.getElem?_toArray, List.getElem?_append, List.length_map, List.length_range, List.getElem?_drop]
   by_cases hjn : j < n
   ·simp [hjn]
   ·simp only [hjn, if_false]
    rw [show n + (j - n) = j by omega]
    simpa using h3 j hj
end
end
end Go.Mono
namespace Go.Proofs.YtcgfdibagldafaaGreatDoor
open Go.RowKit Go.Mono
theorem repeat1_ok (p : Option Addr) (c : Nat) (z : Int) (w : World) (h : RdF w p 1 c (fun _ => z)) :
  Calls Tryz.prog 206 #[.slice p 1 c, .int .i64 1] w fun e w' => ∃ p' c', e = .returned (.slice p' 1 c') ∧ RdF w' p' 1 c' (fun _ => z) ∧ Below w.heap.size w w' := by
 go_enter Tryz.func206, Tryz.ntmps206
 go_wp2_with first | (at_make; refine wpList_make_ints _ rfl _ _ 48 rfl Tryz.underlying48 infoInt _ _ 1 rfl rfl (by simp) (by simp) (by omega) ?_; intro w1 r1 b1; have s1 := b1.size; have L1 := r1.lt) | (with_reducible refine wpList_copy_rd _ rfl (.tmp 31) (.tmp 32) 48 48 rfl Tryz.underlying48 sizeInt w.heap.size 1 _ 1 _ _ 1 c (fun _ => z) rfl rfl r1 (h.below b1) (by omega) (by omega) w.heap.size w b1 (Nat.le_refl _) ?_; intro w2 r2 b2) | go_in
 go_loopw [8] (fun a wr => a = .int .i64 1 ∧ wr = w2) (fun _ _ => 0)
 case atStart => exact ⟨rfl, rfl⟩
 case round =>
  obtain ⟨rfl, rfl⟩ := hrel
  go_wp2
  go_ret
  refine ⟨_, _, rfl, ⟨by omega, by omega, fun _ => ⟨_, 0, rfl, r2.lt, fun i hi => ?_⟩⟩, b2⟩
  rw [Nat.zero_add, r2.cell i hi]
  simp [hi]
theorem air1_ok (M : Nat) (pw : Option Addr) (cw : Nat) (w : World) (hw : w.cell? ⟨M, 6, none⟩ = some (.slice pw 1 cw)) :
  Calls Tryz.prog 154 #[.pointer (some ⟨M, 0, none⟩)] w fun e w' => ∃ p' c', e = .returned (.slice p' 1 c') ∧ RdF w' p' 1 c' (fun _ => 10000000) ∧ Below w.heap.size w w' := by
 have hlt : M < w.heap.size := block_lt_of_cell hw
 go_enter Tryz.func154, Tryz.ntmps154
 go_wp2_with fail
 refine boxes1c fun W hB hs b0 => ?_
 refine (repeat1_ok _ _ 10000000 W (.box b0 0 1 _ (fun i hi => by obtain rfl : i = 0 := (by omega); rfl) (by omega))).mono ?_
 rintro e w' ⟨p', c', rfl, hr, hb⟩
 go_wp2
 go_ret
 exact ⟨_, _, rfl, hr, belowCall hB hb⟩
end Go.Proofs.YtcgfdibagldafaaGreatDoor
