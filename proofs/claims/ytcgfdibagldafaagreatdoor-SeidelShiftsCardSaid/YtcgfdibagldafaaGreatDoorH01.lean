/- The law SeidelShifts: Shift equals the reference: its walk by a verified evaluator, and its card. Part 1 of 11. No condition beside the row. -/
import Derived.Test.YtcgfdibagldafaaGreatDoorA29
import Derived.Test.YtcgfdibagldafaaGreatDoorG03
import Derived.Test.YtcgfdibagldafaaGreatDoorG05
import Derived.Test.YtcgfdibagldafaaGreatDoorG06
set_option linter.unusedVariables false
set_option linter.unusedSimpArgs false
set_option maxRecDepth 100000
set_option maxHeartbeats 4000000
namespace Go.Ex
open Go.Mono
def monF {α : Type} : Mon → (Mon → α) → α
 | [], k => k []
 | e :: r, k => ncase e fun e => monF r fun r => k (e :: r)
theorem monF_eq {α : Type} : ∀ (m : Mon) (k : Mon → α), monF m k = k m
 | [], k => rfl
 | e :: r, k => by unfold monF; rw [ncase_eq, monF_eq r]
def polF {α : Type} : Pol → (Pol → α) → α
 | [], k => k []
 | t :: r, k => icase t.1.n fun n => ncase t.1.d fun d => monF t.2 fun m => polF r fun r => k ((⟨n, d⟩, m) :: r)
theorem polF_eq {α : Type} : ∀ (p : Pol) (k : Pol → α), polF p k = k p
 | [], k => rfl
 | t :: r, k => by unfold polF; rw [icase_eq, ncase_eq, monF_eq, polF_eq r]
def Cf.inv (c : Cf) : Option Cf :=
 match c.n with
 | .ofNat 0 => none
 | .ofNat (k + 1) => some (Cf.low (Int.ofNat (c.d + 1)) (k + 1))
 | .negSucc k => some (Cf.low (-Int.ofNat (c.d + 1)) (k + 1))
theorem Cf.inv_ev {c e : Cf} (h : c.inv = some e) : e.ev = c.ev⁻¹ ∧ c.ev ≠ 0 := by
 unfold Cf.inv at h
 have key : ∀ n : Int, n ≠ 0 → c.n = n → c.ev⁻¹ = Rat.divInt (c.d + 1 : Nat) n ∧ c.ev ≠ 0 := by
  intro n hn e
  unfold Cf.ev
  rw [e]
  refine ⟨?_, fun h => hn ((Rat.mkRat_eq_zero (Nat.succ_ne_zero _)).1 h)⟩
  rw [← Rat.divInt_ofNat, Rat.inv_divInt]
 split at h
 ·cases h
 ·rename_i k hn
  cases h
  rw [Cf.low_ev _ _ (Nat.succ_pos k), ← Rat.divInt_ofNat]
  exact ⟨((key _ (by simp; omega) hn).1).symm, (key _ (by simp; omega) hn).2⟩
 ·rename_i k hn
  cases h
  rw [Cf.low_ev _ _ (Nat.succ_pos k), ← Rat.divInt_ofNat]
  refine ⟨?_, (key _ (by omega) hn).2⟩
  rw [(key _ (by omega) hn).1, Int.negSucc_eq, Rat.divInt_neg']
  rfl
end Go.Ex
namespace Go.Proofs.YtcgfdibagldafaaGreatDoor
open Go.RowKit Go.Mono Go.Ex
section
section
variable {K : Nat → Value} {hK : ∀ i, (K i).oneCell' = true}
def asP (l : List U) : Option Pol :=
 match l with
 | [.qe p] => some p
 | [.quo q] => icase q.num fun n => ncase q.den fun d => match d with
   | 0 => none
   | d + 1 => some (polC n d)
 | _ => none
theorem den_qe {ρ : Nm} {w : World} {p : Pol} {v : Value} : denA (qDen K hK) ρ w (.agg [.qe p]) v ↔ QV w v (polEv (qDen K hK).env p) := den_quo (q := polEv (qDen K hK).env p)
theorem asP_ok {ρ : Nm} {w : World} {l : List U} {p : Pol} (h : asP l = some p) {v : Value} (hv : denA (qDen K hK) ρ w (.agg l) v) : QV w v (polEv (qDen K hK).env p) := by
 unfold asP at h
 split at h
 ·cases h
  exact den_qe.1 hv
 ·rename_i q
  rw [icase_eq, ncase_eq] at h
  split at h
  ·cases h
  ·rename_i d hd
   cases h
   have := den_quo.1 hv
   rw [polC_ev, show d + 1 = q.den from hd.symm, Rat.mkRat_self]
   exact this
 ·cases h
theorem szB_fits {ks : List Nat} (hks : LetS (qDen K hK).env ks) {p : Pol} (h : szB ks p = true) : Fits (polEv (qDen K hK).env p) := by
 unfold szB at h
 split at h
 ·rename_i n hn
  exact (szP_ok hks p n hn).fits (Nat.le_of_ble_eq_true h)
 ·cases h
def binRunP (ks : List Nat) (op : Pol → Pol → Option Pol) (args : List SA) (bk : List (Nat × Blk)) (orc : List (Option Bool)) : Option (SV × List Prop × List (Option Bool)) :=
 match args with
 | [.agg x, .agg y] => match asP x, asP y with
   | some a, some b => match op a b with
     | some p => polF p fun p => if szB ks p then some (.tup [.agg [.qe p], okV], [], orc) else none
     | none => none
   | _, _ => none
 | _ => none
def binSpecP (ks : List Nat) (hks : LetS (qDen K hK).env ks) (w0 : World) (X : Nat → Prop) (f : FuncId) (op : Pol → Pol → Option Pol) (rop : Rat → Rat → Rat)
    (h : ∀ (p q r : Pol) (u v : Value) (w : World), op p q = some r → Fits (polEv (qDen K hK).env r) → QV w u (polEv (qDen K hK).env p) → QV w v (polEv (qDen K hK).env q) →
     Calls Tryz.prog f #[u, v] w fun e w' => ∃ z, e = .returned (.tuple #[z, .int .i64 0]) ∧ QV w' z (polEv (qDen K hK).env r) ∧ Below w.heap.size w w') : Ctr (qDen K hK) Tryz.prog w0 X := .plain f (binRunP ks op) <| by
    intro args bk orc v obl orc' hr hobl ρ w vals hfr hb hargs
    unfold binRunP at hr
    split at hr
    ·rename_i x y
     split at hr
     ·rename_i a b ha hb'
      split at hr
      ·rename_i p hp
       rw [polF_eq] at hr
       split at hr
       ·rename_i hs
        cases hr
        obtain ⟨v1, r1, rfl, h1, v2, r2, rfl, h2, h3⟩ := hargs
        obtain rfl : r2 = [] := h3
        refine (h a b p v1 v2 w hp (szB_fits hks hs) (asP_ok ha h1) (asP_ok hb' h2)).mono ?_
        rintro e w' ⟨r, rfl, hr, hbl⟩
        exact ⟨_, rfl, ⟨[r, .int .i64 0], rfl, _, _, rfl, den_qe.2 hr, _, _, rfl, ⟨rfl, rfl⟩, rfl⟩, hbl⟩
       ·cases hr
      ·cases hr
     ·cases hr
    ·cases hr
def polDiv (p q : Pol) : Option Pol :=
 match polK q with
 | some c => match c.inv with
   | some e => some (polScale e [] p)
   | none => none
 | none => none
theorem polDiv_ok {env : Nat → Rat} {p q r : Pol} (h : polDiv p q = some r) : polEv env r = polEv env p / polEv env q ∧ polEv env q ≠ 0 := by
 unfold polDiv at h
 split at h
 ·rename_i c hc
  split at h
  ·rename_i e he
   cases h
   obtain ⟨h1, h2⟩ := Cf.inv_ev he
   rw [polScale_ev, polK_ev env hc, h1]
   exact ⟨by simp only [monEv]; rw [Rat.mul_one, Rat.div_def, Rat.mul_comm], h2⟩
  ·cases h
 ·cases h
def cAddP (ks : List Nat) (hks : LetS (qDen K hK).env ks) (w0 : World) (X : Nat → Prop) : Ctr (qDen K hK) Tryz.prog w0 X := binSpecP ks hks w0 X 17 (fun p q => some (polAdd p q)) (fun a b => a + b) fun p q r u v w h hf h1 h2 => by
 cases h
 rw [polAdd_ev] at hf ⊢
 exact add_ok _ _ u v w w (Ext.refl _) h1 h2 hf
def cSubP (ks : List Nat) (hks : LetS (qDen K hK).env ks) (w0 : World) (X : Nat → Prop) : Ctr (qDen K hK) Tryz.prog w0 X := binSpecP ks hks w0 X 46 (fun p q => some (polSub p q)) (fun a b => a - b) fun p q r u v w h hf h1 h2 => by
 cases h
 rw [polSub_ev] at hf ⊢
 exact sub_ok _ _ u v w w (Ext.refl _) h1 h2 hf
def cMulP (ks : List Nat) (hks : LetS (qDen K hK).env ks) (w0 : World) (X : Nat → Prop) : Ctr (qDen K hK) Tryz.prog w0 X := binSpecP ks hks w0 X 16 (fun p q => some (polMul p q)) (fun a b => a * b) fun p q r u v w h hf h1 h2 => by
 cases h
 rw [polMul_ev] at hf ⊢
 exact mul_ok _ _ u v w w (Ext.refl _) h1 h2 hf
def cDivP (ks : List Nat) (hks : LetS (qDen K hK).env ks) (w0 : World) (X : Nat → Prop) : Ctr (qDen K hK) Tryz.prog w0 X := binSpecP ks hks w0 X 57 polDiv (fun a b => a / b) fun p q r u v w h hf h1 h2 => by
 obtain ⟨e, hz⟩ := polDiv_ok (env := (qDen K hK).env) h
 rw [e] at hf ⊢
 exact div_ok _ _ u v w w (Ext.refl _) h1 h2 (fun hn => hz (Rat.num_eq_zero.1 hn)) hf
def cR4AddP (ks : List Nat) (hks : LetS (qDen K hK).env ks) (w0 : World) (X : Nat → Prop) : Ctr (qDen K hK) Tryz.prog w0 X := binSpecP ks hks w0 X 128 (fun p q => some (polAdd p q)) (fun a b => a + b) fun p q r u v w h hf h1 h2 => by
 cases h
 rw [polAdd_ev] at hf ⊢
 exact (r4add_ok w h1.qt h2.qt hf).mono fun e w' ⟨C, e1, hC, hb⟩ => ⟨_, e1, hC.qv, hb⟩
def cR4MulP (ks : List Nat) (hks : LetS (qDen K hK).env ks) (w0 : World) (X : Nat → Prop) : Ctr (qDen K hK) Tryz.prog w0 X := binSpecP ks hks w0 X 130 (fun p q => some (polMul p q)) (fun a b => a * b) fun p q r u v w h hf h1 h2 => by
 cases h
 rw [polMul_ev] at hf ⊢
 exact (r4mul_ok w h1.qt h2.qt hf).mono fun e w' ⟨C, e1, hC, hb⟩ => ⟨_, e1, hC.qv, hb⟩
def ofP (args : List SA) (orc : List (Option Bool)) (env : Nat → Rat) : Option (Pol × List Prop × List (Option Bool)) :=
 match args with
 | [.one (.val (.int .i64 n)), .one (.val (.int .i64 (.ofNat (k + 1))))] => if -9223372036854775808 ≤ n ∧ n ≤ 9223372036854775807 ∧ k + 1 ≤ 9223372036854775807 then some (polC n k, [], orc) else none
 | [.one (.sym z), .one (.val (.int .i64 (.ofNat (k + 1))))] => if k + 1 ≤ 9223372036854775807 then some (polScale (Cf.low 1 (k + 1)) [] (polVar (unar orc).1), [inR z, (z : Rat) = env (unar orc).1], (unar orc).2) else none
 | _ => none
theorem ofP_ok {env : Nat → Rat} {args : List SA} {orc orc' : List (Option Bool)} {p : Pol} {L : List Prop} (h : ofP args orc env = some (p, L, orc')) (hL : ∀ q ∈ L, q) {ρ : Nm} {w : World} {vals : List Value} (hv : denAs (qDen K hK) ρ w args vals) :
  ∃ n d : Int, vals = [.int .i64 n, .int .i64 d] ∧ -9223372036854775808 ≤ n ∧ n ≤ 9223372036854775807 ∧ 0 < d ∧ d ≤ 9223372036854775807 ∧ polEv env p = Rat.divInt n d := by
 unfold ofP at h
 split at h
 ·rename_i n k
  split at h
  ·rename_i hc
   cases h
   obtain ⟨v1, r1, rfl, h1, v2, r2, rfl, h2, h3⟩ := hv
   obtain rfl : r2 = [] := h3
   obtain rfl : v1 = .int .i64 n := by simpa using h1.1
   obtain rfl : v2 = .int .i64 (Int.ofNat (k + 1)) := by simpa using h2.1
   exact ⟨n, _, rfl, hc.1, hc.2.1, Int.ofNat_lt.2 (Nat.succ_pos k), by have := hc.2.2; exact Int.ofNat_le.2 this, by rw [polC_ev, ← Rat.divInt_ofNat]; rfl⟩
  ·cases h
 ·rename_i z k
  split at h
  ·rename_i hc
   cases h
   obtain ⟨v1, r1, rfl, h1, v2, r2, rfl, h2, h3⟩ := hv
   obtain rfl : r2 = [] := h3
   obtain rfl : v1 = .int .i64 z := by simpa [denA, denU] using h1
   obtain rfl : v2 = .int .i64 (Int.ofNat (k + 1)) := by simpa using h2.1
   have hz := hL (inR z) (by simp)
   have he := hL ((z : Rat) = env (unar orc).1) (by simp)
   refine ⟨z, _, rfl, hz.1, hz.2, Int.ofNat_lt.2 (Nat.succ_pos k), Int.ofNat_le.2 hc, ?_⟩
   rw [polScale_ev, polVar_ev, ← he, Cf.low_ev _ _ (Nat.succ_pos k), ← Rat.divInt_ofNat]
   simp only [monEv]
   rw [Rat.mul_one, Rat.divInt_eq_div, Rat.divInt_eq_div]
   show ((1 : Int) : Rat) / ((k + 1 : Nat) : Int) * (z : Rat) = (z : Rat) / ((k + 1 : Nat) : Int)
   rw [Rat.div_def, Rat.div_def, Rat.intCast_one, Rat.one_mul, Rat.mul_comm]
  ·cases h
 ·cases h
def ofRunP (env : Nat → Rat) (args : List SA) (bk : List (Nat × Blk)) (orc : List (Option Bool)) : Option (SV × List Prop × List (Option Bool)) :=
 match ofP args orc env with
 | some (p, L, orc') => polF p fun p => some (.tup [.agg [.qe p], okV], L, orc')
 | none => none
def cOfP (w0 : World) (X : Nat → Prop) : Ctr (qDen K hK) Tryz.prog w0 X := .plain 53 (ofRunP (qDen K hK).env) <| by
    intro args bk orc v obl orc' hr hobl ρ w vals hfr hb hargs
    unfold ofRunP at hr
    split at hr
    ·rename_i p L o hp
     rw [polF_eq] at hr
     cases hr
     obtain ⟨n, d, rfl, a1, a2, b1, b2, e⟩ := ofP_ok hp hobl hargs
     refine (qof_ok n d (by omega) w a1 a2 (by omega) b2).mono ?_
     rintro e' w' ⟨r, rfl, hr, hbl⟩
     rw [← e] at hr
     exact ⟨_, rfl, ⟨[r, .int .i64 0], rfl, _, _, rfl, den_qe.2 hr, _, _, rfl, ⟨rfl, rfl⟩, rfl⟩, hbl⟩
    ·cases hr
def cR4OfP (w0 : World) (X : Nat → Prop) : Ctr (qDen K hK) Tryz.prog w0 X := .plain 95 (ofRunP (qDen K hK).env) <| by
    intro args bk orc v obl orc' hr hobl ρ w vals hfr hb hargs
    unfold ofRunP at hr
    split at hr
    ·rename_i p L o hp
     rw [polF_eq] at hr
     cases hr
     obtain ⟨n, d, rfl, a1, a2, b1, b2, e⟩ := ofP_ok hp hobl hargs
     refine (r4of_ok n d w b1 a1 a2 b2).mono ?_
     rintro e' w' ⟨C, rfl, hC, hbl⟩
     rw [← e] at hC
     exact ⟨_, rfl, ⟨[_, .int .i64 0], rfl, _, _, rfl, den_qe.2 (hC.mono (by decide)).qv, _, _, rfl, ⟨rfl, rfl⟩, rfl⟩, hbl⟩
    ·cases hr
def sameP (env : Nat → Rat) (a b : Pol) : SV :=
 polF (polSub a b) fun r => match r with
  | [] => .a (.one (.val (.bool true)))
  | [(c, [])] => bif isZ0 c.n then .a (.one (.tst (decide (polEv env a = polEv env b)))) else .a (.one (.val (.bool false)))
  | _ => .a (.one (.tst (decide (polEv env a = polEv env b))))
theorem sameP_ok {env : Nat → Rat} {a b : Pol} {D : Den} {ρ : Nm} {w : World} : denV D ρ w (sameP env a b) (.bool (decide (polEv env a = polEv env b))) := by
 unfold sameP
 rw [polF_eq]
 have hs := polSub_ev env a b
 split
 ·rename_i h
  rw [h] at hs
  have : polEv env a = polEv env b := by
   simp only [polEv] at hs
   grind
  rw [decide_eq_true this]
  exact ⟨rfl, rfl⟩
 ·rename_i c h
  rw [h] at hs
  cases hz : isZ0 c.n with
  | true => exact rfl
  | false =>
    have : ¬ polEv env a = polEv env b := by
     intro e
     rw [e, polK_ev env (c := c) rfl, Rat.sub_self] at hs
     unfold Cf.ev at hs
     rw [Rat.mkRat_eq_zero (Nat.succ_ne_zero _)] at hs
     rw [hs] at hz
     cases hz
    rw [decide_eq_false this]
    exact ⟨rfl, rfl⟩
 ·exact rfl
def sameRunP (env : Nat → Rat) (args : List SA) (bk : List (Nat × Blk)) (orc : List (Option Bool)) : Option (SV × List Prop × List (Option Bool)) :=
 match args with
 | [.agg x, .agg y] => match asP x, asP y with
   | some a, some b => some (sameP env a b, [], orc)
   | _, _ => none
 | _ => none
def cSameP (w0 : World) (X : Nat → Prop) : Ctr (qDen K hK) Tryz.prog w0 X := .plain 14 (sameRunP (qDen K hK).env) <| by
    intro args bk orc v obl orc' hr hobl ρ w vals hfr hb hargs
    unfold sameRunP at hr
    split at hr
    ·rename_i x y
     split at hr
     ·rename_i a b ha hb'
      cases hr
      obtain ⟨v1, r1, rfl, h1, v2, r2, rfl, h2, h3⟩ := hargs
      obtain rfl : r2 = [] := h3
      refine (qsame_ok v1 v2 _ _ w w (Ext.refl _) (asP_ok ha h1) (asP_ok hb' h2)).mono ?_
      rintro e w' ⟨rfl, hbl⟩
      exact ⟨_, rfl, sameP_ok, hbl⟩
     ·cases hr
    ·cases hr
def cR4SameP (w0 : World) (X : Nat → Prop) : Ctr (qDen K hK) Tryz.prog w0 X := .plain 131 (sameRunP (qDen K hK).env) <| by
    intro args bk orc v obl orc' hr hobl ρ w vals hfr hb hargs
    unfold sameRunP at hr
    split at hr
    ·rename_i x y
     split at hr
     ·rename_i a b ha hb'
      cases hr
      obtain ⟨v1, r1, rfl, h1, v2, r2, rfl, h2, h3⟩ := hargs
      obtain rfl : r2 = [] := h3
      refine (r4same_ok w (asP_ok ha h1).qt (asP_ok hb' h2).qt).mono ?_
      rintro e w' ⟨rfl, hbl⟩
      exact ⟨_, rfl, sameP_ok, hbl⟩
     ·cases hr
    ·cases hr
def cCheckP (w0 : World) (X : Nat → Prop) : Ctr (qDen K hK) Tryz.prog w0 X := .plain 67 (fun args _ orc => match args with
    | [.agg [.bad]] => some (.a (.one (.val (.int .i64 40))), [], orc)
    | [.agg x] => match asP x with
      | some _ => some (.a okV, [], orc)
      | none => if isZ x then some (.a (.one (.val (.int .i64 40))), [], orc) else none
    | _ => none) <| by
    intro args bk orc v obl orc' hr hobl ρ w vals hfr hb hargs
    split at hr
    ·cases hr
     obtain ⟨v1, r1, rfl, ⟨cs, rfl, c, d, rfl, h1, hd⟩, h3⟩ := hargs
     obtain rfl : r1 = [] := h3
     obtain rfl : d = [] := hd
     rw [List.append_nil]
     refine (qcheckBad_ok c w h1).mono ?_
     rintro e w' ⟨rfl, hbl⟩
     exact ⟨_, rfl, ⟨rfl, rfl⟩, hbl⟩
    ·rename_i x _
     obtain ⟨v1, r1, rfl, h1, h3⟩ := hargs
     obtain rfl : r1 = [] := h3
     split at hr
     ·rename_i a ha
      cases hr
      refine (qcheck_ok v1 _ w w (Ext.refl _) (asP_ok ha h1)).mono ?_
      rintro e w' ⟨rfl, hbl⟩
      exact ⟨_, rfl, ⟨rfl, rfl⟩, hbl⟩
     ·split at hr
      ·rename_i hz
       cases hr
       unfold isZ at hz
       split at hz
       ·obtain ⟨cs, rfl, c1, d1, rfl, ⟨rfl, _⟩, c2, d2, rfl, ⟨rfl, _⟩, c3, d3, rfl, ⟨rfl, _⟩, c4, d4, rfl, ⟨rfl, _⟩, hd4⟩ := h1
        obtain rfl : d4 = [] := hd4
        refine (qcheck_z0 w).mono ?_
        rintro e w' ⟨rfl, hbl⟩
        exact ⟨_, rfl, ⟨rfl, rfl⟩, hbl⟩
       ·cases hz
      ·cases hr
    ·cases hr
def cR4RightP (w0 : World) (X : Nat → Prop) : Ctr (qDen K hK) Tryz.prog w0 X := .plain 174 (fun args _ orc => match args with
    | [.agg [.bad]] => some (.a (.one (.val (.bool false))), [], orc)
    | [.agg x] => match asP x with
      | some _ => some (.a (.one (.val (.bool true))), [], orc)
      | none => none
    | _ => none) <| by
    intro args bk orc v obl orc' hr hobl ρ w vals hfr hb hargs
    split at hr
    ·cases hr
     obtain ⟨v1, r1, rfl, ⟨cs, rfl, c, d, rfl, h1, hd⟩, h3⟩ := hargs
     obtain rfl : r1 = [] := h3
     obtain rfl : d = [] := hd
     rw [List.append_nil]
     refine (r4rightBad_ok c w h1).mono ?_
     rintro e w' ⟨rfl, hbl⟩
     exact ⟨_, rfl, ⟨rfl, rfl⟩, hbl⟩
    ·rename_i x _
     obtain ⟨v1, r1, rfl, h1, h3⟩ := hargs
     obtain rfl : r1 = [] := h3
     split at hr
     ·rename_i a ha
      cases hr
      refine (r4right_ok w (asP_ok ha h1).qt).mono ?_
      rintro e w' ⟨rfl, hbl⟩
      exact ⟨_, rfl, ⟨rfl, rfl⟩, hbl⟩
     ·cases hr
    ·cases hr
def spP (ks : List Nat) (hks : LetS (qDen K hK).env ks) (w0 : World) (X : Nat → Prop) : List (Ctr (qDen K hK) Tryz.prog w0 X) :=
 [cAddP ks hks w0 X, cSubP ks hks w0 X, cMulP ks hks w0 X, cDivP ks hks w0 X, cOfP w0 X, cSameP w0 X, cCheckP w0 X, cR4AddP ks hks w0 X, cR4MulP ks hks w0 X, cR4OfP w0 X, cR4SameP w0 X, cR4RightP w0 X]
end
end
def lK (m : Nat) (l : List Rat) : Nat → Value
 | 0 => .map (some m)
 | i => if 1000 ≤ i then (if i % 2 = 0 then .int .i64 ((l.getD ((i - 1000) / 2) 0).num) else .int .i64 ((l.getD ((i - 1000) / 2) 0).den)) else .bool false
theorem lK1 (m : Nat) (l : List Rat) (i : Nat) : (lK m l i).oneCell' = true := by
 unfold lK
 split
 ·rfl
 ·split
  ·split <;> rfl
  ·rfl
theorem lK_env (m : Nat) (l : List Rat) (i : Nat) : (qDen (lK m l) (lK1 m l)).env i = l.getD i 0 := by
 show (match lK m l (1000 + 2 * i), lK m l (1001 + 2 * i) with
  | .int _ n, .int _ d => mkRat n d.toNat
  | _, _ => 0) = _
 have e1 : lK m l (1000 + 2 * i) = .int .i64 ((l.getD i 0).num) := by
  unfold lK
  split
  ·omega
  ·rw [if_pos (by omega), if_pos (by omega), show (1000 + 2 * i - 1000) / 2 = i by omega]
 have e2 : lK m l (1001 + 2 * i) = .int .i64 ((l.getD i 0).den) := by
  unfold lK
  split
  ·omega
  ·rw [if_pos (by omega), if_neg (by omega), show (1001 + 2 * i - 1000) / 2 = i by omega]
 rw [e1, e2]
 dsimp only
 rw [Int.toNat_natCast, Rat.mkRat_self]
theorem lK_let {m : Nat} {l : List Rat} {ks : List Nat} (h : ∀ i k, ks[i]? = some k → Hs k (l.getD i 0)) : LetS (qDen (lK m l) (lK1 m l)).env ks := fun i k hi => by
 rw [lK_env]
 exact h i k hi
end Go.Proofs.YtcgfdibagldafaaGreatDoor
