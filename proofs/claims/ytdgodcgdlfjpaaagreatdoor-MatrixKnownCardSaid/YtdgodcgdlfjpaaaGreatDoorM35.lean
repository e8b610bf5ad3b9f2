/- The law MatrixKnown: the examples of the ray transfer matrices, afocal lenses, mirrors and the order of errors; its walk by a verified evaluator of the model, and its card. Part 35 of 36. No condition beside the row. -/
import Derived.Test.YtdgodcgdlfjpaaaGreatDoorM18
import Derived.Test.YtdgodcgdlfjpaaaGreatDoorM31
import Derived.Test.YtdgodcgdlfjpaaaGreatDoorM34
set_option linter.unusedVariables false
set_option linter.unusedSimpArgs false
set_option maxRecDepth 100000
set_option maxHeartbeats 4000000
namespace Go.Proofs.YtdgodcgdlfjpaaaGreatDoor
open Go.RowKit Go.Mono Go.Ex
section
variable {K : Nat → Value} {hK : ∀ i, (K i).oneCell' = true}
def viewRun (val : Lns → Nat → Nat → Option Rat) (args : List SA) (bk : List (Nat × Blk)) (orc : List (Option Bool)) : Option (SV × List Prop × List (Option Bool)) :=
 match args with
 | [.agg [x0, x1, x2, x3, x4, x5, x6, x7, x8, x9, .val (.int .i64 (.ofNat k))], .one (.val (.int .i64 (.ofNat s)))] => match parseO bk [x0, x1, x2, x3, x4, x5, x6, x7, x8, x9] with
   | some a => if a.optB && Nat.beq a.nw 1 && Nat.blt k a.nw && Nat.blt s a.ns then (val a k s).bind fun q => qcase q fun q => some (.a (.agg [.quo q]), [], orc) else none
   | none => none
 | _ => none
def viewSpec (w0 : World) (X : Nat → Prop) (f : FuncId) (val : Lns → Nat → Nat → Option Rat)
    (h : ∀ (a : Lns) (k s : Nat) (q : Rat), val a k s = some q → a.opt → ∀ (pl : Plc) (w : World), Frm w0 X w → Chk a pl → OptAt w a pl → s < a.ns → k < a.nw → Calls Tryz.prog f #[.agg (a.vvals pl k), .int .i64 (s : Int)] w fun e w' => ∃ C, e = .returned (.agg C) ∧ QV w' (.agg C) q ∧ Below w.heap.size w w') :
    Ctr (qDen K hK) Tryz.prog w0 X := .plain f (viewRun val) <| by
    intro args bk orc v obl orc' hr hobl ρ w vals hfr hb hargs
    unfold viewRun at hr
    split at hr
    ·rename_i x0 x1 x2 x3 x4 x5 x6 x7 x8 x9 k s
     split at hr
     ·rename_i a ha
      split at hr
      ·rename_i hok
       rw [Bool.and_eq_true, Bool.and_eq_true, Bool.and_eq_true] at hok
       obtain ⟨⟨⟨o1, o2⟩, o3⟩, o4⟩ := hok
       obtain ⟨q, hq, e⟩ := Option.bind_eq_some_iff.1 hr
       rw [qcase_eq] at e
       cases e
       have o2 := Nat.eq_of_beq_eq_true o2
       rw [Nat.blt_eq] at o3 o4
       obtain ⟨v1, r1, rfl, ⟨cs, rfl, h1⟩, v2, r2, rfl, h2, h3⟩ := hargs
       obtain rfl : r2 = [] := h3
       obtain rfl : v2 = .int .i64 (s : Int) := by simpa using h2.1
       obtain ⟨cs1, rfl, h9⟩ : ∃ cs1, cs = cs1 ++ [Value.int .i64 (k : Int)] ∧ denL (qDen K hK) ρ w [x0, x1, x2, x3, x4, x5, x6, x7, x8, x9] cs1 := by
        obtain ⟨b0, _, rfl, g0, b1, _, rfl, g1, b2, _, rfl, g2, b3, _, rfl, g3, b4, _, rfl, g4, b5, _, rfl, g5, b6, _, rfl, g6, b7, _, rfl, g7, b8, _, rfl, g8, b9, _, rfl, g9, b10, r10, rfl, ⟨rfl, _⟩, g11⟩ := h1
        obtain rfl : r10 = [] := g11
        exact ⟨b0 ++ (b1 ++ (b2 ++ (b3 ++ (b4 ++ (b5 ++ (b6 ++ (b7 ++ (b8 ++ (b9 ++ []))))))))), by simp [List.append_assoc], ⟨_, _, rfl, g0, _, _, rfl, g1, _, _, rfl, g2, _, _, rfl, g3, _, _, rfl, g4, _, _, rfl, g5, _, _, rfl, g6, _, _, rfl, g7, _, _, rfl, g8, _, _, rfl, g9, rfl⟩⟩
       obtain ⟨pl, q5, q6⟩ := parseO_ok hb ha h9
       have hopt := Lns.optB_ok o1
       have e9 : (cs1 ++ [Value.int .i64 (k : Int)]).toArray = a.vvals pl k := by
        have : (cs1 ++ [Value.int .i64 (k : Int)]).toArray = cs1.toArray.push (Value.int .i64 (k : Int)) := by simp
        rw [this, q5]
        rfl
       rw [e9]
       refine (h a k s q hq hopt pl w hfr (fun W hW => ocheck1 a hopt o2 pl W hW) q6 o4 o3).mono ?_
       rintro e w' ⟨C, rfl, hC, hbl⟩
       exact ⟨_, rfl, den_quo.2 hC, hbl⟩
      ·cases hr
     ·cases hr
    ·cases hr
def cVIndex (w0 : World) (X : Nat → Prop) : Ctr (qDen K hK) Tryz.prog w0 X := viewSpec w0 X 241 (fun a k s => some (a.nI k s)) fun a k s q hq ha pl w _ hc ho s1 k1 => by
 cases hq
 exact index_ok a ha pl hc s k w ho s1 k1
def powB (a : Lns) (k s : Nat) : Option Rat :=
 match fitC (a.step k s), fitC (a.cv s * a.step k s), fitC (a.gr k s), fitC (a.cv s * a.step k s - a.gr k s) with
 | some _, some _, some _, some _ => some (a.pow k s)
 | _, _, _, _ => none
theorem fitC_ok {q : Rat} {L : List Prop} (h : fitC q = some L) : Fits q := by
 have hL : L = [] := by
  unfold fitC at h
  split at h
  ·cases h; rfl
  ·cases h
 subst hL
 exact sideC.hfit q [] h (by simp)
def cVPower {w0 : World} {m : Nat} (hp : PowsAt w0 m) : Ctr (qDen K hK) Tryz.prog w0 (fun _ => False) := viewSpec w0 _ 239 powB fun a k s q hq ha pl w hfr hc ho s1 k1 => by
 unfold powB at hq
 split at hq
 ·rename_i h1 h2 h3 h4
  cases hq
  exact power_ok a ha pl hc s k w ho s1 k1 ⟨fitC_ok h1, fitC_ok h2, fitC_ok h3, fitC_ok h4⟩ m (hp.below hfr.below)
 ·cases hq
end
def spM {w : World} {m : Nat} (h : PowsAt w m) : List (Ctr (qDen (pK m) (pK1 m)) Tryz.prog w (fun _ => False)) := cOCheck w _ :: cLCheck w _ :: cVIndex w _ :: cVPower h :: cProduct w _ :: spC w (fun _ => False)
theorem mworks_ok (w : World) (m : Nat) (h : PowsAt w m) : Calls Tryz.prog 38 #[] w fun e w' => e = .returned (.bool true) ∧ Below w.heap.size w w' := by
 refine (evRun0 (D := qDen (pK m) (pK1 m)) (d := 30) (orc := []) (args := []) wide_ (spM h) [powF h] (.a (.one (.val (.bool true)))) [] (by kernel_rfl) trivial (vals := []) rfl).mono ?_
 rintro e w' ⟨v, ρ', rfl, hv, hb⟩
 obtain rfl : v = .bool true := by simpa using hv.1
 exact ⟨rfl, hb⟩
def cMWorks {w0 : World} {m : Nat} (h : PowsAt w0 m) : Ctr (qDen (pK m) (pK1 m)) Tryz.prog w0 (fun _ => False) := .plain 38 (fun args _ orc => match args with
    | [] => some (.a (.one (.val (.bool true))), [], orc)
    | _ => none) <| by
 intro args bk orc v obl orc' hr hobl ρ w vals hfr hb hargs
 split at hr
 ·cases hr
  obtain rfl : vals = [] := hargs
  refine (mworks_ok w m (h.below hfr.below)).mono ?_
  rintro e w' ⟨rfl, hb⟩
  exact ⟨_, rfl, ⟨rfl, rfl⟩, hb⟩
 ·cases hr
theorem mknown_ok (w : World) (m : Nat) (h : PowsAt w m) : Calls Tryz.prog 10 #[] w fun e w' => e = .returned (.bool true) ∧ Below w.heap.size w w' := by
 refine (evRun0 (D := qDen (pK m) (pK1 m)) (d := 30) (orc := []) (args := []) wide_ (cMWorks h :: spM h) [powF h] (.a (.one (.val (.bool true)))) [] (by kernel_rfl) trivial (vals := []) rfl).mono ?_
 rintro e w' ⟨v, ρ', rfl, hv, hb⟩
 obtain rfl : v = .bool true := by simpa using hv.1
 exact ⟨rfl, hb⟩
end Go.Proofs.YtdgodcgdlfjpaaaGreatDoor
