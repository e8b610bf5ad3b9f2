/- MatrixGroups: products of drafted matrices whose fractions are letters, walked by the evaluator. Part 6 of 6. No condition beside the row. -/
import Derived.LaidOnce
import Derived.LaidMore
import Derived.ProofKit
import Derived.Stop.Joined
import Derived.Deep.Slices
import Derived.Deep.Strs
import Derived.OpenShut
import Derived.Carry
import Derived.SizedLaws
import Derived.Test.YtccmnjkgfgnmoaaGreatDoorTie
import Derived.Test.YtccmnjkgfgnmoaaGreatDoorCards
import Derived.SevenTiedAt
import Derived.Deep.Onto
import Derived.Test.YtccmnjkgfgnmoaaGreatDoorA29
import Derived.Test.YtccmnjkgfgnmoaaGreatDoorG01
import Derived.Test.YtccmnjkgfgnmoaaGreatDoorG05
set_option linter.unusedVariables false
set_option linter.unusedSimpArgs false
set_option maxRecDepth 100000
set_option maxHeartbeats 4000000
namespace Go.Proofs.YtccmnjkgfgnmoaaGreatDoor
open Go.RowKit Go.Mono Go.Ex
section
section
variable {m : Nat} {l : List Rat} {c0 c1 c2 : List Value}
abbrev DQ (m : Nat) (l : List Rat) (w0 : World) (c : List Value) (o : List U) : Prop := ∀ ρ w, Frm w0 (fun _ => False) w → Calls Tryz.prog 9 #[.agg c.toArray] w fun e w' => ∃ v, e = .returned v ∧ denA (qDen (lK m l) (lK1 m l)) ρ w' (.agg o) v ∧ Below w.heap.size w w'
def spG {w0 : World} (hp : PowsAt w0 m) (hks : LetS (qDen (lK m l) (lK1 m l)).env [27, 27, 27, 27, 27, 27, 27, 27, 27, 27, 27, 27]) {o0 o1 o2 : List U} (h0 : DQ m l w0 c0 o0) (h1 : DQ m l w0 c1 o1) (h2 : DQ m l w0 c2 o2) : List (Ctr (qDen (lK m l) (lK1 m l)) Tryz.prog w0 (fun _ => False)) :=
 cDraft3 w0 _ c0 c1 c2 o0 o1 o2 h0 h1 h2 :: cTrue hp 8 (fun w h => mworks_ok w m h) :: cProductP [27, 27, 27, 27, 27, 27, 27, 27, 27, 27, 27, 27] hks w0 _ :: spP [27, 27, 27, 27, 27, 27, 27, 27, 27, 27, 27, 27] hks w0 _
theorem gr {w0 : World} (hp : PowsAt w0 m) (hks : LetS (qDen (lK m l) (lK1 m l)).env [27, 27, 27, 27, 27, 27, 27, 27, 27, 27, 27, 27]) (h0 : DQ m l w0 c0 [.qe (polVar 0), .qe (polVar 1), .qe (polVar 2), .qe (polVar 3)]) (h1 : DQ m l w0 c1 [.qe (polVar 4), .qe (polVar 5), .qe (polVar 6), .qe (polVar 7)]) (h2 : DQ m l w0 c2 [.qe (polVar 8), .qe (polVar 9), .qe (polVar 10), .qe (polVar 11)]) :
  (evF Tryz.prog (spG hp hks h0 h1 h2) [] 30 [] 3 [.agg [.raw 12 c0], .agg [.raw 12 c1], .agg [.raw 12 c2]] [] 0 0 [some true, some false, some true, some false, some false, some true]).map (fun r => (r.v, r.obl, r.pan)) = some (.a (.one (.val (.bool true))), [c0 = c0, c1 = c1, c2 = c2], none) := by kernel_rfl
theorem gr00 {w0 : World} (hp : PowsAt w0 m) (hks : LetS (qDen (lK m l) (lK1 m l)).env [27, 27, 27, 27, 27, 27, 27, 27, 27, 27, 27, 27]) (h0 : DQ m l w0 c0 [.bad, .qb, .qb, .qb]) (h1 : DQ m l w0 c1 [.qb, .qb, .qb, .qb]) (h2 : DQ m l w0 c2 [.qb, .qb, .qb, .qb]) :
  (evF Tryz.prog (spG hp hks h0 h1 h2) [] 30 [] 3 [.agg [.raw 12 c0], .agg [.raw 12 c1], .agg [.raw 12 c2]] [] 0 0 [some true, some false, some true, some false, some false, some true]).map (fun r => (r.v, r.obl, r.pan)) = some (.a (.one (.val (.bool true))), [c0 = c0, c1 = c1, c2 = c2], none) := by kernel_rfl
theorem gr01 {w0 : World} (hp : PowsAt w0 m) (hks : LetS (qDen (lK m l) (lK1 m l)).env [27, 27, 27, 27, 27, 27, 27, 27, 27, 27, 27, 27]) (h0 : DQ m l w0 c0 [.qe (polVar 0), .bad, .qb, .qb]) (h1 : DQ m l w0 c1 [.qb, .qb, .qb, .qb]) (h2 : DQ m l w0 c2 [.qb, .qb, .qb, .qb]) :
  (evF Tryz.prog (spG hp hks h0 h1 h2) [] 30 [] 3 [.agg [.raw 12 c0], .agg [.raw 12 c1], .agg [.raw 12 c2]] [] 0 0 [some true, some false, some true, some false, some false, some true]).map (fun r => (r.v, r.obl, r.pan)) = some (.a (.one (.val (.bool true))), [c0 = c0, c1 = c1, c2 = c2], none) := by kernel_rfl
theorem gr02 {w0 : World} (hp : PowsAt w0 m) (hks : LetS (qDen (lK m l) (lK1 m l)).env [27, 27, 27, 27, 27, 27, 27, 27, 27, 27, 27, 27]) (h0 : DQ m l w0 c0 [.qe (polVar 0), .qe (polVar 1), .bad, .qb]) (h1 : DQ m l w0 c1 [.qb, .qb, .qb, .qb]) (h2 : DQ m l w0 c2 [.qb, .qb, .qb, .qb]) :
  (evF Tryz.prog (spG hp hks h0 h1 h2) [] 30 [] 3 [.agg [.raw 12 c0], .agg [.raw 12 c1], .agg [.raw 12 c2]] [] 0 0 [some true, some false, some true, some false, some false, some true]).map (fun r => (r.v, r.obl, r.pan)) = some (.a (.one (.val (.bool true))), [c0 = c0, c1 = c1, c2 = c2], none) := by kernel_rfl
theorem gr03 {w0 : World} (hp : PowsAt w0 m) (hks : LetS (qDen (lK m l) (lK1 m l)).env [27, 27, 27, 27, 27, 27, 27, 27, 27, 27, 27, 27]) (h0 : DQ m l w0 c0 [.qe (polVar 0), .qe (polVar 1), .qe (polVar 2), .bad]) (h1 : DQ m l w0 c1 [.qb, .qb, .qb, .qb]) (h2 : DQ m l w0 c2 [.qb, .qb, .qb, .qb]) :
  (evF Tryz.prog (spG hp hks h0 h1 h2) [] 30 [] 3 [.agg [.raw 12 c0], .agg [.raw 12 c1], .agg [.raw 12 c2]] [] 0 0 [some true, some false, some true, some false, some false, some true]).map (fun r => (r.v, r.obl, r.pan)) = some (.a (.one (.val (.bool true))), [c0 = c0, c1 = c1, c2 = c2], none) := by kernel_rfl
theorem gr10 {w0 : World} (hp : PowsAt w0 m) (hks : LetS (qDen (lK m l) (lK1 m l)).env [27, 27, 27, 27, 27, 27, 27, 27, 27, 27, 27, 27]) (h0 : DQ m l w0 c0 [.qe (polVar 0), .qe (polVar 1), .qe (polVar 2), .qe (polVar 3)]) (h1 : DQ m l w0 c1 [.bad, .qb, .qb, .qb]) (h2 : DQ m l w0 c2 [.qb, .qb, .qb, .qb]) :
  (evF Tryz.prog (spG hp hks h0 h1 h2) [] 30 [] 3 [.agg [.raw 12 c0], .agg [.raw 12 c1], .agg [.raw 12 c2]] [] 0 0 [some true, some false, some true, some false, some false, some true]).map (fun r => (r.v, r.obl, r.pan)) = some (.a (.one (.val (.bool true))), [c0 = c0, c1 = c1, c2 = c2], none) := by kernel_rfl
theorem gr11 {w0 : World} (hp : PowsAt w0 m) (hks : LetS (qDen (lK m l) (lK1 m l)).env [27, 27, 27, 27, 27, 27, 27, 27, 27, 27, 27, 27]) (h0 : DQ m l w0 c0 [.qe (polVar 0), .qe (polVar 1), .qe (polVar 2), .qe (polVar 3)]) (h1 : DQ m l w0 c1 [.qe (polVar 4), .bad, .qb, .qb]) (h2 : DQ m l w0 c2 [.qb, .qb, .qb, .qb]) :
  (evF Tryz.prog (spG hp hks h0 h1 h2) [] 30 [] 3 [.agg [.raw 12 c0], .agg [.raw 12 c1], .agg [.raw 12 c2]] [] 0 0 [some true, some false, some true, some false, some false, some true]).map (fun r => (r.v, r.obl, r.pan)) = some (.a (.one (.val (.bool true))), [c0 = c0, c1 = c1, c2 = c2], none) := by kernel_rfl
theorem gr12 {w0 : World} (hp : PowsAt w0 m) (hks : LetS (qDen (lK m l) (lK1 m l)).env [27, 27, 27, 27, 27, 27, 27, 27, 27, 27, 27, 27]) (h0 : DQ m l w0 c0 [.qe (polVar 0), .qe (polVar 1), .qe (polVar 2), .qe (polVar 3)]) (h1 : DQ m l w0 c1 [.qe (polVar 4), .qe (polVar 5), .bad, .qb]) (h2 : DQ m l w0 c2 [.qb, .qb, .qb, .qb]) :
  (evF Tryz.prog (spG hp hks h0 h1 h2) [] 30 [] 3 [.agg [.raw 12 c0], .agg [.raw 12 c1], .agg [.raw 12 c2]] [] 0 0 [some true, some false, some true, some false, some false, some true]).map (fun r => (r.v, r.obl, r.pan)) = some (.a (.one (.val (.bool true))), [c0 = c0, c1 = c1, c2 = c2], none) := by kernel_rfl
theorem gr13 {w0 : World} (hp : PowsAt w0 m) (hks : LetS (qDen (lK m l) (lK1 m l)).env [27, 27, 27, 27, 27, 27, 27, 27, 27, 27, 27, 27]) (h0 : DQ m l w0 c0 [.qe (polVar 0), .qe (polVar 1), .qe (polVar 2), .qe (polVar 3)]) (h1 : DQ m l w0 c1 [.qe (polVar 4), .qe (polVar 5), .qe (polVar 6), .bad]) (h2 : DQ m l w0 c2 [.qb, .qb, .qb, .qb]) :
  (evF Tryz.prog (spG hp hks h0 h1 h2) [] 30 [] 3 [.agg [.raw 12 c0], .agg [.raw 12 c1], .agg [.raw 12 c2]] [] 0 0 [some true, some false, some true, some false, some false, some true]).map (fun r => (r.v, r.obl, r.pan)) = some (.a (.one (.val (.bool true))), [c0 = c0, c1 = c1, c2 = c2], none) := by kernel_rfl
theorem gr20 {w0 : World} (hp : PowsAt w0 m) (hks : LetS (qDen (lK m l) (lK1 m l)).env [27, 27, 27, 27, 27, 27, 27, 27, 27, 27, 27, 27]) (h0 : DQ m l w0 c0 [.qe (polVar 0), .qe (polVar 1), .qe (polVar 2), .qe (polVar 3)]) (h1 : DQ m l w0 c1 [.qe (polVar 4), .qe (polVar 5), .qe (polVar 6), .qe (polVar 7)]) (h2 : DQ m l w0 c2 [.bad, .qb, .qb, .qb]) :
  (evF Tryz.prog (spG hp hks h0 h1 h2) [] 30 [] 3 [.agg [.raw 12 c0], .agg [.raw 12 c1], .agg [.raw 12 c2]] [] 0 0 [some true, some false, some true, some false, some false, some true]).map (fun r => (r.v, r.obl, r.pan)) = some (.a (.one (.val (.bool true))), [c0 = c0, c1 = c1, c2 = c2], none) := by kernel_rfl
theorem gr21 {w0 : World} (hp : PowsAt w0 m) (hks : LetS (qDen (lK m l) (lK1 m l)).env [27, 27, 27, 27, 27, 27, 27, 27, 27, 27, 27, 27]) (h0 : DQ m l w0 c0 [.qe (polVar 0), .qe (polVar 1), .qe (polVar 2), .qe (polVar 3)]) (h1 : DQ m l w0 c1 [.qe (polVar 4), .qe (polVar 5), .qe (polVar 6), .qe (polVar 7)]) (h2 : DQ m l w0 c2 [.qe (polVar 8), .bad, .qb, .qb]) :
  (evF Tryz.prog (spG hp hks h0 h1 h2) [] 30 [] 3 [.agg [.raw 12 c0], .agg [.raw 12 c1], .agg [.raw 12 c2]] [] 0 0 [some true, some false, some true, some false, some false, some true]).map (fun r => (r.v, r.obl, r.pan)) = some (.a (.one (.val (.bool true))), [c0 = c0, c1 = c1, c2 = c2], none) := by kernel_rfl
theorem gr22 {w0 : World} (hp : PowsAt w0 m) (hks : LetS (qDen (lK m l) (lK1 m l)).env [27, 27, 27, 27, 27, 27, 27, 27, 27, 27, 27, 27]) (h0 : DQ m l w0 c0 [.qe (polVar 0), .qe (polVar 1), .qe (polVar 2), .qe (polVar 3)]) (h1 : DQ m l w0 c1 [.qe (polVar 4), .qe (polVar 5), .qe (polVar 6), .qe (polVar 7)]) (h2 : DQ m l w0 c2 [.qe (polVar 8), .qe (polVar 9), .bad, .qb]) :
  (evF Tryz.prog (spG hp hks h0 h1 h2) [] 30 [] 3 [.agg [.raw 12 c0], .agg [.raw 12 c1], .agg [.raw 12 c2]] [] 0 0 [some true, some false, some true, some false, some false, some true]).map (fun r => (r.v, r.obl, r.pan)) = some (.a (.one (.val (.bool true))), [c0 = c0, c1 = c1, c2 = c2], none) := by kernel_rfl
theorem gr23 {w0 : World} (hp : PowsAt w0 m) (hks : LetS (qDen (lK m l) (lK1 m l)).env [27, 27, 27, 27, 27, 27, 27, 27, 27, 27, 27, 27]) (h0 : DQ m l w0 c0 [.qe (polVar 0), .qe (polVar 1), .qe (polVar 2), .qe (polVar 3)]) (h1 : DQ m l w0 c1 [.qe (polVar 4), .qe (polVar 5), .qe (polVar 6), .qe (polVar 7)]) (h2 : DQ m l w0 c2 [.qe (polVar 8), .qe (polVar 9), .qe (polVar 10), .bad]) :
  (evF Tryz.prog (spG hp hks h0 h1 h2) [] 30 [] 3 [.agg [.raw 12 c0], .agg [.raw 12 c1], .agg [.raw 12 c2]] [] 0 0 [some true, some false, some true, some false, some false, some true]).map (fun r => (r.v, r.obl, r.pan)) = some (.a (.one (.val (.bool true))), [c0 = c0, c1 = c1, c2 = c2], none) := by kernel_rfl
end
end
section
section
variable {m : Nat} {l : List Rat}
def QB.val : QB → Rat
 | .q x => x
 | .bad => 0
theorem QB.val_hs : ∀ {q : QB}, q.ok → Hs 27 q.val
 | .q _, h => h
 | .bad, _ => ⟨by decide, by decide⟩
theorem toQe {q : Rat} {i : Nat} (h : l.getD i 0 = q) (ρ : Nm) (w : World) (c : List Value) (hc : denU (qDen (lK m l) (lK1 m l)) ρ w (QB.q q).u c) : denU (qDen (lK m l) (lK1 m l)) ρ w (.qe (polVar i)) c := by
 show (qDen (lK m l) (lK1 m l)).R w (polEv (qDen (lK m l) (lK1 m l)).env (polVar i)) c
 rw [polVar_ev, lK_env, h]
 exact hc
theorem toQb (q : QB) (ρ : Nm) (w : World) (c : List Value) (hc : denU (qDen (lK m l) (lK1 m l)) ρ w q.u c) : denU (qDen (lK m l) (lK1 m l)) ρ w .qb c := by
 cases q with
 | q x => exact .inl ⟨x, hc⟩
 | bad => exact .inr hc
theorem conv4 {w0 : World} {c : List Value} {o0 o1 o2 o3 t0 t1 t2 t3 : U}
  (H0 : ∀ ρ w c, denU (qDen (lK m l) (lK1 m l)) ρ w o0 c → denU (qDen (lK m l) (lK1 m l)) ρ w t0 c)
  (H1 : ∀ ρ w c, denU (qDen (lK m l) (lK1 m l)) ρ w o1 c → denU (qDen (lK m l) (lK1 m l)) ρ w t1 c)
  (H2 : ∀ ρ w c, denU (qDen (lK m l) (lK1 m l)) ρ w o2 c → denU (qDen (lK m l) (lK1 m l)) ρ w t2 c)
  (H3 : ∀ ρ w c, denU (qDen (lK m l) (lK1 m l)) ρ w o3 c → denU (qDen (lK m l) (lK1 m l)) ρ w t3 c)
  (h : DQ m l w0 c [o0, o1, o2, o3]) : DQ m l w0 c [t0, t1, t2, t3] := fun ρ w hw =>
 (h ρ w hw).mono fun e w' ⟨v, he, ⟨cs, hv, c0, d0, e0, u0, c1, d1, e1, u1, c2, d2, e2, u2, c3, d3, e3, u3, u4⟩, hb⟩ => ⟨v, he, ⟨cs, hv, c0, d0, e0, H0 _ _ _ u0, c1, d1, e1, H1 _ _ _ u1, c2, d2, e2, H2 _ _ _ u2, c3, d3, e3, H3 _ _ _ u3, u4⟩, hb⟩
theorem gfin {w0 : World} {c0 c1 c2 : List Value} {orc : List (Option Bool)} (sp : List (Ctr (qDen (lK m l) (lK1 m l)) Tryz.prog w0 (fun _ => False)))
  (k0 : c0.length = 12 ∧ ∀ v ∈ c0, v.oneCell' = true) (k1 : c1.length = 12 ∧ ∀ v ∈ c1, v.oneCell' = true) (k2 : c2.length = 12 ∧ ∀ v ∈ c2, v.oneCell' = true)
  (R : (evF Tryz.prog sp [] 30 [] 3 [.agg [.raw 12 c0], .agg [.raw 12 c1], .agg [.raw 12 c2]] [] 0 0 orc).map (fun r => (r.v, r.obl, r.pan)) = some (.a (.one (.val (.bool true))), [c0 = c0, c1 = c1, c2 = c2], none)) :
  Calls Tryz.prog 3 #[.agg c0.toArray, .agg c1.toArray, .agg c2.toArray] w0 fun e w' => e = .returned (.bool true) ∧ Below w0.heap.size w0 w' := by
 refine (evRun0 (D := qDen (lK m l) (lK1 m l)) (d := 30) (orc := orc) (args := [.agg [.raw 12 c0], .agg [.raw 12 c1], .agg [.raw 12 c2]]) wide_ sp [] (.a (.one (.val (.bool true)))) _ R ⟨rfl, rfl, rfl, trivial⟩ (vals := [.agg c0.toArray, .agg c1.toArray, .agg c2.toArray])
  ⟨_, _, rfl, ⟨c0, rfl, c0, [], (List.append_nil _).symm, ⟨rfl, k0⟩, rfl⟩, _, _, rfl, ⟨c1, rfl, c1, [], (List.append_nil _).symm, ⟨rfl, k1⟩, rfl⟩, _, [], rfl, ⟨c2, rfl, c2, [], (List.append_nil _).symm, ⟨rfl, k2⟩, rfl⟩, rfl⟩).mono ?_
 rintro e w' ⟨v, ρ', rfl, hv, hb⟩
 obtain rfl : v = .bool true := by simpa using hv.1
 exact ⟨rfl, hb⟩
end
theorem QB.den_K {K K' : Nat → Value} {hK : ∀ i, (K i).oneCell' = true} {hK' : ∀ i, (K' i).oneCell' = true} {ρ ρ' : Nm} {w : World} : ∀ {l : List QB} {cs : List Value}, denL (qDen K hK) ρ w (l.map QB.u) cs → denL (qDen K' hK') ρ' w (l.map QB.u) cs
 | [], _, h => h
 | o :: l, _, ⟨c, d, e, hc, hd⟩ => ⟨c, d, e, by cases o <;> exact hc, QB.den_K hd⟩
def DraftAt (w : World) (v : Value) : Prop := ∃ (a : DN) (p q : Option Addr) (n m c e : Nat) (f g : Nat → Int) (s : Bool) (k : Int), a.ok ∧ (0 ≤ k ∧ k ≤ 255) ∧ OddL w p n c f ∧ OddL w q m e g ∧ v = .agg (a.cs (.slice p n c) (.slice q m e) (.bool s) k).toArray
theorem draft_open {w0 : World} {v : Value} (h : DraftAt w0 v) : ∃ (c : List Value) (q0 q1 q2 q3 : QB), v = .agg c.toArray ∧ (c.length = 12 ∧ ∀ v ∈ c, v.oneCell' = true) ∧ q0.ok ∧ q1.ok ∧ q2.ok ∧ q3.ok ∧ ∀ m l, DQ m l w0 c [q0.u, q1.u, q2.u, q3.u] := by
 obtain ⟨a, p, q, n, m, c, e, f, g, s, k, ha, hk, hN, hD, rfl⟩ := h
 obtain ⟨o, ho, hden⟩ := odd_qb (K := kZ) (hK := kZ1) s (min n 3) (min m 3) f g (by omega) (by omega)
 have hodd : ∀ ρ w, Frm w0 (fun _ => False) w → Calls Tryz.prog 31 #[.agg #[.slice p n c, .slice q m e, .bool s]] w fun e w' => ∃ v, e = .returned v ∧ denA (qDen kZ kZ1) ρ w' (.agg [o.u]) v ∧ Below w.heap.size w w' := fun ρ w hw => (oddQuot_ok s p q n m c e f g w ⟨hN.1.below hw.below, hN.2⟩ ⟨hD.1.below hw.below, hD.2⟩).mono fun e w' ⟨v1, v2, he, s1, s2, hb⟩ => ⟨_, he, hden ρ w' v1 v2 s1 s2, hb⟩
 obtain ⟨q0, q1, q2, q3, h0, h1, h2, h3, hd⟩ := draftQuad_ok (K := kZ) (hK := kZ1) a _ _ _ k ha hk rfl rfl rfl o ho w0 hodd
 refine ⟨_, q0, q1, q2, q3, rfl, ⟨rfl, ?_⟩, h0, h1, h2, h3, fun m l ρ w hw => (hd ρ w hw).mono fun e w' ⟨v, he, ⟨cs, hv, hc⟩, hb⟩ => ⟨v, he, ⟨cs, hv, QB.den_K (l := [q0, q1, q2, q3]) hc⟩, hb⟩⟩
 intro v hv
 simp only [DN.cs, List.mem_cons, List.not_mem_nil, or_false] at hv
 rcases hv with rfl | rfl | rfl | rfl | rfl | rfl | rfl | rfl | rfl | rfl | rfl | rfl <;> rfl
theorem mgroups_ok (w : World) (m : Nat) (hp : PowsAt w m) (v0 v1 v2 : Value) (g0 : DraftAt w v0) (g1 : DraftAt w v1) (g2 : DraftAt w v2) : Calls Tryz.prog 3 #[v0, v1, v2] w fun e w' => e = .returned (.bool true) ∧ Below w.heap.size w w' := by
 obtain ⟨c0, a0, a1, a2, a3, rfl, k0, x0, x1, x2, x3, H0⟩ := draft_open g0
 obtain ⟨c1, a4, a5, a6, a7, rfl, k1, x4, x5, x6, x7, H1⟩ := draft_open g1
 obtain ⟨c2, a8, a9, a10, a11, rfl, k2, x8, x9, x10, x11, H2⟩ := draft_open g2
 have hks : LetS (qDen (lK m [a0.val, a1.val, a2.val, a3.val, a4.val, a5.val, a6.val, a7.val, a8.val, a9.val, a10.val, a11.val]) (lK1 m [a0.val, a1.val, a2.val, a3.val, a4.val, a5.val, a6.val, a7.val, a8.val, a9.val, a10.val, a11.val])).env [27, 27, 27, 27, 27, 27, 27, 27, 27, 27, 27, 27] := lK_let fun i k hi => by
  match i, hi with
  | 0, hi => obtain rfl := Option.some.inj hi; exact QB.val_hs x0
  | 1, hi => obtain rfl := Option.some.inj hi; exact QB.val_hs x1
  | 2, hi => obtain rfl := Option.some.inj hi; exact QB.val_hs x2
  | 3, hi => obtain rfl := Option.some.inj hi; exact QB.val_hs x3
  | 4, hi => obtain rfl := Option.some.inj hi; exact QB.val_hs x4
  | 5, hi => obtain rfl := Option.some.inj hi; exact QB.val_hs x5
  | 6, hi => obtain rfl := Option.some.inj hi; exact QB.val_hs x6
  | 7, hi => obtain rfl := Option.some.inj hi; exact QB.val_hs x7
  | 8, hi => obtain rfl := Option.some.inj hi; exact QB.val_hs x8
  | 9, hi => obtain rfl := Option.some.inj hi; exact QB.val_hs x9
  | 10, hi => obtain rfl := Option.some.inj hi; exact QB.val_hs x10
  | 11, hi => obtain rfl := Option.some.inj hi; exact QB.val_hs x11
  | _ + 12, hi => cases hi
 cases a0 with
 | bad => exact gfin _ k0 k1 k2 (gr00 hp hks (conv4 (fun _ _ _ h => h) (toQb a1) (toQb a2) (toQb a3) (H0 m _)) (conv4 (toQb a4) (toQb a5) (toQb a6) (toQb a7) (H1 m _)) (conv4 (toQb a8) (toQb a9) (toQb a10) (toQb a11) (H2 m _)))
 | q y0 =>
   cases a1 with
   | bad => exact gfin _ k0 k1 k2 (gr01 hp hks (conv4 (toQe rfl) (fun _ _ _ h => h) (toQb a2) (toQb a3) (H0 m _)) (conv4 (toQb a4) (toQb a5) (toQb a6) (toQb a7) (H1 m _)) (conv4 (toQb a8) (toQb a9) (toQb a10) (toQb a11) (H2 m _)))
   | q y1 =>
     cases a2 with
     | bad => exact gfin _ k0 k1 k2 (gr02 hp hks (conv4 (toQe rfl) (toQe rfl) (fun _ _ _ h => h) (toQb a3) (H0 m _)) (conv4 (toQb a4) (toQb a5) (toQb a6) (toQb a7) (H1 m _)) (conv4 (toQb a8) (toQb a9) (toQb a10) (toQb a11) (H2 m _)))
     | q y2 =>
       cases a3 with
       | bad => exact gfin _ k0 k1 k2 (gr03 hp hks (conv4 (toQe rfl) (toQe rfl) (toQe rfl) (fun _ _ _ h => h) (H0 m _)) (conv4 (toQb a4) (toQb a5) (toQb a6) (toQb a7) (H1 m _)) (conv4 (toQb a8) (toQb a9) (toQb a10) (toQb a11) (H2 m _)))
       | q y3 =>
         cases a4 with
         | bad => exact gfin _ k0 k1 k2 (gr10 hp hks (conv4 (toQe rfl) (toQe rfl) (toQe rfl) (toQe rfl) (H0 m _)) (conv4 (fun _ _ _ h => h) (toQb a5) (toQb a6) (toQb a7) (H1 m _)) (conv4 (toQb a8) (toQb a9) (toQb a10) (toQb a11) (H2 m _)))
         | q y4 =>
           cases a5 with
           | bad => exact gfin _ k0 k1 k2 (gr11 hp hks (conv4 (toQe rfl) (toQe rfl) (toQe rfl) (toQe rfl) (H0 m _)) (conv4 (toQe rfl) (fun _ _ _ h => h) (toQb a6) (toQb a7) (H1 m _)) (conv4 (toQb a8) (toQb a9) (toQb a10) (toQb a11) (H2 m _)))
           | q y5 =>
             cases a6 with
             | bad => exact gfin _ k0 k1 k2 (gr12 hp hks (conv4 (toQe rfl) (toQe rfl) (toQe rfl) (toQe rfl) (H0 m _)) (conv4 (toQe rfl) (toQe rfl) (fun _ _ _ h => h) (toQb a7) (H1 m _)) (conv4 (toQb a8) (toQb a9) (toQb a10) (toQb a11) (H2 m _)))
             | q y6 =>
               cases a7 with
               | bad => exact gfin _ k0 k1 k2 (gr13 hp hks (conv4 (toQe rfl) (toQe rfl) (toQe rfl) (toQe rfl) (H0 m _)) (conv4 (toQe rfl) (toQe rfl) (toQe rfl) (fun _ _ _ h => h) (H1 m _)) (conv4 (toQb a8) (toQb a9) (toQb a10) (toQb a11) (H2 m _)))
               | q y7 =>
                 cases a8 with
                 | bad => exact gfin _ k0 k1 k2 (gr20 hp hks (conv4 (toQe rfl) (toQe rfl) (toQe rfl) (toQe rfl) (H0 m _)) (conv4 (toQe rfl) (toQe rfl) (toQe rfl) (toQe rfl) (H1 m _)) (conv4 (fun _ _ _ h => h) (toQb a9) (toQb a10) (toQb a11) (H2 m _)))
                 | q y8 =>
                   cases a9 with
                   | bad => exact gfin _ k0 k1 k2 (gr21 hp hks (conv4 (toQe rfl) (toQe rfl) (toQe rfl) (toQe rfl) (H0 m _)) (conv4 (toQe rfl) (toQe rfl) (toQe rfl) (toQe rfl) (H1 m _)) (conv4 (toQe rfl) (fun _ _ _ h => h) (toQb a10) (toQb a11) (H2 m _)))
                   | q y9 =>
                     cases a10 with
                     | bad => exact gfin _ k0 k1 k2 (gr22 hp hks (conv4 (toQe rfl) (toQe rfl) (toQe rfl) (toQe rfl) (H0 m _)) (conv4 (toQe rfl) (toQe rfl) (toQe rfl) (toQe rfl) (H1 m _)) (conv4 (toQe rfl) (toQe rfl) (fun _ _ _ h => h) (toQb a11) (H2 m _)))
                     | q y10 =>
                       cases a11 with
                       | bad => exact gfin _ k0 k1 k2 (gr23 hp hks (conv4 (toQe rfl) (toQe rfl) (toQe rfl) (toQe rfl) (H0 m _)) (conv4 (toQe rfl) (toQe rfl) (toQe rfl) (toQe rfl) (H1 m _)) (conv4 (toQe rfl) (toQe rfl) (toQe rfl) (fun _ _ _ h => h) (H2 m _)))
                       | q y11 =>
                         exact gfin _ k0 k1 k2 (gr hp hks (conv4 (toQe rfl) (toQe rfl) (toQe rfl) (toQe rfl) (H0 m _)) (conv4 (toQe rfl) (toQe rfl) (toQe rfl) (toQe rfl) (H1 m _)) (conv4 (toQe rfl) (toQe rfl) (toQe rfl) (toQe rfl) (H2 m _)))
end
section
open Go Go.ChangeShapes Go.WideShapes Go.ChangeAt
theorem laidOut18 : laidOutB Tryz.prog = true := by kernel_rfl
theorem trodAll_below18 {P : Program} (hl : laidOutB P = true) {H : Type} {enc : TypeId × Value → H} {W W' : World} (hb : Below W.heap.size W W') : ∀ (ts : List TypeId) (vs : List Value) (ds : List (DataW H)) (ps : List MemPlace),
  (ts.all fun t => P.readableRec t && decide (t < P.types.size)) = true → DataW.TrodAll enc P W 0 (fun _ => true) true ts vs ds ps → (∀ x ∈ ps, x.block < W.heap.size) → DataW.TrodAll enc P W' 0 (fun b => decide (b < W.heap.size)) true ts vs ds ps := by
 intro ts
 induction ts with
 | nil =>
   intro vs ds ps _ h _
   obtain ⟨rfl, rfl, rfl⟩ := trodAll_nil h
   exact rfl
 | cons t ts ih =>
   intro vs ds ps hr h hlt
   obtain ⟨v, vs1, d, ds1, a, b, rfl, rfl, rfl, h1, h2⟩ := trodAll_cons h
   rw [List.all_cons, Bool.and_eq_true, Bool.and_eq_true, decide_eq_true_eq] at hr
   exact ⟨a, b, Below.trod hl hr.1.1 hr.1.2 h1 hb (fun x hx => hlt x (List.mem_append_left _ hx)), ih _ _ _ hr.2 h2 (fun x hx => hlt x (List.mem_append_right _ hx)), rfl⟩
theorem cell_lt18 {w : World} {a : Addr} {u : Value} (h : w.cell? a = some u) : a.block < w.heap.size := by
 by_cases hb : a.block < w.heap.size
 ·exact hb
 ·rw [World.cell?, Array.getElem?_eq_none (by omega)] at h
  cases h
section
variable {H : Type} {enc : TypeId × Value → H} {W : World} {base : Nat} {r : Reach} {v : Value} {d : DataW H} {p : List MemPlace} {fuel : Nat} {cs : List Value} {x : DataW H × List MemPlace}
theorem num_cells (h : DataW.trod enc Tryz.prog W 0 (fun _ => true) true fuel 24 cs = some x) : ∃ n d : Int, (-32768 ≤ n ∧ n ≤ 32767) ∧ (0 ≤ d ∧ d ≤ 255) ∧ cs = [.int .i16 n, .int .u8 d] := by
 have hc : Tryz.prog.cellsOf 24 = 2 := by kernel_rfl
 have h1 : Tryz.prog.cellsOf 22 = 1 := by kernel_rfl
 have h2 : Tryz.prog.cellsOf 5 = 1 := by kernel_rfl
 obtain ⟨xs, m, rfl, _, hl, hx, hel⟩ := DataW.trod_struct Tryz.underlying24 h
 rw [hc] at hl
 match cs, hl, xs, hx with
 | [c0, c1], _, [x0, x1], _ =>
   have e0 := hel 0 _ rfl
   have e1 := hel 1 _ rfl
   simp [h1, h2] at e0 e1
   obtain ⟨s0, k0, _, w0⟩ := DataW.trod_int Tryz.underlying22 e0
   obtain ⟨s1, k1, _, w1⟩ := DataW.trod_int Tryz.underlying5 e1
   cases k0; cases k1
   exact ⟨s0, s1, bounds_i16 w0, bounds_u8 w1, rfl⟩
theorem nums_cells (h : DataW.trod enc Tryz.prog W 0 (fun _ => true) true fuel 25 cs = some x) : ∃ a : DN, a.ok ∧ cs = [.int .i16 a.n0, .int .u8 a.d0, .int .i16 a.n1, .int .u8 a.d1, .int .i16 a.n2, .int .u8 a.d2, .int .i16 a.n3, .int .u8 a.d3] := by
 have hc : Tryz.prog.cellsOf 25 = 8 := by kernel_rfl
 have hn : Tryz.prog.cellsOf 24 = 2 := by kernel_rfl
 obtain ⟨xs, m, rfl, _, hl, hx, hel⟩ := DataW.trod_array Tryz.underlying25 h
 rw [hc] at hl
 match cs, hl, xs, hx with
 | [c0, c1, c2, c3, c4, c5, c6, c7], _, [x0, x1, x2, x3], _ =>
   have e0 := hel 0 (by omega)
   have e1 := hel 1 (by omega)
   have e2 := hel 2 (by omega)
   have e3 := hel 3 (by omega)
   simp [hn] at e0 e1 e2 e3
   obtain ⟨n0, d0, g0, g0', k0⟩ := num_cells e0
   obtain ⟨n1, d1, g1, g1', k1⟩ := num_cells e1
   obtain ⟨n2, d2, g2, g2', k2⟩ := num_cells e2
   obtain ⟨n3, d3, g3, g3', k3⟩ := num_cells e3
   cases k0; cases k1; cases k2; cases k3
   exact ⟨⟨n0, d0, n1, d1, n2, d2, n3, d3⟩, ⟨g0, g0', g1, g1', g2, g2', g3, g3'⟩, rfl⟩
theorem ints_cells (h : DataW.trod enc Tryz.prog W 0 (fun _ => true) true fuel 26 cs = some x) (hsz : ∀ n ∈ x.1.weights Tryz.prog 26, n ≤ reachBytes) : ∃ (p : Option Addr) (n c : Nat) (f : Nat → Int), cs = [.slice p n c] ∧ OddL W p n c f := by
 have hc : Tryz.prog.cellsOf 3 = 1 := by kernel_rfl
 have hby : Tryz.prog.bytesOf 3 = 8 := by kernel_rfl
 rcases Go.Deep.open_slice Tryz.underlying26 h with ⟨hcs, hx⟩ | ⟨a, len, cap, m, n, D, Pl, hcs, _, hl, hmx, hm, hx, hel⟩
 ·exact ⟨none, 0, 0, fun _ => 0, hcs, ⟨Nat.le_refl _, by omega, fun h => absurd h (Nat.not_lt_zero _)⟩, fun _ => rfl⟩
 ·simp only [if_true] at hm
  subst hx
  have hw := hsz _ (by rw [DataW.weights, Tryz.underlying26]; exact List.mem_cons_self ..)
  rw [List.length_map, List.length_map, List.length_range, List.length_range, hby] at hw
  have hr : reachBytes = 140737488351232 := rfl
  have hel' : ∀ i, i < len → ∃ o : Int, W.cell? (a.add i) = some (.int .i64 o) := fun i hi => by
   obtain ⟨cs', h1, h2⟩ := hel i (by omega)
   obtain ⟨o, rfl, _, wo⟩ := DataW.trod_int Tryz.underlying3 h2
   rw [hc, Nat.mul_one] at h1
   exact ⟨o, cell_of_cells?_one h1⟩
  obtain ⟨O, hO⟩ := Go.Deep.choose_lt hel'
  refine ⟨some a, len, cap, O, hcs, ⟨hl, by omega, fun h0 => ?_⟩, fun h => by cases h⟩
  obtain ⟨b, off, spot⟩ := a
  have hspot : spot = none := by simpa [Addr.add] using World.cell?_spot (hO 0 h0)
  subst hspot
  refine ⟨b, off, rfl, cell_lt18 (hO 0 h0), fun i hi => ?_⟩
  rw [← hO i hi, Addr.add_lit]
theorem odd_cells (h : DataW.trod enc Tryz.prog W 0 (fun _ => true) true fuel 28 cs = some x) (hsz : ∀ n ∈ x.1.weights Tryz.prog 28, n ≤ reachBytes) : ∃ (p q : Option Addr) (n m c e : Nat) (f g : Nat → Int) (s : Bool), OddL W p n c f ∧ OddL W q m e g ∧ cs = [.slice p n c, .slice q m e, .bool s] := by
 have hc : Tryz.prog.cellsOf 28 = 3 := by kernel_rfl
 have h1 : Tryz.prog.cellsOf 26 = 1 := by kernel_rfl
 have h2 : Tryz.prog.cellsOf 4 = 1 := by kernel_rfl
 obtain ⟨xs, m, rfl, hx0, hl, hx, hel⟩ := DataW.trod_struct Tryz.underlying28 h
 subst hx0
 rw [hc] at hl
 match cs, hl, xs, hx with
 | [c0, c1, c2], _, [x0, x1, x2], _ =>
   have e0 := hel 0 _ rfl
   have e1 := hel 1 _ rfl
   have e2 := hel 2 _ rfl
   simp [h1, h2] at e0 e1 e2
   obtain ⟨p, n, c, f, k0, hN⟩ := ints_cells e0 fun n hn => hsz n (by rw [DataW.weights, Tryz.underlying28]; exact DataW.weights_mem_each (j := 0) (t := 26) rfl rfl n hn)
   obtain ⟨q, m', e, g, k1, hD⟩ := ints_cells e1 fun n hn => hsz n (by rw [DataW.weights, Tryz.underlying28]; exact DataW.weights_mem_each (j := 1) (t := 26) rfl rfl n hn)
   obtain ⟨s, k2, _⟩ := DataW.trod_bool Tryz.underlying4 e2
   cases k0; cases k1; cases k2
   exact ⟨p, q, n, m', c, e, f, g, s, hN, hD, rfl⟩
theorem draft_cells (h : DataW.trod enc Tryz.prog W 0 (fun _ => true) true fuel 30 cs = some x) (hsz : ∀ n ∈ x.1.weights Tryz.prog 30, n ≤ reachBytes) : DraftAt W (.agg cs.toArray) := by
 have hc : Tryz.prog.cellsOf 30 = 12 := by kernel_rfl
 have h8 : Tryz.prog.cellsOf 25 = 8 := by kernel_rfl
 have h3 : Tryz.prog.cellsOf 28 = 3 := by kernel_rfl
 have h1 : Tryz.prog.cellsOf 5 = 1 := by kernel_rfl
 obtain ⟨xs, m, rfl, hx0, hl, hx, hel⟩ := DataW.trod_struct Tryz.underlying30 h
 subst hx0
 rw [hc] at hl
 match cs, hl, xs, hx with
 | [c0, c1, c2, c3, c4, c5, c6, c7, c8, c9, c10, c11], _, [x0, x1, x2], _ =>
   have e0 := hel 0 _ rfl
   have e1 := hel 1 _ rfl
   have e2 := hel 2 _ rfl
   simp [h8, h3, h1] at e0 e1 e2
   obtain ⟨a, ha, k0⟩ := nums_cells e0
   obtain ⟨p, q, n, m', c, e, f, g, s, hN, hD, k1⟩ := odd_cells e1 fun n hn => hsz n (by rw [DataW.weights, Tryz.underlying30]; exact DataW.weights_mem_each (j := 1) (t := 28) rfl rfl n hn)
   obtain ⟨k, k2, _, wk⟩ := DataW.trod_int Tryz.underlying5 e2
   cases k0; cases k1; cases k2
   exact ⟨a, p, q, n, m', c, e, f, g, s, k, ha, bounds_u8 wk, hN, hD, rfl⟩
theorem open_draft (hv : Value.okWide Tryz.prog W r base 30 v) (h : DataW.Trod enc Tryz.prog W 0 (fun _ => true) true 30 v d p) (hsz : ∀ n ∈ d.weights Tryz.prog 30, n ≤ reachBytes) : DraftAt W v := by
 obtain ⟨cs, rfl, _⟩ := okWide_struct Tryz.underlying30 hv
 obtain ⟨fuel, hf⟩ := h
 exact draft_cells (x := (d, p)) hf hsz
end
end
section
open Go Go.ChangeShapes Go.WideShapes Go.ChangeAt
theorem ownG : ownKnob Tryz.prog.godebug = none := by kernel_rfl
theorem doorG (os : Os) (args : Array Value) : laidMetH Tryz.prog Rows.matrixGroupsRow.laid ((World.doorLaid Tryz.prog 4000 os).forCall (fun _ _ => 0) ⟨#[], args, []⟩).memory :=
 laidMetH_of_parts3 (fuel := 8) (laidMet_of_run' 8 (by kernel_rfl) (by kernel_rfl)) (by kernel_rfl) (by kernel_rfl)
theorem keptButG {w w' : World} (h : Below w.heap.size w w') (may : MemPlace → Prop) : w.keptBut w' may :=
 (World.keptBut_refl w may).congr h.os h.output (fun i hi => h.block i hi)
theorem liftedG (os : Os) (started : os.Started) (H : Type) (enc : TypeId × Value → H) :
  ReturnsInHanded {} Tryz.checked os 3 .any (fun w args => (Rows.matrixGroupsSpec.pre enc Tryz.prog Tryz.f3 [] false w args ∧ laidMetH Tryz.prog Rows.matrixGroupsRow.laid w) ∧ sizedMet enc Tryz.prog Tryz.f3 (OpenSpec.ofChange Rows.matrixGroupsSpec) false w args)
   (Rows.matrixGroupsSpec.post enc Tryz.prog Tryz.f3 false true false false) := by
 refine returnsInHanded_of_change_and (C := Tryz.checked) (X := fun w _ => laidMetH Tryz.prog Rows.matrixGroupsRow.laid w) (fun _ _ _ hh h => h.of_heap hh) ownG started (by kernel_rfl) Tryz.func3
  (ChangeSpec.witness_shaped (enc := enc) (C := Tryz.checked) (os := os) (X := fun w _ => laidMetH Tryz.prog Rows.matrixGroupsRow.laid w) false (World.doorLaid Tryz.prog 4000 os) #[.agg #[.int .i16 0, .int .u8 0, .int .i16 0, .int .u8 0, .int .i16 0, .int .u8 0, .int .i16 0, .int .u8 0, .slice none 0 0, .slice none 0 0, .bool false, .int .u8 0], .agg #[.int .i16 0, .int .u8 0, .int .i16 0, .int .u8 0, .int .i16 0, .int .u8 0, .int .i16 0, .int .u8 0, .slice none 0 0, .slice none 0 0, .bool false, .int .u8 0], .agg #[.int .i16 0, .int .u8 0, .int .i16 0, .int .u8 0, .int .i16 0, .int .u8 0, .int .i16 0, .int .u8 0, .slice none 0 0, .slice none 0 0, .bool false, .int .u8 0]] 8 rfl (World.shaped_of_RefB (by kernel_rfl) (by kernel_rfl)) (by kernel_rfl) (by kernel_rfl) (by kernel_rfl) (doorG os _)) ?_
 intro W base args ds gs before hval0 hW _ hsz0 hL _
 have hval : ∀ (j : Nat) t v, Tryz.f3.params[j]? = some t → args[j]? = some v → Value.okWide Tryz.prog W .any base t v := hval0
 have hW' := hW
 obtain ⟨p, q, hA0, hV, rfl, hfz, hnd⟩ := hW
 have hA : DataW.TrodAll enc Tryz.prog W 0 (fun _ => true) true Tryz.f3.params.toList args.toList ds p := hA0
 have hAk := hA
 have hsz : (DataW.weightsEach Tryz.prog (Tryz.f3.params.toList ++ Rows.matrixGroupsSpec.plain.varTypes Tryz.prog) (ds ++ gs)).all (· ≤ reachBytes) = true := hsz0
 rw [Tryz.params3] at hA hval hsz
 obtain ⟨args⟩ := args
 obtain ⟨v0, vs0, d0, ds0, p0, ps0, ev0, rfl, rfl, h0, r0⟩ := trodAll_cons hA
 obtain ⟨v1, vs1, d1, ds1, p1, ps1, ev1, rfl, rfl, h1, r1⟩ := trodAll_cons r0
 obtain ⟨v2, vs2, d2, ds2, p2, ps2, ev2, rfl, rfl, h2, r2⟩ := trodAll_cons r1
 obtain ⟨rfl, rfl, rfl⟩ := trodAll_nil r2
 cases ev0; cases ev1; cases ev2
 obtain ⟨rfl, rfl⟩ := trodVars_none hV
 have g0 := open_draft (hval 0 30 _ rfl rfl) h0 (fun n hn => by simpa using List.all_eq_true.1 hsz _ (DataW.weights_mem_each (j := 0) (t := 30) rfl rfl n hn))
 have g1 := open_draft (hval 1 30 _ rfl rfl) h1 (fun n hn => by simpa using List.all_eq_true.1 hsz _ (DataW.weights_mem_each (j := 1) (t := 30) rfl rfl n hn))
 have g2 := open_draft (hval 2 30 _ rfl rfl) h2 (fun n hn => by simpa using List.all_eq_true.1 hsz _ (DataW.weights_mem_each (j := 2) (t := 30) rfl rfl n hn))
 obtain ⟨m, hp⟩ := pows_of_laid hL
 simp only [List.append_nil] at hW' hAk
 refine (mgroups_ok W m hp v0 v1 v2 g0 g1 g2).mono fun e W' ⟨he, hw⟩ => ?_
 subst he
 refine ⟨_, rfl, _, _, _, [], _, [], hW', ?_, trodAll_below18 laidOut18 hw _ _ _ _ (by rw [Tryz.params3]; kernel_rfl) hAk (fun x hx => by simpa using hW'.lt x hx), ?_, keptButG hw _, fun h => by cases h⟩
 ·exact trodAll_mk1 (shut_bool Tryz.underlying4 true)
 ·rfl
theorem rf1G : Tryz.pinned.checked.prog.funcNamed Rows.matrixGroupsRow.func = some 3 := by kernel_rfl
theorem rf2G : joinedFacts Tryz.pinned.checked.prog 3 Tryz.f3 Rows.matrixGroupsSpec Rows.matrixGroupsRow = true := by kernel_rfl
theorem rf3G : decide (Func.isInstance Tryz.pinned.checked.prog Tryz.f3 Rows.matrixGroupsRow.origin Rows.matrixGroupsRow.targs) = true := by kernel_rfl
theorem rf4G : Func.isWrapper Tryz.pinned.checked.prog Tryz.f3 Rows.matrixGroupsRow.wrapper Rows.matrixGroupsRow.mainSum := by
 unfold Func.isWrapper
 rw [if_neg (by decide +kernel)]
 exact ⟨rfl, rfl⟩
theorem rowG : Rows.MatrixGroupsSaid :=
 OpenClaim.holds_of_wide 3 Tryz.f3 rfl rfl rfl rfl rfl rfl rfl ⟨rfl, rfl, rfl, rfl, rfl⟩ rfl rfl rfl rfl rfl rf1G Tryz.func3 rf2G
  (of_decide_eq_true rf3G) rf4G
  (fun os started H enc _ => liftedG os started H enc)
theorem matrixGroups_holds : Rows.MatrixGroupsCardSaid :=
 Claim7.holds_tied_plain_at .later [] [.mappedDeep, .funcs] true (true, "0ca0f186eeee4be94936cf84ea73dbe543e30e760edde5ff8a0b065013f6053a") true
  rowG (fun _ h => by cases h) (by kernel_rfl) (fun _ h => by cases h) matrixGroups_row_tie rfl ⟨rfl, rfl⟩ (by kernel_rfl) rfl
  (fun f fn hf hfn => by
   obtain rfl : f = 3 := Option.some.inj ((show Tryz.prog.funcNamed "monocle/monoclelaw18.MatrixGroups" = some 3 by kernel_rfl).symm.trans hf) |>.symm
   obtain rfl : fn = Tryz.f3 := (Option.some.inj (Tryz.func3.symm.trans hfn)).symm
   exact ⟨by kernel_rfl, fun j t ht => by
    rw [Tryz.params3] at ht
    have hm : t ∈ [30, 30, 30] := by simpa using Array.mem_of_getElem? ht
    have hall : ([30, 30, 30].all fun u => !Tryz.prog.wantsStandIn u) = true := by kernel_rfl
    exact (show Tryz.prog.wantsStandIn t = false by simpa using List.all_eq_true.1 hall t hm)⟩)
  (by kernel_rfl)
#print axioms matrixGroups_holds
end
end Go.Proofs.YtccmnjkgfgnmoaaGreatDoor
