/- Part 26 of 52 of the proof that the law ParaxialKnown returns true, whatever stands in memory, if the two listed variables hold what the text lays: contracts of the functions that it reaches. No condition beside the row. -/
import Derived.Test.YtepodcocemmejaaGreatDoorA06
import Derived.Test.YtepodcocemmejaaGreatDoorA25
set_option linter.unusedVariables false
set_option linter.unusedSimpArgs false
namespace Go.Proofs.YtepodcocemmejaaGreatDoor
open Go.RowKit Go.Mono
set_option maxRecDepth 100000 in
set_option maxHeartbeats 2000000 in
/-- Right of the chapter's surfaces -/
theorem right11_of (A : Array Value) (hA : A.size = 22) (G : ByteArray) (hG : G = { data := #[] } ∨ G = { data := #[71] }) (p : Option Addr) (c : Nat)
    (g0 : A[0]? = some (.int .i64 1)) (g3 : A[3]? = some (.int .i64 0)) (g4 : A[4]? = some (.int .i64 0)) (g5 : A[5]? = some (.int .i64 0)) (g6 : A[6]? = some (.int .i64 0)) (g7 : A[7]? = some (.int .i64 0)) (g8 : A[8]? = some (.int .i64 0))
    (g9 : A[9]? = some (.int .i64 0)) (g10 : A[10]? = some (.int .i64 0)) (g11 : A[11]? = some (.int .i64 0)) (g13 : A[13]? = some (.string G)) (g16 : A[16]? = some (.int .i64 0)) (g17 : A[17]? = some (.int .i64 0)) (g18 : A[18]? = some (.int .i64 0)) (g19 : A[19]? = some (.int .i64 0)) (g20 : A[20]? = some (.int .i64 0)) (g21 : A[21]? = some (.slice p 0 c))
    (w : World) (hsm : ∀ W, Calls Tryz.prog 195 #[.agg A] W fun e w' => e = .returned (.bool true) ∧ Below W.heap.size W w') :
    Calls Tryz.prog 170 #[.agg A] w fun e w' => e = .returned (.bool true) ∧ Below w.heap.size w w' := by
  have hi : (Tryz.prog.info? 95).map (·.size) = some A.size := by rw [hA]; kernel_rfl
  have h92 : ∀ w : World, (binOp .eql 92 (.agg #[.int .i64 0, .int .i64 0, .int .i64 0, .int .i64 0]) (.agg #[.int .i64 0, .int .i64 0, .int .i64 0, .int .i64 0])).run Tryz.prog w = .ok (.bool true) w := fun w => by kernel_rfl
  have h49 : ∀ w : World, (binOp .eql 49 (.agg #[.int .i64 0, .int .i64 0]) (.agg #[.int .i64 0, .int .i64 0])).run Tryz.prog w = .ok (.bool true) w := fun w => by kernel_rfl
  go_enter Tryz.func170, Tryz.ntmps170
  go_step
  go_step
  go_step
  go_step
  go_step
  go_step
  go_step
  go_step
  go_step
  go_step
  go_step
  go_step
  go_step
  go_step
  go_step
  refine boxes1l fun W hB hsz bS => ?_
  refine wpList_load_box rfl 95 _ rfl w.heap.size rfl 95 A bS _ Tryz.underlying95 rfl hi ?_
  go_wp2_with fail
  refine (hsm W).mono ?_
  rintro e W1 ⟨rfl, hb⟩
  replace hB := belowCall hB hb
  replace bS := bS.below hb
  have lS := bS.lt
  have f0 := (bS.cell 0).trans g0
  have f3 := (bS.cell 3).trans g3
  have f4 := (bS.cell 4).trans g4
  have f5 := (bS.cell 5).trans g5
  have f6 := (bS.cell 6).trans g6
  have f7 := (bS.cell 7).trans g7
  have f8 := (bS.cell 8).trans g8
  have f9 := (bS.cell 9).trans g9
  have f10 := (bS.cell 10).trans g10
  have f11 := (bS.cell 11).trans g11
  have f13 := (bS.cell 13).trans g13
  have f16 := (bS.cell 16).trans g16
  have f17 := (bS.cell 17).trans g17
  have f18 := (bS.cell 18).trans g18
  have f19 := (bS.cell 19).trans g19
  have f20 := (bS.cell 20).trans g20
  have f21 := (bS.cell 21).trans g21
  clear hsm g0 g3 g4 g5 g6 g7 g8 g9 g10 g11 g13 g16 g17 g18 g19 g20 g21 hA hi bS
  rcases hG with rfl | rfl
  all_goals
    go_wp2
    go_ret
    exact ⟨rfl, hB⟩
theorem right11_ok (s : Srf) (hs : s = chG ∨ s = zS) (p : Option Addr) (c : Nat) (w : World) :
    Calls Tryz.prog 170 #[.agg (s.cs p c)] w fun e w' => e = .returned (.bool true) ∧ Below w.heap.size w w' := by
  have hsm := fun W => small11_ok s hs p c W
  rcases hs with rfl | rfl
  · exact right11_of _ rfl { data := #[71] } (.inr rfl) p c rfl rfl rfl rfl rfl rfl rfl rfl rfl rfl rfl rfl rfl rfl rfl rfl rfl w hsm
  · exact right11_of _ rfl { data := #[] } (.inl rfl) p c rfl rfl rfl rfl rfl rfl rfl rfl rfl rfl rfl rfl rfl rfl rfl rfl rfl w hsm
end Go.Proofs.YtepodcocemmejaaGreatDoor
