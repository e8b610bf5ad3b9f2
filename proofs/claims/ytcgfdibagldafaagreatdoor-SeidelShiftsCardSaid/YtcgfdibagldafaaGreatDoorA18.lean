/- Contracts of the program's fractions, lenses and rays, and a verified evaluator of the model. Part 18 of 30. No condition beside the row. -/
import Derived.Outline
import Derived.Test.YtcgfdibagldafaaGreatDoorA02
import Derived.Test.YtcgfdibagldafaaGreatDoorA16
set_option linter.unusedVariables false
set_option linter.unusedSimpArgs false
set_option maxRecDepth 100000
set_option maxHeartbeats 4000000
namespace Go.Proofs.YtcgfdibagldafaaGreatDoor
open Go.RowKit Go.Mono
theorem same1_vars (kind curv conic curvx conicx a0 a1 a2 a3 p0 p1 order thick semi hole dx dy ax ay az : Int) (glass : ByteArray) (A : Array Value)
  (e0 : A[0]? = some (.int .i64 kind))
  (e1 : A[1]? = some (.int .i64 curv))
  (e2 : A[2]? = some (.int .i64 conic))
  (e3 : A[3]? = some (.int .i64 curvx))
  (e4 : A[4]? = some (.int .i64 conicx))
  (e5 : A[5]? = some (.int .i64 a0))
  (e6 : A[6]? = some (.int .i64 a1))
  (e7 : A[7]? = some (.int .i64 a2))
  (e8 : A[8]? = some (.int .i64 a3))
  (e9 : A[9]? = some (.int .i64 p0))
  (e10 : A[10]? = some (.int .i64 p1))
  (e11 : A[11]? = some (.int .i64 order))
  (e12 : A[12]? = some (.int .i64 thick))
  (e13 : A[13]? = some (.string glass))
  (e14 : A[14]? = some (.int .i64 semi))
  (e15 : A[15]? = some (.int .i64 hole))
  (e16 : A[16]? = some (.int .i64 dx))
  (e17 : A[17]? = some (.int .i64 dy))
  (e18 : A[18]? = some (.int .i64 ax))
  (e19 : A[19]? = some (.int .i64 ay))
  (e20 : A[20]? = some (.int .i64 az))
  (w : World) : Calls Tryz.prog 305 #[.agg A] w fun e w' => e = .returned (.agg #[.int .i64 kind, .int .i64 curv, .int .i64 conic, .int .i64 curvx, .int .i64 conicx, .int .i64 order, .int .i64 thick, .int .i64 semi, .int .i64 hole, .int .i64 dx, .int .i64 dy, .int .i64 ax, .int .i64 ay, .int .i64 az, .int .i64 0, .int .i64 0, .int .i64 a0, .int .i64 a1, .int .i64 a2, .int .i64 a3, .int .i64 p0, .int .i64 p1, .string glass]) ∧ Below w.heap.size w w' := by
 go_enter Tryz.func305, Tryz.ntmps305
 have hi : (Tryz.prog.info? 356).map (·.size) = some 23 := by kernel_rfl
 go_step
 go_step
 go_step
 go_step
 go_step
 go_step
 go_step
 go_step
 go_step
 refine boxes2l fun W hB hsz b0 b1 => ?_
 have f0 : W.cell? ⟨w.heap.size, 0, none⟩ = some (.int .i64 kind) := (b0.cell 0).trans e0
 have f1 : W.cell? ⟨w.heap.size, 1, none⟩ = some (.int .i64 curv) := (b0.cell 1).trans e1
 have f2 : W.cell? ⟨w.heap.size, 2, none⟩ = some (.int .i64 conic) := (b0.cell 2).trans e2
 have f3 : W.cell? ⟨w.heap.size, 3, none⟩ = some (.int .i64 curvx) := (b0.cell 3).trans e3
 have f4 : W.cell? ⟨w.heap.size, 4, none⟩ = some (.int .i64 conicx) := (b0.cell 4).trans e4
 have f5 : W.cell? ⟨w.heap.size, 5, none⟩ = some (.int .i64 a0) := (b0.cell 5).trans e5
 have f6 : W.cell? ⟨w.heap.size, 6, none⟩ = some (.int .i64 a1) := (b0.cell 6).trans e6
 have f7 : W.cell? ⟨w.heap.size, 7, none⟩ = some (.int .i64 a2) := (b0.cell 7).trans e7
 have f8 : W.cell? ⟨w.heap.size, 8, none⟩ = some (.int .i64 a3) := (b0.cell 8).trans e8
 have f9 : W.cell? ⟨w.heap.size, 9, none⟩ = some (.int .i64 p0) := (b0.cell 9).trans e9
 have f10 : W.cell? ⟨w.heap.size, 10, none⟩ = some (.int .i64 p1) := (b0.cell 10).trans e10
 have f11 : W.cell? ⟨w.heap.size, 11, none⟩ = some (.int .i64 order) := (b0.cell 11).trans e11
 have f12 : W.cell? ⟨w.heap.size, 12, none⟩ = some (.int .i64 thick) := (b0.cell 12).trans e12
 have f13 : W.cell? ⟨w.heap.size, 13, none⟩ = some (.string glass) := (b0.cell 13).trans e13
 have f14 : W.cell? ⟨w.heap.size, 14, none⟩ = some (.int .i64 semi) := (b0.cell 14).trans e14
 have f15 : W.cell? ⟨w.heap.size, 15, none⟩ = some (.int .i64 hole) := (b0.cell 15).trans e15
 have f16 : W.cell? ⟨w.heap.size, 16, none⟩ = some (.int .i64 dx) := (b0.cell 16).trans e16
 have f17 : W.cell? ⟨w.heap.size, 17, none⟩ = some (.int .i64 dy) := (b0.cell 17).trans e17
 have f18 : W.cell? ⟨w.heap.size, 18, none⟩ = some (.int .i64 ax) := (b0.cell 18).trans e18
 have f19 : W.cell? ⟨w.heap.size, 19, none⟩ = some (.int .i64 ay) := (b0.cell 19).trans e19
 have f20 : W.cell? ⟨w.heap.size, 20, none⟩ = some (.int .i64 az) := (b0.cell 20).trans e20
 clear e0 e1 e2 e3 e4 e5 e6 e7 e8 e9 e10 e11 e12 e13 e14 e15 e16 e17 e18 e19 e20 b0
 go_wp2_with first | (refine wpList_build2 rfl 354 _ rfl #[.int .i64 kind, .int .i64 curv, .int .i64 conic, .int .i64 curvx, .int .i64 conicx, .int .i64 order, .int .i64 thick, .int .i64 semi, .int .i64 hole, .int .i64 dx, .int .i64 dy, .int .i64 ax, .int .i64 ay, .int .i64 az, .int .i64 0, .int .i64 0] (by as_aux_lemma => kernel_rfl) ?_) | (refine wpList_build2 rfl 356 _ rfl #[.int .i64 kind, .int .i64 curv, .int .i64 conic, .int .i64 curvx, .int .i64 conicx, .int .i64 order, .int .i64 thick, .int .i64 semi, .int .i64 hole, .int .i64 dx, .int .i64 dy, .int .i64 ax, .int .i64 ay, .int .i64 az, .int .i64 0, .int .i64 0, .int .i64 a0, .int .i64 a1, .int .i64 a2, .int .i64 a3, .int .i64 p0, .int .i64 p1, .string glass] (by as_aux_lemma => kernel_rfl) ?_) | (refine wpList_store_box rfl 356 (.tmp 2) (.tmp 38) rfl (w.heap.size + 1) 0 356 _ #[.int .i64 kind, .int .i64 curv, .int .i64 conic, .int .i64 curvx, .int .i64 conicx, .int .i64 order, .int .i64 thick, .int .i64 semi, .int .i64 hole, .int .i64 dx, .int .i64 dy, .int .i64 ax, .int .i64 ay, .int .i64 az, .int .i64 0, .int .i64 0, .int .i64 a0, .int .i64 a1, .int .i64 a2, .int .i64 a3, .int .i64 p0, .int .i64 p1, .string glass] #[.int .i64 kind, .int .i64 curv, .int .i64 conic, .int .i64 curvx, .int .i64 conicx, .int .i64 order, .int .i64 thick, .int .i64 semi, .int .i64 hole, .int .i64 dx, .int .i64 dy, .int .i64 ax, .int .i64 ay, .int .i64 az, .int .i64 0, .int .i64 0, .int .i64 a0, .int .i64 a1, .int .i64 a2, .int .i64 a3, .int .i64 p0, .int .i64 p1, .string glass] rfl rfl b1 hi (Nat.le_of_ble_eq_true rfl) (by simp [Value.oneCell']) rfl ?_; intro W2 hk2 hb2)
 refine bodyPost_ret (hb2.results rfl _ _ rfl Tryz.underlying356 rfl hi) rfl ?_
 exact ⟨rfl, hk2.below hB (by omega) (by omega)⟩
end Go.Proofs.YtcgfdibagldafaaGreatDoor
