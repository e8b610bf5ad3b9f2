/- Contracts of the program's fractions, lenses and rays, and a verified evaluator of the model. Part 24 of 30. No condition beside the row. -/
import Derived.Test.YtcgfdibagldafaaGreatDoorA22
set_option linter.unusedVariables false
set_option linter.unusedSimpArgs false
set_option maxRecDepth 100000
set_option maxHeartbeats 4000000
namespace Go.Proofs.YtcgfdibagldafaaGreatDoor
open Go.RowKit Go.Mono
theorem eqfilm_nil (p p' : Option Addr) (c c' : Nat) (w : World) :
  Calls Tryz.prog 306 #[.slice p 0 c, .slice p' 0 c'] w fun e w' => e = .returned (.bool true) ∧ w' = w := by
 go_enter Tryz.func306, Tryz.ntmps306
 go_wp2
 go_loopw [13] (fun a wr => a = .int .i64 0 ∧ wr = w) (fun _ _ => 0)
 case atStart => exact ⟨rfl, rfl⟩
 case round =>
  obtain ⟨rfl, rfl⟩ := hrel
  go_wp2
  go_ret
  exact ⟨rfl, rfl⟩
theorem enters_same1 : ∀ args w, (callFunc 305 args).run Tryz.prog w = .ok (.enter 305 args) w := Go.Proofs.enters_of Tryz.func305 (by kernel_rfl) rfl
theorem Srf.cs_size (s : Srf) (p : Option Addr) (c : Nat) : (s.cs p c).size = 22 := rfl
theorem same_parts (A C FL : Array Value) (hA : A.size = 22) (hC : C.size = 22) (p p' : Option Addr) (c c' : Nat) (a21 : A[21]? = some (.slice p 0 c)) (c21 : C[21]? = some (.slice p' 0 c'))
  (hca : ∀ W, Calls Tryz.prog 305 #[.agg A] W fun e w' => e = .returned (.agg FL) ∧ Below W.heap.size W w') (hcc : ∀ W, Calls Tryz.prog 305 #[.agg C] W fun e w' => e = .returned (.agg FL) ∧ Below W.heap.size W w')
  (heq : ∀ w, (binOp .eql 356 (.agg FL) (.agg FL)).run Tryz.prog w = .ok (.bool true) w) (w : World) :
  Calls Tryz.prog 282 #[.agg A, .agg C] w fun e w' => e = .returned (.bool true) ∧ Below w.heap.size w w' := by
 have hsz : (Tryz.prog.info? 91).map (·.size) = some 22 := by kernel_rfl
 have eg := enters_same1
 go_enter Tryz.func282, Tryz.ntmps282
 go_wp2_with fail
 refine boxes2 fun W hB hs b0 b1 => ?_
 have f0 : W.cell? ⟨w.heap.size, 21, none⟩ = some (.slice p 0 c) := (b0.cell 21).trans a21
 have f1 : W.cell? ⟨w.heap.size + 1, 21, none⟩ = some (.slice p' 0 c') := (b1.cell 21).trans c21
 have lb0 := b0.lt
 have lb1 := b1.lt
 have sA : (Tryz.prog.info? 91).map (·.size) = some A.size := by rw [hsz, hA]
 have sC : (Tryz.prog.info? 91).map (·.size) = some C.size := by rw [hsz, hC]
 clear hA hC hsz a21 c21
 refine wp_region_held_drew (S := fun w' => (∀ b o, b < W.heap.size → w'.cell? ⟨b, o, none⟩ = W.cell? ⟨b, o, none⟩) ∧ Below W.heap.size W w') (by kernel_rfl) (belowS (Below.refl _ _).drew) (fun hHeld => ?_)
 refine tk 0 (some 6) ?_
 refine tk 3 (some 9) ?_
 refine tl 1 (some 7) rfl (.agg A) (exec_load 91 _ rfl w.heap.size 0 rfl A (fun w h => (b0.below h.2).range) _ Tryz.underlying91 rfl sA) ?_
 refine tl 4 (some 10) rfl (.agg C) (exec_load 91 _ rfl (w.heap.size + 1) 0 rfl C (fun w h => (b1.below h.2).range) _ Tryz.underlying91 rfl sC) ?_
 refine Mono.st 2 ?_
 intro K hK
 go_simp
 (refine (hca _).mono ?_; rintro e W1 ⟨rfl, hb⟩)
 refine kp hK (belowS (belowCall hHeld.2 hb)) (fun hHeld => ?_)
 clear hK K
 clear hb
 refine Mono.st 5 ?_
 intro K hK
 go_simp
 (refine (hcc _).mono ?_; rintro e W2 ⟨rfl, hb⟩)
 refine kp hK (belowS (belowCall hHeld.2 hb)) (fun hHeld => ?_)
 clear hK K
 clear hb
 refine tk 6 (some 12) ?_
 refine tk 7 (some 13) ?_
 refine tk 8 (some 14) ?_
 refine tk 9 (some 15) ?_
 refine tk 10 (some 16) ?_
 refine tk 11 (some 17) ?_
 refine Mono.st 12 ?_
 intro K hK
 go_simp
 (refine (eqfilm_nil p p' c c' _).mono ?_; rintro e W3 ⟨rfl, rfl⟩)
 refine kp hK (hHeld) (fun hHeld => ?_)
 clear hK K
 refine tk 13 (some 19) ?_
 refine tk 14 (some 4) ?_
 refine wpAnyH_done (by kernel_rfl) ?_ _
 go_wp2
 go_ret
 exact ⟨rfl, belowCall hB hHeld.2⟩
theorem same_ok (s : Srf) (hs : s.ok) (p p' : Option Addr) (c c' : Nat) (w : World) :
  Calls Tryz.prog 282 #[.agg (s.cs p c), .agg (s.cs p' c')] w fun e w' => e = .returned (.bool true) ∧ Below w.heap.size w w' :=
 same_parts (s.cs p c) (s.cs p' c') s.flds rfl rfl p p' c c' rfl rfl (fun W => same1_ok s p c W) (fun W => same1_ok s p' c' W) (eql_flds s hs) w
theorem scheck1_ok (s : Srf) (hs : s.ok) (p : Option Addr) (c B : Nat) (w : World) (b0 : Box w B 91 (s.cs p c)) :
  Calls Tryz.prog 280 #[.pointer (some ⟨B, 0, none⟩)] w fun e w' => e = .returned (.bool true) ∧ Below w.heap.size w w' := by
 have hsz : (Tryz.prog.info? 91).map (·.size) = some (s.cs p c).size := by kernel_rfl
 have f0 : w.cell? ⟨B, 0, none⟩ = some (.int .i64 s.kind) := b0.cell 0
 have lb0 := b0.lt
 have hkept := fun W => kept_ok s hs p c W
 have hsame := fun p' c' W => same_ok s hs p p' c c' W
 have k1 := hs.k1
 have k2 := hs.k2
 clear hs
 generalize s.kind = kd at *
 generalize s.cs p c = A at *
 go_enter Tryz.func280, Tryz.ntmps280
 go_wp2_with fail
 refine wp_region_held_drew (S := fun w' => (∀ b o, b < w.heap.size → w'.cell? ⟨b, o, none⟩ = w.cell? ⟨b, o, none⟩) ∧ Below w.heap.size w w') (by kernel_rfl) (belowS (Below.refl _ _).drew) (fun hHeld => ?_)
 refine tk 0 (some 2) ?_
 refine tk 1 (some 3) ?_
 refine Mono.st 2 ?_
 intro K hK
 go_simp
 refine kp hK (belowS (belowAlloc hHeld.2 _)) (fun hHeld => ?_)
 clear hK K
 refine Mono.st 3 ?_
 intro K hK
 go_simp
 (refine (between_ok 1 4 1 _ _ (fun _ => kd) _ (.box (Box.new w 3 #[.int .i64 kd]).drew 0 1 _ (fun i hi => by obtain rfl : i = 0 := (by omega); rfl) (by omega)) (fun _ _ => ⟨k1, k2⟩)).mono ?_; rintro e W1 ⟨rfl, hb⟩)
 refine kp hK (belowS (belowCall hHeld.2 hb)) (fun hHeld => ?_)
 clear hK K
 clear hb
 refine tk 4 (some 6) ?_
 refine tl 5 (some 7) rfl (.agg A) (exec_load 91 _ rfl B 0 rfl A (fun w h => (b0.below h.2).range) _ Tryz.underlying91 rfl hsz) ?_
 refine tl 6 (some 8) rfl (.agg A) (exec_load 91 _ rfl B 0 rfl A (fun w h => (b0.below h.2).range) _ Tryz.underlying91 rfl hsz) ?_
 refine Mono.st 7 ?_
 intro K hK
 go_simp
 (refine (hkept _).mono ?_; rintro e W2 ⟨⟨p', c', rfl⟩, hb⟩)
 refine kp hK (belowS (belowCall hHeld.2 hb)) (fun hHeld => ?_)
 clear hK K
 clear hb
 refine Mono.st 8 ?_
 intro K hK
 go_simp
 (refine (hsame p' c' _).mono ?_; rintro e W3 ⟨rfl, hb⟩)
 refine kp hK (belowS (belowCall hHeld.2 hb)) (fun hHeld => ?_)
 clear hK K
 clear hb
 refine tk 9 (some 11) ?_
 refine tk 10 (some 1) ?_
 refine wpAnyH_done (by kernel_rfl) ?_ _
 go_wp2
 go_ret
 exact ⟨rfl, hHeld.2⟩
end Go.Proofs.YtcgfdibagldafaaGreatDoor
