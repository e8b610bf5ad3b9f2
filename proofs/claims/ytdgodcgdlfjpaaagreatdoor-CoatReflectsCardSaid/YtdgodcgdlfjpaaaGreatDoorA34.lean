/- Contracts of package coat and of the examples of its law, for the laws of layer 40. Part 34 of 40. No condition beside the row. -/
import Derived.ArgAppend
import Derived.Test.YtdgodcgdlfjpaaaGreatDoorA03
import Derived.Test.YtdgodcgdlfjpaaaGreatDoorA27
import Derived.Test.YtdgodcgdlfjpaaaGreatDoorA31
import Derived.Test.YtdgodcgdlfjpaaaGreatDoorA32
set_option linter.unusedVariables false
set_option linter.unusedSimpArgs false
set_option maxRecDepth 100000
set_option maxHeartbeats 4000000
namespace Go.Mono
open Go.RowKit
def FilmsAt (w : World) (p : Option Addr) (n c : Nat) (F : Nat → Flm) : Prop := RdC w p n c 3 (fun i j => (F i).vals.getD j undef)
theorem FilmsAt.below {w w' : World} {p : Option Addr} {n c : Nat} {F : Nat → Flm} (h : FilmsAt w p n c F) (hB : Below w.heap.size w w') : FilmsAt w' p n c F := RdC.below h hB
theorem FilmsAt.range {w : World} {p : Option Addr} {n c : Nat} {F : Nat → Flm} (h : FilmsAt w p n c F) (hn : 0 < n) : ∃ b off, p = some ⟨b, off, none⟩ ∧ b < w.heap.size ∧ ∀ i, i < n → ∀ W, Below w.heap.size w W → W.rangeAt b (off + i * 3) (F i).vals.toList := by
 obtain ⟨_, _, hx⟩ := h
 obtain ⟨b, off, hp, hb, hc⟩ := hx hn
 refine ⟨b, off, hp, hb, fun i hi W hW j v hv => ?_⟩
 have hj : j < 3 := by
  have := (List.getElem?_eq_some_iff.1 hv).1
  simpa [Flm.vals] using this
 refine ((hW.cell (p := ⟨b, off + i * 3 + j, none⟩) hb).trans (hc i j hi hj)).trans ?_
 dsimp only
 rw [Array.getElem?_toList] at hv
 rw [Array.getD_eq_getD_getElem?, hv]
 rfl
def filmsN (F : Nat → Flm) (n : Nat) : List Flm := (List.range n).map F
theorem filmsN_succ (F : Nat → Flm) (n : Nat) : filmsN F (n + 1) = filmsN F n ++ [F n] := by
 unfold filmsN
 rw [List.range_succ, List.map_append]; rfl
theorem filmsN_length (F : Nat → Flm) (n : Nat) : (filmsN F n).length = n := by simp [filmsN]
theorem filmsN_ok {F : Nat → Flm} {n : Nat} (h : ∀ i, i < n → (F i).ok) : ∀ f ∈ filmsN F n, f.ok := by
 intro f hf
 simp only [filmsN, List.mem_map, List.mem_range] at hf
 obtain ⟨i, hi, rfl⟩ := hf
 exact h i hi
def stackN (F : Nat → Flm) (n : Nat) : Mat := stackM (filmsN F n)
theorem stackN_succ (F : Nat → Flm) (n : Nat) : stackN F (n + 1) = (stackN F n).mul (F n).mat := by
 unfold stackN
 rw [filmsN_succ, stackM_snoc]
theorem mfits (l : List Flm) (f : Flm) (h : ∀ g ∈ l, g.ok) (hf : f.ok) (hl : l.length ≤ 8) : MFits (stackM l) f.mat where
 pr := fun u v hu hv => (stack_step l f h hf hl u v u v hu hv hu hv).1.fits (by decide)
 a := (stack_step l f h hf hl _ _ _ _ (by simp) (by simp) (by simp) (by simp)).2.2.fits (by decide)
 b := (stack_step l f h hf hl _ _ _ _ (by simp) (by simp) (by simp) (by simp)).2.1.fits (by decide)
 c := (stack_step l f h hf hl _ _ _ _ (by simp) (by simp) (by simp) (by simp)).2.1.fits (by decide)
 d := (stack_step l f h hf hl _ _ _ _ (by simp) (by simp) (by simp) (by simp)).2.2.fits (by decide)
theorem mfitsN {F : Nat → Flm} {n : Nat} (h : ∀ i, i < n + 1 → (F i).ok) (hn : n ≤ 8) : MFits (stackN F n) (F n).mat :=
 mfits _ _ (filmsN_ok fun i hi => h i (by omega)) (h n (by omega)) (by rw [filmsN_length]; omega)
theorem KeepBut.trans {R N : Nat} {a b c : World} (h : KeepBut R N a b) (k : KeepBut R b.heap.size b c) : KeepBut R N a c :=
 ⟨k.os.trans h.os, k.tape.trans h.tape, k.output.trans h.output, Nat.le_trans h.size k.size, fun i hi hR => (k.block i (Nat.lt_of_lt_of_le hi h.size) hR).trans (h.block i hi hR)⟩
structure AllAt (w : World) (F : Nat → Flm) (i : Nat) (cs : Array Value) : Prop where
 size : cs.size = 128
 mat : ∀ j, j < i → ∃ C, MV w C (F j).mat ∧ ∀ t, t < 16 → cs[j * 16 + t]? = C[t]?
theorem AllAt.ext {w w' : World} {F : Nat → Flm} {i : Nat} {cs : Array Value} (h : AllAt w F i cs) (hx : Ext w w') : AllAt w' F i cs :=
 ⟨h.size, fun j hj => by
  obtain ⟨C, hC, ht⟩ := h.mat j hj
  exact ⟨C, hC.ext hx, ht⟩⟩
theorem AllAt.store {w : World} {F : Nat → Flm} {i : Nat} {cs C : Array Value} (h : AllAt w F i cs) (hi : i < 8) (hC : MV w C (F i).mat) :
  AllAt w F (i + 1) (cs.toList.take (i * 16) ++ C.toList ++ cs.toList.drop (i * 16 + C.size)).toArray := by
 have hs := h.size
 have hc := hC.size
 refine ⟨by simp [hs, hc]; omega, fun j hj => ?_⟩
 by_cases hji : j = i
 ·subst hji
  refine ⟨C, hC, fun t ht => ?_⟩
  simp only [List.getElem?_toArray, List.append_assoc]
  rw [List.getElem?_append_right (by simp; omega), List.getElem?_append_left (by simp; omega)]
  simp [hs]
  congr 1
  omega
 ·obtain ⟨D, hD, ht⟩ := h.mat j (by omega)
  refine ⟨D, hD, fun t h16 => ?_⟩
  rw [← ht t h16]
  simp only [List.getElem?_toArray, List.append_assoc]
  rw [List.getElem?_append_left (by simp; omega), List.getElem?_take_of_lt (by omega), Array.getElem?_toList]
theorem AllAt.range {w : World} {B : Nat} {T : TypeId} {cs C : Array Value} (b : Box w B T cs) (j : Nat) (hC : C.size = 16) (ht : ∀ t, t < 16 → cs[j * 16 + t]? = C[t]?) : w.rangeAt B (j * 16) C.toList := fun t v hv => by
 have h16 : t < 16 := by
  have := (List.getElem?_eq_some_iff.1 hv).1
  simpa [hC] using this
 rw [b.cell, ht t h16, ← Array.getElem?_toList]
 exact hv
end Go.Mono
namespace Go.Proofs.YtdgodcgdlfjpaaaGreatDoor
open Go.RowKit Go.Mono
def all0 : Array Value := #[.bool false, .slice none 0 0, .bool false, .slice none 0 0, .bool false, .slice none 0 0, .bool false, .slice none 0 0, .bool false, .slice none 0 0, .bool false, .slice none 0 0, .bool false, .slice none 0 0, .bool false, .slice none 0 0, .bool false, .slice none 0 0, .bool false, .slice none 0 0, .bool false, .slice none 0 0, .bool false, .slice none 0 0, .bool false, .slice none 0 0, .bool false, .slice none 0 0, .bool false, .slice none 0 0, .bool false, .slice none 0 0, .bool false, .slice none 0 0, .bool false, .slice none 0 0, .bool false, .slice none 0 0, .bool false, .slice none 0 0, .bool false, .slice none 0 0, .bool false, .slice none 0 0, .bool false, .slice none 0 0, .bool false, .slice none 0 0, .bool false, .slice none 0 0, .bool false, .slice none 0 0, .bool false, .slice none 0 0, .bool false, .slice none 0 0, .bool false, .slice none 0 0, .bool false, .slice none 0 0, .bool false, .slice none 0 0, .bool false, .slice none 0 0, .bool false, .slice none 0 0, .bool false, .slice none 0 0, .bool false, .slice none 0 0, .bool false, .slice none 0 0, .bool false, .slice none 0 0, .bool false, .slice none 0 0, .bool false, .slice none 0 0, .bool false, .slice none 0 0, .bool false, .slice none 0 0, .bool false, .slice none 0 0, .bool false, .slice none 0 0, .bool false, .slice none 0 0, .bool false, .slice none 0 0, .bool false, .slice none 0 0, .bool false, .slice none 0 0, .bool false, .slice none 0 0, .bool false, .slice none 0 0, .bool false, .slice none 0 0, .bool false, .slice none 0 0, .bool false, .slice none 0 0, .bool false, .slice none 0 0, .bool false, .slice none 0 0, .bool false, .slice none 0 0, .bool false, .slice none 0 0, .bool false, .slice none 0 0, .bool false, .slice none 0 0, .bool false, .slice none 0 0, .bool false, .slice none 0 0, .bool false, .slice none 0 0, .bool false, .slice none 0 0, .bool false, .slice none 0 0, .bool false, .slice none 0 0]
theorem alloc_all (w : World) : (Instr.alloc 205 true (.tuple #[])).run Tryz.prog w = .ok (.pointer (some ⟨w.heap.size, 0, none⟩)) (w.alloc (.cells all0 205)) := by
 kernel_rfl
theorem enters_row : ∀ args w, (callFunc 161 args).run Tryz.prog w = .ok (.enter 161 args) w := Go.Proofs.enters_of Tryz.func161 (by kernel_rfl) rfl
theorem film_ones (f : Flm) : f.vals.all (·.oneCell') = true := by simp [Flm.vals, Value.oneCell']
theorem cstack_ok (F : Nat → Flm) (n : Nat) (hn : n ≤ 8) (hF : ∀ i, i < n → (F i).ok) (p : Option Addr) (c : Nat) (w : World) (h : FilmsAt w p n c F) :
  Calls Tryz.prog 89 #[.slice p n c] w fun e w' => ∃ C, e = .returned (.agg C) ∧ MV w' C (stackN F n) ∧ Below w.heap.size w w' := by
 have hmf : ∀ (fn : Fn) (first cap : Array Value) (w : World), (Instr.makeFunc fn first cap).run Tryz.prog w = .ok (.func fn first cap) w := fun _ _ _ _ => rfl
 have eg := enters_row
 have hszF : (Tryz.prog.info? 24).map (·.size) = some 3 := by kernel_rfl
 have hone := fun W => cof_ok 1 1 (by decide) W (by decide) (by decide) (by decide) (by decide)
 have hzero := fun W => cof_ok 0 1 (by decide) W (by decide) (by decide) (by decide) (by decide)
 rw [show Rat.divInt 1 1 = 1 from by decide +kernel] at hone
 rw [show Rat.divInt 0 1 = 0 from by decide +kernel] at hzero
 have hn8 : ¬ ((n : Int) > 8) := by omega
 go_enter Tryz.func89, Tryz.ntmps89
 go_wp2_with first | (refine wpList_new rfl 57 rfl _ alloc_quad ?_; intro W0 BO hleO hB0 bO) | (go_at_call 70; refine (crefuse_no _ _).mono ?_; rintro e w5 ⟨rfl, h5⟩; rw [h5]; clear h5 w5)
 refine (hone W0).mono ?_
 rintro e W1 ⟨C1, rfl, R1, hb1⟩
 go_wp2_with fail
 refine (hzero W1).mono ?_
 rintro e W2 ⟨C2, rfl, R2, hb2⟩
 replace R1 := R1.ext (.of_below hb2)
 obtain ⟨m0, m1, m2, m3, rfl, u0, u1, u2, u3⟩ := R1.four
 obtain ⟨n0, n1, n2, n3, rfl, v0, v1, v2, v3⟩ := R2.four
 have oM : (#[m0, m1, m2, m3] : Array Value).all (·.oneCell') = true := by simp [*]
 have oN : (#[n0, n1, n2, n3] : Array Value).all (·.oneCell') = true := by simp [*]
 have oA : (#[m0, m1, m2, m3, n0, n1, n2, n3, n0, n1, n2, n3, m0, m1, m2, m3] : Array Value).all (·.oneCell') = true := by simp [*]
 have hB2 := belowCall hB0 (belowCall hb1 hb2)
 replace bO := (bO.below hb1).below hb2
 have lO := bO.lt
 clear hb1 hb2 hone hzero hB0
 go_wp2_with first | (refine boxes2l fun W3 hb3 hs3 bM bN => ?_; refine wpList_store_box rfl 37 _ _ rfl W2.heap.size 0 37 _ #[m0, m1, m2, m3] #[m0, m1, m2, m3] rfl rfl bM sizeQuot (Nat.le_of_eq rfl) oM (whole_new rfl) ?_; intro W4 hk4 bM4; have bN4 := hk4.box bN bN.lt (by omega)) | (refine wpList_store_box rfl 37 _ _ rfl (W2.heap.size + 1) 0 37 _ #[n0, n1, n2, n3] #[n0, n1, n2, n3] rfl rfl bN4 sizeQuot (Nat.le_of_eq rfl) oN (whole_new rfl) ?_; intro W5 hk5 bN5; have bM5 := hk5.box bM4 bM4.lt (by omega)) | (refine wpList_load_box rfl 37 (.tmp 3) rfl W2.heap.size rfl 37 #[m0, m1, m2, m3] bM5 _ Tryz.underlying37 rfl sizeQuot ?_) | (refine wpList_load_box rfl 37 (.tmp 4) rfl (W2.heap.size + 1) rfl 37 #[n0, n1, n2, n3] bN5 _ Tryz.underlying37 rfl sizeQuot ?_) | (refine wpList_build2 rfl 57 _ rfl #[m0, m1, m2, m3, n0, n1, n2, n3, n0, n1, n2, n3, m0, m1, m2, m3] (by as_aux_lemma => kernel_rfl) ?_) | (refine wpList_new rfl 57 (by rfl) _ alloc_quad ?_; intro W6 BA hleA hb6 bA) | (refine wpList_store_box rfl 57 _ _ rfl BA 0 57 _ #[m0, m1, m2, m3, n0, n1, n2, n3, n0, n1, n2, n3, m0, m1, m2, m3] #[m0, m1, m2, m3, n0, n1, n2, n3, n0, n1, n2, n3, m0, m1, m2, m3] rfl rfl bA sizeQuad (Nat.le_of_eq rfl) oA (whole_new rfl) ?_; intro W7 hk7 bA7) | (refine wpList_new rfl 205 rfl _ alloc_all ?_; intro W8 Ball hleL hb8 bL)
 have hB24 := hk4.below hb3 (Nat.le_refl _) hb3.size
 have hB25 := hk5.below hB24 (by omega) hB24.size
 have hb67 := hk7.below hb6 hleA hb6.size
 have hb58 := belowCall hb67 hb8
 have hB28 := belowCall hB25 hb58
 have hB8 := belowCall hB2 hB28
 have hm0 : MV W8 #[m0, m1, m2, m3, n0, n1, n2, n3, n0, n1, n2, n3, m0, m1, m2, m3] Mat.one :=
  ⟨⟨_, _, _, _, _, _, _, _, _, _, _, _, _, _, _, _, rfl, R1.ext (.of_below hB28), R2.ext (.of_below hB28), R2.ext (.of_below hB28), R1.ext (.of_below hB28)⟩⟩
 have bA8 := bA7.below hb8
 have bO8 := bO.below hB28
 have hneAL : Ball ≠ BA := by have := bA7.lt; omega
 have hneAO : BO ≠ BA := by have := hB25.size; omega
 have hwL : w.heap.size ≤ Ball := by have := hB2.size; have := hB25.size; have := hb67.size; omega
 have hwA : w.heap.size ≤ BA := by have := hB2.size; have := hB25.size; omega
 have hneOL : BO ≠ Ball := by have := hB25.size; have := hb67.size; omega
 clear hB24 hB25 hb67 hb58 hB28 hb3 hs3 bM bN hk4 bM4 bN4 hk5 bN5 bM5 hleA hb6 bA hk7 bA7 hleL hb8 R1 R2 v0 v1 v2 v3 oM oN oA hB2 bO lO
 generalize W2.heap.size = BM at *
 generalize (#[m0, m1, m2, m3, n0, n1, n2, n3, n0, n1, n2, n3, m0, m1, m2, m3] : Array Value) = CA0 at *
 go_loopw [27] (fun x wr => ∃ k : Nat, k ≤ n ∧ x = .int .i64 (k : Int) ∧ ∃ cs, Box wr Ball 205 cs ∧ AllAt wr F k cs ∧ KeepBut Ball W8.heap.size W8 wr) (fun x _ => (n - intOf x).toNat)
 case atStart => exact ⟨0, Nat.zero_le _, rfl, _, bL, ⟨rfl, fun j hj => by omega⟩, KeepBut.refl _ _⟩
 case round =>
  obtain ⟨k, hk, rfl, cs, bAll, hAll, hKp⟩ := hrel
  have hBr := hKp.below hB8 hwL hB8.size
  by_cases hkn : k < n
  ·obtain ⟨b, off, rfl, hbl, hrg0⟩ := h.range (by omega)
   have hrg := hrg0 k hkn wr hBr
   have hlay := fun W => layer_ok (F k) (hF k hkn) W
   have hsz : (Tryz.prog.info? 24).map (·.size) = some (F k).vals.size := hszF
   have hsl : (Tryz.prog.info? 24).map (·.size) = some (F k).vals.toList.length := hszF
   have h1c := film_ones (F k)
   have hcs : (F k).vals.size = 3 := rfl
   have hkn' : (k : Int) < n := by omega
   have lbw := Nat.lt_of_lt_of_le hbl hBr.size
   have hAs := hAll.size
   have hk8 : k < 8 := by omega
   have lL := bAll.lt
   clear hrg0
   generalize (F k).vals = A3 at *
   go_wp2_with first | (refine wpList_load_mid rfl 24 _ rfl b (off + k * 3) rfl A3.toList _ hrg Tryz.underlying24 rfl hsl ?_) | (refine wpList_new rfl 24 rfl _ alloc_film ?_; intro V1 B1 hle1 hb1 bf) | (refine wpList_store_box rfl 24 _ _ rfl B1 0 24 _ A3 A3 rfl rfl bf hsz (Nat.le_of_eq (by rw [hcs]; rfl)) h1c (whole_new (by rw [hcs]; rfl)) ?_; intro V2 hk2 bf2) | (refine wpList_load_box rfl 24 (.tmp 8) rfl B1 rfl 24 A3 bf2 _ Tryz.underlying24 rfl hsz ?_)
   have hb12 := hk2.below hb1 hle1 hb1.size
   refine (hlay V2).mono ?_
   rintro e V3 ⟨C, rfl, hC, hb3⟩
   have hb13 := belowCall hb12 hb3
   have bAll3 := bAll.below hb13
   have lL3 := bAll3.lt
   have hKp3 := hKp.call hb13
   have hAll3 := hAll.ext (.of_below hb13)
   have hCs := hC.size
   have hCi : (Tryz.prog.info? 57).map (·.size) = some C.size := by rw [hCs]; exact sizeQuad
   have hCo := hC.ones
   clear hb12 hb1 hle1 bf hk2 bf2 hlay hrg hb3
   go_wp2_with (refine wpList_store_box rfl 57 _ _ rfl Ball (k * 16) 205 cs C _ rfl rfl bAll3 hCi (by rw [hAs, hCs]; omega) hCo rfl ?_; intro V4 hk4 bAll4)
   go_roundw
   case rel => exact ⟨k + 1, by omega, by simp, _, bAll4, (hAll3.ext (hk4.ext bAll3 (by decide))).store hk8 (hC.ext (hk4.ext bAll3 (by decide))), hKp3.trans hk4⟩
   case measure => simp [intOf]; omega
  ·obtain rfl : k = n := by omega
   have hFl : FilmsAt wr p k c F := h.below hBr
   have hxr := hKp.ext bL (by decide)
   have bAr := hKp.box bA8 bA8.lt (Ne.symm hneAL)
   have bOr := hKp.box bO8 bO8.lt hneOL
   have hm1 := hm0.ext hxr
   have lL := bAll.lt
   clear hkn hk hm0 bA8 bO8 bL hB8 hKp hxr
   obtain ⟨w9, hw9⟩ : ∃ w9, w9 = wr := ⟨wr, rfl⟩
   rw [← hw9] at bAll hAll hBr hFl bAr bOr hm1 lL ⊢
   clear hw9
   go_wp2
   go_loopw [41] (fun x wr => ∃ j : Nat, j ≤ k ∧ x = .int .i64 (j : Int) ∧ ∃ CA, Box wr BA 57 CA ∧ MV wr CA (stackN F j) ∧ KeepBut BA w9.heap.size w9 wr) (fun x _ => (k - intOf x).toNat)
   case atStart => exact ⟨0, Nat.zero_le _, rfl, _, bAr, hm1, KeepBut.refl _ _⟩
   case round =>
    obtain ⟨j, hj, rfl, CA, bA, hM, hKp⟩ := hrel
    by_cases hjn : j < k
    ·obtain ⟨C, hC, hCt⟩ := hAll.mat j hjn
     have hxr := hKp.ext bAr (by decide)
     have hCr := hC.ext hxr
     have bL2 := hKp.box bAll bAll.lt hneAL
     have hCs := hC.size
     have hrg := AllAt.range bL2 j hCs hCt
     have hCi : (Tryz.prog.info? 57).map (·.size) = some C.size := by rw [hCs]; exact sizeQuad
     have hCl : (Tryz.prog.info? 57).map (·.size) = some C.toList.length := by rw [Array.length_toList, hCs]; exact sizeQuad
     have hCo := hC.ones
     have lL2 := bL2.lt
     have hfit := mfitsN (F := F) (n := j) (fun i hi => hF i (by omega)) (by omega)
     have hjn' : (j : Int) < k := by omega
     go_wp2_with first | (refine wpList_load_mid rfl 57 _ rfl Ball (j * 16) rfl C.toList _ hrg Tryz.underlying57 rfl hCl ?_) | (refine wpList_new rfl 57 rfl _ alloc_quad ?_; intro V1 Bb hle1 hb1 bf) | (refine wpList_store_box rfl 57 _ _ rfl Bb 0 57 _ C C rfl rfl bf hCi (Nat.le_of_eq (by rw [hCs]; rfl)) hCo (whole_new (by rw [hCs]; rfl)) ?_; intro V2 hk2 bf2)
     have hb12 := hk2.below hb1 hle1 hb1.size
     have bA2 := bA.below hb12
     have hM2 := hM.ext (.of_below hb12)
     have hC2 := hCr.ext (.of_below hb12)
     refine (crow0_ok (stackN F j) (F j).mat hfit CA C BA Bb V2 bA2 bf2 hM2 hC2).mono ?_
     rintro e V3 ⟨x0, x1, x2, x3, y0, y1, y2, y3, rfl, Rx, Ry, hb3⟩
     go_wp2_with fail
     refine (crow1_ok (stackN F j) (F j).mat hfit CA C BA Bb V3 (bA2.below hb3) (bf2.below hb3) (hM2.ext (.of_below hb3)) (hC2.ext (.of_below hb3))).mono ?_
     rintro e V4 ⟨p0, p1, p2, p3, q0, q1, q2, q3, rfl, Rp, Rq, hb4⟩
     have hb14 := belowCall hb12 (belowCall hb3 hb4)
     have bA4 := bA.below hb14
     have hKp4 := hKp.call hb14
     have lA4 := bA4.lt
     obtain ⟨s0, s1, s2, s3⟩ := Rx.ones
     obtain ⟨s4, s5, s6, s7⟩ := Ry.ones
     obtain ⟨s8, s9, s10, s11⟩ := Rp.ones
     obtain ⟨s12, s13, s14, s15⟩ := Rq.ones
     have oA : (#[x0, x1, x2, x3, y0, y1, y2, y3, p0, p1, p2, p3, q0, q1, q2, q3] : Array Value).all (·.oneCell') = true := by simp [*]
     have hAs := hM.size
     have hM4 : MV V4 #[x0, x1, x2, x3, y0, y1, y2, y3, p0, p1, p2, p3, q0, q1, q2, q3] (stackN F (j + 1)) := by
      rw [stackN_succ]
      exact ⟨⟨_, _, _, _, _, _, _, _, _, _, _, _, _, _, _, _, rfl, Rx.ext (.of_below hb4), Ry.ext (.of_below hb4), Rp, Rq⟩⟩
     clear hb12 hb1 hle1 bf hk2 bf2 hb3 hb4 s0 s1 s2 s3 s4 s5 s6 s7 s8 s9 s10 s11 s12 s13 s14 s15 Rx Ry Rp Rq hM2 hC2 bA2 hM
     go_wp2_with first | (refine wpList_build2 rfl 57 _ rfl #[x0, x1, x2, x3, y0, y1, y2, y3, p0, p1, p2, p3, q0, q1, q2, q3] (by as_aux_lemma => kernel_rfl) ?_) | (refine wpList_store_box rfl 57 _ _ rfl BA 0 57 CA #[x0, x1, x2, x3, y0, y1, y2, y3, p0, p1, p2, p3, q0, q1, q2, q3] #[x0, x1, x2, x3, y0, y1, y2, y3, p0, p1, p2, p3, q0, q1, q2, q3] rfl rfl bA4 sizeQuad (Nat.le_of_eq (by rw [hAs]; rfl)) oA (whole_new (by rw [hAs]; rfl)) ?_; intro V5 hk5 bA5)
     go_roundw
     case rel => exact ⟨j + 1, by omega, by simp, _, bA5, hM4.ext (hk5.ext bA4 (by decide)), hKp4.trans hk5⟩
     case measure => simp [intOf]; omega
    ·obtain rfl : j = k := by omega
     have bO9 := hKp.box bOr bOr.lt hneAO
     have hBe := hKp.below hBr hwA hBr.size
     have hAs := hM.size
     have hAi : (Tryz.prog.info? 57).map (·.size) = some CA.size := by rw [hAs]; exact sizeQuad
     have hAo := hM.ones
     go_wp2_with first | (refine wpList_load_box rfl 57 (.tmp 5) rfl BA rfl 57 CA bA _ Tryz.underlying57 rfl hAi ?_) | (refine wpList_store_box rfl 57 _ _ rfl BO 0 57 _ CA CA rfl rfl bO9 hAi (Nat.le_of_eq (by rw [hAs]; rfl)) hAo (whole_new (by rw [hAs]; rfl)) ?_; intro Ve hke be)
     refine bodyPost_ret (be.results rfl _ _ rfl Tryz.underlying57 rfl hAi) rfl ?_
     exact ⟨CA, rfl, hM.ext (hke.ext bO9 (by decide)), hke.below hBe hleO hBe.size⟩
end Go.Proofs.YtdgodcgdlfjpaaaGreatDoor
namespace Go.Mono
open Go.RowKit
section
section
variable {P : Program} (w : World) {o : Oper} {a : Act} {K : Act → World → Prop} {Q : Exit → Act → World → Prop}
theorem wp_append_grows (s x : Operand) (t : TypeId) (hop : o.op = Op.call { callee := Callee.builtin Builtin.append, args := #[s, x], argTypes := #[t, t] })
  (e : TypeId) (i : TypeInfo) (z : Value) (size bytes : Nat) (h1 : P.underlying t = some (.slice e)) (h2 : P.info? e = some i) (h3 : i.zero = some z) (h4 : i.size = size) (h5 : i.bytes = bytes) (h6 : z.cells.size = size) (h7 : 0 < size)
  (ao : Option Addr) (n cap : Nat) (olds : List Value) (hs : a.eval s = .slice ao n cap) (hnone : ao = none → n = 0 ∧ cap = 0) (hlo : olds.length = n * size) (holds : ∀ b, ao = some b → ∀ j u, olds[j]? = some u → w.cell? (b.add j) = some u)
  (ad : Addr) (m c : Nat) (news : List Value) (hx : a.eval x = .slice (some ad) m c) (hn : news.length = m * size) (hc : ∀ j u, news[j]? = some u → w.cell? (ad.add j) = some u) (h1c : ∀ u ∈ news, u.oneCell' = true)
  (hfull : cap < n + m) (b1 : n + m ≤ maxLen) (b2 : (n + m) * bytes ≤ 140737488355328)
  (hK : ∀ v' w', w'.ownsRow w.heap.size e size v' (n + m) (olds ++ news) → w.grownBy w' none → K (a.put o.dst v') w') : o.wp P a w K Q := by
 cases ao with
 | some b =>
   obtain ⟨v', w', hrun, r1, r2⟩ := run_append_arg_grows (P := P) w t o.type e i z size bytes h1 h2 h3 h4 h5 h6 h7 b n cap olds hlo (holds b rfl) ad m c news hn hc hfull b1 b2
   unfold Oper.wp
   simp [execOp, hop, resolve, invoke, builtin, hs, hx, hrun, Result.andThen]
   exact hK v' w' r1 r2
 | none =>
   obtain ⟨rfl, rfl⟩ := hnone rfl
   obtain rfl : olds = [] := List.eq_nil_of_length_eq_zero (by simpa using hlo)
   obtain ⟨v', w', hrun, r1, r2, _⟩ := run_append_own (P := P) w w.heap.size t o.type e i z size bytes h1 h2 h3 h4 h5 h6 h7 (.slice none 0 0) 0 [] (World.ownsRow_nil w _ e size) ad m c news hn hc h1c b1 b2 (Nat.le_refl _)
   unfold Oper.wp
   simp [execOp, hop, resolve, invoke, builtin, hs, hx, hrun, Result.andThen]
   exact hK v' w' r1 r2
end
def frow (G : Nat → Flm) : Nat → List Value
 | 0 => []
 | n + 1 => frow G n ++ (G n).vals.toList
theorem frow_length (G : Nat → Flm) (n : Nat) : (frow G n).length = n * 3 := by
 induction n with
 | zero => rfl
 | succ n ih => simp [frow, ih, Flm.vals]; omega
theorem frow_get (G : Nat → Flm) (n i j : Nat) (hi : i < n) (hj : j < 3) : (frow G n)[i * 3 + j]? = some ((G i).vals.getD j undef) := by
 induction n with
 | zero => omega
 | succ n ih =>
   rw [frow]
   by_cases h : i < n
   ·rw [List.getElem?_append_left (by rw [frow_length]; omega)]
    exact ih h
   ·obtain rfl : i = n := by omega
    rw [List.getElem?_append_right (by rw [frow_length]; omega), frow_length, show i * 3 + j - i * 3 = j by omega]
    rcases (by omega : j = 0 ∨ j = 1 ∨ j = 2) with rfl | rfl | rfl <;> rfl
theorem frow_congr {G H : Nat → Flm} {n : Nat} (h : ∀ i, i < n → G i = H i) : frow G n = frow H n := by
 induction n with
 | zero => rfl
 | succ n ih => rw [frow, frow, ih fun i hi => h i (by omega), h n (by omega)]
theorem ownsRow_films {w : World} {base : Nat} {p : Option Addr} {n cap : Nat} {e : TypeId} {G : Nat → Flm} (h : w.ownsRow base e 3 (.slice p n cap) n (frow G n)) (hn : n ≤ 1000) : FilmsAt w p n cap G := by
 obtain ⟨hl, h⟩ := h
 rcases h with ⟨h1, h0⟩ | ⟨g', cap', cur, hv, hb, hg, h1, h2, h3, h4⟩
 ·cases h1
  exact ⟨Nat.le_refl _, by omega, fun h => by omega⟩
 ·cases hv
  refine ⟨h1, by omega, fun _ => ⟨g', 0, rfl, lt_of_some hg, fun i j hi hj => ?_⟩⟩
  have hc := (Box.mk hg).cell (0 + i * 3 + j)
  rw [hc, ← Array.getElem?_toList]
  have := frow_get G n i j hi hj
  rw [← h4, List.getElem?_take_of_lt (by omega)] at this
  rw [Nat.zero_add]
  exact this
theorem ownsRow_keepNew {w w' : World} {base : Nat} {v : Value} {n size : Nat} {e : TypeId} {vals : List Value} (h : w.ownsRow base e size v n vals) (hk : KeepNew base w w') : w'.ownsRow base e size v n vals := by
 obtain ⟨hl, h⟩ := h
 refine ⟨hl, ?_⟩
 rcases h with h | ⟨g, cap, cur, hv, hb, hg, h1⟩
 ·exact .inl h
 ·exact .inr ⟨g, cap, cur, hv, hb, hk.cells g _ _ _ hb hg, h1⟩
theorem ownsRow_cells {w : World} {base : Nat} {b : Addr} {n size cap : Nat} {e : TypeId} {vals : List Value} (h : w.ownsRow base e size (.slice (some b) n cap) n vals) : ∀ j u, vals[j]? = some u → w.cell? (b.add j) = some u := by
 obtain ⟨hl, h⟩ := h
 rcases h with ⟨h1, _⟩ | ⟨g, cap', cur, hv, hb, hg, h1, h2, h3, h4⟩
 ·cases h1
 ·cases hv
  intro j u hj
  have hlt : j < vals.length := (List.getElem?_eq_some_iff.1 hj).1
  have hc := (Box.mk hg).cell j
  rw [Addr.add_lit, Nat.zero_add, hc, ← Array.getElem?_toList]
  rw [← h4, List.getElem?_take_of_lt (by omega)] at hj
  exact hj
theorem ownsRow_none {w : World} {base n size cap : Nat} {e : TypeId} {vals : List Value} (h : w.ownsRow base e size (.slice none n cap) n vals) : n = 0 := by
 obtain ⟨hl, h⟩ := h
 rcases h with ⟨h1, h0⟩ | ⟨g, cap', cur, hv, _⟩
 ·exact h0
 ·cases hv
theorem ownsRow_block {w : World} {base n size cap : Nat} {a : Addr} {e : TypeId} {vals : List Value} (h : w.ownsRow base e size (.slice (some a) n cap) n vals) : base ≤ a.block := by
 obtain ⟨hl, h⟩ := h
 rcases h with ⟨h1, h0⟩ | ⟨g, cap', cur, hv, hg, h1⟩
 ·cases h1
 ·cases hv; exact hg
theorem ownsRow_lower {w : World} {base base' n size : Nat} {v : Value} {e : TypeId} {vals : List Value} (h : w.ownsRow base e size v n vals) (hb : base' ≤ base) : w.ownsRow base' e size v n vals := by
 obtain ⟨hl, h⟩ := h
 refine ⟨hl, ?_⟩
 rcases h with h | ⟨g, cap, cur, hv, hg, h1⟩
 ·exact .inl h
 ·exact .inr ⟨g, cap, cur, hv, by omega, h1⟩
theorem ownsRow_slice {w : World} {base n size : Nat} {v : Value} {e : TypeId} {vals : List Value} (h : w.ownsRow base e size v n vals) : ∃ p c, v = .slice p n c := by
 obtain ⟨hl, h⟩ := h
 rcases h with ⟨h1, h0⟩ | ⟨g, cap, cur, hv, _⟩
 ·exact ⟨_, _, by rw [h1, h0]⟩
 ·exact ⟨_, _, hv⟩
def pick (F : Nat → Flm) (m long i j : Nat) : Flm := F (i / m ^ (long - 1 - j) % m)
theorem pick_same {F : Nat → Flm} {m long r d : Nat} (hd : d + (r + 1) = long) (hm : 0 < m) {i0 k : Nat} (hk : k < m) (ha : m ^ (r + 1) ∣ i0) {j : Nat} (hj : j < d) : pick F m long (i0 + k * m ^ r) j = pick F m long i0 j := by
 obtain ⟨q, rfl⟩ := ha
 have hp : 0 < m ^ r := Nat.pow_pos hm
 obtain ⟨s, hs⟩ : ∃ s, long - 1 - j = r + 1 + s := ⟨long - 1 - j - (r + 1), by omega⟩
 unfold pick
 rw [hs, Nat.pow_add m (r + 1) s, ← Nat.div_div_eq_div_mul, ← Nat.div_div_eq_div_mul]
 congr 3
 have h1 : (m ^ (r + 1) * q + k * m ^ r) / m ^ (r + 1) = q := by
  rw [Nat.mul_add_div (by rw [Nat.pow_succ]; exact Nat.mul_pos hp hm)]
  have : k * m ^ r < m ^ (r + 1) := by rw [Nat.pow_succ, Nat.mul_comm (m ^ r)]; exact Nat.mul_lt_mul_of_pos_right hk hp
  rw [Nat.div_eq_of_lt this, Nat.add_zero]
 rw [h1, Nat.mul_div_cancel_left _ (by rw [Nat.pow_succ]; exact Nat.mul_pos hp hm)]
theorem pick_next {F : Nat → Flm} {m long r d : Nat} (hd : d + (r + 1) = long) (hm : 0 < m) {i0 k : Nat} (hk : k < m) (ha : m ^ (r + 1) ∣ i0) : pick F m long (i0 + k * m ^ r) d = F k := by
 obtain ⟨q, rfl⟩ := ha
 have hp : 0 < m ^ r := Nat.pow_pos hm
 unfold pick
 rw [show long - 1 - d = r by omega, Nat.pow_succ, show m ^ r * m * q + k * m ^ r = m ^ r * (m * q + k) by grind, Nat.mul_div_cancel_left _ hp, Nat.mul_add_mod, Nat.mod_eq_of_lt hk]
end
end Go.Mono
namespace Go.Proofs.YtdgodcgdlfjpaaaGreatDoor
open Go.RowKit Go.Mono
theorem enters_grow : ∀ args w, (callFunc 152 args).run Tryz.prog w = .ok (.enter 152 args) w := Go.Proofs.enters_of Tryz.func152 (by kernel_rfl) rfl
theorem infoFilm : (Tryz.prog.info? 24).map (fun i => (i.zero, i.size, i.bytes)) = some (some (.agg #[.int .i64 0, .int .i64 0, .int .i64 0]), 3, 24) := by kernel_rfl
def growCap (Bl By Bc Bg : Nat) : Array Value := #[.pointer (some ⟨Bl, 0, none⟩), .pointer (some ⟨By, 0, none⟩), .pointer (some ⟨Bc, 0, none⟩), .pointer (some ⟨Bg, 0, none⟩)]
def ListE (F : Nat → Flm) (m long N : Nat) (i : Nat) (args : Array Value) (V : World) : Prop := ∃ p c, args = #[.slice p long c] ∧ FilmsAt V p long c (pick F m long i) ∧ ∀ a : Addr, p = some a → N ≤ a.block
def ListK (F : Nat → Flm) (m long : Nat) (pc : Option Addr) (cc Bl Bc N : Nat) (V : World) : Prop := Box V Bl 3 #[.int .i64 (long : Int)] ∧ Box V Bc 27 #[.slice pc m cc] ∧ FilmsAt V pc m cc F ∧ N ≤ V.heap.size
theorem grow_leaf (F : Nat → Flm) (m long : Nat) (hl3 : long ≤ 3) (pc : Option Addr) (cc Bl Bc N l n base : Nat) (hNb : N ≤ base) (hn : 2 ≤ n) (J : Nat → World → Prop) (hK : ∀ i V, J i V → ListK F m long pc cc Bl Bc N V)
  (hY : ∀ i V args, J i V → base ≤ V.heap.size → i < m ^ long → ListE F m long N i args V → YieldAt Fence.wide (n - 1) Tryz.prog l args V fun e V' => e = .returned (.bool true) ∧ J (i + 1) V' ∧ KeepNew base V V')
  (p : Option Addr) (cap : Nat) (G : Nat → Flm) (i0 : Nat) (V : World) (By Bg : Nat) (hb : base ≤ V.heap.size) (by_ : Box V By 198 #[.func (.yield l) #[] #[]]) (hown : V.ownsRow base 24 3 (.slice p long cap) long (frow G long)) (hG : ∀ j, j < long → G j = pick F m long i0 j) (hi0 : i0 < m ^ long) (h0 : J i0 V) :
  Calls Tryz.prog 152 (#[.slice p long cap] ++ growCap Bl By Bc Bg) V fun e V' => e = .returned (.bool true) ∧ J (i0 + 1) V' ∧ KeepNew base V V' := by
 rw [frow_congr hG] at hown
 obtain ⟨fn, tmps, assign, body, hy, hR⟩ := hY i0 V _ h0 hb hi0 ⟨p, cap, rfl, ownsRow_films hown (by omega), fun a e => Nat.le_trans hNb (ownsRow_block (e ▸ hown))⟩
 obtain ⟨bl, _, _, _⟩ := hK _ _ h0
 have cl := bl.cell
 have ll := bl.lt
 have cy := by_.cell
 have ly := by_.lt
 clear hK hY hown hG
 refine (callsIn_wide (n := n)).1 ?_
 refine callsIn_of_wp Tryz.func152 rfl trivial ?_ rfl
 unfold growCap
 simp only [Tryz.ntmps152, List.size_toArray, List.length_cons, List.length_nil, Nat.reduceAdd, Nat.reduceSub, Array.replicate_succ, Array.replicate_zero, List.push_toArray, List.append_toArray, List.nil_append, List.cons_append]
 gi_wp2
 refine ⟨fun _ => by omega, hR.mono ?_⟩
 rintro e V3 ⟨rfl, hJ, hk⟩
 gi_wp2
 go_ret
 exact ⟨rfl, hJ, hk⟩
theorem grow_step (F : Nat → Flm) (m long : Nat) (hm : m ≤ 6) (hl3 : long ≤ 3) (pc : Option Addr) (cc Bl Bc N l base : Nat) (J : Nat → World → Prop) (hK : ∀ i V, J i V → ListK F m long pc cc Bl Bc N V)
  (hJB : ∀ i V V', J i V → Below V.heap.size V V' → J i V') (r d : Nat) (hd : d + (r + 1) = long) (By Bg : Nat) (hBy : base ≤ By) (hBg : base ≤ Bg)
  (hrec : ∀ (p : Option Addr) (cap : Nat) (G : Nat → Flm) (i0 : Nat) (V : World), base ≤ V.heap.size → Box V By 198 #[.func (.yield l) #[] #[]] → Box V Bg 198 #[.func (.func 152) #[] (growCap Bl By Bc Bg)] → V.ownsRow base 24 3 (.slice p (d + 1) cap) (d + 1) (frow G (d + 1)) → (∀ j, j < d + 1 → G j = pick F m long i0 j) → i0 + m ^ r ≤ m ^ long → m ^ r ∣ i0 → J i0 V →
   Calls Tryz.prog 152 (#[.slice p (d + 1) cap] ++ growCap Bl By Bc Bg) V fun e V' => e = .returned (.bool true) ∧ J (i0 + m ^ r) V' ∧ KeepNew base V V')
  (p : Option Addr) (cap : Nat) (G : Nat → Flm) (i0 : Nat) (V : World) (hb : base ≤ V.heap.size) (by_ : Box V By 198 #[.func (.yield l) #[] #[]]) (bg : Box V Bg 198 #[.func (.func 152) #[] (growCap Bl By Bc Bg)])
  (hown : V.ownsRow base 24 3 (.slice p d cap) d (frow G d)) (hG : ∀ j, j < d → G j = pick F m long i0 j) (hi0 : i0 + m ^ (r + 1) ≤ m ^ long) (hdv : m ^ (r + 1) ∣ i0) (h0 : J i0 V) :
  Calls Tryz.prog 152 (#[.slice p d cap] ++ growCap Bl By Bc Bg) V fun e V' => e = .returned (.bool true) ∧ J (i0 + m ^ (r + 1)) V' ∧ KeepNew base V V' := by
 have eg := enters_grow
 obtain ⟨bl, bc, hFc, _⟩ := hK _ _ h0
 have cl := bl.cell
 have ll := bl.lt
 have cc' := bc.cell
 have lc := bc.lt
 have hdl : ((d : Int) == (long : Int)) = false := by rw [beq_eq_false_iff_ne]; omega
 have hcap : d ≤ cap := (ownsRow_films hown (by omega)).1
 unfold growCap at *
 simp only [List.append_toArray, List.cons_append, List.nil_append, List.push_toArray] at *
 go_enter Tryz.func152, Tryz.ntmps152
 go_wp2
 clear cl ll cc' lc bl bc hFc
 go_loopw [18] (fun x wr => ∃ k : Nat, k ≤ m ∧ x = .int .i64 (k : Int) ∧ J (i0 + k * m ^ r) wr ∧ KeepNew base V wr) (fun x _ => (m - intOf x).toNat)
 case atStart => exact ⟨0, Nat.zero_le _, rfl, by simpa using h0, KeepNew.refl _ _⟩
 case round =>
  obtain ⟨k, hk, rfl, hJ, hKN⟩ := hrel
  by_cases hkm : k < m
  ·have hm0 : 0 < m := by omega
   obtain ⟨bl, bc, hFc, _⟩ := hK _ _ hJ
   obtain ⟨b, off, rfl, hbl, hrg0⟩ := hFc.range (by omega)
   have hrg := hrg0 k hkm wr (Below.refl _ _)
   have bgr := hKN.box bg hBg
   have byr := hKN.box by_ hBy
   have hor := ownsRow_keepNew hown hKN
   have hbr := Nat.le_trans hb hKN.size
   obtain ⟨v0, v1, v2, hv⟩ : ∃ v0 v1 v2 : Int, (F k).vals = #[.int .i64 v0, .int .i64 v1, .int .i64 v2] := ⟨_, _, _, rfl⟩
   have hsz : (Tryz.prog.info? 24).map (·.size) = some (#[.int .i64 v0, .int .i64 v1, .int .i64 v2] : Array Value).size := by kernel_rfl
   have hsl : (Tryz.prog.info? 24).map (·.size) = some (#[.int .i64 v0, .int .i64 v1, .int .i64 v2] : Array Value).toList.length := hsz
   have h1c : (#[.int .i64 v0, .int .i64 v1, .int .i64 v2] : Array Value).all (·.oneCell') = true := by simp [Value.oneCell']
   rw [hv] at hrg
   replace hv := Lib.hid hv
   have hkm' : (k : Int) < m := by omega
   clear hrg0 bl bc hFc
   go_wp2_with first | (refine wpList_load_mid rfl 24 _ rfl b (off + k * 3) rfl (#[.int .i64 v0, .int .i64 v1, .int .i64 v2] : Array Value).toList _ hrg Tryz.underlying24 rfl hsl ?_) | (refine wpList_new rfl 24 rfl _ alloc_film ?_; intro V1 B1 hle1 hb1 bf) | (refine wpList_store_box rfl 24 _ _ rfl B1 0 24 _ #[.int .i64 v0, .int .i64 v1, .int .i64 v2] #[.int .i64 v0, .int .i64 v1, .int .i64 v2] rfl rfl bf hsz (Nat.le_of_eq rfl) h1c (whole_new rfl) ?_; intro V2 hk2 bf2)
   have hb12 := hk2.below hb1 hle1 hb1.size
   have bg2 := bgr.below hb12
   have by2 := byr.below hb12
   have ho2 := ownsRow_keepNew hor (KeepNew.of_below hb12)
   have hJ2 := hJB _ _ _ hJ hb12
   have hbV2 : base ≤ V2.heap.size := Nat.le_trans hbr hb12.size
   have hB1 : base ≤ B1 := Nat.le_trans hbr hle1
   clear hk2 bf hb1 hle1 bgr byr hor hrg hJ
   refine wp_region_held_drew (S := fun w' => w'.cell? ⟨Bg, 0, none⟩ = some (.func (.func 152) #[] #[.pointer (some ⟨Bl, 0, none⟩), .pointer (some ⟨By, 0, none⟩), .pointer (some ⟨Bc, 0, none⟩), .pointer (some ⟨Bg, 0, none⟩)]) ∧ Box w' Bg 198 #[.func (.func 152) #[] #[.pointer (some ⟨Bl, 0, none⟩), .pointer (some ⟨By, 0, none⟩), .pointer (some ⟨Bc, 0, none⟩), .pointer (some ⟨Bg, 0, none⟩)]] ∧ Box w' B1 24 #[.int .i64 v0, .int .i64 v1, .int .i64 v2]) (by as_aux_lemma => kernel_rfl) ⟨bg2.drew.cell 0, bg2.drew, bf2.drew⟩ (fun hHeld => ?_)
   refine tk 0 (some 22) ?_
   refine tk 1 (some 23) ?_
   refine tk 2 (some 24) ?_
   refine tk 3 (some 25) ?_
   refine tk 4 (some 26) ?_
   refine tk 5 (some 27) ?_
   refine tk 6 (some 28) ?_
   refine tl 7 (some 29) rfl (.agg #[.int .i64 v0, .int .i64 v1, .int .i64 v2]) (exec_load 24 _ rfl B1 0 rfl #[.int .i64 v0, .int .i64 v1, .int .i64 v2] (fun w h => h.2.2.range) _ Tryz.underlying24 rfl hsz) ?_
   have bn := (Box.new V2 24 #[.int .i64 v0, .int .i64 v1, .int .i64 v2]).drew
   have hb2n : Below V2.heap.size V2 ((V2.alloc (.cells #[.int .i64 v0, .int .i64 v1, .int .i64 v2] 24)).drew) := ((Below.refl _ _).alloc (Nat.le_refl _) _).drew
   refine Mono.st 8 ?_
   intro K hK
   go_simp
   refine kp hK (⟨(hHeld.2.1.alloc _).cell 0, hHeld.2.1.alloc _, hHeld.2.2.alloc _⟩) (fun hHeld => ?_)
   clear hK K
   have ho3 := ownsRow_keepNew ho2 (KeepNew.of_below hb2n)
   have by3 := by2.below hb2n
   have hJ3 := hJB _ _ _ hJ2 hb2n
   have hb3 : base ≤ ((V2.alloc (.cells #[.int .i64 v0, .int .i64 v1, .int .i64 v2] 24)).drew).heap.size := Nat.le_trans hbV2 hb2n.size
   generalize hV3 : (V2.alloc (.cells #[.int .i64 v0, .int .i64 v1, .int .i64 v2] 24)).drew = V3 at *
   clear hV3
   obtain ⟨ti, hti, htz, hts, htb⟩ := info_parts infoFilm
   refine wpAnyH_ready (rs := [9]) (by as_aux_lemma => kernel_rfl) (by simp) ?_
   refine AllReadyH.cons rfl (fun K hK => ?_) AllReadyH.nil
   rw [if_pos (by rfl)]
   have hnone : p = none → d = 0 ∧ d = 0 := by
    intro e
    rw [e] at ho3
    exact ⟨ownsRow_none ho3, ownsRow_none ho3⟩
   have holds : ∀ b', p = some b' → ∀ j u, (frow G d)[j]? = some u → V3.cell? (b'.add j) = some u := by
    intro b' e
    rw [e] at ho3
    exact ownsRow_cells ho3
   have hnew : ∀ j u, ([.int .i64 v0, .int .i64 v1, .int .i64 v2] : List Value)[j]? = some u → V3.cell? (Addr.add ⟨V2.heap.size, 0, none⟩ j) = some u := by
    intro j u hj
    have hc := bn.cell j
    rw [Addr.add_lit, Nat.zero_add]
    refine hc.trans ?_
    rw [← Array.getElem?_toList]
    exact hj
   refine wp_append_grows V3 (.tmp 28) (.tmp 30) 27 rfl 24 ti _ 3 24 Tryz.underlying27 hti htz hts htb rfl (by decide) p d d (frow G d) rfl hnone (frow_length G d) holds ⟨V2.heap.size, 0, none⟩ 1 1 [.int .i64 v0, .int .i64 v1, .int .i64 v2] rfl rfl hnew (by simp [Value.oneCell']) (by omega) (by simp [maxLen]; omega) (by omega) ?_
   intro v4 V4 ho4 hg4
   clear hnone holds hnew
   have hb34 : Below V3.heap.size V3 V4 := (Below.refl _ _).grown hg4 (Nat.le_refl _) (fun k e => by cases e)
   obtain ⟨p4, c4, rfl⟩ := ownsRow_slice ho4
   have hfr : frow (fun j => if j = d then F k else G j) (d + 1) = frow G d ++ [.int .i64 v0, .int .i64 v1, .int .i64 v2] := by
    rw [frow, if_pos rfl, hv.out]
    congr 1
    exact frow_congr fun i hi => by rw [if_neg (by omega)]
   have ho5 := ownsRow_lower (base' := base) ho4 hb3
   rw [← hfr] at ho5
   have by4 := by3.below hb34
   have hJ4 := hJB _ _ _ hJ3 hb34
   have hb4 : base ≤ V4.heap.size := Nat.le_trans hb3 hb34.size
   have bg4 := hHeld.2.1.below hb34
   have bf4 := hHeld.2.2.below hb34
   have hkn4 : KeepNew base V V4 := (hKN.trans (KeepNew.of_below hb12)).trans ((KeepNew.of_below hb2n).trans (KeepNew.of_below hb34))
   refine hK.out _ _ ⟨bg4.cell 0, bg4, bf4⟩ (fun hHeld => ?_)
   clear hK K ho4 hg4 hb34 ho3 by3 hJ3 hb3 bn hb2n ho2 by2 hJ2 hbV2 hb12 bg2 bf2 hKN
   simp only [Act.put, List.setIfInBounds_toArray, List.set_cons_zero, List.set_cons_succ]
   have hpw : m ^ (r + 1) = m ^ r * m := by rw [Nat.pow_succ]
   have hle : i0 + k * m ^ r + m ^ r ≤ m ^ long := by
    have : (k + 1) * m ^ r ≤ m * m ^ r := Nat.mul_le_mul_right _ hkm
    rw [Nat.add_mul, Nat.one_mul] at this
    rw [hpw, Nat.mul_comm (m ^ r)] at hi0
    omega
   have hdv2 : m ^ r ∣ i0 + k * m ^ r := by
    refine Nat.dvd_add (Nat.dvd_trans ?_ hdv) (Nat.dvd_mul_left _ _)
    rw [hpw]; exact Nat.dvd_mul_right _ _
   have hGG : ∀ j, j < d + 1 → (fun j => if j = d then F k else G j) j = pick F m long (i0 + k * m ^ r) j := by
    intro j hj
    by_cases e : j = d
    ·subst e
     simp only [if_true]
     exact (pick_next hd hm0 hkm hdv).symm
    ·simp only [e, if_false]
     rw [hG j (by omega)]
     exact (pick_same hd hm0 hkm hdv (by omega)).symm
   have hcall := hrec p4 c4 _ (i0 + k * m ^ r) V4 hb4 by4 bg4 ho5 hGG hle hdv2 hJ4
   clear hGG hle hdv2 hfr ho5 hpw
   refine wpAnyH_ready (rs := [10]) (by as_aux_lemma => kernel_rfl) (by simp) ?_
   refine AllReadyH.cons rfl (fun K hK => ?_) AllReadyH.nil
   go_simp
   refine hcall.mono ?_
   rintro e V5 ⟨rfl, hJ5, hk5⟩
   have bg5 := hk5.box bg4 hBg
   refine hK.out _ _ ⟨bg5.cell 0, bg5, hk5.box bf4 hB1⟩ (fun hHeld => ?_)
   clear hK K
   try simp only [Act.put, List.setIfInBounds_toArray, List.set_cons_zero, List.set_cons_succ]
   refine tk 11 (some 33) ?_
   refine wpAnyH_done (by as_aux_lemma => kernel_rfl) ?_ _
   go_wp2
   go_roundw
   case rel => exact ⟨k + 1, by omega, by simp, by rw [Nat.add_mul, Nat.one_mul, ← Nat.add_assoc]; exact hJ5, hkn4.trans hk5⟩
   case measure => simp [intOf]; omega
  ·obtain rfl : k = m := by omega
   rw [Nat.mul_comm k, ← Nat.pow_succ] at hJ
   go_wp2
   go_ret
   exact ⟨rfl, hJ, hKN⟩
end Go.Proofs.YtdgodcgdlfjpaaaGreatDoor
