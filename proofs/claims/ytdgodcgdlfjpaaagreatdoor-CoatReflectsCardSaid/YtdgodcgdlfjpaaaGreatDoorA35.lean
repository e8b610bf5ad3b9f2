/- Contracts of package coat and of the examples of its law, for the laws of layer 40. Part 35 of 40. No condition beside the row. -/
import Derived.Test.YtdgodcgdlfjpaaaGreatDoorA34
set_option linter.unusedVariables false
set_option linter.unusedSimpArgs false
set_option maxRecDepth 100000
set_option maxHeartbeats 4000000
namespace Go.Proofs.YtdgodcgdlfjpaaaGreatDoor
open Go.RowKit Go.Mono
theorem layer_bad (f : Flm) (hf : ¬ f.ok) (w : World) : Calls Tryz.prog 87 #[.agg f.vals] w fun e w' => e = .panicked [{ v := .iface 194 (.agg #[.int .i64 400]), recovered := false }] ∧ Below w.heap.size w w' := by
 have hsound := fun W => sound_ok f W
 rw [decide_eq_false hf] at hsound
 unfold Flm.vals at hsound ⊢
 go_enter Tryz.func87, Tryz.ntmps87
 go_wp2_with first | (refine boxes1l fun W0 hB0 hs0 bF => ?_) | (refine wpList_new rfl 57 rfl _ alloc_quad ?_; intro W BO hleO hBO bO; replace bF := bF.below hBO; have hB := belowCall hB0 hBO; have cF := bF.cell; have lF := bF.lt)
 refine (hsound W).mono ?_
 rintro e W1 ⟨rfl, hb⟩
 replace hB := belowCall hB hb
 go_wp2_with (go_at_call 70; refine (crefuse_yes _ _).mono ?_; rintro e w5 ⟨rfl, h5⟩)
 first
  | exact ⟨rfl, rfl, belowCall hB h5⟩
  | exact ⟨rfl, belowCall hB h5⟩
theorem cstack_bad (F : Nat → Flm) (n m : Nat) (hn : n ≤ 8) (hm : m < n) (hF : ∀ i, i < m → (F i).ok) (hbad : ¬ (F m).ok) (p : Option Addr) (c : Nat) (w : World) (h : FilmsAt w p n c F) :
  Calls Tryz.prog 89 #[.slice p n c] w fun e w' => e = .panicked [{ v := .iface 194 (.agg #[.int .i64 400]), recovered := false }] ∧ Below w.heap.size w w' := by
 have hmf : ∀ (fn : Fn) (first cap : Array Value) (w : World), (Instr.makeFunc fn first cap).run Tryz.prog w = .ok (.func fn first cap) w := fun _ _ _ _ => rfl
 have eg := enters_row
 have hszF : (Tryz.prog.info? 24).map (·.size) = some 3 := by kernel_rfl
 have hone := fun W => cof_ok 1 1 (by decide) W (by decide) (by decide) (by decide) (by decide)
 have hzero := fun W => cof_ok 0 1 (by decide) W (by decide) (by decide) (by decide) (by decide)
 rw [show Rat.divInt 1 1 = 1 from by decide +kernel] at hone
 rw [show Rat.divInt 0 1 = 0 from by decide +kernel] at hzero
 have hn8 : ¬ ((n : Int) > 8) := by omega
 go_enter Tryz.func89, Tryz.ntmps89
 go_wp2_with first | (refine wpList_new rfl 57 rfl _ alloc_quad ?_; intro W0 BO hleO hB0 bO) | (go_at_call 70; refine (crefuse_no _ _).mono ?_; rintro e w5 ⟨rfl, h5⟩; rw [h5]; clear h5 w5)
 refine (hone W0).mono ?_
 rintro e W1 ⟨C1, rfl, R1, hb1⟩
 go_wp2_with fail
 refine (hzero W1).mono ?_
 rintro e W2 ⟨C2, rfl, R2, hb2⟩
 replace R1 := R1.ext (.of_below hb2)
 obtain ⟨m0, m1, m2, m3, rfl, u0, u1, u2, u3⟩ := R1.four
 obtain ⟨n0, n1, n2, n3, rfl, v0, v1, v2, v3⟩ := R2.four
 have oM : (#[m0, m1, m2, m3] : Array Value).all (·.oneCell') = true := by simp [*]
 have oN : (#[n0, n1, n2, n3] : Array Value).all (·.oneCell') = true := by simp [*]
 have oA : (#[m0, m1, m2, m3, n0, n1, n2, n3, n0, n1, n2, n3, m0, m1, m2, m3] : Array Value).all (·.oneCell') = true := by simp [*]
 have hB2 := belowCall hB0 (belowCall hb1 hb2)
 replace bO := (bO.below hb1).below hb2
 have lO := bO.lt
 clear hb1 hb2 hone hzero hB0
 go_wp2_with first | (refine boxes2l fun W3 hb3 hs3 bM bN => ?_; refine wpList_store_box rfl 37 _ _ rfl W2.heap.size 0 37 _ #[m0, m1, m2, m3] #[m0, m1, m2, m3] rfl rfl bM sizeQuot (Nat.le_of_eq rfl) oM (whole_new rfl) ?_; intro W4 hk4 bM4; have bN4 := hk4.box bN bN.lt (by omega)) | (refine wpList_store_box rfl 37 _ _ rfl (W2.heap.size + 1) 0 37 _ #[n0, n1, n2, n3] #[n0, n1, n2, n3] rfl rfl bN4 sizeQuot (Nat.le_of_eq rfl) oN (whole_new rfl) ?_; intro W5 hk5 bN5; have bM5 := hk5.box bM4 bM4.lt (by omega)) | (refine wpList_load_box rfl 37 (.tmp 3) rfl W2.heap.size rfl 37 #[m0, m1, m2, m3] bM5 _ Tryz.underlying37 rfl sizeQuot ?_) | (refine wpList_load_box rfl 37 (.tmp 4) rfl (W2.heap.size + 1) rfl 37 #[n0, n1, n2, n3] bN5 _ Tryz.underlying37 rfl sizeQuot ?_) | (refine wpList_build2 rfl 57 _ rfl #[m0, m1, m2, m3, n0, n1, n2, n3, n0, n1, n2, n3, m0, m1, m2, m3] (by as_aux_lemma => kernel_rfl) ?_) | (refine wpList_new rfl 57 (by rfl) _ alloc_quad ?_; intro W6 BA hleA hb6 bA) | (refine wpList_store_box rfl 57 _ _ rfl BA 0 57 _ #[m0, m1, m2, m3, n0, n1, n2, n3, n0, n1, n2, n3, m0, m1, m2, m3] #[m0, m1, m2, m3, n0, n1, n2, n3, n0, n1, n2, n3, m0, m1, m2, m3] rfl rfl bA sizeQuad (Nat.le_of_eq rfl) oA (whole_new rfl) ?_; intro W7 hk7 bA7) | (refine wpList_new rfl 205 rfl _ alloc_all ?_; intro W8 Ball hleL hb8 bL)
 have hB24 := hk4.below hb3 (Nat.le_refl _) hb3.size
 have hB25 := hk5.below hB24 (by omega) hB24.size
 have hb67 := hk7.below hb6 hleA hb6.size
 have hb58 := belowCall hb67 hb8
 have hB28 := belowCall hB25 hb58
 have hB8 := belowCall hB2 hB28
 have hm0 : MV W8 #[m0, m1, m2, m3, n0, n1, n2, n3, n0, n1, n2, n3, m0, m1, m2, m3] Mat.one :=
  ⟨⟨_, _, _, _, _, _, _, _, _, _, _, _, _, _, _, _, rfl, R1.ext (.of_below hB28), R2.ext (.of_below hB28), R2.ext (.of_below hB28), R1.ext (.of_below hB28)⟩⟩
 have bA8 := bA7.below hb8
 have bO8 := bO.below hB28
 have hneAL : Ball ≠ BA := by have := bA7.lt; omega
 have hneAO : BO ≠ BA := by have := hB25.size; omega
 have hwL : w.heap.size ≤ Ball := by have := hB2.size; have := hB25.size; have := hb67.size; omega
 have hwA : w.heap.size ≤ BA := by have := hB2.size; have := hB25.size; omega
 have hneOL : BO ≠ Ball := by have := hB25.size; have := hb67.size; omega
 clear hB24 hB25 hb67 hb58 hB28 hb3 hs3 bM bN hk4 bM4 bN4 hk5 bN5 bM5 hleA hb6 bA hk7 bA7 hleL hb8 R1 R2 v0 v1 v2 v3 oM oN oA hB2 bO lO
 generalize W2.heap.size = BM at *
 generalize (#[m0, m1, m2, m3, n0, n1, n2, n3, n0, n1, n2, n3, m0, m1, m2, m3] : Array Value) = CA0 at *
 go_loopw [27] (fun x wr => ∃ k : Nat, k ≤ m ∧ x = .int .i64 (k : Int) ∧ ∃ cs, Box wr Ball 205 cs ∧ AllAt wr F k cs ∧ KeepBut Ball W8.heap.size W8 wr) (fun x _ => (n - intOf x).toNat)
 case atStart => exact ⟨0, Nat.zero_le _, rfl, _, bL, ⟨rfl, fun j hj => by omega⟩, KeepBut.refl _ _⟩
 case round =>
  obtain ⟨k, hk, rfl, cs, bAll, hAll, hKp⟩ := hrel
  have hBr := hKp.below hB8 hwL hB8.size
  by_cases hkn : k < m
  ·obtain ⟨b, off, rfl, hbl, hrg0⟩ := h.range (by omega)
   have hrg := hrg0 k (by omega) wr hBr
   have hlay := fun W => layer_ok (F k) (hF k hkn) W
   have hsz : (Tryz.prog.info? 24).map (·.size) = some (F k).vals.size := hszF
   have hsl : (Tryz.prog.info? 24).map (·.size) = some (F k).vals.toList.length := hszF
   have h1c := film_ones (F k)
   have hcs : (F k).vals.size = 3 := rfl
   have hkn' : (k : Int) < n := by omega
   have lbw := Nat.lt_of_lt_of_le hbl hBr.size
   have hAs := hAll.size
   have hk8 : k < 8 := by omega
   have lL := bAll.lt
   clear hrg0
   generalize (F k).vals = A3 at *
   go_wp2_with first | (refine wpList_load_mid rfl 24 _ rfl b (off + k * 3) rfl A3.toList _ hrg Tryz.underlying24 rfl hsl ?_) | (refine wpList_new rfl 24 rfl _ alloc_film ?_; intro V1 B1 hle1 hb1 bf) | (refine wpList_store_box rfl 24 _ _ rfl B1 0 24 _ A3 A3 rfl rfl bf hsz (Nat.le_of_eq (by rw [hcs]; rfl)) h1c (whole_new (by rw [hcs]; rfl)) ?_; intro V2 hk2 bf2) | (refine wpList_load_box rfl 24 (.tmp 8) rfl B1 rfl 24 A3 bf2 _ Tryz.underlying24 rfl hsz ?_)
   have hb12 := hk2.below hb1 hle1 hb1.size
   refine (hlay V2).mono ?_
   rintro e V3 ⟨C, rfl, hC, hb3⟩
   have hb13 := belowCall hb12 hb3
   have bAll3 := bAll.below hb13
   have lL3 := bAll3.lt
   have hKp3 := hKp.call hb13
   have hAll3 := hAll.ext (.of_below hb13)
   have hCs := hC.size
   have hCi : (Tryz.prog.info? 57).map (·.size) = some C.size := by rw [hCs]; exact sizeQuad
   have hCo := hC.ones
   clear hb12 hb1 hle1 bf hk2 bf2 hlay hrg hb3
   go_wp2_with (refine wpList_store_box rfl 57 _ _ rfl Ball (k * 16) 205 cs C _ rfl rfl bAll3 hCi (by rw [hAs, hCs]; omega) hCo rfl ?_; intro V4 hk4 bAll4)
   go_roundw
   case rel => exact ⟨k + 1, by omega, by simp, _, bAll4, (hAll3.ext (hk4.ext bAll3 (by decide))).store hk8 (hC.ext (hk4.ext bAll3 (by decide))), hKp3.trans hk4⟩
   case measure => simp [intOf]; omega
  ·obtain rfl : k = m := by omega
   obtain ⟨b, off, rfl, hbl, hrg0⟩ := h.range (by omega)
   have hrg := hrg0 k hm wr hBr
   have hlay := fun W => layer_bad (F k) hbad W
   have hsz : (Tryz.prog.info? 24).map (·.size) = some (F k).vals.size := hszF
   have hsl : (Tryz.prog.info? 24).map (·.size) = some (F k).vals.toList.length := hszF
   have h1c := film_ones (F k)
   have hcs : (F k).vals.size = 3 := rfl
   have hkn' : (k : Int) < n := by omega
   have lbw := Nat.lt_of_lt_of_le hbl hBr.size
   have hAs := hAll.size
   have lL := bAll.lt
   clear hrg0
   generalize (F k).vals = A3 at *
   go_wp2_with first | (refine wpList_load_mid rfl 24 _ rfl b (off + k * 3) rfl A3.toList _ hrg Tryz.underlying24 rfl hsl ?_) | (refine wpList_new rfl 24 rfl _ alloc_film ?_; intro V1 B1 hle1 hb1 bf) | (refine wpList_store_box rfl 24 _ _ rfl B1 0 24 _ A3 A3 rfl rfl bf hsz (Nat.le_of_eq (by rw [hcs]; rfl)) h1c (whole_new (by rw [hcs]; rfl)) ?_; intro V2 hk2 bf2) | (refine wpList_load_box rfl 24 (.tmp 8) rfl B1 rfl 24 A3 bf2 _ Tryz.underlying24 rfl hsz ?_)
   have hb12 := hk2.below hb1 hle1 hb1.size
   refine (hlay V2).mono ?_
   rintro e V3 ⟨rfl, hb3⟩
   first
    | exact ⟨rfl, rfl, belowCall hBr (belowCall hb12 hb3)⟩
    | exact ⟨rfl, belowCall hBr (belowCall hb12 hb3)⟩
theorem eqfilm_true (p q : Option Addr) (n c1 c2 : Nat) (F G : Nat → Flm) (w : World) (h1 : FilmsAt w p n c1 F) (h2 : FilmsAt w q n c2 G) (he : ∀ i, i < n → F i = G i) :
  Calls Tryz.prog 57 #[.slice p n c1, .slice q n c2] w fun e w' => e = .returned (.bool true) ∧ ∃ k, w' = w.drewN k := by
 have hnn := h1.2.1
 replace he := Lib.hid he
 go_enter Tryz.func57, Tryz.ntmps57
 go_wp2
 go_loopw [13] (fun a wr => ∃ j : Nat, j ≤ n ∧ a = .int .i64 (j : Int) ∧ ∃ k, wr = w.drewN k) (fun a _ => (n - intOf a).toNat)
 case atStart => exact ⟨0, Nat.zero_le _, rfl, 0, rfl⟩
 case round =>
  obtain ⟨j, hj, rfl, k, rfl⟩ := hrel
  have hB : Below w.heap.size w (w.drewN k) := below_drewN (Below.refl _ _) k
  by_cases hjn : j < n
  ·obtain ⟨b, off, rfl, hb, g1⟩ := h1.2.2 (by omega)
   obtain ⟨b', off', rfl, hb', g2⟩ := h2.2.2 (by omega)
   have a0 := g1 j 0 hjn (by decide)
   have a1 := g1 j 1 hjn (by decide)
   have a2 := g1 j 2 hjn (by decide)
   have b0 := g2 j 0 hjn (by decide)
   have b1 := g2 j 1 hjn (by decide)
   have b2 := g2 j 2 hjn (by decide)
   dsimp only at a0 a1 a2 b0 b1 b2
   rw [← he.out j hjn] at b0 b1 b2
   simp only [show ∀ f : Flm, f.vals = #[.int .i64 f.ix, .int .i64 f.p, .int .i64 f.q] from fun _ => rfl, Nat.add_zero] at a0 a1 a2 b0 b1 b2
   have hj' : (j : Int) < n := by omega
   generalize (F j).ix = v0 at *
   generalize (F j).p = v1 at *
   generalize (F j).q = v2 at *
   clear g1 g2 hB h1 h2
   go_wp2
   go_quiet (fail)
   go_wp2
   go_roundw
   case rel => exact ⟨j + 1, by omega, by simp, _, rfl⟩
   case measure => simp [intOf]; omega
  ·obtain rfl : j = n := by omega
   clear h1 h2
   go_wp2
   go_ret
   exact ⟨rfl, k, rfl⟩
theorem grow_ok (F : Nat → Flm) (m long : Nat) (hm : m ≤ 6) (hl3 : long ≤ 3) (pc : Option Addr) (cc Bl Bc N l n base : Nat) (hNb : N ≤ base) (hn : 2 ≤ n) (J : Nat → World → Prop) (hK : ∀ i V, J i V → ListK F m long pc cc Bl Bc N V)
  (hJB : ∀ i V V', J i V → Below V.heap.size V V' → J i V')
  (hY : ∀ i V args, J i V → base ≤ V.heap.size → i < m ^ long → ListE F m long N i args V → YieldAt Fence.wide (n - 1) Tryz.prog l args V fun e V' => e = .returned (.bool true) ∧ J (i + 1) V' ∧ KeepNew base V V') (By Bg : Nat) (hBy : base ≤ By) (hBg : base ≤ Bg) :
  ∀ (r d : Nat), d + r = long → ∀ (p : Option Addr) (cap : Nat) (G : Nat → Flm) (i0 : Nat) (V : World), base ≤ V.heap.size → Box V By 198 #[.func (.yield l) #[] #[]] → Box V Bg 198 #[.func (.func 152) #[] (growCap Bl By Bc Bg)] → V.ownsRow base 24 3 (.slice p d cap) d (frow G d) → (∀ j, j < d → G j = pick F m long i0 j) → i0 + m ^ r ≤ m ^ long → m ^ r ∣ i0 → J i0 V →
    Calls Tryz.prog 152 (#[.slice p d cap] ++ growCap Bl By Bc Bg) V fun e V' => e = .returned (.bool true) ∧ J (i0 + m ^ r) V' ∧ KeepNew base V V' := by
 intro r
 induction r with
 | zero =>
   intro d hd p cap G i0 V hb by_ bg hown hG hi0 _ h0
   obtain rfl : d = long := by omega
   rw [Nat.pow_zero] at hi0 ⊢
   exact grow_leaf F m d hl3 pc cc Bl Bc N l n base hNb hn J hK hY p cap G i0 V By Bg hb by_ hown hG (by omega) h0
 | succ r ih =>
   intro d hd p cap G i0 V hb by_ bg hown hG hi0 hdv h0
   exact grow_step F m long hm hl3 pc cc Bl Bc N l base J hK hJB r d hd By Bg hBy hBg (ih (d + 1) (by omega)) p cap G i0 V hb by_ bg hown hG hi0 hdv h0
theorem enters_lists1 : ∀ args w, (callFunc 151 args).run Tryz.prog w = .ok (.enter 151 args) w := Go.Proofs.enters_of Tryz.func151 (by kernel_rfl) rfl
theorem lists1_all (F : Nat → Flm) (m long : Nat) (hm : m ≤ 6) (hl3 : long ≤ 3) (pc : Option Addr) (cc Bl Bc N n : Nat) (hn : 2 ≤ n) :
  IterQ Fence.wide n Tryz.prog 151 #[] #[.pointer (some ⟨Bl, 0, none⟩), .pointer (some ⟨Bc, 0, none⟩)] (m ^ long) (ListE F m long N) (ListK F m long pc cc Bl Bc N) := by
 intro l J W hK hJB hY h0
 have hmf : ∀ (fn : Fn) (first cap : Array Value) (w : World), (Instr.makeFunc fn first cap).run Tryz.prog w = .ok (.func fn first cap) w := fun _ _ _ _ => rfl
 have eg := enters_grow
 refine callsIn_wide.2 ?_
 simp only [List.append_toArray, List.cons_append, List.nil_append, List.push_toArray]
 go_enter Tryz.func151, Tryz.ntmps151
 go_wp2_with fail
 refine boxes2c fun W1 hB hs b0 b1 => ?_
 have hJ1 := hJB _ _ _ h0 hB
 refine (grow_ok F m long hm hl3 pc cc Bl Bc N l n W.heap.size (hK _ _ h0).2.2.2 hn J hK hJB hY W.heap.size (W.heap.size + 1) (Nat.le_refl _) (by omega) long 0 (by omega) none 0 (fun _ => F 0) 0 W1 hB.size b0 b1 (World.ownsRow_nil _ _ _ _) (fun j hj => by omega) (by omega) (Nat.dvd_zero _) hJ1).mono ?_
 rintro e V ⟨rfl, hJ, hk⟩
 rw [Nat.zero_add] at hJ
 go_wp2
 go_end0
 exact ⟨⟨_, rfl⟩, hJ⟩
end Go.Proofs.YtdgodcgdlfjpaaaGreatDoor
