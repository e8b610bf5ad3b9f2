/- Part 5 of 52 of the proof that the law ParaxialKnown returns true, whatever stands in memory, if the two listed variables hold what the text lays: contracts of the functions that it reaches. No condition beside the row. -/
import Derived.Test.YtepodcocemmejaaGreatDoorA02
import Derived.Test.YtepodcocemmejaaGreatDoorA04
set_option linter.unusedVariables false
set_option linter.unusedSimpArgs false
namespace Go.Proofs.YtepodcocemmejaaGreatDoor
open Go.RowKit Go.Mono
set_option maxHeartbeats 400000 in
theorem clone_any (p : Option Addr) (n c1 : Nat) (f : Nat → Int) (w : World) (h1 : SlF w (.slice p n c1) n f) (hn : n ≤ 1000000) :
    Calls Tryz.prog 160 #[.slice p n c1] w fun e w' => ∃ v, e = .returned v ∧ OwnF w' w.heap.size v n f ∧ Below w.heap.size w w' := by
  have hq : ∀ (w : World), (binOp .eql 132 (.slice p n c1) (.slice none 0 0)).run Tryz.prog w = .ok (.bool p.isNone) w := fun w => Lib.run_eql_slice_nil w _ _ p n c1 0 0 Tryz.underlying132
  cases p with
  | none =>
    obtain ⟨rfl, rfl⟩ : n = 0 ∧ c1 = 0 := by
      rcases h1 with ⟨h, rfl⟩ | ⟨b, off, cap, cs, fr, h, _⟩
      · simp at h; exact ⟨rfl, h⟩
      · simp at h
    go_enter Tryz.func160, Tryz.ntmps160
    go_wp2
    go_ret
    exact ⟨_, rfl, OwnF.nil _ _ _, Below.refl _ _⟩
  | some a =>
    have ho : OwnF (w.alloc (.cells #[] 3)) w.heap.size (.slice (some ⟨w.heap.size, 0, none⟩) 0 0) 0 (fun _ => 0) := World.ownsRow_lit w #[] 0 (Nat.le_refl _) (by decide) rfl
    have hx : Below w.heap.size w (w.alloc (.cells #[] 3)) := (Below.refl _ _).alloc (Nat.le_refl _) _
    have hs := h1.ext (.of_below hx)
    clear h1
    go_enter Tryz.func160, Tryz.ntmps160
    go_wp2_with (at_builtin; refine wpList_append_ints _ rfl _ _ 132 rfl Tryz.underlying132 infoInt w.heap.size _ 0 (fun _ => 0) rfl ho _ n c1 f rfl hs (by omega) (by simp) ?_; intro v' w1 ho' hg)
    go_ret
    refine ⟨_, rfl, ?_, hx.grown hg (by simp) (by rintro k ⟨⟩; exact Nat.le_refl _)⟩
    have := ho'.congr (f' := f) (fun i _ => by simp)
    rwa [Nat.zero_add] at this
set_option maxRecDepth 100000 in
set_option maxHeartbeats 1000000 in
theorem minus_any (p q : Option Addr) (n m c1 c2 : Nat) (f g : Nat → Int) (w : World) (h1 : SlF w (.slice p n c1) n f) (h2 : SlF w (.slice q m c2) m g)
    (f0 : ∀ i, i < n → 0 ≤ f i) (f1 : ∀ i, i < n → f i < 1000000000) (g0 : ∀ i, i < m → 0 ≤ g i) (g1 : ∀ i, i < m → g i < 1000000000) (hmn : m ≤ n) (hn : n ≤ 1000000) (hle : vf g m ≤ vf f n) :
    Calls Tryz.prog 166 #[.slice p n c1, .slice q m c2] w fun e w' => ∃ p k c h, e = .returned (.slice p k c) ∧ SlF w' (.slice p k c) k h ∧ Digs h k ∧ vf h k = vf f n - vf g m ∧ k ≤ n ∧ Below w.heap.size w w' := by
  obtain ⟨hc2, hn2, hx2⟩ := h2.opens
  clear h2
  by_cases h0 : n = 0
  · subst h0
    obtain rfl : m = 0 := by omega
    go_enter Tryz.func166, Tryz.ntmps166
    go_wp2_with (go_at_call 160; refine (clone_any _ _ _ f _ h1 (by omega)).mono ?_; rintro e w' ⟨v, rfl, ho, hb⟩)
    obtain ⟨p2, c3, rfl⟩ := ho.shape
    have hs := ho.sl (by omega)
    go_wp2_with fail
    go_loopw [13] (fun a wr => a = .int .i64 0 ∧ wr = w') (fun _ _ => 0)
    case atStart => exact ⟨rfl, rfl⟩
    case round =>
      obtain ⟨rfl, rfl⟩ := hrel
      go_wp2
      go_loopw [28] (fun a wr' => a = .int .i64 0 ∧ wr' = wr) (fun _ _ => 0)
      case atStart => exact ⟨rfl, rfl⟩
      case round =>
        obtain ⟨rfl, rfl⟩ := hrel
        go_wp2_with (go_at_call 163; refine (trim_any _ _ _ f _ hs).mono ?_; rintro e w' ⟨rfl, rfl⟩)
        go_ret
        exact ⟨p2, 0, c3, f, rfl, hs, ⟨fun i hi => by omega, fun i hi => by omega, fun hi => by omega⟩, by simp [vf], Nat.le_refl _, hb⟩
  · go_enter Tryz.func166, Tryz.ntmps166
    go_wp2_with (go_at_call 160; refine (clone_any _ _ _ f _ h1 (by omega)).mono ?_; rintro e w' ⟨v, rfl, ho, hb⟩)
    rcases ho.open with ⟨_, h⟩ | ⟨r, cap, rfl, hB, hcap, hr⟩
    · exact absurd h h0
    clear ho h1
    have HP := MinusInv.start hmn f0 f1 g0 g1
    have hS : 0 ≤ vf f n - vf g m := by omega
    go_wp2_with fail
    go_loopw [13] (fun a wr => ∃ k : Nat, k ≤ m ∧ a = .int .i64 k ∧ Below w.heap.size w wr ∧ RowF wr r n (fun j => f j - (if j < k then g j else 0))) (fun a _ => m - (intOf a).toNat)
    case atStart => exact ⟨0, Nat.zero_le _, rfl, hb, hr.congr fun i _ => by simp⟩
    case round =>
      clear hb hr
      obtain ⟨k, hk, rfl, hb, hr⟩ := hrel
      by_cases hlt : k < m
      · obtain ⟨b, off, rfl, hbs, hcell⟩ := hx2 (by omega)
        have a1 := (hb.cell (p := ⟨b, off + k, none⟩) hbs).trans (hcell k hlt)
        have a2 := hr.cell k (by omega)
        rw [if_neg (by omega), Int.sub_zero] at a2
        have a3 := hr.frozen k
        have d1 := f0 k (by omega)
        have d2 := f1 k (by omega)
        have d3 := g0 k hlt
        have d4 := g1 k hlt
        clear hcell hx2 f0 f1 g0 g1 HP
        go_wp2
        go_roundw
        case rel =>
          refine ⟨k + 1, by omega, by go_num, hb.setCell (p := ⟨r, k, none⟩) hB _, (hr.set k _).congr fun i hi => ?_⟩
          by_cases e : i = k
          · subst e; simp
          · rw [if_neg e]; simp only [show i < k + 1 ↔ i < k by omega]
        case measure => simp [intOf]; omega
      · obtain rfl : k = m := by omega
        clear hlt hk hx2
        clear f0 f1 g0 g1
        go_wp2
        go_loopw [28] (fun a wr => ∃ i : Nat, i ≤ n ∧ a = .int .i64 i ∧ Below w.heap.size w wr ∧ ∃ h, RowF wr r n h ∧ MinusInv n (vf f n - vf g k) i h) (fun a _ => n - (intOf a).toNat)
        case atStart => exact ⟨0, Nat.zero_le _, rfl, hb, _, hr, HP⟩
        case round =>
          clear hb hr HP
          obtain ⟨i, hi, rfl, hb, h, hr, HP⟩ := hrel
          by_cases hlt : i < n
          · obtain ⟨q1, q2, q3⟩ := HP.bd hlt
            have a2 := hr.cell i (by omega)
            have a3 := hr.frozen i
            by_cases hge : h i < 0
            · have hl := HP.last hS hlt hge
              obtain ⟨q4, q5⟩ := q3 hl
              have a4 := hr.cell (i + 1) (by omega)
              have a5 := hr.frozen (i + 1)
              have r1 := hr.set i (h i + 1000000000)
              have a6 := r1.cell (i + 1) (by omega)
              have a7 := r1.frozen (i + 1)
              simp only [show ¬ i + 1 = i by omega, if_false] at a6
              clear q3
              go_wp2
              go_roundw
              case rel => exact ⟨i + 1, by omega, by go_num, (hb.setCell (p := ⟨r, i, none⟩) hB _).setCell (p := ⟨r, i + 1, none⟩) hB _, _, r1.set (i + 1) (h (i + 1) - 1), HP.carry hl hge⟩
              case measure => simp [intOf]; omega
            · have hge' : 0 ≤ h i := by omega
              clear q3
              go_wp2
              go_roundw
              case rel => exact ⟨i + 1, by omega, by go_num, hb, _, hr, HP.plain hlt hge'⟩
              case measure => simp [intOf]; omega
          · obtain rfl : i = n := by omega
            clear hlt hi
            have hs := hr.slice (by omega) i (Nat.le_refl _) cap hcap
            obtain ⟨c1', c2'⟩ := HP.done
            have hle := trimN_le h i
            replace c2' := Lib.hid c2'
            go_wp2_with (go_at_call 163; refine (trim_any _ _ _ h _ hs).mono ?_; rintro e w' ⟨rfl, rfl⟩)
            go_ret
            exact ⟨_, _, _, h, rfl, hs.take _ hle, c1', c2'.out, hle, hb⟩
theorem minus_sz (m1 m2 : Nat) (w wf : World) (hx : Ext wf w) (p q : Option Addr) (n m c1 c2 : Nat) (N M : Int) (h1 : Sz m1 wf (.slice p n c1) N) (h2 : Sz m2 wf (.slice q m c2) M) (hm1 : m1 ≤ 1000000) (hle : M ≤ N) :
    Calls Tryz.prog 166 #[.slice p n c1, .slice q m c2] w fun e w' => ∃ p k c, e = .returned (.slice p k c) ∧ Sz m1 w' (.slice p k c) (N - M) ∧ Below w.heap.size w w' := by
  obtain ⟨n, f, s1, d1, rfl, l1, rfl⟩ := (h1.ext hx).sl
  obtain ⟨m, g, s2, d2, rfl, l2, rfl⟩ := (h2.ext hx).sl
  refine (minus_any p q n m c1 c2 f g w s1 s2 d1.lo d1.hi d2.lo d2.hi (d2.len_le d1 hle) (by omega) hle).mono ?_
  rintro e w' ⟨p, k, c, h, rfl, hs, hd, hv, hk, hb⟩
  exact ⟨_, _, _, rfl, ⟨k, h, hs, hd, hv, by omega⟩, hb⟩
end Go.Proofs.YtepodcocemmejaaGreatDoor
namespace Go.Mono
def LessPost (r j n R : Nat) (h0 g : Nat → Int) (d : Int) (w : World) (e : Ending) (w' : World) : Prop := ∃ (b : Bool) (h : Nat → Int), e = .returned (.bool b) ∧ RowF w' r R h ∧
      (∀ k, k < R → 0 ≤ h k) ∧ (∀ k, k < R → h k < 1000000000) ∧ (∀ k, k < j ∨ j + n < k → h k = h0 k) ∧ vf (win h j) (n + 1) = vf (win h0 j) (n + 1) - d * vf g n + (if b then 1 else 0) * pw (n + 1) ∧ OnlyRow r w w'
end Go.Mono
namespace Go.Proofs.YtepodcocemmejaaGreatDoor
open Go.RowKit Go.Mono
set_option maxRecDepth 100000 in
set_option maxHeartbeats 1000000 in
theorem less_any (r j n R cap s c2 : Nat) (h0 g : Nat → Int) (d : Int) (w : World) (hr0 : RowF w r R h0) (hs : RowF w s n g) (hrs : s ≠ r) (hR : j + n < R) (hRb : R ≤ 2000000)
    (lo : ∀ k, k < R → 0 ≤ h0 k) (hi : ∀ k, k < R → h0 k < 1000000000) (g0 : ∀ i, i < n → 0 ≤ g i) (g1 : ∀ i, i < n → g i < 1000000000) (d0 : 0 ≤ d) (d1 : d < 1000000000) :
    Calls Tryz.prog 191 #[.slice (some ⟨r, j, none⟩) (n + 1) cap, .slice (some ⟨s, 0, none⟩) n c2, .int .i64 d] w (LessPost r j n R h0 g d w) := by
  go_enter Tryz.func191, Tryz.ntmps191
  go_wp2
  go_loopw [7, 14] (fun c a wr => ∃ i : Nat, i ≤ n ∧ a = .int .i64 i ∧ OnlyRow r w wr ∧ ∃ h bo, c = .int .i64 bo ∧ RowF wr r R h ∧ LessInv R j n h0 g d i h bo) (fun _ a _ => n - (intOf a).toNat)
  case atStart => exact ⟨0, Nat.zero_le _, rfl, OnlyRow.refl _ _, _, _, rfl, hr0, LessInv.start lo hi⟩
  case round =>
    clear hr0 lo hi
    obtain ⟨i, hin, rfl, ho, h, bo, rfl, hr, HT⟩ := hrel
    by_cases hlt : i < n
    · have a1 := (ho.row hs hrs).cell i hlt
      have gi0 := g0 i hlt
      have gi1 := g1 i hlt
      have a2 := hr.cell (j + i) (by omega)
      have a3 := hr.frozen (j + i)
      have b0 := HT.b0
      have b1 := HT.b1
      have h0' := HT.lo (j + i) (by omega)
      have h1' := HT.hi (j + i) (by omega)
      obtain ⟨d5, d6⟩ := mul_bd gi0 gi1 d0 d1
      have HS := fun (t e : Int) (ht : 0 ≤ t) (ht2 : t ≤ 2) he e0 e1 => HT.step hlt gi0 gi1 d0 d1 (t := t) (e := e) ht ht2 he e0 e1
      replace HS := Lib.hid HS
      clear HT g0 g1
      by_cases n1 : h (j + i) - g i * d % 1000000000 - bo < 0
      · by_cases n2 : h (j + i) - g i * d % 1000000000 - bo + 1000000000 < 0
        · go_wp2
          go_roundw
          case rel => exact ⟨i + 1, by omega, by go_num, ho.set (j + i) _, _, _, rfl, hr.set (j + i) _, (by have := HS.out 2 (h (j + i) - g i * d % 1000000000 - bo + 1000000000 + 1000000000) (by omega) (by omega) (by omega) (by omega) (by omega); rwa [show g i * d / 1000000000 + 2 = g i * d / 1000000000 + 1 + 1 by omega] at this)⟩
          case measure => simp [intOf]; omega
        · go_wp2
          go_roundw
          case rel => exact ⟨i + 1, by omega, by go_num, ho.set (j + i) _, _, _, rfl, hr.set (j + i) _, HS.out 1 (h (j + i) - g i * d % 1000000000 - bo + 1000000000) (by omega) (by omega) (by omega) (by omega) (by omega)⟩
          case measure => simp [intOf]; omega
      · go_wp2
        go_roundw
        case rel => exact ⟨i + 1, by omega, by go_num, ho.set (j + i) _, _, _, rfl, hr.set (j + i) _, (by have := HS.out 0 (h (j + i) - g i * d % 1000000000 - bo) (by omega) (by omega) (by omega) (by omega) (by omega); rwa [Int.add_zero] at this)⟩
        case measure => simp [intOf]; omega
    · obtain rfl : i = n := by omega
      have a2 := hr.cell (j + i) (by omega)
      have a3 := hr.frozen (j + i)
      have b0 := HT.b0
      have b1 := HT.b1
      have h0' := HT.lo (j + i) (by omega)
      have h1' := HT.hi (j + i) (by omega)
      have HS := fun (t e : Int) ht he e0 e1 => HT.last (t := t) (e := e) ht he e0 e1
      replace HS := Lib.hid HS
      have r1 := hr.set (j + i) (h (j + i) - bo)
      have a4 := r1.cell (j + i) (by omega)
      have a5 := r1.frozen (j + i)
      simp only [if_true] at a4
      clear HT g0 g1 hlt hin hs
      by_cases n1 : h (j + i) - bo < 0
      · go_wp2
        go_ret
        have r2 := r1.set (j + i) (h (j + i) - bo + 1000000000)
        obtain ⟨q1, q2, q3, q4⟩ := HS.out 1 (h (j + i) - bo + 1000000000) (.inr rfl) (by omega) (by omega) (by omega)
        refine ⟨true, _, rfl, r2.congr fun k hk => ?_, q2, q3, q4, q1, (ho.set _ _).set _ _⟩
        by_cases e : k = j + i
        · rw [if_pos e, if_pos e]
        · rw [if_neg e, if_neg e, if_neg e]
      · go_wp2
        go_ret
        obtain ⟨q1, q2, q3, q4⟩ := HS.out 0 (h (j + i) - bo) (.inl rfl) (by omega) (by omega) (by omega)
        exact ⟨false, _, rfl, r1, q2, q3, q4, q1, ho.set _ _⟩
set_option maxRecDepth 100000 in
set_option maxHeartbeats 1000000 in
theorem more_any (r j n R cap s c2 : Nat) (h0 g : Nat → Int) (w : World) (hr0 : RowF w r R h0) (hs : RowF w s n g) (hrs : s ≠ r) (hR : j + n < R) (hRb : R ≤ 2000000)
    (lo : ∀ k, k < R → 0 ≤ h0 k) (hi : ∀ k, k < R → h0 k < 1000000000) (g0 : ∀ i, i < n → 0 ≤ g i) (g1 : ∀ i, i < n → g i < 1000000000) :
    Calls Tryz.prog 192 #[.slice (some ⟨r, j, none⟩) (n + 1) cap, .slice (some ⟨s, 0, none⟩) n c2] w fun e w' => ∃ (o : Int) (h : Nat → Int), e = .returned (.tuple #[]) ∧ RowF w' r R h ∧
      (∀ k, k < R → 0 ≤ h k) ∧ (∀ k, k < R → h k < 1000000000) ∧ (∀ k, k < j ∨ j + n < k → h k = h0 k) ∧ vf (win h j) (n + 1) = vf (win h0 j) (n + 1) + vf g n - o * pw (n + 1) ∧ OnlyRow r w w' := by
  go_enter Tryz.func192, Tryz.ntmps192
  go_wp2
  go_loopw [4, 10] (fun c a wr => ∃ i : Nat, i ≤ n ∧ a = .int .i64 i ∧ OnlyRow r w wr ∧ ∃ h bo, c = .int .i64 bo ∧ RowF wr r R h ∧ MoreInv R j n h0 g i h bo) (fun _ a _ => n - (intOf a).toNat)
  case atStart => exact ⟨0, Nat.zero_le _, rfl, OnlyRow.refl _ _, _, _, rfl, hr0, MoreInv.start lo hi⟩
  case round =>
    clear hr0 lo hi
    obtain ⟨i, hin, rfl, ho, h, bo, rfl, hr, HT⟩ := hrel
    have b0 := HT.c0
    have b1 := HT.c1
    by_cases hlt : i < n
    · have a1 := (ho.row hs hrs).cell i hlt
      have gi0 := g0 i hlt
      have gi1 := g1 i hlt
      have a2 := hr.cell (j + i) (by omega)
      have a3 := hr.frozen (j + i)
      have h0' := HT.lo (j + i) (by omega)
      have h1' := HT.hi (j + i) (by omega)
      clear g0 g1
      go_wp2
      go_roundw
      case rel => exact ⟨i + 1, by omega, by go_num, ho.set (j + i) _, _, _, rfl, hr.set (j + i) _, HT.step hlt hR gi0 gi1⟩
      case measure => simp [intOf]; omega
    · obtain rfl : i = n := by omega
      have a2 := hr.cell (j + i) (by omega)
      have a3 := hr.frozen (j + i)
      have h0' := HT.lo (j + i) (by omega)
      have h1' := HT.hi (j + i) (by omega)
      obtain ⟨o, q1, q2, q3, q4⟩ := HT.last hR
      replace q1 := Lib.hid q1
      replace q4 := Lib.hid q4
      clear HT g0 g1 hlt hin hs
      go_wp2
      go_end0
      exact ⟨o, _, rfl, hr.set _ _, q2, q3, q4.out, q1.out, ho.set _ _⟩
end Go.Proofs.YtepodcocemmejaaGreatDoor
namespace Go.Mono
theorem win_cons (h : Nat → Int) (j k : Nat) : vf (win h j) (k + 1) = h j + 1000000000 * vf (win h (j + 1)) k := by
  induction k with
  | zero => simp [vf, win, pw]
  | succ k ih =>
    rw [vf_succ, ih, vf_succ (win h (j + 1)) k, pw_succ]
    simp only [win]
    rw [show j + 1 + k = j + (k + 1) by omega]
    grind
theorem vf_window {h h' : Nat → Int} {j k R : Nat} (hR : j + k ≤ R) (ho : ∀ i, i < j ∨ j + k ≤ i → h' i = h i) : vf h' R = vf h R + pw j * (vf (win h' j) k - vf (win h j) k) := by
  obtain ⟨m, rfl⟩ := Nat.exists_eq_add_of_le hR
  rw [vf_split h', vf_split h, pw_add, vf_split h' j k, vf_split h j k]
  rw [vf_congr (f := h') (g := h) (k := j) (fun i hi => ho i (by omega))]
  rw [vf_congr (f := fun i => h' (j + k + i)) (g := fun i => h (j + k + i)) (k := m) (fun i _ => ho _ (by omega))]
  grind
/-- the long division, before place j -/
structure OverInv (m Q R : Nat) (A : Int) (g : Nat → Int) (j : Nat) (h q : Nat → Int) : Prop where
  lo : ∀ k, k < R → 0 ≤ h k
  hi : ∀ k, k < R → h k < 1000000000
  zero : ∀ k, j + (m + 2) ≤ k → k < R → h k = 0
  lt : vf (win h j) (m + 2) < vf g (m + 2)
  q0 : ∀ k, k < Q → 0 ≤ q k
  q1 : ∀ k, k < Q → q k < 1000000000
  qz : ∀ k, k < j → q k = 0
  val : vf h R + vf g (m + 2) * vf q Q = A
theorem OverInv.start {m Q R : Nat} {A M : Int} {g h : Nat → Int} (hR : R = Q + (m + 2)) (lo : ∀ k, k < R → 0 ≤ h k) (hi : ∀ k, k < R → h k < 1000000000) (hA : vf h R = A) (hlt : A < M * pw Q) (hM : vf g (m + 2) = M) :
    OverInv m Q R A g Q h (fun _ => 0) := by
  refine ⟨lo, hi, fun k h1 h2 => by omega, ?_, fun _ _ => by simp, fun _ _ => by simp, fun _ _ => rfl, by rw [vf_zero (f := fun _ => 0) fun _ _ => rfl, hA]; simp⟩
  subst hR
  rw [vf_split] at hA
  have hA' : vf h Q + pw Q * vf (win h Q) (m + 2) = A := hA
  clear hA
  have h1 := vf_nonneg (f := h) (k := Q) fun i hi => lo i (by omega)
  rw [hM]
  rcases Int.lt_or_le (vf (win h Q) (m + 2)) M with h2 | h2
  · exact h2
  · have := mle h2 (Int.le_of_lt (pw_pos Q))
    have : pw Q * vf (win h Q) (m + 2) = vf (win h Q) (m + 2) * pw Q := Int.mul_comm _ _
    omega
theorem OverInv.U_lt {m Q R : Nat} {A : Int} {g : Nat → Int} {j : Nat} {h q : Nat → Int} (H : OverInv m Q R A g (j + 1) h q) (hj : j < R) : vf (win h j) (m + 3) < vf g (m + 2) * 1000000000 := by
  rw [win_cons]
  have := H.lt
  have := H.hi j hj
  omega
theorem OverInv.step {m Q R : Nat} {A : Int} {g : Nat → Int} {j : Nat} {h q h' : Nat → Int} {d W : Int} (H : OverInv m Q R A g (j + 1) h q) (hR : R = Q + (m + 2)) (hj : j < Q)
    (hV : vf g (m + 2) ≤ pw (m + 2)) (lo : ∀ k, k < R → 0 ≤ h' k) (hi : ∀ k, k < R → h' k < 1000000000) (ho : ∀ k, k < j ∨ j + (m + 2) < k → h' k = h k)
    (hW : vf (win h' j) (m + 3) = W) (W0 : 0 ≤ W) (W1 : W < vf g (m + 2)) (hU : vf (win h j) (m + 3) = d * vf g (m + 2) + W) :
    0 ≤ d ∧ d < 1000000000 ∧ OverInv m Q R A g j h' (fun k => if k = j then d else q k) := by
  have hlt := H.U_lt (by omega)
  have hU0 := vf_nonneg (f := win h j) (k := m + 3) fun i hi => H.lo _ (by omega)
  have hV0 : 0 < vf g (m + 2) := by omega
  have d0 : 0 ≤ d := by
    rcases Int.lt_or_le d 0 with h1 | h1
    · have := mle (show d ≤ -1 by omega) (Int.le_of_lt hV0); omega
    · exact h1
  have d1 : d < 1000000000 := by
    rcases Int.lt_or_le d 1000000000 with h1 | h1
    · exact h1
    · have := mle h1 (Int.le_of_lt hV0); omega
  refine ⟨d0, d1, lo, hi, fun k h1 h2 => ?_, ?_, fun k hk => ?_, fun k hk => ?_, fun k hk => ?_, ?_⟩
  · rcases Nat.lt_or_ge (j + (m + 2)) k with h3 | h3
    · rw [ho k (.inr h3)]; exact H.zero k (by omega) h2
    · obtain rfl : k = j + (m + 2) := by omega
      rw [vf_succ] at hW
      have a0 := lo _ h2
      have a1 := vf_nonneg (f := win h' j) (k := m + 2) fun i hi => lo _ (by omega)
      rcases Int.lt_or_le 0 (h' (j + (m + 2))) with h4 | h4
      · have := mle (show 1 ≤ win h' j (m + 2) from h4) (Int.le_of_lt (pw_pos (m + 2)))
        omega
      · omega
  · have e : vf (win h' j) (m + 2) = W - win h' j (m + 2) * pw (m + 2) := by rw [vf_succ] at hW; omega
    have a0 : 0 ≤ win h' j (m + 2) * pw (m + 2) := Int.mul_nonneg (lo _ (by omega)) (Int.le_of_lt (pw_pos _))
    omega
  · show 0 ≤ if k = j then _ else _
    split
    · exact d0
    · exact H.q0 k hk
  · show (if k = j then _ else _) < _
    split
    · exact d1
    · exact H.q1 k hk
  · show (if k = j then _ else _) = _
    rw [if_neg (by omega)]; exact H.qz k (by omega)
  · have hv := H.val
    rw [vf_window (h := h) (h' := h') (j := j) (k := m + 3) (R := R) (by omega) (fun i hi => ho i (by omega)), vf_set, if_pos hj, H.qz j (by omega), hW, hU]
    generalize vf g (m + 2) = V at hv ⊢
    grind
theorem OverInv.done {m Q R : Nat} {A : Int} {g : Nat → Int} {h q : Nat → Int} (H : OverInv m Q R A g 0 h q) (hR : R = Q + (m + 2)) :
    A = vf g (m + 2) * vf q Q + vf h (m + 2) ∧ 0 ≤ vf h (m + 2) ∧ vf h (m + 2) < vf g (m + 2) := by
  have hv := H.val
  have hl := H.lt
  have e1 : vf (win h 0) (m + 2) = vf h (m + 2) := vf_congr fun i _ => by simp [win]
  rw [e1] at hl
  have e2 : vf h R = vf h (m + 2) := by
    rw [hR, Nat.add_comm, vf_split, vf_zero (f := fun j => h (m + 2 + j)) (fun i hi => H.zero _ (by omega) (by omega))]; simp
  rw [e2] at hv
  exact ⟨by omega, vf_nonneg fun i hi => H.lo i (by omega), hl⟩
/-- the quotient and the rest, of numbers that were multiplied by f -/
theorem over_final {N M f q r : Int} (hf : 0 < f) (h : N * f = M * f * q + r) (r0 : 0 ≤ r) (r1 : r < M * f) : q = N / M ∧ r / f = N % M := by
  have e : r = (N - M * q) * f := by grind
  have h0 : 0 ≤ N - M * q := by
    rcases Int.lt_or_le (N - M * q) 0 with h1 | h1
    · have := mle (show N - M * q ≤ -1 by omega) (Int.le_of_lt hf); omega
    · exact h1
  have h1 : N - M * q < M := by
    rcases Int.lt_or_le (N - M * q) M with h1 | h1
    · exact h1
    · have := mle h1 (Int.le_of_lt hf); omega
  have hM : 0 < M := by omega
  have hq : q = N / M := ((Int.ediv_eq_iff_of_pos hM).2 ⟨by rw [Int.mul_comm]; omega, by rw [Int.mul_comm]; omega⟩).symm
  refine ⟨hq, ?_⟩
  rw [e, Int.mul_ediv_cancel _ (by omega)]
  have := Int.mul_ediv_add_emod N M
  rw [← hq] at this
  omega
/-- the factor: a product with it has no more digits -/
theorem factor_bd {b1 : Int} (h0 : 0 < b1) (h1 : b1 < 1000000000) : 0 < 1000000000 / (b1 + 1) ∧ 1000000000 / (b1 + 1) < 1000000000 ∧ (b1 + 1) * (1000000000 / (b1 + 1)) ≤ 1000000000 := by
  have e := Int.mul_ediv_add_emod 1000000000 (b1 + 1)
  have r0 := Int.emod_nonneg 1000000000 (show b1 + 1 ≠ 0 by omega)
  have r1 := Int.emod_lt_of_pos 1000000000 (show 0 < b1 + 1 by omega)
  have q0 : 0 ≤ 1000000000 / (b1 + 1) := Int.ediv_nonneg (by omega) (by omega)
  generalize 1000000000 / (b1 + 1) = q at *
  refine ⟨?_, ?_, by omega⟩
  · rcases Int.lt_or_le 0 q with h | h
    · exact h
    · obtain rfl : q = 0 := by omega
      omega
  · have := mle (show 2 ≤ b1 + 1 by omega) q0
    omega
theorem factor_lt {g : Nat → Int} {m : Nat} (g1 : ∀ i, i < m + 1 → g i < 1000000000) {f : Int} (f0 : 0 < f) (hf : (g m + 1) * f ≤ 1000000000) : vf g (m + 1) * f < pw (m + 1) := by
  rw [vf_succ, pw_succ]
  have h1 := vf_lt (f := g) (k := m) fun i hi => g1 i (by omega)
  have h2 : (vf g m + g m * pw m + 1) * f ≤ ((g m + 1) * pw m) * f := mle (by grind) (Int.le_of_lt f0)
  have h3 : ((g m + 1) * f) * pw m ≤ 1000000000 * pw m := mle hf (Int.le_of_lt (pw_pos m))
  have h4 : ((g m + 1) * pw m) * f = ((g m + 1) * f) * pw m := by grind
  have h5 : (vf g m + g m * pw m + 1) * f = (vf g m + g m * pw m) * f + f := by grind
  omega
end Go.Mono
namespace Go.Mono
theorem v_top {m : Nat} {v : Nat → Int} {G : Int} (v0 : ∀ i, i < m + 2 + 1 → 0 ≤ v i) (v1 : ∀ i, i < m + 2 + 1 → v i < 1000000000) (hv : vf v (m + 2 + 1) = G) (hlo : pw (m + 1) ≤ G) (hhi : G < pw (m + 2)) :
    vf v (m + 2) = G ∧ v (m + 1) ≠ 0 := by
  have a1 := vf_nonneg (f := v) (k := m + 2) fun i hi => v0 i (by omega)
  have a2 := v0 (m + 2) (by omega)
  rw [vf_succ] at hv
  have e : v (m + 2) = 0 := by
    rcases Int.lt_or_le 0 (v (m + 2)) with h | h
    · have := mle (show 1 ≤ v (m + 2) from h) (Int.le_of_lt (pw_pos (m + 2))); omega
    · omega
  rw [e, Int.zero_mul, Int.add_zero] at hv
  refine ⟨hv, fun h => ?_⟩
  rw [vf_succ, h] at hv
  have a3 := vf_lt (f := v) (k := m + 1) fun i hi => v1 i (by omega)
  omega
theorem start_lt {n m Q : Nat} {f g : Nat → Int} {F : Int} (hQ : n = Q + (m + 1)) (d1 : Digs f n) (d2 : Digs g (m + 2)) (F0 : 0 < F) : vf f n * F < vf g (m + 2) * F * pw Q := by
  have a1 := d1.lt
  have a2 := d2.ge (by omega)
  rw [show m + 2 - 1 = m + 1 by omega] at a2
  rw [hQ, pw_add] at a1
  rw [← hQ] at a1
  have a3 := mle a2 (Int.le_of_lt (pw_pos Q))
  have a4 : pw (m + 1) * pw Q = pw Q * pw (m + 1) := Int.mul_comm _ _
  have a5 : (vf f n + 1) * F ≤ (vf g (m + 2) * pw Q) * F := mle (by omega) (Int.le_of_lt F0)
  have a6 : (vf g (m + 2) * pw Q) * F = vf g (m + 2) * F * pw Q := by grind
  have a7 : (vf f n + 1) * F = vf f n * F + F := by grind
  omega
end Go.Mono
namespace Go.Mono
open Go.RowKit
theorem getD_set_self (l : Array Bool) (i : Nat) : (l.setIfInBounds i true).getD i true = true := by
  by_cases h : i < l.size
  · simp [Array.getD, h]
  · simp [Array.getD, h]
theorem List.inj_on_of_nodup_map' {α β : Type} {f : α → β} : ∀ {l : List α}, (l.map f).Nodup → ∀ {x y : α}, x ∈ l → y ∈ l → f x = f y → x = y
  | [], _, _, _, h, _, _ => by cases h
  | a :: r, hn, x, y, hx, hy, e => by
    rw [List.map_cons, List.nodup_cons] at hn
    rcases List.mem_cons.1 hx with rfl | hx' <;> rcases List.mem_cons.1 hy with rfl | hy'
    · rfl
    · exact absurd (e ▸ List.mem_map_of_mem hy') hn.1
    · exact absurd (e ▸ List.mem_map_of_mem hx') hn.1
    · exact List.inj_on_of_nodup_map' hn.2 hx' hy' e
section
variable {P : Program} {ops : Array Oper} {Q : Exit → Act → World → Prop} {md : Region.Mode} {S : World → Prop}
/-- stores into one box, in whatever order they come -/
theorem wpAnyH_stores (B : Nat) (T : TypeId) (off : Nat → Nat) (val : Nat → Value) (a : Act) (hS : ∀ w i u, S w → S (w.setCell ⟨B, i, none⟩ u)) :
    ∀ (k : Nat) (L : List Nat) (fuel : Nat) (listed : Array Bool) (w : World) (cs : Array Value), L.length = k → L.Nodup → (∀ j, listed.getD j true = false → j ∈ L) → (∀ j ∈ L, j ∈ Region.ready md ops listed) → (∀ i ∈ L, ∀ j ∈ L, off i = off j → i = j) →
    (∀ i ∈ L, off i < cs.size ∧ ∀ (w : World) (cs' : Array Value) (K : Act → World → Prop), Box w B T cs' → cs'.size = cs.size → K a (w.setCell ⟨B, off i, none⟩ (val i)) → wpOp P ops Q i K a w) →
    L.length ≤ fuel → Box w B T cs → S w →
    (∀ w' cs', Box w' B T cs' → cs'.size = cs.size → S w' → (∀ j, (∀ i ∈ L, off i ≠ j) → cs'[j]? = cs[j]?) → (∀ i ∈ L, cs'[off i]? = some (val i)) → Q .normal a w') →
    wpAnyH P md ops Q S fuel listed a w := by
  intro k
  induction k with
  | zero =>
    intro L fuel listed w cs hn _ hr _ _ _ _ hb hs hq
    have : L = [] := List.eq_nil_of_length_eq_zero hn
    subst this
    have hr' : Region.ready md ops listed = [] := List.eq_nil_iff_forall_not_mem.2 fun i hi => by
      have := hr i (mem_ready.1 hi).1
      simp at this
    exact wpAnyH_done hr' (hq w cs hb rfl hs (fun _ _ => rfl) (by simp)) fuel
  | succ k ih =>
    intro L fuel listed w cs hn hnd hun hr hoff hop hf hb hs hq
    obtain ⟨f, rfl⟩ : ∃ f, fuel = f + 1 := ⟨fuel - 1, by omega⟩
    refine ⟨fun h => ?_, fun i hi => ?_⟩
    · exfalso
      cases L with
      | nil => simp at hn
      | cons x r =>
        have := hr x (by simp)
        rw [h] at this
        simp at this
    · have hiL := hun i (mem_ready.1 hi).1
      have hlen : (L.erase i).length = k := by rw [List.length_erase_of_mem hiL]; omega
      have hmem : ∀ j, j ∈ L.erase i → j ∈ L ∧ j ≠ i := fun j hj => ⟨List.mem_of_mem_erase hj, fun e => by subst e; exact (List.Nodup.not_mem_erase hnd) hj⟩
      refine (hop i hiL).2 w cs _ hb rfl ⟨hS _ _ _ hs, ?_⟩
      refine ih (L.erase i) f _ _ (cs.setIfInBounds (off i) (val i)) hlen (hnd.erase i) ?_ ?_ ?_ ?_ (by omega) (hb.set _ _) (hS _ _ _ hs) ?_
      · intro j hj
        have hji : j ≠ i := by
          rintro rfl
          rw [getD_set_self] at hj
          cases hj
        rw [getD_set_ne true (Ne.symm hji)] at hj
        exact (List.mem_erase_of_ne hji).2 (hun j hj)
      · intro j hj
        obtain ⟨h1, h2⟩ := hmem j hj
        exact ready_mono (hr j h1) h2
      · intro x hx y hy e
        exact hoff x (hmem x hx).1 y (hmem y hy).1 e
      · intro j hj
        obtain ⟨h1, h2⟩ := hmem j hj
        refine ⟨by simpa using (hop j h1).1, fun w cs' K hb' hsz hK => (hop j h1).2 w cs' K hb' (by simpa using hsz) hK⟩
      · intro w' cs' hb' hsz hs' h1 h2
        have hsz' : cs'.size = cs.size := by simpa using hsz
        refine hq w' cs' hb' hsz' hs' (fun j hj => ?_) (fun j hj => ?_)
        · rw [h1 j fun x hx => hj x (hmem x hx).1]
          rw [Array.getElem?_setIfInBounds_ne (hj i hiL)]
        · by_cases hji : j = i
          · subst hji
            rw [h1 (off j) fun x hx => fun e => (hmem x hx).2 (hoff x (hmem x hx).1 j hiL e)]
            rw [Array.getElem?_setIfInBounds_self]
            simp [(hop j hiL).1]
          · exact h2 j ((List.mem_erase_of_ne hji).2 hj)
theorem foldl_size (off : Nat → Nat) (val : Nat → Value) : ∀ (L : List Nat) (cs : Array Value), (L.foldl (fun c i => c.setIfInBounds (off i) (val i)) cs).size = cs.size
  | [], _ => rfl
  | x :: r, cs => by rw [List.foldl_cons, foldl_size off val r]; simp
theorem foldl_out (off : Nat → Nat) (val : Nat → Value) : ∀ (L : List Nat) (cs : Array Value) (j : Nat), (∀ i ∈ L, off i ≠ j) → (L.foldl (fun c i => c.setIfInBounds (off i) (val i)) cs)[j]? = cs[j]?
  | [], _, _, _ => rfl
  | x :: r, cs, j, h => by
    rw [List.foldl_cons, foldl_out off val r _ j fun i hi => h i (by simp [hi])]
    exact Array.getElem?_setIfInBounds_ne (h x (by simp))
theorem foldl_in (off : Nat → Nat) (val : Nat → Value) : ∀ (L : List Nat) (cs : Array Value) (i : Nat), (L.map off).Nodup → i ∈ L → off i < cs.size → (L.foldl (fun c i => c.setIfInBounds (off i) (val i)) cs)[off i]? = some (val i)
  | [], _, _, _, h, _ => by cases h
  | x :: r, cs, i, hn, h, hs => by
    rw [List.map_cons, List.nodup_cons] at hn
    rw [List.foldl_cons]
    rcases List.mem_cons.1 h with rfl | h
    · rw [foldl_out off val r _ _ fun j hj e => hn.1 (by rw [← e]; exact List.mem_map_of_mem hj)]
      rw [Array.getElem?_setIfInBounds_self]
      simp [hs]
    · exact foldl_in off val r _ i hn.2 h (by simpa using hs)
/-- the same, as it is used: what is to be shown of the region is reckoned -/
theorem wpAnyH_stores' (B : Nat) (T : TypeId) (off : Nat → Nat) (val : Nat → Value) (L : List Nat) {a : Act} {fuel : Nat} {listed : Array Bool} {w : World} (cs new : Array Value)
    (hS : ∀ w i u, S w → S (w.setCell ⟨B, i, none⟩ u))
    (h1 : ((List.range listed.size).all fun j => listed.getD j true || L.contains j) = true) (h2 : (L.all fun j => (Region.ready md ops listed).contains j) = true)
    (h3 : decide (L.map off).Nodup = true) (h4 : (L.all fun i => off i < cs.size) = true) (hf : L.length ≤ fuel) (hnew : L.foldl (fun c i => c.setIfInBounds (off i) (val i)) cs = new)
    (hop : ∀ i ∈ L, ∀ (w : World) (cs' : Array Value) (K : Act → World → Prop), Box w B T cs' → cs'.size = cs.size → K a (w.setCell ⟨B, off i, none⟩ (val i)) → wpOp P ops Q i K a w)
    (hb : Box w B T cs) (hs : S w) (hq : ∀ w', Box w' B T new → S w' → Q .normal a w') : wpAnyH P md ops Q S fuel listed a w := by
  have hnd := of_decide_eq_true h3
  have hoff : ∀ i ∈ L, off i < cs.size := fun i hi => by simpa using (List.all_eq_true.1 h4) i hi
  refine wpAnyH_stores B T off val a hS L.length L fuel listed w cs rfl (List.Pairwise.imp (fun {x y} (h : off x ≠ off y) (e : x = y) => h (by rw [e])) (List.pairwise_map.1 hnd)) (fun j hj => ?_) (fun j hj => ?_) (fun i hi j hj e => ?_) (fun i hi => ⟨hoff i hi, hop i hi⟩) hf hb hs (fun w' cs' hb' hsz hs' g1 g2 => ?_)
  · by_cases hjs : j < listed.size
    · have := (List.all_eq_true.1 h1) j (List.mem_range.2 hjs)
      rw [hj] at this
      simpa using this
    · simp [Array.getD, hjs] at hj
  · simpa using (List.all_eq_true.1 h2) j hj
  · exact List.inj_on_of_nodup_map' hnd hi hj e
  · refine hq w' ?_ hs'
    rw [← hnew]
    have : cs' = L.foldl (fun c i => c.setIfInBounds (off i) (val i)) cs := by
      apply Array.ext_getElem?
      intro j
      by_cases h : ∃ i ∈ L, off i = j
      · obtain ⟨i, hi, rfl⟩ := h
        rw [g2 i hi, foldl_in off val L cs i hnd hi (hoff i hi)]
      · have h' : ∀ i ∈ L, off i ≠ j := fun i hi e => h ⟨i, hi, e⟩
        rw [g1 j h', foldl_out off val L cs j h']
    exact this ▸ hb'
/-- the store of one cell -/
theorem wpOp_store {B : Nat} {T : TypeId} {a : Act} {w : World} {cs : Array Value} {K : Act → World → Prop} (i : Nat) {o : Oper} (hi : ops[i]? = some o) (hg : o.guard = none) (hd : o.dst = none) {ty : TypeId} {x y : Operand} (ho : o.op = .store ty x y)
    (off : Nat) (v : Value) (hx : a.eval x = .pointer (some ⟨B, off, none⟩)) (hy : a.eval y = v)
    (hrun : ∀ w : World, (w.cell? ⟨B, off, none⟩).isSome = true → w.frozen? ⟨B, off, none⟩ = false → (Instr.storeAt ty (.pointer (some ⟨B, off, none⟩)) v).run P w = .ok () (w.setCell ⟨B, off, none⟩ v))
    (hb : Box w B T cs) (hoff : off < cs.size) (hK : K a (w.setCell ⟨B, off, none⟩ v)) : wpOp P ops Q i K a w := by
  unfold wpOp
  rw [hi]
  have hw : Region.wanted o (yielded ops a.tmps) = true := by simp [Region.wanted, hg]
  simp only [hw, if_true]
  left
  have hc : (w.cell? ⟨B, off, none⟩).isSome = true := by rw [hb.cell]; simp [hoff]
  unfold Oper.wp execOp
  simp only [ho, hx, hy, Sem.run_bind, hrun w hc (hb.frozen off), Result.andThen_ok, Sem.run_pure]
  show K (a.put o.dst undef) _
  rw [hd]
  exact hK
/-- a store of one cell that comes up alone -/
theorem wpAnyH_store1 (B : Nat) (T : TypeId) (i : Nat) {o : Oper} (hi : ops[i]? = some o) (hg : o.guard = none) (hd : o.dst = none) {ty : TypeId} {x y : Operand} (ho : o.op = .store ty x y) (off : Nat) (v : Value) (cs new : Array Value) {a : Act} {fuel : Nat} {listed : Array Bool} {w : World}
    (hr : Region.ready md ops listed = [i]) (hS : ∀ w i u, S w → S (w.setCell ⟨B, i, none⟩ u)) (hx : a.eval x = .pointer (some ⟨B, off, none⟩)) (hy : a.eval y = v)
    (hrun : ∀ w : World, (w.cell? ⟨B, off, none⟩).isSome = true → w.frozen? ⟨B, off, none⟩ = false → (Instr.storeAt ty (.pointer (some ⟨B, off, none⟩)) v).run P w = .ok () (w.setCell ⟨B, off, none⟩ v))
    (hb : Box w B T cs) (hs : S w) (hoff : off < cs.size) (hnew : cs.setIfInBounds off v = new)
    (h : ∀ w', Box w' B T new → S w' → wpAnyH P md ops Q S fuel (listed.setIfInBounds i true) a w') : wpAnyH P md ops Q S (fuel + 1) listed a w := by
  refine wpAnyH_all hr (by simp) fun j hj => ?_
  obtain rfl : j = i := by simpa using hj
  exact wpOp_store j hi hg hd ho off v hx hy hrun hb hoff ⟨hS _ _ _ hs, h _ (hnew ▸ hb.set off v) (hS _ _ _ hs)⟩
end
end Go.Mono
