/- Contracts of package coat and of the examples of its law, for the laws of layer 40. Part 3 of 39. No condition beside the row. -/
import Derived.WalkMore
import Derived.Outline
import Derived.Laws.Pointers
import Derived.Maps.OwnIn
import Derived.Maps.AppendAt
import Derived.Test.YtdgodcgdlfjpaaaGreatDoorA01
import Derived.Test.YtdgodcgdlfjpaaaGreatDoorA02
set_option linter.unusedVariables false
set_option linter.unusedSimpArgs false
namespace Go.Mono
open Go.RowKit
/-- a struct and a number are handed back, out of boxes -/
theorem Box.results2 {P : Program} {w : World} {B B1 : Nat} {T T1 : TypeId} {cs : Array Value} {kd : IntKind} {z : Int} (b : Box w B T cs) (b1 : Box w B1 T1 #[.int kd z]) {fn : Func} {p p1 : Tmp} {ty ty1 : TypeId} (h : fn.results = #[.cell p ty, .cell p1 ty1]) (tmps : Array Value) (d : TypeDesc)
    (ht : tmps.getD p undef = .pointer (some ⟨B, 0, none⟩)) (ht1 : tmps.getD p1 undef = .pointer (some ⟨B1, 0, none⟩)) (hu : P.underlying ty = some d) (hd : d.isRow = true) (hi : (P.info? ty).map (·.size) = some cs.size)
    (hl : (loadVar ty1 ⟨B1, 0, none⟩).run P w = .ok (.int kd z) w) : (Go.results fn tmps).run P w = .ok (.tuple #[.agg cs, .int kd z]) w := by
  have hp' : tmps[p]?.getD undef = .pointer (some ⟨B, 0, none⟩) := by simpa using ht
  have hp1 : tmps[p1]?.getD undef = .pointer (some ⟨B1, 0, none⟩) := by simpa using ht1
  have hld := run_loadVar_row (P := P) w B T ty cs (0, 0) d b.blk hu (by cases d <;> simp_all [TypeDesc.isRow]) hi
  simp [Go.results, h, hp', hp1, asAddr, hld, hl]
/-- a struct out of a box, and a number out of a slot -/
theorem Box.resultsT {P : Program} {w : World} {B : Nat} {T : TypeId} {cs : Array Value} (b : Box w B T cs) {fn : Func} {p p1 : Tmp} {ty : TypeId} (h : fn.results = #[.cell p ty, .tmp p1]) (tmps : Array Value) (d : TypeDesc)
    (ht : tmps.getD p undef = .pointer (some ⟨B, 0, none⟩)) (hu : P.underlying ty = some d) (hd : d.isRow = true) (hi : (P.info? ty).map (·.size) = some cs.size) : (Go.results fn tmps).run P w = .ok (.tuple #[.agg cs, tmps.getD p1 undef]) w := by
  have hp' : tmps[p]?.getD undef = .pointer (some ⟨B, 0, none⟩) := by simpa using ht
  have hld := run_loadVar_row (P := P) w B T ty cs (0, 0) d b.blk hu (by cases d <;> simp_all [TypeDesc.isRow]) hi
  simp [Go.results, h, hp', asAddr, hld]
def quot0 : Array Value := #[.bool false, .slice none 0 0, .bool false, .slice none 0 0]
def pen0 : Array Value := #[.bool false, .slice none 0 0, .bool false, .slice none 0 0, .bool false, .slice none 0 0, .bool false, .slice none 0 0]
end Go.Mono
namespace Go.Proofs.YtdgodcgdlfjpaaaGreatDoor
open Go.RowKit Go.Mono
set_option maxHeartbeats 400000 in
theorem clone_any (p : Option Addr) (n c1 : Nat) (f : Nat → Int) (w : World) (h1 : SlF w (.slice p n c1) n f) (hn : n ≤ 1000000) :
    Calls Tryz.prog 224 #[.slice p n c1] w fun e w' => ∃ v, e = .returned v ∧ OwnF w' w.heap.size v n f ∧ Below w.heap.size w w' := by
  have hq : ∀ (w : World), (binOp .eql 147 (.slice p n c1) (.slice none 0 0)).run Tryz.prog w = .ok (.bool p.isNone) w := fun w => Lib.run_eql_slice_nil w _ _ p n c1 0 0 Tryz.underlying147
  cases p with
  | none =>
    obtain ⟨rfl, rfl⟩ : n = 0 ∧ c1 = 0 := by
      rcases h1 with ⟨h, rfl⟩ | ⟨b, off, cap, cs, fr, h, _⟩
      · simp at h; exact ⟨rfl, h⟩
      · simp at h
    go_enter Tryz.func224, Tryz.ntmps224
    go_wp2
    go_ret
    exact ⟨_, rfl, OwnF.nil _ _ _, Below.refl _ _⟩
  | some a =>
    have ho : OwnF (w.alloc (.cells #[] 3)) w.heap.size (.slice (some ⟨w.heap.size, 0, none⟩) 0 0) 0 (fun _ => 0) := World.ownsRow_lit w #[] 0 (Nat.le_refl _) (by decide) rfl
    have hx : Below w.heap.size w (w.alloc (.cells #[] 3)) := (Below.refl _ _).alloc (Nat.le_refl _) _
    have hs := h1.ext (.of_below hx)
    clear h1
    go_enter Tryz.func224, Tryz.ntmps224
    go_wp2_with (at_builtin; refine wpList_append_ints _ rfl _ _ 147 rfl Tryz.underlying147 infoInt w.heap.size _ 0 (fun _ => 0) rfl ho _ n c1 f rfl hs (by omega) (by simp) ?_; intro v' w1 ho' hg)
    go_ret
    refine ⟨_, rfl, ?_, hx.grown hg (by simp) (by rintro k ⟨⟩; exact Nat.le_refl _)⟩
    have := ho'.congr (f' := f) (fun i _ => by simp)
    rwa [Nat.zero_add] at this
set_option maxRecDepth 100000 in
set_option maxHeartbeats 1000000 in
theorem minus_any (p q : Option Addr) (n m c1 c2 : Nat) (f g : Nat → Int) (w : World) (h1 : SlF w (.slice p n c1) n f) (h2 : SlF w (.slice q m c2) m g)
    (f0 : ∀ i, i < n → 0 ≤ f i) (f1 : ∀ i, i < n → f i < 1000000000) (g0 : ∀ i, i < m → 0 ≤ g i) (g1 : ∀ i, i < m → g i < 1000000000) (hmn : m ≤ n) (hn : n ≤ 1000000) (hle : vf g m ≤ vf f n) :
    Calls Tryz.prog 159 #[.slice p n c1, .slice q m c2] w fun e w' => ∃ p k c h, e = .returned (.slice p k c) ∧ SlF w' (.slice p k c) k h ∧ Digs h k ∧ vf h k = vf f n - vf g m ∧ k ≤ n ∧ Below w.heap.size w w' := by
  obtain ⟨hc2, hn2, hx2⟩ := h2.opens
  clear h2
  by_cases h0 : n = 0
  · subst h0
    obtain rfl : m = 0 := by omega
    go_enter Tryz.func159, Tryz.ntmps159
    go_wp2_with (go_at_call 224; refine (clone_any _ _ _ f _ h1 (by omega)).mono ?_; rintro e w' ⟨v, rfl, ho, hb⟩)
    obtain ⟨p2, c3, rfl⟩ := ho.shape
    have hs := ho.sl (by omega)
    go_wp2_with fail
    go_loopw [13] (fun a wr => a = .int .i64 0 ∧ wr = w') (fun _ _ => 0)
    case atStart => exact ⟨rfl, rfl⟩
    case round =>
      obtain ⟨rfl, rfl⟩ := hrel
      go_wp2
      go_loopw [28] (fun a wr' => a = .int .i64 0 ∧ wr' = wr) (fun _ _ => 0)
      case atStart => exact ⟨rfl, rfl⟩
      case round =>
        obtain ⟨rfl, rfl⟩ := hrel
        go_wp2_with (go_at_call 223; refine (trim_any _ _ _ f _ hs).mono ?_; rintro e w' ⟨rfl, rfl⟩)
        go_ret
        exact ⟨p2, 0, c3, f, rfl, hs, ⟨fun i hi => by omega, fun i hi => by omega, fun hi => by omega⟩, by simp [vf], Nat.le_refl _, hb⟩
  · go_enter Tryz.func159, Tryz.ntmps159
    go_wp2_with (go_at_call 224; refine (clone_any _ _ _ f _ h1 (by omega)).mono ?_; rintro e w' ⟨v, rfl, ho, hb⟩)
    rcases ho.open with ⟨_, h⟩ | ⟨r, cap, rfl, hB, hcap, hr⟩
    · exact absurd h h0
    clear ho h1
    have HP := MinusInv.start hmn f0 f1 g0 g1
    have hS : 0 ≤ vf f n - vf g m := by omega
    go_wp2_with fail
    go_loopw [13] (fun a wr => ∃ k : Nat, k ≤ m ∧ a = .int .i64 k ∧ Below w.heap.size w wr ∧ RowF wr r n (fun j => f j - (if j < k then g j else 0))) (fun a _ => m - (intOf a).toNat)
    case atStart => exact ⟨0, Nat.zero_le _, rfl, hb, hr.congr fun i _ => by simp⟩
    case round =>
      clear hb hr
      obtain ⟨k, hk, rfl, hb, hr⟩ := hrel
      by_cases hlt : k < m
      · obtain ⟨b, off, rfl, hbs, hcell⟩ := hx2 (by omega)
        have a1 := (hb.cell (p := ⟨b, off + k, none⟩) hbs).trans (hcell k hlt)
        have a2 := hr.cell k (by omega)
        rw [if_neg (by omega), Int.sub_zero] at a2
        have a3 := hr.frozen k
        have d1 := f0 k (by omega)
        have d2 := f1 k (by omega)
        have d3 := g0 k hlt
        have d4 := g1 k hlt
        clear hcell hx2 f0 f1 g0 g1 HP
        go_wp2
        go_roundw
        case rel =>
          refine ⟨k + 1, by omega, by go_num, hb.setCell (p := ⟨r, k, none⟩) hB _, (hr.set k _).congr fun i hi => ?_⟩
          by_cases e : i = k
          · subst e; simp
          · rw [if_neg e]; simp only [show i < k + 1 ↔ i < k by omega]
        case measure => simp [intOf]; omega
      · obtain rfl : k = m := by omega
        clear hlt hk hx2
        clear f0 f1 g0 g1
        go_wp2
        go_loopw [28] (fun a wr => ∃ i : Nat, i ≤ n ∧ a = .int .i64 i ∧ Below w.heap.size w wr ∧ ∃ h, RowF wr r n h ∧ MinusInv n (vf f n - vf g k) i h) (fun a _ => n - (intOf a).toNat)
        case atStart => exact ⟨0, Nat.zero_le _, rfl, hb, _, hr, HP⟩
        case round =>
          clear hb hr HP
          obtain ⟨i, hi, rfl, hb, h, hr, HP⟩ := hrel
          by_cases hlt : i < n
          · obtain ⟨q1, q2, q3⟩ := HP.bd hlt
            have a2 := hr.cell i (by omega)
            have a3 := hr.frozen i
            by_cases hge : h i < 0
            · have hl := HP.last hS hlt hge
              obtain ⟨q4, q5⟩ := q3 hl
              have a4 := hr.cell (i + 1) (by omega)
              have a5 := hr.frozen (i + 1)
              have r1 := hr.set i (h i + 1000000000)
              have a6 := r1.cell (i + 1) (by omega)
              have a7 := r1.frozen (i + 1)
              simp only [show ¬ i + 1 = i by omega, if_false] at a6
              clear q3
              go_wp2
              go_roundw
              case rel => exact ⟨i + 1, by omega, by go_num, (hb.setCell (p := ⟨r, i, none⟩) hB _).setCell (p := ⟨r, i + 1, none⟩) hB _, _, r1.set (i + 1) (h (i + 1) - 1), HP.carry hl hge⟩
              case measure => simp [intOf]; omega
            · have hge' : 0 ≤ h i := by omega
              clear q3
              go_wp2
              go_roundw
              case rel => exact ⟨i + 1, by omega, by go_num, hb, _, hr, HP.plain hlt hge'⟩
              case measure => simp [intOf]; omega
          · obtain rfl : i = n := by omega
            clear hlt hi
            have hs := hr.slice (by omega) i (Nat.le_refl _) cap hcap
            obtain ⟨c1', c2'⟩ := HP.done
            have hle := trimN_le h i
            replace c2' := Lib.hid c2'
            go_wp2_with (go_at_call 223; refine (trim_any _ _ _ h _ hs).mono ?_; rintro e w' ⟨rfl, rfl⟩)
            go_ret
            exact ⟨_, _, _, h, rfl, hs.take _ hle, c1', c2'.out, hle, hb⟩
theorem minus_sz (m1 m2 : Nat) (w wf : World) (hx : Ext wf w) (p q : Option Addr) (n m c1 c2 : Nat) (N M : Int) (h1 : Sz m1 wf (.slice p n c1) N) (h2 : Sz m2 wf (.slice q m c2) M) (hm1 : m1 ≤ 1000000) (hle : M ≤ N) :
    Calls Tryz.prog 159 #[.slice p n c1, .slice q m c2] w fun e w' => ∃ p k c, e = .returned (.slice p k c) ∧ Sz m1 w' (.slice p k c) (N - M) ∧ Below w.heap.size w w' := by
  obtain ⟨n, f, s1, d1, rfl, l1, rfl⟩ := (h1.ext hx).sl
  obtain ⟨m, g, s2, d2, rfl, l2, rfl⟩ := (h2.ext hx).sl
  refine (minus_any p q n m c1 c2 f g w s1 s2 d1.lo d1.hi d2.lo d2.hi (d2.len_le d1 hle) (by omega) hle).mono ?_
  rintro e w' ⟨p, k, c, h, rfl, hs, hd, hv, hk, hb⟩
  exact ⟨_, _, _, rfl, ⟨k, h, hs, hd, hv, by omega⟩, hb⟩
end Go.Proofs.YtdgodcgdlfjpaaaGreatDoor
namespace Go.Mono
open Go.RowKit
theorem Box.ne {w : World} {B B' : Nat} {T T' : TypeId} {cs cs' : Array Value} (b : Box w B T cs) (b' : Box w B' T' cs') (h : T ≠ T') : B ≠ B' := by
  rintro rfl
  have e := b.blk.symm.trans b'.blk
  simp at e
  exact h e.2
theorem ownsRow_same {W W' : World} {base : Nat} {e : TypeId} {size n : Nat} {v : Value} {xs : List Value} (h : W.ownsRow base e size v n xs) (hs : ∀ g, v.ownBlock = some g → W'.heap[g]? = W.heap[g]?) : W'.ownsRow base e size v n xs := by
  refine ⟨h.1, ?_⟩
  rcases h.2 with h2 | ⟨g, cap, cur, hv, hb, hg, h3⟩
  · exact .inl h2
  · exact .inr ⟨g, cap, cur, hv, hb, (hs g (by rw [hv]; rfl)).trans hg, h3⟩
theorem ownsRow_lt {W : World} {base : Nat} {e : TypeId} {size n : Nat} {v : Value} {xs : List Value} (h : W.ownsRow base e size v n xs) {g : Nat} (hg : v.ownBlock = some g) : g < W.heap.size ∧ base ≤ g ∧ ∃ cur, Box W g e cur := by
  rcases h.2 with ⟨rfl, _⟩ | ⟨g', cap, cur, rfl, hb, hgb, _⟩
  · cases hg
  · obtain rfl : g' = g := by simpa [Value.ownBlock] using hg
    exact ⟨lt_of_some hgb, hb, cur, ⟨hgb⟩⟩
theorem ownsRow_below {W W' : World} {base : Nat} {e : TypeId} {size n : Nat} {v : Value} {xs : List Value} (h : W.ownsRow base e size v n xs) (hB : Below W.heap.size W W') : W'.ownsRow base e size v n xs :=
  ownsRow_same h fun g hg => hB.block g (ownsRow_lt h hg).1
theorem ownsRow_keep {W W' : World} {base : Nat} {e : TypeId} {size n : Nat} {v : Value} {xs : List Value} (h : W.ownsRow base e size v n xs) {R : Nat} {T : TypeId} {cs : Array Value} (b : Box W R T cs) (hT : T ≠ e) (hk : KeepBut R W.heap.size W W') : W'.ownsRow base e size v n xs :=
  ownsRow_same h fun g hg => by
    obtain ⟨h1, _, cur, h3⟩ := ownsRow_lt h hg
    exact hk.block g h1 (fun e' => Box.ne b h3 hT e'.symm)
/-- behind the append: other boxes -/
theorem Box.appended {W W' : World} {base : Nat} {e : TypeId} {size n : Nat} {v : Value} {xs : List Value} (h : W.ownsRow base e size v n xs) (hg : W.grownBy W' v.ownBlock) {B : Nat} {T : TypeId} {cs : Array Value} (b : Box W B T cs) (hT : T ≠ e) : Box W' B T cs := by
  obtain ⟨_, _, _, _, hb⟩ := hg
  refine ⟨(hb B b.lt fun e' => ?_).trans b.blk⟩
  obtain ⟨_, _, cur, h3⟩ := ownsRow_lt h e'.symm
  exact Box.ne b h3 hT rfl
theorem Ext.appended {W W' : World} {base : Nat} {e : TypeId} {size n : Nat} {v : Value} {xs : List Value} (h : W.ownsRow base e size v n xs) (hg : W.grownBy W' v.ownBlock) (he : e ≠ 3) : Ext W W' := by
  obtain ⟨_, _, _, hsz, hb⟩ := hg
  refine ⟨hsz, fun k cs fr hk => (hb k (lt_of_some hk) fun e' => ?_).trans hk⟩
  obtain ⟨_, _, cur, h3⟩ := ownsRow_lt h e'.symm
  have := h3.blk.symm.trans hk
  simp at this
  exact he this.2.1
theorem Below.appended {W W' : World} {base : Nat} {e : TypeId} {size n : Nat} {v : Value} {xs : List Value} (h : W.ownsRow base e size v n xs) (hg : W.grownBy W' v.ownBlock) {w : World} (hB : Below w.heap.size w W) (hb : w.heap.size ≤ base) : Below w.heap.size w W' :=
  hB.grown hg hB.size fun k e' => by have := (ownsRow_lt h e').2.1; omega
theorem KeepsOthers.appended {W W' : World} {base : Nat} {e : TypeId} {size n : Nat} {v : Value} {xs : List Value} (h : W.ownsRow base e size v n xs) (hg : W.grownBy W' v.ownBlock) : KeepsOthers W W' := by
  obtain ⟨_, _, _, hsz, hb⟩ := hg
  refine ⟨hsz, fun k o hk ho => (hb k (lt_of_some hk) fun e' => ?_).trans hk⟩
  obtain ⟨_, _, cur, h3⟩ := ownsRow_lt h e'.symm
  have := h3.blk.symm.trans hk
  cases (Option.some.inj this)
  cases ho
theorem KeepsOthers.keepBut {W W' : World} {R : Nat} {T : TypeId} {cs : Array Value} (b : Box W R T cs) (hk : KeepBut R W.heap.size W W') : KeepsOthers W W' :=
  ⟨hk.size, fun k o ho hc => (hk.block k (lt_of_some ho) fun e => by
    subst e
    have := b.blk.symm.trans ho
    cases (Option.some.inj this)
    cases hc).trans ho⟩
theorem Ext.grownNo {W W' : World} {row : Option Nat} (hg : W.grownBy W' row) (hr : ∀ r, row = some r → ∃ o : Obj, W.heap[r]? = some o ∧ o.isCells = false) : Ext W W' := by
  obtain ⟨_, _, _, hsz, hb⟩ := hg
  refine ⟨hsz, fun k cs fr hk => (hb k (lt_of_some hk) fun e' => ?_).trans hk⟩
  obtain ⟨o, ho, hc⟩ := hr k e'.symm
  rw [hk] at ho
  cases ho
  cases hc
theorem ownsRow_grown {W W' : World} {base : Nat} {e : TypeId} {size n : Nat} {v : Value} {xs : List Value} (h : W.ownsRow base e size v n xs) {row : Option Nat} (hg : W.grownBy W' row) (hr : ∀ r, row = some r → ∃ o : Obj, W.heap[r]? = some o ∧ o.isCells = false) : W'.ownsRow base e size v n xs := by
  obtain ⟨_, _, _, hsz, hb⟩ := hg
  refine ownsRow_same h fun g hgv => hb g (ownsRow_lt h hgv).1 fun e' => ?_
  obtain ⟨_, _, cur, h3⟩ := ownsRow_lt h hgv
  obtain ⟨o, ho, hc⟩ := hr g e'.symm
  rw [h3.blk] at ho
  cases ho
  cases hc
end Go.Mono
namespace Go.Mono
theorem cmpV_spec {f g : Nat → Int} {n m : Nat} (hf : Digs f n) (hg : Digs g m) : (cmpV f n g m < 0 ↔ vf f n < vf g m) ∧ (cmpV f n g m = 0 ↔ vf f n = vf g m) := by
  unfold cmpV
  by_cases h : n = m
  · subst h
    rw [if_pos rfl]
    exact cmpDown_spec hf.lo hf.hi hg.lo hg.hi (cmpDown f g) rfl fun k => rfl
  · rw [if_neg h]
    rcases Nat.lt_or_gt_of_ne h with h1 | h1
    · have a1 := hf.lt
      have a2 := hg.ge (by omega)
      have a3 := pw_mono (i := n) (k := m - 1) (by omega)
      omega
    · have a1 := hg.lt
      have a2 := hf.ge (by omega)
      have a3 := pw_mono (i := m) (k := n - 1) (by omega)
      omega
end Go.Mono
namespace Go.Proofs.YtdgodcgdlfjpaaaGreatDoor
open Go.RowKit Go.Mono
theorem cmp_sz (m1 m2 : Nat) (w wf : World) (hx : Ext wf w) (p q : Option Addr) (n m c1 c2 : Nat) (N M : Int) (h1 : Sz m1 wf (.slice p n c1) N) (h2 : Sz m2 wf (.slice q m c2) M) :
    Calls Tryz.prog 158 #[.slice p n c1, .slice q m c2] w fun e w' => ∃ c : Int, (e = .returned (.int .i64 c) ∧ ∃ k, w' = w.drewN k) ∧ (c < 0 ↔ N < M) ∧ (c = 0 ↔ N = M) := by
  obtain ⟨n, f, s1, d1, rfl, l1, rfl⟩ := (h1.ext hx).sl
  obtain ⟨m, g, s2, d2, rfl, l2, rfl⟩ := (h2.ext hx).sl
  refine (cmp_any p q n m c1 c2 f g w s1 s2 d1.lo d1.hi d2.lo d2.hi).mono ?_
  intro e w' h
  exact ⟨_, h, cmpV_spec d1 d2⟩
set_option maxRecDepth 100000 in
set_option maxHeartbeats 1000000 in
/-- Over: the dividend is less -/
theorem over_less (m1 m2 : Nat) (w wf : World) (hx : Ext wf w) (p q : Option Addr) (n m c1 c2 : Nat) (N M : Int) (h1 : Sz m1 wf (.slice p n c1) N) (h2 : Sz m2 wf (.slice q m c2) M) (hlt : N < M) :
    Calls Tryz.prog 226 #[.slice p n c1, .slice q m c2] w fun e w' => e = .returned (.tuple #[.slice none 0 0, .slice p n c1]) ∧ ∃ k, w' = w.drewN k := by
  have hc := cmp_sz m1 m2 w wf hx p q n m c1 c2 N M h1 h2
  clear h1 h2
  go_enter Tryz.func226, Tryz.ntmps226
  go_wp2_with (go_at_call 158; refine hc.mono ?_; rintro e w' ⟨c, ⟨rfl, k, rfl⟩, hc1, hc2⟩; have hc0 : c < 0 := hc1.2 hlt; clear hc1 hc2)
  go_ret2
  exact ⟨rfl, _, rfl⟩
end Go.Proofs.YtdgodcgdlfjpaaaGreatDoor
namespace Go.Proofs.YtdgodcgdlfjpaaaGreatDoor
open Go.RowKit Go.Mono
set_option maxRecDepth 100000 in
set_option maxHeartbeats 1000000 in
/-- Over: a divisor of one digit -/
theorem over_one (m1 : Nat) (w wf : World) (hx : Ext wf w) (p q : Option Addr) (n c1 c2 : Nat) (N M : Int) (h1 : Sz m1 wf (.slice p n c1) N) (h2 : Sz 1 wf (.slice q 1 c2) M) (hM : 0 < M) (hle : M ≤ N) (hm1 : m1 ≤ 1000000) :
    Calls Tryz.prog 226 #[.slice p n c1, .slice q 1 c2] w fun e w' => ∃ p1 k1 c1 p2 k2 c2, e = .returned (.tuple #[.slice p1 k1 c1, .slice p2 k2 c2]) ∧ Sz m1 w' (.slice p1 k1 c1) (N / M) ∧ Sz 1 w' (.slice p2 k2 c2) (N % M) ∧ Below w.heap.size w w' := by
  have hc := cmp_sz m1 1 w wf hx p q n 1 c1 c2 N M h1 h2
  obtain ⟨n', g, s2, d2, hv2, l2, rfl⟩ := (h2.ext hx).sl
  obtain ⟨_, _, hx2⟩ := s2.opens
  obtain ⟨b, off, rfl, hb2, hcell⟩ := hx2 (by omega)
  have a1 := hcell 0 (by omega)
  rw [Nat.add_zero] at a1
  have eM : g 0 = M := by rw [← hv2]; simp [vf, pw]
  rw [eM] at a1
  have M1 : M < 1000000000 := by rw [← eM]; exact d2.hi 0 (by omega)
  have h1' := h1.ext hx
  clear hcell hx2 h1 h2 s2 d2 hv2 eM hx
  go_enter Tryz.func226, Tryz.ntmps226
  go_wp2_with (go_at_call 158; refine hc.mono ?_; rintro e w' ⟨c, ⟨rfl, k, rfl⟩, hc1, hc2⟩; have hc0 : ¬ c < 0 := fun h => by have := hc1.1 h; omega)
  have hp := part_sz m1 (w.drewN k) w ((Ext.refl w).below (below_drewN (Below.refl _ _) k)) p n c1 N M h1' hm1 hM M1
  go_wp2_with (go_at_call 254; refine hp.mono ?_; rintro e w1 ⟨p1, k1, c3, rfl, hs1, hb1⟩)
  have hB : Below w.heap.size w w1 := (below_drewN (Below.refl _ _) k).trans hb1
  have hr0 : RowF (w1.alloc (.cells #[.int .i64 (N % M)] 3)) w1.heap.size 1 (fun _ => N % M) := ⟨#[.int .i64 (N % M)], by show (w1.heap.push _)[w1.heap.size]? = _; simp, by simp, fun i hi => by obtain rfl : i = 0 := by omega
                                                                                                                                                                                                  simp⟩
  have hs2 := hr0.slice (by omega) 1 (Nat.le_refl _) 1 (Nat.le_refl _)
  have r0 := Int.emod_nonneg N (show M ≠ 0 by omega)
  have r1 := Int.emod_lt_of_pos N hM
  obtain ⟨q1, q2⟩ := trimN_can (f := fun _ => N % M) (k := 1) (fun _ _ => r0) (fun _ _ => by omega)
  have q3 := trimN_le (fun _ => N % M) 1
  have q4 : vf (fun _ => N % M) 1 = N % M := by simp [vf, pw]
  have q5 := Lib.hid (q2.trans q4)
  clear q2 q4
  go_wp2_with (go_at_call 223; refine (trim_any _ _ _ _ _ hs2).mono ?_; rintro e w2 ⟨rfl, rfl⟩)
  go_ret2
  exact ⟨_, _, _, _, _, _, rfl, hs1.ext ((Ext.refl _).alloc _), ⟨_, _, hs2.take _ q3, q1, q5.out, q3⟩, hB.alloc hB.size _⟩
end Go.Proofs.YtdgodcgdlfjpaaaGreatDoor
