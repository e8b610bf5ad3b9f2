/- Contracts of package coat and of the examples of its law, for the laws of layer 40. Part 4 of 40. No condition beside the row. -/
import Derived.Maps.OwnIn
import Derived.Maps.AppendAt
import Derived.Test.YtdgodcgdlfjpaaaGreatDoorA01
import Derived.Test.YtdgodcgdlfjpaaaGreatDoorA02
import Derived.Test.YtdgodcgdlfjpaaaGreatDoorA03
set_option linter.unusedVariables false
set_option linter.unusedSimpArgs false
set_option maxRecDepth 100000
set_option maxHeartbeats 4000000
namespace Go.Mono
open Go.RowKit
theorem Box.ne {w : World} {B B' : Nat} {T T' : TypeId} {cs cs' : Array Value} (b : Box w B T cs) (b' : Box w B' T' cs') (h : T ≠ T') : B ≠ B' := by
 rintro rfl
 have e := b.blk.symm.trans b'.blk
 simp at e
 exact h e.2
theorem ownsRow_same {W W' : World} {base : Nat} {e : TypeId} {size n : Nat} {v : Value} {xs : List Value} (h : W.ownsRow base e size v n xs) (hs : ∀ g, v.ownBlock = some g → W'.heap[g]? = W.heap[g]?) : W'.ownsRow base e size v n xs := by
 refine ⟨h.1, ?_⟩
 rcases h.2 with h2 | ⟨g, cap, cur, hv, hb, hg, h3⟩
 ·exact .inl h2
 ·exact .inr ⟨g, cap, cur, hv, hb, (hs g (by rw [hv]; rfl)).trans hg, h3⟩
theorem ownsRow_lt {W : World} {base : Nat} {e : TypeId} {size n : Nat} {v : Value} {xs : List Value} (h : W.ownsRow base e size v n xs) {g : Nat} (hg : v.ownBlock = some g) : g < W.heap.size ∧ base ≤ g ∧ ∃ cur, Box W g e cur := by
 rcases h.2 with ⟨rfl, _⟩ | ⟨g', cap, cur, rfl, hb, hgb, _⟩
 ·cases hg
 ·obtain rfl : g' = g := by simpa [Value.ownBlock] using hg
  exact ⟨lt_of_some hgb, hb, cur, ⟨hgb⟩⟩
theorem ownsRow_below {W W' : World} {base : Nat} {e : TypeId} {size n : Nat} {v : Value} {xs : List Value} (h : W.ownsRow base e size v n xs) (hB : Below W.heap.size W W') : W'.ownsRow base e size v n xs :=
 ownsRow_same h fun g hg => hB.block g (ownsRow_lt h hg).1
theorem Box.appended {W W' : World} {base : Nat} {e : TypeId} {size n : Nat} {v : Value} {xs : List Value} (h : W.ownsRow base e size v n xs) (hg : W.grownBy W' v.ownBlock) {B : Nat} {T : TypeId} {cs : Array Value} (b : Box W B T cs) (hT : T ≠ e) : Box W' B T cs := by
 obtain ⟨_, _, _, _, hb⟩ := hg
 refine ⟨(hb B b.lt fun e' => ?_).trans b.blk⟩
 obtain ⟨_, _, cur, h3⟩ := ownsRow_lt h e'.symm
 exact Box.ne b h3 hT rfl
theorem Ext.appended {W W' : World} {base : Nat} {e : TypeId} {size n : Nat} {v : Value} {xs : List Value} (h : W.ownsRow base e size v n xs) (hg : W.grownBy W' v.ownBlock) (he : e ≠ 3) : Ext W W' := by
 obtain ⟨_, _, _, hsz, hb⟩ := hg
 refine ⟨hsz, fun k cs fr hk => (hb k (lt_of_some hk) fun e' => ?_).trans hk⟩
 obtain ⟨_, _, cur, h3⟩ := ownsRow_lt h e'.symm
 have := h3.blk.symm.trans hk
 simp at this
 exact he this.2.1
theorem Below.appended {W W' : World} {base : Nat} {e : TypeId} {size n : Nat} {v : Value} {xs : List Value} (h : W.ownsRow base e size v n xs) (hg : W.grownBy W' v.ownBlock) {w : World} (hB : Below w.heap.size w W) (hb : w.heap.size ≤ base) : Below w.heap.size w W' :=
 hB.grown hg hB.size fun k e' => by have := (ownsRow_lt h e').2.1; omega
theorem KeepsOthers.appended {W W' : World} {base : Nat} {e : TypeId} {size n : Nat} {v : Value} {xs : List Value} (h : W.ownsRow base e size v n xs) (hg : W.grownBy W' v.ownBlock) : KeepsOthers W W' := by
 obtain ⟨_, _, _, hsz, hb⟩ := hg
 refine ⟨hsz, fun k o hk ho => (hb k (lt_of_some hk) fun e' => ?_).trans hk⟩
 obtain ⟨_, _, cur, h3⟩ := ownsRow_lt h e'.symm
 have := h3.blk.symm.trans hk
 cases (Option.some.inj this)
 cases ho
theorem Ext.grownNo {W W' : World} {row : Option Nat} (hg : W.grownBy W' row) (hr : ∀ r, row = some r → ∃ o : Obj, W.heap[r]? = some o ∧ o.isCells = false) : Ext W W' := by
 obtain ⟨_, _, _, hsz, hb⟩ := hg
 refine ⟨hsz, fun k cs fr hk => (hb k (lt_of_some hk) fun e' => ?_).trans hk⟩
 obtain ⟨o, ho, hc⟩ := hr k e'.symm
 rw [hk] at ho
 cases ho
 cases hc
theorem cmpV_spec {f g : Nat → Int} {n m : Nat} (hf : Digs f n) (hg : Digs g m) : (cmpV f n g m < 0 ↔ vf f n < vf g m) ∧ (cmpV f n g m = 0 ↔ vf f n = vf g m) := by
 unfold cmpV
 by_cases h : n = m
 ·subst h
  rw [if_pos rfl]
  exact cmpDown_spec hf.lo hf.hi hg.lo hg.hi (cmpDown f g) rfl fun k => rfl
 ·rw [if_neg h]
  rcases Nat.lt_or_gt_of_ne h with h1 | h1
  ·have a1 := hf.lt
   have a2 := hg.ge (by omega)
   have a3 := pw_mono (i := n) (k := m - 1) (by omega)
   omega
  ·have a1 := hg.lt
   have a2 := hf.ge (by omega)
   have a3 := pw_mono (i := m) (k := n - 1) (by omega)
   omega
end Go.Mono
namespace Go.Proofs.YtdgodcgdlfjpaaaGreatDoor
open Go.RowKit Go.Mono
theorem cmp_sz (m1 m2 : Nat) (w wf : World) (hx : Ext wf w) (p q : Option Addr) (n m c1 c2 : Nat) (N M : Int) (h1 : Sz m1 wf (.slice p n c1) N) (h2 : Sz m2 wf (.slice q m c2) M) :
  Calls Tryz.prog 158 #[.slice p n c1, .slice q m c2] w fun e w' => ∃ c : Int, (e = .returned (.int .i64 c) ∧ ∃ k, w' = w.drewN k) ∧ (c < 0 ↔ N < M) ∧ (c = 0 ↔ N = M) := by
 obtain ⟨n, f, s1, d1, rfl, l1, rfl⟩ := (h1.ext hx).sl
 obtain ⟨m, g, s2, d2, rfl, l2, rfl⟩ := (h2.ext hx).sl
 refine (cmp_any p q n m c1 c2 f g w s1 s2 d1.lo d1.hi d2.lo d2.hi).mono ?_
 intro e w' h
 exact ⟨_, h, cmpV_spec d1 d2⟩
theorem over_less (m1 m2 : Nat) (w wf : World) (hx : Ext wf w) (p q : Option Addr) (n m c1 c2 : Nat) (N M : Int) (h1 : Sz m1 wf (.slice p n c1) N) (h2 : Sz m2 wf (.slice q m c2) M) (hlt : N < M) :
  Calls Tryz.prog 226 #[.slice p n c1, .slice q m c2] w fun e w' => e = .returned (.tuple #[.slice none 0 0, .slice p n c1]) ∧ ∃ k, w' = w.drewN k := by
 have hc := cmp_sz m1 m2 w wf hx p q n m c1 c2 N M h1 h2
 clear h1 h2
 go_enter Tryz.func226, Tryz.ntmps226
 go_wp2_with (go_at_call 158; refine hc.mono ?_; rintro e w' ⟨c, ⟨rfl, k, rfl⟩, hc1, hc2⟩; have hc0 : c < 0 := hc1.2 hlt; clear hc1 hc2)
 go_ret2
 exact ⟨rfl, _, rfl⟩
theorem over_one (m1 : Nat) (w wf : World) (hx : Ext wf w) (p q : Option Addr) (n c1 c2 : Nat) (N M : Int) (h1 : Sz m1 wf (.slice p n c1) N) (h2 : Sz 1 wf (.slice q 1 c2) M) (hM : 0 < M) (hle : M ≤ N) (hm1 : m1 ≤ 1000000) :
  Calls Tryz.prog 226 #[.slice p n c1, .slice q 1 c2] w fun e w' => ∃ p1 k1 c1 p2 k2 c2, e = .returned (.tuple #[.slice p1 k1 c1, .slice p2 k2 c2]) ∧ Sz m1 w' (.slice p1 k1 c1) (N / M) ∧ Sz 1 w' (.slice p2 k2 c2) (N % M) ∧ Below w.heap.size w w' := by
 have hc := cmp_sz m1 1 w wf hx p q n 1 c1 c2 N M h1 h2
 obtain ⟨n', g, s2, d2, hv2, l2, rfl⟩ := (h2.ext hx).sl
 obtain ⟨_, _, hx2⟩ := s2.opens
 obtain ⟨b, off, rfl, hb2, hcell⟩ := hx2 (by omega)
 have a1 := hcell 0 (by omega)
 rw [Nat.add_zero] at a1
 have eM : g 0 = M := by rw [← hv2]; simp [vf, pw]
 rw [eM] at a1
 have M1 : M < 1000000000 := by rw [← eM]; exact d2.hi 0 (by omega)
 have h1' := h1.ext hx
 clear hcell hx2 h1 h2 s2 d2 hv2 eM hx
 go_enter Tryz.func226, Tryz.ntmps226
 go_wp2_with (go_at_call 158; refine hc.mono ?_; rintro e w' ⟨c, ⟨rfl, k, rfl⟩, hc1, hc2⟩; have hc0 : ¬ c < 0 := fun h => by have := hc1.1 h; omega)
 have hp := part_sz m1 (w.drewN k) w ((Ext.refl w).below (below_drewN (Below.refl _ _) k)) p n c1 N M h1' hm1 hM M1
 go_wp2_with (go_at_call 254; refine hp.mono ?_; rintro e w1 ⟨p1, k1, c3, rfl, hs1, hb1⟩)
 have hB : Below w.heap.size w w1 := (below_drewN (Below.refl _ _) k).trans hb1
 have hr0 : RowF (w1.alloc (.cells #[.int .i64 (N % M)] 3)) w1.heap.size 1 (fun _ => N % M) := ⟨#[.int .i64 (N % M)], by show (w1.heap.push _)[w1.heap.size]? = _; simp, by simp, fun i hi => by obtain rfl : i = 0 := by omega
                                                                                                                                                                                                 simp⟩
 have hs2 := hr0.slice (by omega) 1 (Nat.le_refl _) 1 (Nat.le_refl _)
 have r0 := Int.emod_nonneg N (show M ≠ 0 by omega)
 have r1 := Int.emod_lt_of_pos N hM
 obtain ⟨q1, q2⟩ := trimN_can (f := fun _ => N % M) (k := 1) (fun _ _ => r0) (fun _ _ => by omega)
 have q3 := trimN_le (fun _ => N % M) 1
 have q4 : vf (fun _ => N % M) 1 = N % M := by simp [vf, pw]
 have q5 := Lib.hid (q2.trans q4)
 clear q2 q4
 go_wp2_with (go_at_call 223; refine (trim_any _ _ _ _ _ hs2).mono ?_; rintro e w2 ⟨rfl, rfl⟩)
 go_ret2
 exact ⟨_, _, _, _, _, _, rfl, hs1.ext ((Ext.refl _).alloc _), ⟨_, _, hs2.take _ q3, q1, q5.out, q3⟩, hB.alloc hB.size _⟩
end Go.Proofs.YtdgodcgdlfjpaaaGreatDoor
