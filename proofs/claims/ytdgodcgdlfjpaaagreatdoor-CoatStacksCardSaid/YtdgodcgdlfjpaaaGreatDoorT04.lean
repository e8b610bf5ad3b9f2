/- The law CoatStacks: Film and Stack equal the reference, its walk by a verified evaluator, and its card. Part 4 of 11. No condition beside the row. -/
import Derived.Test.YtdgodcgdlfjpaaaGreatDoorA02
import Derived.Test.YtdgodcgdlfjpaaaGreatDoorT03
set_option linter.unusedVariables false
set_option linter.unusedSimpArgs false
namespace Go.Proofs.YtdgodcgdlfjpaaaGreatDoor
open Go.RowKit Go.Mono
set_option maxRecDepth 100000 in
set_option maxHeartbeats 1000000 in
theorem r3of_ok (z : Int) (w : World) (h1 : -9223372036854775808 ≤ z) (h2 : z ≤ 9223372036854775807) :
  Calls Tryz.prog 200 #[.int .i64 z] w fun e w' => ∃ v, e = .returned v ∧ LgV 3 w' v z ∧ Below w.heap.size w w' := by
 obtain ⟨sz, hsz⟩ : ∃ sz, decide (z < 0) = sz := ⟨_, rfl⟩
 go_enter Tryz.func200, Tryz.ntmps200
 go_wp2_with fail
 refine boxes1 fun W hB hs b0 => ?_
 replace hsz := Lib.hid hsz
 go_loopw [0, 3] (fun a v wr => ∃ (k : Nat) (f : Nat → Int) (r : Int), a = .int .i64 r ∧ OwnF wr (w.heap.size + 1) v k f ∧ Box wr w.heap.size 35 #[.bool false, .slice none 0 0] ∧ OfInv z r k f ∧ Below w.heap.size w wr ∧ w.heap.size + 1 ≤ wr.heap.size) (fun a _ _ => (intOf a).natAbs)
 case atStart => exact ⟨0, _, z, rfl, OwnF.nil _ _ _, b0, OfInv.start z, hB, hs⟩
 case round =>
  clear b0 hB hs
  obtain ⟨k, f, r, rfl, ho, b0, hI, hB, hs⟩ := hrel
  have hr := hI.bound h1 h2
  obtain ⟨p, c, rfl⟩ := ho.shape
  by_cases h0 : r = 0
  ·subst h0
   have hv := hI.val
   have hd : Digs f k := ⟨hI.lo, hI.hi, hI.top rfl⟩
   have hk3 : k ≤ 3 := by
    by_cases h : k ≤ 3
    ·exact h
    ·have := hd.ge (by omega)
     have h3 := pw_mono (i := 3) (k := k - 1) (by omega)
     have e3 : pw 3 = 1000000000000000000000000000 := by decide
     simp at hv
     omega
   have hv' : vf f k = z.natAbs := by simpa using hv
   go_wp2_with fail
   refine (r3made_ok sz p k c f wr (ho.sl (by omega)) (by omega) hI.lo hI.hi).mono ?_
   rintro e W1 ⟨v', rfl, ho2, d2, e2, hb⟩
   replace b0 := b0.below hb
   have hB1 := belowCall hB hb
   have hneg : (sz && decide (0 < vf f k)) = decide (z < 0) := by
    rw [← hsz.out, hv', Bool.eq_iff_iff]; simp; omega
   rw [hneg]
   have hlg := ho2.lg (z := z) (m := 3) d2 (by rw [e2, hv']) (by have := trimN_le f k; omega) (by omega)
   rw [hsz.out] at hlg ⊢
   obtain ⟨p', c', rfl⟩ := ho2.shape
   have hw1 := hb.size
   clear ho ho2 hb hneg hI hv hv' d2 e2 hB
   go_wp2_with first | (refine wpList_store_box rfl 35 _ _ rfl w.heap.size 0 35 _ #[.bool sz, .slice p' (trimN f k) c'] #[.bool sz, .slice p' (trimN f k) c'] rfl rfl b0 sizeLong (Nat.le_of_ble_eq_true rfl) (long_ones _ _ _ _) (whole_new rfl) ?_; intro W2 hk b2)
   have hb2 := hk.below hB1 (by omega) hB1.size
   refine bodyPost_ret (b2.results rfl _ _ rfl Tryz.underlying35 rfl sizeLong) rfl ⟨_, rfl, hlg.ext (hk.ext b0 (by decide)), hb2⟩
  ·have hk := hI.small h1 h2 h0
   have hst := hI.step h0
   have h0' : (r != 0) = true := by simpa using h0
   have hmm : (r.tmod 1000000000).natAbs < 1000000000 := by rw [Int.natAbs_tmod]; exact Nat.mod_lt _ (by decide)
   have hm1 : -1000000000 < r.tmod 1000000000 := by omega
   have hm2 : r.tmod 1000000000 < 1000000000 := by omega
   have hdd : (r.tdiv 1000000000).natAbs = r.natAbs / 1000000000 := by rw [Int.natAbs_tdiv]; rfl
   have hw : wrap64 (r.tdiv 1000000000) = r.tdiv 1000000000 := by unfold wrap64; omega
   replace h0 := Lib.hid h0
   by_cases hneg : r.tmod 1000000000 < 0
   all_goals
    go_wp2_with (at_builtin; (refine wpList_append_ints _ rfl _ _ 33 rfl Tryz.underlying33 infoInt (w.heap.size + 1) (.slice p k c) k f rfl ?_ (some ⟨wr.heap.size, 0, none⟩) 1 1 (fun _ => ((r.tmod 1000000000).natAbs : Int)) rfl ?_ ?_ ?_ ?_); (exact (ho.below ((Below.refl _ _).alloc (Nat.le_refl _) _))); (exact (slF_lit wr _ _ (by omega))); omega; (simp; omega); (intro v' w1 ho' hg))
    obtain ⟨p', c', rfl⟩ := ho'.shape
    have hz := ((Below.refl (w.heap.size + 1) wr).alloc hs (.cells _ 3)).grown hg (by simp; omega) (fun k hk => ho.low k hk)
    replace b0 := b0.low hz (by omega)
    go_wp2
    go_roundw
    case rel =>
     refine ⟨k + 1, _, r.tdiv 1000000000, rfl, ho', b0, hst, hB.trans (hz.mono (by omega)), ?_⟩
     have := hz.size
     omega
    case measure =>
     have := h0.out
     show (r.tdiv 1000000000).natAbs < r.natAbs
     rw [hdd]; exact Nat.div_lt_self (by omega) (by decide)
end Go.Proofs.YtdgodcgdlfjpaaaGreatDoor
namespace Go.Mono
open Go.RowKit
theorem below_keeps {W X : World} {B : Nat} {T : TypeId} {C : Array Value} (b : Box W B T C) (h : Below W.heap.size W X) : ∀ i, X.cell? ⟨B, i, none⟩ = C[i]? := (b.below h).cell
end Go.Mono
namespace Go.Proofs.YtdgodcgdlfjpaaaGreatDoor
open Go.RowKit Go.Mono
set_option maxRecDepth 100000 in
set_option maxHeartbeats 1000000 in
theorem r3order_ok {m1 m2 : Nat} {v1 v2 : Value} {z y : Int} (w : World) (h1 : LgV m1 w v1 z) (h2 : LgV m2 w v2 y) :
  Calls Tryz.prog 222 #[v1, v2] w fun e w' => e = .returned (.int .i64 (z - y).sign) ∧ Below w.heap.size w w' := by
 have hsame := fun (W : World) (hW : Below w.heap.size w W) => r3same_ok W (h1.below hW) (h2.below hW)
 obtain ⟨p, n, c, f, rfl, s1, d1, e1, _⟩ := h1
 obtain ⟨q, m, c', g, rfl, s2, d2, e2, _⟩ := h2
 by_cases hzy : z = y
 ·subst hzy
  rw [Int.sub_self]
  rw [decide_eq_true rfl] at hsame
  generalize decide (z < 0) = s at *
  go_enter Tryz.func222, Tryz.ntmps222
  go_wp2_with fail
  refine boxes2c fun W hB hs b0 b1 => ?_
  refine (hsame W hB).mono ?_
  rintro e W1 ⟨rfl, hb⟩
  replace hB := belowCall hB hb
  go_wp2
  go_ret
  exact ⟨rfl, hB⟩
 ·rw [decide_eq_false hzy] at hsame
  have hless := fun (W : World) (hW : Below w.heap.size w W) => r3less_ok p q n m c c' f g W (s1.ext (.of_below hW)) (s2.ext (.of_below hW)) d1 d2
  rw [e1, e2] at hless
  obtain ⟨sg, hsg⟩ : ∃ sg : Bool, decide (z < y) = sg := ⟨_, rfl⟩
  obtain ⟨out, hout⟩ : ∃ out : Int, (z - y).sign = out := ⟨_, rfl⟩
  rw [hout]
  have hres : out = if sg then -1 else 1 := by
   rw [← hsg, ← hout]
   by_cases h : z < y
   ·rw [decide_eq_true h, if_pos rfl]; exact Int.sign_eq_neg_one_of_neg (by omega)
   ·rw [decide_eq_false h, if_neg (by simp)]; exact Int.sign_eq_one_of_pos (by omega)
  by_cases hst : decide (z < 0) = decide (y < 0)
  ·have hbel : (decide ((z.natAbs : Int) < y.natAbs) != decide (z < 0)) = sg := by
    rw [← hsg, Bool.eq_iff_iff, bne_iff_ne, ne_eq, decide_eq_decide, decide_eq_true_eq]
    have : (z < 0 ↔ y < 0) := by simpa using hst
    omega
   rw [← hst] at hsame ⊢
   clear hst hsg hout
   generalize decide ((z.natAbs : Int) < y.natAbs) = l at *
   generalize decide (z < 0) = s at *
   cases l <;> cases s <;> cases sg
   all_goals try (exact absurd hbel (by decide))
   all_goals
    clear hbel
    subst hres
    simp only [if_true, Bool.false_eq_true, if_false]
    go_enter Tryz.func222, Tryz.ntmps222
    go_wp2_with fail
    refine boxes2c fun W hB hs b0 b1 => ?_
    refine (hsame W hB).mono ?_
    rintro e W1 ⟨rfl, hb⟩
    replace hB := belowCall hB hb
    replace b0 := b0.below hb
    replace b1 := b1.below hb
    clear hsame hb
    have cb0 := b0.cell
    have lb0 := b0.lt
    have fb0 := b0.frozen
    have cb1 := b1.cell
    have lb1 := b1.lt
    have fb1 := b1.frozen
    go_wp2
    refine wp_region_held_drew (S := fun w' => (∀ i, w'.cell? ⟨w.heap.size, i, none⟩ = (#[.bool _, .slice p n c] : Array Value)[i]?) ∧ (∀ i, w'.cell? ⟨w.heap.size + 1, i, none⟩ = (#[.bool _, .slice q m c'] : Array Value)[i]?) ∧ Below w.heap.size w w') (by as_aux_lemma => kernel_rfl) ⟨cb0, cb1, hB.drew⟩ (fun hHeld => ?_)
    generalize hX : W1.drew = X0 at *
    refine tkf 0 (some 16) ?_
    refine tkf 1 (some 17) ?_
    refine tkf 2 (some 18) ?_
    refine tkf 3 (some 19) ?_
    refine tkf 5 (some 21) ?_
    refine tkf 6 (some 22) ?_
    refine Mono.stc 4 (some 20) (hless X0 hHeld.2.2) (fun e X1 hR => ?_)
    obtain ⟨rfl, k, rfl⟩ := hR
    refine ⟨(⟨hHeld.1, hHeld.2.1, below_drewN hHeld.2.2 k⟩), fun hHeld => Mono.pt ?_⟩
    refine tkf 7 (some 23) ?_
    refine tkf 8 (some 5) ?_
    refine wpAnyH_done (by as_aux_lemma => kernel_rfl) ?_ _
    have hB2 := hHeld.2.2
    clear hHeld hX cb0 cb1 fb0 fb1 lb0 lb1 b0 b1
    go_wp2
    go_ret
    exact ⟨rfl, hB2⟩
  ·have hbel : decide (z < 0) = sg := by
    rw [← hsg, decide_eq_decide]
    have : ¬ (z < 0 ↔ y < 0) := by simpa using hst
    omega
   have hne : (decide (z < 0) == decide (y < 0)) = false := by simpa using hst
   clear hst hsg hout hless
   rw [hbel] at hne hsame ⊢
   clear hbel
   generalize decide (y < 0) = t at *
   cases sg
   all_goals
    subst hres
    simp only [if_true, Bool.false_eq_true, if_false]
    go_enter Tryz.func222, Tryz.ntmps222
    go_wp2_with fail
    refine boxes2c fun W hB hs b0 b1 => ?_
    refine (hsame W hB).mono ?_
    rintro e W1 ⟨rfl, hb⟩
    replace hB := belowCall hB hb
    replace b0 := b0.below hb
    replace b1 := b1.below hb
    clear hsame hb
    have cb0 := b0.cell
    have lb0 := b0.lt
    have fb0 := b0.frozen
    have cb1 := b1.cell
    have lb1 := b1.lt
    have fb1 := b1.frozen
    go_wp2
    go_ret
    exact ⟨rfl, hB⟩
end Go.Proofs.YtdgodcgdlfjpaaaGreatDoor
namespace Go.Proofs.YtdgodcgdlfjpaaaGreatDoor
open Go Go.ChangeShapes Go.WideShapes Go.ChangeAt Go.RowKit Go.Mono
section
variable {H : Type} {enc : TypeId × Value → H} {W : World} {base : Nat} {r : Reach} {v : Value} {d : DataW H} {p : List MemPlace}
set_option maxRecDepth 100000 in
theorem open_oct (hv : Value.okWide Tryz.prog W r base 5 v) (h : DataW.Trod enc Tryz.prog W 0 (fun _ => true) true 5 v d p) : ∃ o : Int, v = .int .u8 o ∧ (0 ≤ o ∧ o ≤ 255) := by
 obtain ⟨x, rfl, rfl, rfl, wx⟩ := open_int Tryz.underlying5 hv h
 exact ⟨x, rfl, bounds_u8 wx⟩
end
end Go.Proofs.YtdgodcgdlfjpaaaGreatDoor
namespace Go.Ev
open Go.RowKit Go.Mono
theorem exists_least {p : Nat → Prop} (h : ∃ n, p n) : ∃ n, p n ∧ ∀ m, p m → n ≤ m := by
 obtain ⟨n, hn⟩ := h
 induction n using Nat.strongRecOn with
 | _ n ih =>
   by_cases hm : ∃ m, m < n ∧ p m
   ·obtain ⟨m, h1, h2⟩ := hm
    exact ih m h1 h2
   ·exact ⟨n, hn, fun m h2 => Nat.le_of_not_lt fun h1 => hm ⟨m, h1, h2⟩⟩
def Goes (D : Den) (w0 : World) (X : Nat → Prop) (n : Nat) (ρ : Nm) (wc w : World) (s s' : Stt) (d : List Deferred) (Q : Act → World → Prop) : Prop :=
 ∀ ρ' wc' w' a', Sat D w0 X s'.th ρ' wc' w' s'.bk → TSat D ρ' wc' n s'.tm a' → a'.defers = d → Evo ρ wc w s.bk s.c s'.c ρ' wc' w' s'.bk → Q a' w'
section
variable {D : Den} {P : Program} {w0 : World} {X : Nat → Prop} {cs : CallS} {n : Nat}
theorem evC_ok (hcs : CallOk D P w0 X cs) (hm : P.follows .mixedOrders = true) : ∀ (f : Nat) (c : Code) (s s' : Stt) (o : Ot) (q : List Prop) (ρ : Nm) (wc w : World) (a : Act) (Q : Exit → Act → World → Prop),
  evC P cs n f c s = some (o, s', q) → (∀ p ∈ q, p) → Sat D w0 X s.th ρ wc w s.bk → TSat D ρ wc n s.tm a → (∀ k, s.c ≤ k → k < s'.c → ρ k = none) →
  Goes D w0 X n ρ wc w s s' a.defers (Q o.ex) → c.wp P Q a w := by
 intro f
 induction f using Nat.strongRecOn with
 | _ f ih =>
   intro c s s' o q ρ wc w a Q h hq hS hT hn hK
   cases f with
   | zero => cases c <;> simp [evC] at h
   | succ f =>
     have ih' := ih f (Nat.lt_succ_self f)
     cases c with
     | skip =>
       simp only [evC, Option.some.injEq, Prod.mk.injEq] at h; obtain ⟨rfl, rfl, rfl⟩ := h
       exact wp_skip (hK ρ wc w a hS hT rfl (Evo.refl _ _ _ _ _))
     | label l =>
       simp only [evC, Option.some.injEq, Prod.mk.injEq] at h; obtain ⟨rfl, rfl, rfl⟩ := h
       exact wp_label (hK ρ wc w a hS hT rfl (Evo.refl _ _ _ _ _))
     | exit id =>
       simp only [evC, Option.some.injEq, Prod.mk.injEq] at h; obtain ⟨rfl, rfl, rfl⟩ := h
       exact wp_exit (hK ρ wc w a hS hT rfl (Evo.refl _ _ _ _ _))
     | ret =>
       simp only [evC, Option.some.injEq, Prod.mk.injEq] at h; obtain ⟨rfl, rfl, rfl⟩ := h
       exact wp_ret (hK ρ wc w a hS hT rfl (Evo.refl _ _ _ _ _))
     | region id ops draw =>
       simp only [evC] at h
       split at h
       ·rename_i s2 q2 h2
        cases h
        cases draw with
        | true => exact drawS_ok hcs hm (by simpa using h2) hq hS hT hn hK id
        | false => exact wp_region_list (seqS_ok hcs (by simpa using h2) hq hS hT hn hK)
       ·cases h
     | seq x y =>
       simp only [evC] at h
       split at h
       ·rename_i s1 p h1
        split at h
        ·rename_i o2 s2 q2 h2
         cases h
         have p1 := evC_pre h1
         have p2 := evC_pre h2
         refine wp_seq (ih' x s s1 .norm p ρ wc w a _ h1 (fun p hp => hq p (by simp [hp])) hS hT (fun k k1 k2 => hn k k1 (Nat.lt_of_lt_of_le k2 p2.1)) ?_)
         intro ρ' wc' w' a' k1 k2 k3 k4
         refine ih' y s1 _ _ _ ρ' wc' w' a' Q h2 (fun p hp => hq p (by simp [hp])) k1 k2 (fun k j1 j2 => ?_) ?_
         ·rw [k4.dom k (.inr j1)]; exact hn k (Nat.le_trans p1.1 j1) j2
         ·intro ρ2 wc2 w2 a2 m1 m2 m3 m4
          exact hK ρ2 wc2 w2 a2 m1 m2 (m3.trans k3) (k4.trans m4 hS.named)
        ·cases h
       ·rename_i id s1 p h1
        cases h
        exact wp_seq (ih' x s _ (.exit id) _ ρ wc w a _ h1 hq hS hT hn hK)
       ·rename_i s1 p h1
        cases h
        exact wp_seq (ih' x s _ .ret _ ρ wc w a _ h1 hq hS hT hn hK)
       ·cases h
     | cond c t e =>
       simp only [evC] at h
       split at h
       ·rename_i b hb
        have hden := hT.get hb
        have hev : a.eval c = .bool b := by simpa using hden.1
        exact wp_cond hev (ih' (if b then t else e) s _ _ _ ρ wc w a Q h hq hS hT hn hK)
       ·cases h
     | block id x =>
       simp only [evC] at h
       split at h
       ·rename_i j s1 p h1
        cases h
        refine wp_block (ih' x s _ (.exit j) _ ρ wc w a _ h1 hq hS hT hn ?_)
        intro ρ2 wc2 w2 a2 m1 m2 m3 m4
        show (if j = id then Q .normal a2 w2 else Q (.exit j) a2 w2)
        have := hK ρ2 wc2 w2 a2 m1 m2 m3 m4
        by_cases e : j = id
        ·rw [if_pos e] at this ⊢; exact this
        ·rw [if_neg e] at this ⊢; exact this
       ·rename_i s1 p h1
        cases h
        exact wp_block (ih' x s _ .norm _ ρ wc w a _ h1 hq hS hT hn hK)
       ·rename_i s1 p h1
        cases h
        exact wp_block (ih' x s _ .ret _ ρ wc w a _ h1 hq hS hT hn hK)
       ·cases h
     | scope x =>
       simp only [evC] at h
       refine wp_scope_straight (ih' x s _ o _ ρ wc w a _ h hq hS hT hn ?_)
       intro ρ2 wc2 w2 a2 m1 m2 m3 m4
       have := hK ρ2 wc2 w2 a2 m1 m2 m3 m4
       cases o <;> exact this
     | loop x =>
       -- the least number of rounds' fuel that leads from a state to the end
       let J : Nat → Act → World → Prop := fun m a w => m ≤ f + 1 ∧ ∃ (s s' : Stt) (o : Ot) (q : List Prop) (ρ : Nm) (wc : World), evC P cs n m (.loop x) s = some (o, s', q) ∧ (∀ p ∈ q, p) ∧ Sat D w0 X s.th ρ wc w s.bk ∧ TSat D ρ wc n s.tm a ∧ (∀ k, s.c ≤ k → k < s'.c → ρ k = none) ∧
        Goes D w0 X n ρ wc w s s' a.defers (Q o.ex)
       have least : ∀ a w, ∃ m, (∃ m, J m a w) → J m a w ∧ ∀ m', J m' a w → m ≤ m' := fun a w => by
        by_cases hJ : ∃ m, J m a w
        ·obtain ⟨m, h1, h2⟩ := exists_least hJ
         exact ⟨m, fun _ => ⟨h1, h2⟩⟩
        ·exact ⟨0, fun h => absurd h hJ⟩
       refine wp_loop (fun a w => ∃ m, J m a w) (fun a w => Classical.choose (least a w)) ⟨f + 1, Nat.le_refl _, s, s', o, q, ρ, wc, h, hq, hS, hT, hn, hK⟩ ?_
       intro a w hI
       obtain ⟨⟨hle, s, s', o, q, ρ, wc, h, hq, hS, hT, hn, hK⟩, _⟩ := Classical.choose_spec (least a w) hI
       generalize hmm : Classical.choose (least a w) = m at *
       cases m with
       | zero => simp [evC] at h
       | succ m =>
         have ihm := ih m (by omega)
         simp only [evC] at h
         split at h
         ·rename_i s1 p h1
          split at h
          ·rename_i o2 s2 q2 h2
           cases h
           have p1 := evC_pre h1
           have p2 := evC_pre h2
           refine ihm x s s1 .norm p ρ wc w a _ h1 (fun p hp => hq p (by simp [hp])) hS hT (fun k k1 k2 => hn k k1 (Nat.lt_of_lt_of_le k2 p2.1)) ?_
           intro ρ' wc' w' a' k1 k2 k3 k4
           have hJ : J m a' w' := ⟨by omega, s1, _, _, _, ρ', wc', h2, fun p hp => hq p (by simp [hp]), k1, k2, fun k j1 j2 => by
            rw [k4.dom k (.inr j1)]; exact hn k (Nat.le_trans p1.1 j1) j2, fun ρ2 wc2 w2 a2 m1 m2 m3 m4 => hK ρ2 wc2 w2 a2 m1 m2 (m3.trans k3) (k4.trans m4 hS.named)⟩
           refine ⟨⟨m, hJ⟩, ?_⟩
           have := (Classical.choose_spec (least a' w') ⟨m, hJ⟩).2 m hJ
           omega
          ·cases h
         ·rename_i id s1 p h1
          cases h
          exact ihm x s _ (.exit id) _ ρ wc w a _ h1 hq hS hT hn hK
         ·rename_i s1 p h1
          cases h
          exact ihm x s _ .ret _ ρ wc w a _ h1 hq hS hT hn hK
         ·cases h
     | rangeFunc => simp [evC] at h
     | goto => simp [evC] at h
     | refuse => simp [evC] at h
end
end Go.Ev
namespace Go.Proofs.YtdgodcgdlfjpaaaGreatDoor
open Go Go.ChangeShapes Go.WideShapes Go.ChangeAt Go.RowKit Go.Mono
section
variable {H : Type} {enc : TypeId × Value → H} {W : World} {base : Nat} {r : Reach} {v : Value} {d : DataW H} {p : List MemPlace}
set_option maxRecDepth 100000 in
theorem film_cells' {fuel : Nat} {cs : List Value} {x : DataW H × List MemPlace} (h : DataW.trod enc Tryz.prog W 0 (fun _ => true) true fuel 24 cs = some x) : ∃ f : Flm, cs = f.vals.toList := by
 have hc : Tryz.prog.cellsOf 24 = 3 := by kernel_rfl
 have h1 : Tryz.prog.cellsOf 3 = 1 := by kernel_rfl
 obtain ⟨xs, m, rfl, _, hl, hx, hel⟩ := DataW.trod_struct Tryz.underlying24 h
 rw [hc] at hl
 match cs, hl, xs, hx with
 | [c0, c1, c2], _, [x0, x1, x2], _ =>
   have e0 := hel 0 _ rfl
   have e1 := hel 1 _ rfl
   have e2 := hel 2 _ rfl
   simp [h1] at e0 e1 e2
   obtain ⟨s0, k0, _, w0⟩ := DataW.trod_int Tryz.underlying3 e0
   obtain ⟨s1, k1, _, w1⟩ := DataW.trod_int Tryz.underlying3 e1
   obtain ⟨s2, k2, _, w2⟩ := DataW.trod_int Tryz.underlying3 e2
   cases k0; cases k1; cases k2
   exact ⟨⟨s0, s1, s2⟩, rfl⟩
set_option maxRecDepth 100000 in
theorem open_film (hv : Value.okWide Tryz.prog W r base 24 v) (h : DataW.Trod enc Tryz.prog W 0 (fun _ => true) true 24 v d p) : ∃ f : Flm, v = .agg f.vals := by
 obtain ⟨cs, rfl, _⟩ := okWide_struct Tryz.underlying24 hv
 obtain ⟨fuel, hf⟩ := h
 obtain ⟨t, hc⟩ := film_cells' hf
 refine ⟨t, ?_⟩
 rw [show cs = t.vals from Array.ext' hc]
set_option maxRecDepth 100000 in
theorem open_i64 (hv : Value.okWide Tryz.prog W r base 3 v) (h : DataW.Trod enc Tryz.prog W 0 (fun _ => true) true 3 v d p) : ∃ o : Int, v = .int .i64 o := by
 obtain ⟨x, rfl, rfl, rfl, wx⟩ := open_int Tryz.underlying3 hv h
 exact ⟨x, rfl⟩
end
end Go.Proofs.YtdgodcgdlfjpaaaGreatDoor
namespace Go.Ev
open Go.RowKit Go.Mono
structure Ctr (D : Den) (P : Program) (w0 : World) (X : Nat → Prop) where
 f : FuncId
 run : List SA → List (Nat × Blk) → Nat → List (Option Bool) → Option OpR
 sound : ∀ args bk c orc r, run args bk c orc = some r → (∀ p ∈ r.obl, p) → ∀ ρ wc w vals, Sat D w0 X c ρ wc w bk → (∀ k b, bk.lookup k = some b → k < c) → (∀ k, c ≤ k → k < r.c → ρ k = none) → denAs D ρ wc args vals →
  Calls P f vals.toArray w fun e w' => ∃ v ρ' wc', e = .returned v ∧ denV D ρ' wc' r.v v ∧ Sat D w0 X r.c ρ' wc' w' (r.wr ++ bk) ∧ Evo ρ wc w bk c r.c ρ' wc' w' (r.wr ++ bk)
def Ctr.plain {D : Den} {P : Program} {w0 : World} {X : Nat → Prop} (f : FuncId) (run : List SA → List (Nat × Blk) → List (Option Bool) → Option (SV × List Prop × List (Option Bool)))
    (sound : ∀ args bk orc v obl orc', run args bk orc = some (v, obl, orc') → (∀ p ∈ obl, p) → ∀ ρ w vals, Frm w0 X w → BkOk D ρ w w bk → denAs D ρ w args vals →
     Calls P f vals.toArray w fun e w' => ∃ u, e = .returned u ∧ denV D ρ w' v u ∧ Below w.heap.size w w') : Ctr D P w0 X where
 f := f
 run := fun args bk c orc => match run args bk orc with
  | some (v, obl, orc') => some ⟨v, [], obl, orc', c⟩
  | none => none
 sound := by
  intro args bk c orc r h hobl ρ wc w vals hS hlt hn hargs
  split at h
  ·rename_i v obl orc' hr
   cases h
   refine (sound _ _ _ _ _ _ hr hobl ρ w vals hS.fr (fun k b hk => ?_) (hargs.mono (Nm.le.refl _) hS.ext)).mono ?_
   ·obtain ⟨B, cs, h1, h2, h3, h4⟩ := hS.bkOk k b hk
    exact ⟨B, cs, h1, h2, h3.mono (Nm.le.refl _) hS.ext, h4⟩
   ·rintro e w' ⟨u, rfl, hu, hb⟩
    obtain ⟨k1, k2⟩ := hS.call (fun k b hk => Nat.not_le.2 (hlt k b hk)) hb c
    exact ⟨u, ρ, w', rfl, hu, k1, k2⟩
  ·cases h
section
variable {D : Den} {P : Program} {w0 : World} {X : Nat → Prop}
def specOf (f : FuncId) : List (Ctr D P w0 X) → Option (Ctr D P w0 X)
 | [] => none
 | p :: r => if Nat.beq p.f f then some p else specOf f r
theorem specOf_ok {f : FuncId} : ∀ {l : List (Ctr D P w0 X)} {p : Ctr D P w0 X}, specOf f l = some p → p.f = f
 | [], p, h => by cases h
 | q :: r, p, h => by
   unfold specOf at h
   split at h
   ·rename_i e
    cases h
    exact Nat.eq_of_beq_eq_true e
   ·exact specOf_ok h
def frame0 (i : Nat) : List SA → List (Nat × SV)
 | [] => []
 | x :: r => (i, .a x) :: frame0 (i + 1) r
def resS (P : Program) (s : Stt) : List ResultVar → Option (List SA)
 | [] => some []
 | .tmp t :: r => match s.tm.lookup t with
   | some (.a x) => (resS P s r).map (x :: ·)
   | _ => none
 | .cell ad ty :: r => match loadS P ty (s.tm.lookup ad) s.bk with
   | some (.a x) => (resS P s r).map (x :: ·)
   | _ => none
def resV : List SA → SV
 | [x] => .a x
 | l => .tup l
def FU : Nat := 100000
def specRun (sp : List (Ctr D P w0 X)) (f : FuncId) (args : List SA) (bk : List (Nat × Blk)) (c : Nat) (orc : List (Option Bool)) : Option OpR :=
 match specOf f sp with
 | some p => p.run args bk c orc
 | none => none
def evF (P : Program) (sp : List (Ctr D P w0 X)) : Nat → CallS
 | 0 => fun _ _ _ _ _ => none
 | d + 1 => fun f args bk c orc =>
   match specRun sp f args bk c orc with
   | some r => some r
   | none => (match P.funcs[f]? with
     | some fn => (match fn.body with
       | some code => (match evC P (evF P sp d) (args.length + (fn.ntmps - args.length)) FU code ⟨frame0 0 args, bk, c, c, orc⟩ with
         | some (.exit _, _, _) => none
         | some (_, s', q) => (match resS P s' fn.results.toList with
           | some l => some ⟨resV l, s'.bk.take (s'.bk.length - bk.length), q, s'.orc, s'.c⟩
           | none => none)
         | none => none)
       | none => none)
     | none => none)
theorem frame0_at {ρ : Nm} {w : World} : ∀ {l : List SA} {vs : List Value} {i t : Nat} {x : SV}, denAs D ρ w l vs → (frame0 i l).lookup t = some x → ∃ v, i ≤ t ∧ vs[t - i]? = some v ∧ denV D ρ w x v
 | [], vs, i, t, x, h, hx => by simp [frame0] at hx
 | y :: l, vs, i, t, x, ⟨v, r, e, hv, hr⟩, hx => by
   subst e
   unfold frame0 at hx
   rw [lookup_cons] at hx
   split at hx
   ·rename_i e
    cases hx
    subst e
    exact ⟨v, Nat.le_refl _, by simp, hv⟩
   ·obtain ⟨v', h1, h2, h3⟩ := frame0_at hr hx
    refine ⟨v', by omega, ?_, h3⟩
    rw [show t - i = (t - (i + 1)) + 1 by omega, List.getElem?_cons_succ]
    exact h2
theorem denAs.len {ρ : Nm} {w : World} : ∀ {l : List SA} {vs : List Value}, denAs D ρ w l vs → vs.length = l.length
 | [], vs, e => by rw [show vs = [] from e]; rfl
 | y :: l, vs, ⟨v, r, e, hv, hr⟩ => by rw [e, List.length_cons, denAs.len hr]; rfl
theorem frame0_ok {ρ : Nm} {w : World} {l : List SA} {vs : List Value} (h : denAs D ρ w l vs) (m : Nat) :
  TSat D ρ w (l.length + m) (frame0 0 l) { tmps := vs.toArray ++ Array.replicate m undef, defers := [] } := by
 refine ⟨by simp [h.len], fun t x hx => ?_⟩
 obtain ⟨v, h1, h2, h3⟩ := frame0_at h hx
 refine ⟨v, ?_, h3⟩
 have ht : t < vs.length := by
  have := (List.getElem?_eq_some_iff.1 h2).1
  omega
 show (vs.toArray ++ Array.replicate m undef)[t]? = some v
 rw [Array.getElem?_append_left (by simpa using ht)]
 simpa using h2
def resOf (a : Act) : ResultVar → Sem Value
 | .tmp t => pure (a.tmps.getD t undef)
 | .cell ad t => do loadVar t (← asAddr (a.tmps.getD ad undef))
theorem resS_ok {ρ : Nm} {wc w : World} {n : Nat} {s : Stt} {a : Act} (hT : TSat D ρ wc n s.tm a) (hB : BkOk D ρ wc w s.bk) : ∀ {l : List ResultVar} {xs : List SA}, resS P s l = some xs →
  ∃ vs, (l.mapM (resOf a)).run P w = .ok vs w ∧ denAs D ρ wc xs vs
 | [], xs, h => by cases h; exact ⟨[], rfl, rfl⟩
 | .tmp t :: r, xs, h => by
   unfold resS at h
   split at h
   ·rename_i x hx
    obtain ⟨ys, hy, rfl⟩ := Option.map_eq_some_iff.1 h
    obtain ⟨vs, h1, h2⟩ := resS_ok hT hB hy
    refine ⟨a.tmps.getD t undef :: vs, ?_, _, _, rfl, hT.get (x := .tmp t) hx, h2⟩
    have h6 : (resOf a (.tmp t)).run P w = .ok (a.tmps.getD t undef) w := rfl
    rw [List.mapM_cons]
    simp only [Sem.run_bind, h6, h1, Result.andThen_ok, Sem.run_pure]
   ·cases h
 | .cell ad ty :: r, xs, h => by
   unfold resS at h
   split at h
   ·rename_i x hx
    obtain ⟨ys, hy, rfl⟩ := Option.map_eq_some_iff.1 h
    obtain ⟨vs, h1, h2⟩ := resS_ok hT hB hy
    obtain ⟨v, h3, h4⟩ := loadS_ok (P := P) (get := getS s.tm) (ev := a.eval) (x := .tmp ad) (fun x z hz => hT.get hz) hB hx
    refine ⟨v :: vs, ?_, _, _, rfl, h4, h2⟩
    have e : ∃ p, a.tmps.getD ad undef = .pointer (some p) := by
     have hx' := hx
     unfold loadS at hx'
     split at hx'
     ·rename_i k off hk
      obtain ⟨B, hB, e⟩ := hT.get (x := .tmp ad) hk
      have e2 : a.eval (.tmp ad) = .pointer (some ⟨B.blk, B.base + off, none⟩) := by simpa using e
      exact ⟨_, e2⟩
     ·cases hx'
    obtain ⟨p, e⟩ := e
    have h5 : (loadVar ty p).run P w = .ok v w := by
     have : a.eval (.tmp ad) = .pointer (some p) := e
     rw [this] at h3
     exact h3
    have h6 : (resOf a (.cell ad ty)).run P w = .ok v w := by
     show (do loadVar ty (← asAddr (a.tmps.getD ad undef)) : Sem Value).run P w = _
     rw [e]
     exact h5
    rw [List.mapM_cons]
    simp only [Sem.run_bind, h6, h1, Result.andThen_ok, Sem.run_pure]
   ·cases h
theorem results_ok {ρ : Nm} {wc w : World} {n : Nat} {s : Stt} {a : Act} (hT : TSat D ρ wc n s.tm a) (hB : BkOk D ρ wc w s.bk) {fn : Func} {xs : List SA} (h : resS P s fn.results.toList = some xs) :
  ∃ v, (results fn a.tmps).run P w = .ok v w ∧ denV D ρ wc (resV xs) v := by
 obtain ⟨vs, h1, h2⟩ := resS_ok (P := P) hT hB h
 have hres : results fn a.tmps = (do
   let vs ← fn.results.mapM (resOf a)
   pure (if h : vs.size = 1 then vs[0] else .tuple vs)) := by
  unfold results
  congr 1
 rw [hres, Array.mapM_eq_mapM_toList]
 refine ⟨if h : vs.toArray.size = 1 then vs.toArray[0] else .tuple vs.toArray, ?_, ?_⟩
 ·simp only [Sem.run_bind, map_eq_pure_bind, h1, Result.andThen_ok, Sem.run_pure]
 ·match xs, vs, h2 with
  | [], vs, h2 =>
    obtain rfl : vs = [] := h2
    exact ⟨[], rfl, rfl⟩
  | [x], vs, h2 =>
    obtain ⟨v, r, e, hv, hr⟩ := h2
    obtain rfl : r = [] := hr
    subst e
    exact hv
  | x :: y :: l, vs, h2 =>
    have h3 := h2.len
    rw [dif_neg (by simp [h3])]
    exact ⟨vs, rfl, h2⟩
theorem evF_ok (hm : P.follows .mixedOrders = true) (sp : List (Ctr D P w0 X)) : ∀ d, CallOk D P w0 X (evF P sp d)
 | 0 => fun f args bk c orc r h => by simp [evF] at h
 | d + 1 => by
   have ih := evF_ok hm sp d
   intro f args bk c orc r h hobl ρ wc w vals hS hlt hn hargs
   simp only [evF] at h
   split at h
   ·rename_i r' hsr
    cases h
    unfold specRun at hsr
    split at hsr
    ·rename_i p hp
     obtain rfl := specOf_ok hp
     exact p.sound _ _ _ _ _ hsr hobl ρ wc w vals hS hlt hn hargs
    ·cases hsr
   ·split at h
    ·rename_i fn hf
     split at h
     ·rename_i code hb
      split at h
      ·cases h
      ·rename_i o s' q hnx hev
       split at h
       ·rename_i l hl
        cases h
        obtain ⟨pc, pre, hpre⟩ := evC_pre hev
        dsimp only at hpre pc
        have htake : s'.bk.take (s'.bk.length - bk.length) ++ bk = s'.bk := by
         rw [hpre, List.length_append, Nat.add_sub_cancel, List.take_left]
        refine calls_of_wp hf hb ?_
        have hsz : vals.toArray.size = args.length := by simp [hargs.len]
        rw [hsz]
        refine evC_ok ih hm FU code _ s' o q ρ wc w _ _ hev hobl hS (frame0_ok hargs _) hn ?_
        intro ρ' wc' w' a' k1 k2 k3 k4
        obtain ⟨v, hv1, hv2⟩ := results_ok (P := P) k2 k1.bkOk hl
        have hfin : ∃ v ρ' wc', Ending.returned v = .returned v ∧ True := ⟨v, ρ', wc', rfl, trivial⟩
        have hR : a'.defers = [] ∧ ∃ v, (results fn a'.tmps).run P w' = .ok v w' ∧ ∃ v' ρ' wc', Ending.returned v = .returned v' ∧ denV D ρ' wc' (resV l) v' ∧
          Sat D w0 X s'.c ρ' wc' w' (s'.bk.take (s'.bk.length - bk.length) ++ bk) ∧ Evo ρ wc w bk c s'.c ρ' wc' w' (s'.bk.take (s'.bk.length - bk.length) ++ bk) := by
         refine ⟨k3, v, hv1, v, ρ', wc', rfl, hv2, ?_, ?_⟩
         ·rw [htake]
          refine k1.reth fun k b hk => ?_
          rcases k4.ids k b hk with h1 | ⟨_, h2, _⟩
          ·obtain ⟨x, hx⟩ := Option.isSome_iff_exists.1 h1
           exact Nat.lt_of_lt_of_le (hlt k x hx) pc
          ·exact h2
         ·rw [htake]; exact k4
        cases o with
        | norm => exact hR
        | ret => exact hR
        | exit id => exact (hnx id rfl).elim
       ·cases h
      ·cases h
     ·cases h
    ·cases h
end
end Go.Ev
namespace Go.Proofs.YtdgodcgdlfjpaaaGreatDoor
open Go.RowKit Go.Mono
set_option maxRecDepth 100000 in
set_option maxHeartbeats 2000000 in
theorem r3sum_digits (s : Bool) (p q : Option Addr) (n m c1 c2 : Nat) (f g : Nat → Int) (w : World) (h1 : SlF w (.slice p n c1) n f) (h2 : SlF w (.slice q m c2) m g) (d1 : Digs f n) (d2 : Digs g m) (hn0 : 0 < n) (hm0 : 0 < m) (hn6 : n ≤ 100000) (hm6 : m ≤ 100000) :
  Calls Tryz.prog 246 #[.agg #[.bool s, .slice p n c1], .agg #[.bool s, .slice q m c2]] w fun e w' => ∃ p k c h, e = .returned (.agg #[.bool s, .slice p k c]) ∧ SlF w' (.slice p k c) k h ∧ Digs h k ∧ vf h k = vf f n + vf g m ∧ k ≤ max n m + 1 ∧ Below w.heap.size w w' := by
 obtain ⟨hc1, hn1, _⟩ := h1.opens
 obtain ⟨hc2, hn2, _⟩ := h2.opens
 have hn0' : ((n : Int) == 0) = false := by simp; omega
 have hm0' : ((m : Int) == 0) = false := by simp; omega
 go_enter Tryz.func246, Tryz.ntmps246
 go_wp2
 refine boxes3 fun W hB hs b0 b1 b2 => ?_
 go_loopw [5, 6, 7] (fun v x y wr => ∃ (i : Nat) (c : Int) (h : Nat → Int), i ≤ max n m + 1 ∧ x = .int .i64 c ∧ y = .int .i64 (i : Int) ∧ OwnF wr (w.heap.size + 1 + 1 + 1) v i h ∧ SumI (xt f n) (xt g m) i h c ∧ Box wr w.heap.size 35 #[.bool s, .slice p n c1] ∧ Box wr (w.heap.size + 1) 35 #[.bool s, .slice q m c2] ∧ Box wr (w.heap.size + 1 + 1) 35 #[.bool false, .slice none 0 0] ∧ Below w.heap.size w wr ∧ w.heap.size + 1 + 1 + 1 ≤ wr.heap.size) (fun _ _ y _ => (max n m + 1 - intOf y).toNat)
 case atStart => exact ⟨0, 0, _, Nat.zero_le _, rfl, rfl, OwnF.nil _ _ _, SumI.start _ _ (fun _ => 0), b0, b1, b2, hB, hs⟩
 case round =>
  clear b0 b1 b2 hB hs
  obtain ⟨i, c, h, hi, rfl, rfl, ho, hI, b0, b1, b2, hB, hs⟩ := hrel
  obtain ⟨pv, cv, rfl⟩ := ho.shape
  by_cases hgo : i < n ∨ i < m ∨ 0 < c
  ·have hlt : i < max n m + 1 := by
    rcases hgo with h | h | h
    ·omega
    ·omega
    ·by_cases hin : i < n
     ·omega
     ·by_cases him : i < m
      ·omega
      ·have := hI.len d1.hi d2.hi (by omega) (by omega) h
       omega
   have x0 := xt_lo d1.lo i
   have x1 := xt_hi d1.hi i
   have y0 := xt_lo d2.lo i
   have y1 := xt_hi d2.hi i
   have hat1 := fun X (hX : Below w.heap.size w X) => r3at_ok p n c1 i f X (h1.ext (.of_below hX))
   have hat2 := fun X (hX : Below w.heap.size w X) => r3at_ok q m c2 i g X (h2.ext (.of_below hX))
   have hnx := hI.next x0 x1 y0 y1
   have k0 := hI.c0
   have k1 := hI.c1
   generalize hX : xt f n = Xf at *
   generalize hY : xt g m = Yf at *
   generalize Xf i = x at *
   generalize Yf i = y at *
   have hways : ((i : Int) < n) ∨ (¬ (i : Int) < n ∧ (i : Int) < m) ∨ (¬ (i : Int) < n ∧ ¬ (i : Int) < m ∧ 0 < c) := by omega
   have cb0 := b0.cell
   have lb0 := b0.lt
   have fb0 := b0.frozen
   have cb1 := b1.cell
   have lb1 := b1.lt
   have fb1 := b1.frozen
   clear hgo
   rcases hways with hw1 | ⟨hw1, hw2⟩ | ⟨hw1, hw2, hw3⟩
   all_goals
    go_wp2
    refine wp_region_held_drew (S := fun w' => (∀ i, w'.cell? ⟨w.heap.size, i, none⟩ = (#[.bool s, .slice p n c1] : Array Value)[i]?) ∧ (∀ i, w'.cell? ⟨w.heap.size + 1, i, none⟩ = (#[.bool s, .slice q m c2] : Array Value)[i]?) ∧ Below w.heap.size w w') (by as_aux_lemma => kernel_rfl) ⟨cb0, cb1, hB.drew⟩ (fun hHeld => ?_)
    have hoX := ho.below (Below.refl wr.heap.size wr).drew
    have bX0 := b0.drew
    have bX1 := b1.drew
    have bX2 := b2.drew
    have hsX : w.heap.size + 1 + 1 + 1 ≤ wr.drew.heap.size := hs
    generalize wr.drew = X0 at *
    refine tk 0 (some 46) ?_
    refine tk 1 (some 47) ?_
    refine tk 2 (some 48) ?_
    refine tk 4 (some 50) ?_
    refine tk 5 (some 51) ?_
    refine tk 6 (some 52) ?_
    refine tk 9 (some 55) ?_
    refine Mono.stc 3 (some 49) (hat1 X0 hHeld.2.2) (fun e X1 hR => ?_)
    obtain ⟨rfl, rfl⟩ := hR
    refine ⟨(hHeld), fun hHeld => Mono.pt ?_⟩
    refine Mono.stc 7 (some 53) (hat2 X1 hHeld.2.2) (fun e X2 hR => ?_)
    obtain ⟨rfl, rfl⟩ := hR
    refine ⟨(hHeld), fun hHeld => Mono.pt ?_⟩
    refine tk 8 (some 54) ?_
    refine tk 10 (some 56) ?_
    refine tk 11 (some 8) ?_
    refine wpAnyH_done (by as_aux_lemma => kernel_rfl) ?_ _
    have hB2 := hHeld.2.2
    clear hHeld hat1 hat2 cb0 cb1 fb0 fb1 lb0 lb1 b0 b1 b2 ho hI
    have e1 : (x + y + c).tmod 1000000000 = (x + y + c) % 1000000000 := Int.tmod_eq_emod_of_nonneg (by omega)
    have e2 : (x + y + c).tdiv 1000000000 = (x + y + c) / 1000000000 := Int.tdiv_eq_ediv_of_nonneg (by omega)
    rw [wrapId (z := x + y) (by omega) (by omega), wrapId (z := x + y + c) (by omega) (by omega)]
    go_wp2_with (at_builtin; (refine wpList_append_ints _ rfl _ _ 33 rfl Tryz.underlying33 infoInt (w.heap.size + 1 + 1 + 1) (.slice pv i cv) i h rfl ?_ (some ⟨X2.heap.size, 0, none⟩) 1 1 (fun _ => (x + y + c) % 1000000000) rfl ?_ ?_ ?_ ?_); (exact (hoX.below (belowAlloc (Below.refl _ _) _))); (exact (slF_lit X2 _ _ rfl)); omega; (simp; omega); (intro v' w1 ho' hg))
    obtain ⟨p', c', rfl⟩ := ho'.shape
    have hz := ((Below.refl (w.heap.size + 1 + 1 + 1) X2).alloc hsX (.cells _ 3)).grown hg (by simp; omega) (fun k hk => hoX.low k hk)
    replace bX0 := bX0.low hz (by omega)
    replace bX1 := bX1.low hz (by omega)
    replace bX2 := bX2.low hz (by omega)
    have hB3 := hB2.trans (hz.mono (by omega))
    have hs3 := hz.size
    clear hoX hB2 hg hz hB hs
    go_wp2
    go_roundw
    case rel =>
     refine ⟨i + 1, _, _, hlt, rfl, by simp, ho'.congr (f' := fun j => if j = i then (x + y + c) % 1000000000 else h j) (fun j hj => ?_), ?_, bX0, bX1, bX2, hB3, by omega⟩
     ·by_cases hji : j = i
      ·subst hji; simp
      ·rw [if_pos (by omega), if_neg hji]
     ·exact hnx
    case measure => simp [intOf]; omega
  ·have hI0 : SumI (xt f n) (xt g m) i h 0 := by
    have h0 := hI.c0
    obtain rfl : c = 0 := by omega
    exact hI
   have hval := hI0.done (by omega) (by omega)
   have hc0 : ¬ (0 < c) := by omega
   have hw1 : ¬ (i : Int) < n := by omega
   have hw2 : ¬ (i : Int) < m := by omega
   have cb0 := b0.cell
   have lb0 := b0.lt
   have fb0 := b0.frozen
   have cb1 := b1.cell
   have lb1 := b1.lt
   have fb1 := b1.frozen
   have hmm := fun W1 hW1 => r3made_ok s pv i cv h W1 ((ho.sl (by omega)).ext hW1) (by omega) hI.lo hI.hi
   have hpos : decide (0 < vf h i) = true := decide_eq_true (by rw [hval]; have := d1.pos.2 hn0; have := d2.nonneg; omega)
   rw [hpos, Bool.and_true] at hmm
   have hli : i ≤ max n m + 1 := hi
   replace hval := Lib.hid hval
   clear hgo hI hI0 ho
   go_wp2_with fail
   refine (hmm wr (Ext.refl _)).mono ?_
   rintro e W1 ⟨v', rfl, ho2, d3, e3, hb⟩
   replace b2 := b2.below hb
   have hB1 := belowCall hB hb
   obtain ⟨p', c', rfl⟩ := ho2.shape
   have hsl := ho2.sl (by have := trimN_le h i; omega)
   clear hmm ho2 b0 b1 cb0 cb1 fb0 fb1 lb0 lb1 hB
   go_wp2_with first | (refine wpList_store_box rfl 35 _ _ rfl (w.heap.size + 1 + 1) 0 35 _ #[.bool s, .slice p' (trimN h i) c'] #[.bool s, .slice p' (trimN h i) c'] rfl rfl b2 sizeLong (Nat.le_of_ble_eq_true rfl) (long_ones _ _ _ _) (whole_new rfl) ?_; intro W2 hk b4)
   have hb2 := hk.below hB1 (by omega) hB1.size
   refine bodyPost_ret (b4.results rfl _ _ rfl Tryz.underlying35 rfl sizeLong) rfl ⟨p', _, c', h, rfl, hsl.ext (hk.ext b2 (by decide)), d3, by rw [e3]; exact hval.out, by have := trimN_le h i; omega, hb2⟩
end Go.Proofs.YtdgodcgdlfjpaaaGreatDoor
namespace Go.Ev
open Go.RowKit Go.Mono
def AllP : List Prop → Prop
 | [] => True
 | p :: r => p ∧ AllP r
theorem AllP.all : ∀ {l : List Prop}, AllP l → ∀ p ∈ l, p
 | [], _, p, h => by cases h
 | x :: r, ⟨hx, hr⟩, p, h => by
   rcases List.mem_cons.1 h with rfl | h
   ·exact hx
   ·exact AllP.all hr p h
def fin (bk wr : List (Nat × Blk)) : List (Option (Nat × Option (List Value))) := bk.map fun p => ((wr ++ bk).lookup p.1).map fun b => (b.T, realL b.cells)
def ini (bk : List (Nat × Blk)) : List (Option (Nat × Option (List Value))) := bk.map fun p => some (p.2.T, realL p.2.cells)
theorem lookup_mem {α : Type} {k : Nat} {b : α} : ∀ {l : List (Nat × α)}, l.lookup k = some b → (k, b) ∈ l
 | [], h => by simp at h
 | (k', x) :: r, h => by
   rw [lookup_cons] at h
   split at h
   ·rename_i e; subst e; cases h; simp
   ·exact List.mem_cons_of_mem _ (lookup_mem h)
theorem lookup_map_eq {β : Type} {bk : List (Nat × Blk)} {f g : Nat × Blk → β} (h : bk.map f = bk.map g) {p : Nat × Blk} (hp : p ∈ bk) : f p = g p := List.map_inj_left.1 h p hp
theorem evRun {D : Den} {P : Program} (hm : P.follows .mixedOrders = true) {w : World} {X : Nat → Prop} (sp : List (Ctr D P w X)) {f : FuncId} {d : Nat} {args : List SA} {bk : List (Nat × Blk)} {c : Nat} {orc : List (Option Bool)} (V : SV) (L : List Prop) (ρ : Nm)
  (hev : (evF P sp d f args bk c orc).map (fun r => (r.v, r.obl, fin bk r.wr)) = some (V, L, ini bk)) (hL : AllP L)
  (hρ : ∀ k, c ≤ k → ρ k = none) (hinj : ∀ k k' B B', ρ k = some B → ρ k' = some B' → B.blk = B'.blk → k = k' ∨ (B.ro = true ∧ B'.ro = true)) (hlt : ∀ k B, ρ k = some B → B.blk < w.heap.size)
  (hbk : ∀ k b, bk.lookup k = some b → k < c ∧ ∃ B cs, ρ k = some B ∧ B.ro = b.ro ∧ Holds w B b.T cs ∧ denL D ρ w b.cells cs ∧ (b.ro = false → X B.blk ∧ realL b.cells = some cs))
  {vals : List Value} (hargs : denAs D ρ w args vals) :
  Calls P f vals.toArray w fun e w' => ∃ v ρ', e = .returned v ∧ denV D ρ' w' V v ∧ Below w.heap.size w w' := by
 obtain ⟨r, hr, he⟩ := Option.map_eq_some_iff.1 hev
 cases he' : r with
 | mk v wr obl orc' c' =>
 subst he'
 simp only [Prod.mk.injEq] at he
 obtain ⟨rfl, rfl, hfin⟩ := he
 have hS : Sat D w X c ρ w w bk := ⟨Frm.refl _ _, Ext.refl _, hinj, hlt, fun k b hk => by
  obtain ⟨hkc, B, cs, h1, h2, h3, h4, h5⟩ := hbk k b hk
  exact ⟨B, cs, h1, h3, h4, fun hro => .inr (h5 hro).1, fun hh => absurd hh (Nat.not_le.2 hkc), h2⟩⟩
 refine (evF_ok hm sp d f args bk c orc _ hr hL.all ρ w w vals hS (fun k b hk => (hbk k b hk).1) (fun k h1 _ => hρ k h1) hargs).mono ?_
 rintro e w' ⟨u, ρ', wc', rfl, hu, k1, k2⟩
 refine ⟨u, ρ', rfl, hu.mono (Nm.le.refl _) k1.ext, ⟨k2.os, k2.tape, k2.output, k2.size, fun i hi => ?_⟩⟩
 by_cases hex : ∃ k b B, bk.lookup k = some b ∧ ρ k = some B ∧ B.ro = false ∧ B.blk = i
 ·obtain ⟨k, b, C, hk, hki, hro, rfl⟩ := hex
  obtain ⟨_, B, cs, h1, h2, h3, h4, h5⟩ := hbk k b hk
  cases h1.symm.trans hki
  obtain ⟨hx, hreal⟩ := h5 (h2.symm.trans hro)
  have h7 := lookup_map_eq hfin (lookup_mem hk)
  dsimp only at h7
  obtain ⟨b', hb', hb2⟩ := Option.map_eq_some_iff.1 h7
  simp only [Prod.mk.injEq] at hb2
  obtain ⟨C, ds, g1, g2, g3, g4, g5, g6⟩ := k1.box k b' hb'
  cases (k2.rho k _ hki).symm.trans g1
  have : ds = cs := realL_den (by rw [hb2.2]; exact hreal) g3
  subst this
  rcases h3 with ⟨h, _⟩ | ⟨_, _, h3⟩
  ·rw [hro] at h; cases h
  ·rcases g2 with ⟨h, _⟩ | ⟨_, _, g2⟩
   ·rw [hro] at h; cases h
   ·rw [h3.blk, g2.blk, hb2.1]
 ·exact k2.loc i hi fun k b B hk hB hro hh => hex ⟨k, b, B, hk, hB, hro, hh⟩
theorem evRun0 {D : Den} {P : Program} (hm : P.follows .mixedOrders = true) {w : World} (sp : List (Ctr D P w (fun _ => False))) {f : FuncId} {d : Nat} {args : List SA} {orc : List (Option Bool)} (V : SV) (L : List Prop)
  (hev : (evF P sp d f args [] 0 orc).map (fun r => (r.v, r.obl)) = some (V, L)) (hL : AllP L) {vals : List Value} (hargs : denAs D (fun _ => none) w args vals) :
  Calls P f vals.toArray w fun e w' => ∃ v ρ', e = .returned v ∧ denV D ρ' w' V v ∧ Below w.heap.size w w' := by
 refine evRun (d := d) (orc := orc) (bk := []) (c := 0) hm sp V L (fun _ => none) ?_ hL (fun _ _ => rfl) (fun _ _ _ _ h => by cases h) (fun _ _ h => by cases h) (fun k b hk => by simp at hk) hargs
 obtain ⟨r, hr, he⟩ := Option.map_eq_some_iff.1 hev
 rw [hr]
 simp only [Prod.mk.injEq] at he
 obtain ⟨rfl, rfl⟩ := he
 rfl
end Go.Ev
