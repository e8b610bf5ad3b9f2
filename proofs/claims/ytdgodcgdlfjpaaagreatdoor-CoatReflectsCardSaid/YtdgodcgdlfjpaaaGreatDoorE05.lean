/- A verified evaluator of the model, and the references of layer 40 by it. Part 5 of 8. No condition beside the row. -/
import Derived.Scope
import Derived.Test.YtdgodcgdlfjpaaaGreatDoorE04
set_option linter.unusedVariables false
set_option linter.unusedSimpArgs false
set_option maxRecDepth 100000
set_option maxHeartbeats 4000000
namespace Go.Proofs.YtdgodcgdlfjpaaaGreatDoor
open Go.RowKit Go.Mono

end Go.Proofs.YtdgodcgdlfjpaaaGreatDoor
namespace Go.Ev
open Go.RowKit Go.Mono
section
def isCall (o : Oper) : Bool :=
 match o.op with
 | .call c => match c.callee with
   | .value _ => true
   | _ => false
 | _ => false
theorem callOf_isCall {P : Program} {o : Oper} {get : Operand → Option SV} {x : FuncId × List SA} (h : callOf P o get = some x) : isCall o = true := by
 unfold callOf at h
 unfold isCall
 split at h
 ·rename_i c ho
  first | (rw [ho]; dsimp only) | skip
  split at h
  ·rename_i fv hc
   first | rw [hc] | rfl
  ·cases h
 ·cases h
theorem opS_isCall {P : Program} {cs : CallS} {o : Oper} {get : Operand → Option SV} {bk : List (Nat × Blk)} {th c : Nat} {orc : List (Option Bool)} {r : OpR} (he : opS P cs o get bk th c orc = some (r, true)) : isCall o = true := by
 unfold opS at he
 split at he
 ·rename_i f args hc
  exact callOf_isCall hc
 ·split at he
  ·cases he
  ·split at he
   ·split at he
    ·cases he
    ·cases he
   ·cases he
structure DrawOk (ops : Array Oper) (s : Stt) (rs : List Rec) (s' : Stt) : Prop where
 race : raceB (prOf ops) rs = true
 pre : ∀ j, ∀ q ∈ prOf ops j, q < j
 call : (∃ o ∈ ops.toList, isCall o = true) → (∀ k b, s.bk.lookup k = some b → k < s.th) ∧ (∀ r ∈ rs, r.c1 ≤ s.th ∧ ∀ k b, r.wr.lookup k = some b → k < s.th)
section
variable {D : Den} {P : Program} {w0 : World} {X : Nat → Prop} {cs : CallS}
theorem wpAny_ev (hcs : CallOk D P w0 X cs) {ops : Array Oper} {n : Nat} {s s' : Stt} {rs : List Rec} {q : List Prop} (hR : RecOk P cs ops n ops.toList s rs s' q) (hD : DrawOk ops s rs s') (hq : ∀ p ∈ q, p)
  {Q : Exit → Act → World → Prop} {ρ0 : Nm} {wc0 w00 : World} {d0 : List Deferred} (hnm : ∀ k b, s.bk.lookup k = some b → ∃ B, ρ0 k = some B)
  (hK : ∀ ρ' wc' w' a', Sat D w0 X s.th ρ' wc' w' s'.bk → TSat D ρ' wc' n s'.tm a' → a'.defers = d0 → Evo ρ0 wc0 w00 s.bk s.c s'.c ρ' wc' w' s'.bk → Q .normal a' w') :
  ∀ (fuel : Nat) (L : Array Bool) (a : Act) (w : World) (ρ : Nm) (wc : World), L.size = ops.size → left (fun j => L.getD j false) ops.size ≤ fuel →
    (∀ j, L.getD j false = true → ∀ p ∈ prOf ops j, L.getD p false = true) →
    Sat D w0 X s.th ρ wc w (accAt (rs.map (·.wr)) (fun j => L.getD j false) s.bk ops.size) → TSat D ρ wc n (accAt (rs.map wT) (fun j => L.getD j false) s.tm ops.size) a → a.defers = d0 →
    Evo ρ0 wc0 w00 s.bk s.c s'.c ρ wc w (accAt (rs.map (·.wr)) (fun j => L.getD j false) s.bk ops.size) →
    (∀ i r, rs[i]? = some r → L.getD i false = false → ∀ k, r.c0 ≤ k → k < r.c1 → ρ k = none) → wpAny P .any ops Q fuel L a w := by
 have hlen : rs.length = ops.size := by rw [hR.len, Array.length_toList]
 -- all are listed: the end
 have done : ∀ (L : Array Bool) (a : Act) (w : World) (ρ : Nm) (wc : World), (∀ j, j < ops.size → L.getD j false = true) →
   Sat D w0 X s.th ρ wc w (accAt (rs.map (·.wr)) (fun j => L.getD j false) s.bk ops.size) → TSat D ρ wc n (accAt (rs.map wT) (fun j => L.getD j false) s.tm ops.size) a → a.defers = d0 →
   Evo ρ0 wc0 w00 s.bk s.c s'.c ρ wc w (accAt (rs.map (·.wr)) (fun j => L.getD j false) s.bk ops.size) → Q .normal a w := by
  intro L a w ρ wc hall hS hT hd hE
  have e1 : accAt (rs.map (·.wr)) (fun j => L.getD j false) s.bk ops.size = s'.bk := by
   rw [acc_all (N := ops.size) hall _ (Nat.le_refl _), hR.bk, Array.length_toList]
  have e2 : accAt (rs.map wT) (fun j => L.getD j false) s.tm ops.size = s'.tm := by
   rw [acc_all (N := ops.size) hall _ (Nat.le_refl _), hR.tm, Array.length_toList]
  rw [e1] at hS hE
  rw [e2] at hT
  exact hK ρ wc w a hS hT hd hE
 -- nothing is ready: all are listed
 have none_ : ∀ (L : Array Bool), L.size = ops.size → Region.ready .any ops L = [] → ∀ j, j < ops.size → L.getD j false = true := by
  intro L hsz hr j
  induction j using Nat.strongRecOn with
  | _ j ih =>
    intro hj
    cases hL : L.getD j false with
    | true => rfl
    | false =>
      exfalso
      have hmem : j ∈ Region.ready .any ops L := by
       rw [mem_ready]
       refine ⟨?_, ops[j], by simp [hj], ?_⟩
       ·have : j < L.size := by omega
        simp [Array.getD, this] at hL ⊢
        exact hL
       ·intro e he hb
        have hin : e.on ∈ prOf ops j := by
         unfold prOf
         rw [Array.getElem?_eq_getElem hj]
         unfold predsOf
         exact List.mem_map.2 ⟨e, List.mem_filter.2 ⟨by simpa using he, hb⟩, rfl⟩
        have hlt := hD.pre j _ hin
        exact ih e.on hlt (by omega)
      rw [hr] at hmem
      cases hmem
 intro fuel
 induction fuel with
 | zero =>
   intro L a w ρ wc hsz hleft hcl hS hT hd hE hun
   have hall := left_zero ops.size (Nat.le_zero.1 hleft)
   refine ⟨?_, done L a w ρ wc hall hS hT hd hE⟩
   apply List.eq_nil_iff_forall_not_mem.2
   intro j hj
   obtain ⟨h1, o, ho, _⟩ := mem_ready.1 hj
   have hjs := (Array.getElem?_eq_some_iff.1 ho).1
   have h2 := hall j hjs
   have hjl : j < L.size := by omega
   simp [Array.getD, hjl] at h1 h2
   rw [h1] at h2
   cases h2
 | succ fuel ih =>
   intro L a w ρ wc hsz hleft hcl hS hT hd hE hun
   refine ⟨fun hr => done L a w ρ wc (none_ L hsz hr) hS hT hd hE, fun i hi => ?_⟩
   obtain ⟨h1, o, ho, hpre⟩ := mem_ready.1 hi
   have his := (Array.getElem?_eq_some_iff.1 ho).1
   have hil : i < L.size := by omega
   have hLi : L.getD i false = false := by simp [Array.getD, hil] at h1 ⊢; exact h1
   have hpr : ∀ p ∈ prOf ops i, L.getD p false = true := by
    intro p hp
    unfold prOf at hp
    rw [ho] at hp
    obtain ⟨e, he, rfl⟩ := List.mem_map.1 hp
    obtain ⟨he1, he2⟩ := List.mem_filter.1 he
    exact hpre e (by simpa using he1) he2
   have hir : i < rs.length := by omega
   obtain ⟨r, hr⟩ : ∃ r, rs[i]? = some r := ⟨rs[i], by simp [hir]⟩
   obtain ⟨o', ho', hst⟩ := hR.step i r hr
   have hoo : o' = o := by
    rw [Array.getElem?_toList, ho] at ho'
    cases ho'
    rfl
   subst hoo
   obtain ⟨hdok, hrd, orc, orc', ps, b, hw, hps, hcase⟩ := hst
   -- who touches what this one touches
   have before : ∀ j s2, j < i → rs[j]? = some s2 → conf s2 r = true → L.getD j false = true := fun j s2 hj hs2 hc =>
    raceB_ok (L := fun j => L.getD j false = true) hD.race hj hs2 hr hc hcl hpr
   have after : ∀ j s2, i < j → rs[j]? = some s2 → conf r s2 = true → L.getD j false = false := fun j s2 hj hs2 hc => by
    cases hLj : L.getD j false with
    | false => rfl
    | true =>
      have := raceB_ok (L := fun j => L.getD j false = true) hD.race hj hr hs2 hc hcl (hcl j hLj)
      rw [hLi] at this
      cases this
   have subT : Sub (some_ r.tR (accAt (rs.map wT) tt s.tm i)) (accAt (rs.map wT) (fun j => L.getD j false) s.tm ops.size) := by
    intro t x hx
    rw [some_lookup] at hx
    split at hx
    ·rename_i ht
     have ht' : t ∈ r.tR := by simpa using ht
     rw [acc_read hLi ?_ ?_ _ (Nat.le_of_lt his)]
     ·exact hx
     ·intro j hj hwr
      obtain ⟨s2, hs2, hd2⟩ := wrote_wT hwr
      exact before j s2 hj hs2 (conf_rt hd2 ht')
     ·intro j hj hwr
      obtain ⟨s2, hs2, hd2⟩ := wrote_wT hwr
      exact after j s2 hj hs2 (conf_tr hd2 ht')
    ·cases hx
   have subB : Sub (some_ r.bR (accAt (rs.map (·.wr)) tt s.bk i)) (accAt (rs.map (·.wr)) (fun j => L.getD j false) s.bk ops.size) := by
    intro t x hx
    rw [some_lookup] at hx
    split at hx
    ·rename_i ht
     have ht' : t ∈ r.bR := by simpa using ht
     rw [acc_read hLi ?_ ?_ _ (Nat.le_of_lt his)]
     ·exact hx
     ·intro j hj hwr
      obtain ⟨s2, hs2, hd2⟩ := wrote_wr hwr
      exact before j s2 hj hs2 (conf_wb hd2 (.inl ht'))
     ·intro j hj hwr
      obtain ⟨s2, hs2, hd2⟩ := wrote_wr hwr
      exact after j s2 hj hs2 (conf_bw hd2 ht')
    ·cases hx
   have addT : ∀ k, (accAt (rs.map wT) (fun j => j == i || L.getD j false) s.tm ops.size).lookup k = (wT r ++ accAt (rs.map wT) (fun j => L.getD j false) s.tm ops.size).lookup k := by
    intro k
    rw [acc_add hLi ?_ _ his, lookup_append]
    ·rw [List.getD_eq_getElem?_getD, List.getElem?_map, hr]; rfl
    ·intro j hj h1 h2
     obtain ⟨s1, hs1, hd1⟩ := wrote_wT h1
     obtain ⟨s2, hs2, hd2⟩ := wrote_wT h2
     rw [hr] at hs1
     cases hs1
     exact after j s2 hj hs2 (conf_tt hd1 hd2)
   have addB : ∀ k, (accAt (rs.map (·.wr)) (fun j => j == i || L.getD j false) s.bk ops.size).lookup k = (r.wr ++ accAt (rs.map (·.wr)) (fun j => L.getD j false) s.bk ops.size).lookup k := by
    intro k
    rw [acc_add hLi ?_ _ his, lookup_append]
    ·rw [List.getD_eq_getElem?_getD, List.getElem?_map, hr]; rfl
    ·intro j hj h1 h2
     obtain ⟨s1, hs1, hd1⟩ := wrote_wr h1
     obtain ⟨s2, hs2, hd2⟩ := wrote_wr h2
     rw [hr] at hs1
     cases hs1
     exact after j s2 hj hs2 (conf_wb hd1 (.inr hd2))
   have hL' : ∀ j, (L.setIfInBounds i true).getD j false = (j == i || L.getD j false) := by
    intro j
    by_cases e : j = i
    ·subst e; simp [Array.getD, hil]
    ·have e' : (j == i) = false := by simpa using e
     rw [getD_set_ne false (fun h => e h.symm), e', Bool.false_or]
   have hLf : (fun j => (L.setIfInBounds i true).getD j false) = fun j => j == i || L.getD j false := funext hL'
   have hTr : TSat D ρ wc n (some_ r.tR (accAt (rs.map wT) tt s.tm i)) a := hT.sub subT
   have hwant := wantS_ok hTr hw (fun p hp => hq p (hps p hp))
   have hrng := hR.rng i r hr
   -- what follows, once it is done
   have next : ∀ (ρ' : Nm) (wc' w' : World) (v : Value), denV D ρ' wc' r.v v → Sat D w0 X s.th ρ' wc' w' (r.wr ++ accAt (rs.map (·.wr)) (fun j => L.getD j false) s.bk ops.size) →
     Evo ρ wc w (accAt (rs.map (·.wr)) (fun j => L.getD j false) s.bk ops.size) r.c0 r.c1 ρ' wc' w' (r.wr ++ accAt (rs.map (·.wr)) (fun j => L.getD j false) s.bk ops.size) →
     wpAny P .any ops Q fuel (L.setIfInBounds i true) (a.put o'.dst v) w' := by
    intro ρ' wc' w' v hv hS' hE'
    refine ih _ _ w' ρ' wc' (by simpa using hsz) ?_ ?_ ?_ ?_ ?_ ?_ ?_
    ·rw [hLf]
     have := left_lt (L := fun j => L.getD j false) hLi ops.size his
     omega
    ·intro j hj p hp
     rw [hL'] at hj ⊢
     by_cases e : j = i
     ·subst e; rw [hpr p hp, Bool.or_true]
     ·have e' : (j == i) = false := by simpa using e
      rw [e', Bool.false_or] at hj
      rw [hcl j hj p hp, Bool.or_true]
    ·rw [hLf]; exact hS'.congr addB
    ·rw [hLf]
     have h3 := (hT.mono hE'.rho hE'.ext).put hdok hv
     rw [← hrd, putT_wT] at h3
     rw [← hrd]
     exact h3.sub fun k x hk => by rw [← addT]; exact hk
    ·rw [← hd]; cases o'.dst <;> rfl
    ·rw [hLf]; exact (hE.join (hE'.widen hrng.1 hrng.2.2) hnm).congr addB
    ·intro j rj hj hLj k h1 h2
     rw [hL'] at hLj
     have e : j ≠ i := by intro e; subst e; simp at hLj
     have e' : (j == i) = false := by simpa using e
     rw [e', Bool.false_or] at hLj
     rw [hE'.dom k ?_]
     ·exact hun j rj hj hLj k h1 h2
     ·rcases Nat.lt_or_gt_of_ne e with h | h
      ·have := hR.ord j i rj r h hj hr; left; omega
      ·have := hR.ord i j r rj h hr hj; right; omega
   unfold wpOp
   rw [ho]
   dsimp only
   rw [hwant]
   rcases hcase with ⟨rfl, x, cl, hop, e1, e2, e3, hob⟩ | ⟨rfl, e1, e2, e3⟩
   ·rw [if_pos rfl]
    left
    refine opS_ok hcs hS subB (fun x z hz => hTr.get hz) hop (fun p hp => hq p (hob p hp)) (fun k h1 h2 => hun i r hr hLi k h1 (by rw [← e3]; exact h2)) ?_ ?_
    ·intro hcl'
     subst hcl'
     obtain ⟨c1, c2⟩ := hD.call ⟨o', by rw [Array.mem_toList_iff]; exact Array.mem_of_getElem? ho, opS_isCall hop⟩
     refine ⟨fun k b hk => ?_, by rw [e3]; exact (c2 r (List.mem_of_getElem? hr)).1⟩
     rcases acc_mem _ hk with h | ⟨j, h⟩
     ·exact c1 k b h
     ·rw [List.getD_eq_getElem?_getD, List.getElem?_map] at h
      cases hrj : rs[j]? with
      | none => rw [hrj] at h; simp at h
      | some rj => rw [hrj] at h; exact (c2 rj (List.mem_of_getElem? hrj)).2 k b h
    ·intro ρ' wc' w' v hv hS' hE'
     rw [e1] at hv
     rw [e2] at hS' hE'
     rw [e3] at hE'
     exact next ρ' wc' w' v hv hS' hE'
   ·rw [if_neg (by simp)]
    refine next ρ wc w undef (by rw [e1]; exact undef_den) (by rw [e2]; exact hS) ?_
    rw [e2, e3]
    exact Evo.refl _ _ _ _ _
end
end
end Go.Ev
namespace Go.Proofs.YtdgodcgdlfjpaaaGreatDoor
open Go.RowKit Go.Mono
structure PInv (w wr : World) (R L : Nat) (d : Nat → Int) (A0 A1 : Array Value) : Prop where
 row : RowF wr R L d
 lo : ∀ j, j < L → 0 ≤ d j
 hi : ∀ j, j < L → d j < 1000000000
 b0 : Box wr w.heap.size 35 A0
 b1 : Box wr (w.heap.size + 1) 35 A1
 b2 : Box wr (w.heap.size + 1 + 1) 35 #[.bool false, .slice none 0 0]
 below : Below w.heap.size w wr
 above : w.heap.size + 1 + 1 + 1 ≤ R
theorem PInv.set {w wr : World} {R L : Nat} {d : Nat → Int} {A0 A1 : Array Value} (h : PInv w wr R L d A0 A1) (j : Nat) (x : Int) (x0 : 0 ≤ x) (x1 : x < 1000000000) :
  PInv w (wr.setCell ⟨R, j, none⟩ (.int .i64 x)) R L (fun i => if i = j then x else d i) A0 A1 := by
 have ha := h.above
 refine ⟨h.row.set j x, fun i hi => ?_, fun i hi => ?_, h.b0.other _ _ (by show w.heap.size ≠ R; omega), h.b1.other _ _ (by show w.heap.size + 1 ≠ R; omega), h.b2.other _ _ (by show w.heap.size + 1 + 1 ≠ R; omega), belowSet h.below (by omega) _ _, ha⟩
 ·split
  ·exact x0
  ·exact h.lo i hi
 ·split
  ·exact x1
  ·exact h.hi i hi
theorem PInv.drewN {w wr : World} {R L : Nat} {d : Nat → Int} {A0 A1 : Array Value} (h : PInv w wr R L d A0 A1) (k : Nat) : PInv w (wr.drewN k) R L d A0 A1 :=
 ⟨h.row.drewN k, h.lo, h.hi, ⟨h.b0.blk⟩, ⟨h.b1.blk⟩, ⟨h.b2.blk⟩, below_drewN h.below k, h.above⟩
theorem prod_room {f g : Nat → Int} {n m i k : Nat} (d1 : Digs f n) (d2 : Digs g m) (hi : i < n) (hk : k < m) : vf f i * vf g m + f i * pw i * vf g (k + 1) < pw (n + m) := by
 have f0 := d1.lo i hi
 have p0 := pw_pos i
 have hg : vf g (k + 1) ≤ vf g m := by
  obtain ⟨e, rfl⟩ := Nat.exists_eq_add_of_le (show k + 1 ≤ m by omega)
  rw [vf_split g (k + 1) e]
  have h1 : 0 ≤ vf (fun j => g (k + 1 + j)) e := vf_nonneg fun j hj => d2.lo _ (by omega)
  have := Int.mul_nonneg (Int.le_of_lt (pw_pos (k + 1))) h1
  omega
 have h1 : f i * pw i * vf g (k + 1) ≤ f i * pw i * vf g m := Int.mul_le_mul_of_nonneg_left hg (Int.mul_nonneg f0 (Int.le_of_lt p0))
 have h2 : vf f i * vf g m + f i * pw i * vf g m = vf f (i + 1) * vf g m := by rw [vf_succ, Int.add_mul]
 have h3 : vf f (i + 1) < pw (i + 1) := vf_lt fun j hj => d1.hi j (by omega)
 have h4 : vf g m < pw m := d2.lt
 have h5 : 0 ≤ vf g m := d2.nonneg
 have h6 : 0 ≤ vf f (i + 1) := vf_nonneg fun j hj => d1.lo j (by omega)
 have h7 : vf f (i + 1) * vf g m ≤ pw (i + 1) * vf g m := Int.mul_le_mul_of_nonneg_right (Int.le_of_lt h3) h5
 have h8 : pw (i + 1) * vf g m < pw (i + 1) * pw m := Int.mul_lt_mul_of_pos_left h4 (pw_pos _)
 have h9 := pw_mono (show i + 1 + m ≤ n + m by omega)
 rw [pw_add] at h9
 omega
theorem r3prod_digits (s t : Bool) (p q : Option Addr) (n m c1 c2 : Nat) (f g : Nat → Int) (w : World) (h1 : SlF w (.slice p n c1) n f) (h2 : SlF w (.slice q m c2) m g) (d1 : Digs f n) (d2 : Digs g m) (hn6 : n ≤ 100000) (hm6 : m ≤ 100000) :
  Calls Tryz.prog 206 #[.agg #[.bool s, .slice p n c1], .agg #[.bool t, .slice q m c2]] w fun e w' => ∃ p k c h, e = .returned (.agg #[.bool ((s != t) && decide (0 < vf f n * vf g m)), .slice p k c]) ∧ SlF w' (.slice p k c) k h ∧ Digs h k ∧ vf h k = vf f n * vf g m ∧ k ≤ n + m ∧ Below w.heap.size w w' := by
 obtain ⟨hc1, hn1, hx1⟩ := h1.opens
 obtain ⟨hc2, hn2, hx2⟩ := h2.opens
 obtain ⟨sg, hsg⟩ : ∃ sg : Bool, ((s != t) && decide (0 < vf f n * vf g m)) = sg := ⟨_, rfl⟩
 rw [hsg]
 replace hsg := Lib.hid hsg
 go_enter Tryz.func206, Tryz.ntmps206
 go_wp2_with (first
  | (at_make; refine wpList_make_ints _ rfl _ _ 33 rfl Tryz.underlying33 infoInt _ _ (n + m) rfl rfl (by simp) (by simp) (by omega) ?_; intro W1 r1 hb1))
 have hR : ((((w.alloc (.cells #[.bool s, .slice p n c1] 35)).alloc (.cells #[.bool t, .slice q m c2] 35)).alloc (.cells #[.bool false, .slice none 0 0] 35))).heap.size = w.heap.size + 1 + 1 + 1 := by simp
 rw [hR] at r1
 have hB := belowCall (below3_new w (.cells #[.bool s, .slice p n c1] 35) (.cells #[.bool t, .slice q m c2] 35) (.cells #[.bool false, .slice none 0 0] 35)) hb1
 have hI0 : PInv w W1 (w.heap.size + 1 + 1 + 1) (n + m) (fun _ => 0) #[.bool s, .slice p n c1] #[.bool t, .slice q m c2] := by
  have b1 := Box.new (w.alloc (.cells #[.bool s, .slice p n c1] 35)) 35 #[.bool t, .slice q m c2]
  simp only [World.size_alloc] at b1
  exact ⟨r1, fun _ _ => Int.le_refl _, fun _ _ => by decide, (((Box.new _ _ _).alloc _).alloc _).below hb1, (b1.alloc _).below hb1, (box3_new w _ _ _ _ _ _).below hb1, hB, Nat.le_refl _⟩
 clear hb1 hB hR r1
 go_loopw [6] (fun a wr => ∃ (i : Nat) (d : Nat → Int), i ≤ n ∧ a = .int .i64 (i : Int) ∧ vf d (n + m) = vf f i * vf g m ∧ PInv w wr (w.heap.size + 1 + 1 + 1) (n + m) d #[.bool s, .slice p n c1] #[.bool t, .slice q m c2]) (fun a _ => (n - intOf a).toNat)
 case atStart => exact ⟨0, _, Nat.zero_le _, rfl, by rw [vf_zero (fun i _ => rfl)]; simp [vf], hI0⟩
 case round =>
  clear hI0
  obtain ⟨i, d, hi, rfl, hv, hI⟩ := hrel
  replace hv := Lib.hid hv
  have b0 := hI.b0
  have b1 := hI.b1
  have cb0 := b0.cell
  have lb0 := b0.lt
  have fb0 := b0.frozen
  have cb1 := b1.cell
  have lb1 := b1.lt
  have fb1 := b1.frozen
  by_cases hin : i < n
  ·have hin' : (i : Int) < n := by omega
   go_wp2
   clear cb0 lb0 fb0 cb1 lb1 fb1 b0 b1
   go_loopw [7] (fun a wr => ∃ (k : Nat) (d : Nat → Int), k ≤ m ∧ a = .int .i64 (k : Int) ∧ vf d (n + m) = vf f i * vf g m + f i * pw i * vf g k ∧ PInv w wr (w.heap.size + 1 + 1 + 1) (n + m) d #[.bool s, .slice p n c1] #[.bool t, .slice q m c2]) (fun a _ => (m - intOf a).toNat)
   case atStart => exact ⟨0, d, Nat.zero_le _, rfl, by rw [hv.out]; simp [vf], hI⟩
   case round =>
    clear hI hv d
    obtain ⟨k, d, hk, rfl, hv, hI⟩ := hrel
    replace hv := Lib.hid hv
    have b0 := hI.b0
    have b1 := hI.b1
    have cb0 := b0.cell
    have lb0 := b0.lt
    have fb0 := b0.frozen
    have cb1 := b1.cell
    have lb1 := b1.lt
    have fb1 := b1.frozen
    by_cases hkm : k < m
    ·have hkm' : (k : Int) < m := by omega
     obtain ⟨b, off, rfl, hb, hcell⟩ := hx1 (by omega)
     obtain ⟨b', off', rfl, hb', hcell'⟩ := hx2 (by omega)
     have a1 := (hI.below.cell (p := ⟨b, off + i, none⟩) hb).trans (hcell i hin)
     have a2 := (hI.below.cell (p := ⟨b', off' + k, none⟩) hb').trans (hcell' k hkm)
     obtain ⟨m0, m1⟩ := mul_dig (d1.lo i hin) (d1.hi i hin) (d2.lo k hkm) (d2.hi k hkm)
     clear hcell hcell'
     go_wp2
     go_quiet (fail)
     go_wp2
     have hroom := prod_room d1 d2 hin hkm
     have hv2 : vf d (n + m) + f i * g k * pw (i + k) = vf f i * vf g m + f i * pw i * vf g (k + 1) := by
      rw [hv.out, vf_succ, pw_add]; grind
     have hIq := hI.drewN nq
     obtain ⟨V, hV⟩ : ∃ V, vf f i * vf g m + f i * pw i * vf g (k + 1) = V := ⟨_, rfl⟩
     rw [hV] at hroom hv2
     replace hV := Lib.hid hV
     generalize f i * g k = x0 at *
     clear hv hI cb0 lb0 fb0 cb1 lb1 fb1 b0 b1 a1 a2
     go_loopw [8, 9] (fun u v wr => ∃ (x : Int) (j : Nat) (d : Nat → Int), 0 ≤ x ∧ x ≤ 999999999 * 999999999 ∧ u = .int .i64 x ∧ v = .int .i64 (j : Int) ∧ vf d (n + m) + x * pw j = V ∧ PInv w wr (w.heap.size + 1 + 1 + 1) (n + m) d #[.bool s, .slice (some ⟨b, off, none⟩) n c1] #[.bool t, .slice (some ⟨b', off', none⟩) m c2]) (fun _ v _ => (n + m - intOf v).toNat)
     case atStart => exact ⟨x0, i + k, d, m0, m1, rfl, by simp, hv2, hIq⟩
     case round =>
      clear hIq hv2 d
      obtain ⟨x, j, d, hx0, hx9, rfl, rfl, hv, hI⟩ := hrel
      by_cases hgo : 0 < x
      ·have hj := carry_room hI.lo hv hgo hroom
       have hpc := put_carry d (n + m) j x hj
       have a1 := hI.row.cell j hj
       have a2 := hI.row.frozen j
       have q1 := hI.lo j hj
       have q2 := hI.hi j hj
       have hst := hI.set j ((x + d j) % 1000000000) (by omega) (by omega)
       have hj1 : (j : Int) < (n : Int) + m := by omega
       generalize hdj : d j = y at *
       clear hI
       go_wp2
       go_roundw
       case rel =>
        refine ⟨(x + y) / 1000000000, j + 1, _, by omega, by omega, by first | rfl | simp, by simp, ?_, hst⟩
        rw [← hv]
        exact hpc
       case measure => simp [intOf]; omega
      ·obtain rfl : x = 0 := by omega
       have hv3 : vf d (n + m) = V := by simpa using hv
       go_wp2
       go_roundw
       case rel => exact ⟨k + 1, d, by omega, by simp, by rw [hv3, hV.out], hI⟩
       case measure => simp [intOf]; omega
    ·obtain rfl : k = m := by omega
     have hv3 : vf d (n + k) = vf f (i + 1) * vf g k := by rw [hv.out, vf_succ, Int.add_mul]
     clear hv
     go_wp2
     go_roundw
     case rel => exact ⟨i + 1, d, by omega, by simp, hv3, hI⟩
     case measure => simp [intOf]; omega
  ·obtain rfl : i = n := by omega
   have hmm := fun W1 hW1 => r3made_ok (s != t) (some ⟨w.heap.size + 1 + 1 + 1, 0, none⟩) (i + m) (i + m) d W1 ((hI.row.slice (by omega) (i + m) (Nat.le_refl _) (i + m) (Nat.le_refl _)).ext hW1) (by omega) hI.lo hI.hi
   rw [hv.out, hsg.out] at hmm
   have b2 := hI.b2
   have hB := hI.below
   clear hx1 hx2
   go_wp2_with fail
   refine (hmm wr (Ext.refl _)).mono ?_
   rintro e W2 ⟨v', rfl, ho2, d3, e3, hb⟩
   replace b2 := b2.below hb
   have hB1 := belowCall hB hb
   obtain ⟨p', c', rfl⟩ := ho2.shape
   have hsl := ho2.sl (by have := trimN_le d (i + m); omega)
   clear hmm ho2 b0 b1 cb0 cb1 fb0 fb1 lb0 lb1 hI
   go_wp2_with first | (refine wpList_store_box rfl 35 _ _ rfl (w.heap.size + 1 + 1) 0 35 _ #[.bool sg, .slice p' (trimN d (i + m)) c'] #[.bool sg, .slice p' (trimN d (i + m)) c'] rfl rfl b2 sizeLong (Nat.le_of_ble_eq_true rfl) (long_ones _ _ _ _) (whole_new rfl) ?_; intro W3 hk b4)
   have hb2 := hk.below hB1 (by omega) hB1.size
   refine bodyPost_ret (b4.results rfl _ _ rfl Tryz.underlying35 rfl sizeLong) rfl ⟨p', _, c', d, rfl, hsl.ext (hk.ext b2 (by decide)), d3, e3, trimN_le d (i + m), hb2⟩
end Go.Proofs.YtdgodcgdlfjpaaaGreatDoor
namespace Go.Ev
open Go.RowKit Go.Mono
section
def TH : Nat := 2 ^ 200
def preOk (ops : Array Oper) : Bool := (List.range ops.size).all fun j => (prOf ops j).all fun q => Nat.blt q j
def drawS (P : Program) (cs : CallS) (ops : Array Oper) (n : Nat) (s : Stt) : Option (Stt × List Prop) :=
 let hc := ops.toList.any isCall
 match recS P cs ops n ops.toList ⟨s.tm, s.bk, s.c, if hc then TH else s.th, s.orc⟩ with
 | some (rs, s', q) => if raceB (prOf ops) rs && preOk ops && (!hc || (s.bk.all (fun p => Nat.blt p.1 TH) && rs.all (fun r => Nat.ble r.c1 TH && r.wr.all (fun p => Nat.blt p.1 TH)) && s'.bk.all (fun p => Nat.blt p.1 s'.c))) then
   some (⟨s'.tm, s'.bk, s'.c, if hc then s'.c else s.th, s'.orc⟩, q) else none
 | none => none
inductive Ot where
 | norm
 | exit (id : Nat)
 | ret
def Ot.ex : Ot → Exit
 | .norm => .normal
 | .exit id => .exit id
 | .ret => .ret
def evC (P : Program) (cs : CallS) (n : Nat) : Nat → Code → Stt → Option (Ot × Stt × List Prop)
 | 0, _, _ => none
 | _ + 1, .skip, s => some (.norm, s, [])
 | _ + 1, .label _, s => some (.norm, s, [])
 | _ + 1, .region _ ops draw, s => match (if draw then drawS P cs ops n s else seqS P cs ops n ops.toList s) with
   | some (s', q) => some (.norm, s', q)
   | none => none
 | f + 1, .seq x y, s => match evC P cs n f x s with
   | some (.norm, s1, p) => (match evC P cs n f y s1 with
     | some (o, s2, q) => some (o, s2, p ++ q)
     | none => none)
   | some (.exit id, s1, p) => some (.exit id, s1, p)
   | some (.ret, s1, p) => some (.ret, s1, p)
   | none => none
 | f + 1, .cond c t e, s => match getS s.tm c with
   | some (.a (.one (.val (.bool b)))) => evC P cs n f (if b then t else e) s
   | _ => none
 | f + 1, .block id x, s => match evC P cs n f x s with
   | some (.exit j, s', q) => some (if j = id then .norm else .exit j, s', q)
   | some (.norm, s', q) => some (.norm, s', q)
   | some (.ret, s', q) => some (.ret, s', q)
   | none => none
 | f + 1, .scope x, s => evC P cs n f x s
 | f + 1, .loop x, s => match evC P cs n f x s with
   | some (.norm, s1, p) => (match evC P cs n f (.loop x) s1 with
     | some (o, s2, q) => some (o, s2, p ++ q)
     | none => none)
   | some (.exit id, s1, p) => some (.exit id, s1, p)
   | some (.ret, s1, p) => some (.ret, s1, p)
   | none => none
 | _ + 1, .exit id, s => some (.exit id, s, [])
 | _ + 1, .ret, s => some (.ret, s, [])
 | _, _, _ => none
def Pre (s s' : Stt) : Prop := s.c ≤ s'.c ∧ ∃ l, s'.bk = l ++ s.bk
theorem Pre.refl (s : Stt) : Pre s s := ⟨Nat.le_refl _, [], rfl⟩
theorem Pre.trans {a b c : Stt} (h : Pre a b) (g : Pre b c) : Pre a c := by
 obtain ⟨h1, l, hl⟩ := h
 obtain ⟨g1, m, hm⟩ := g
 exact ⟨Nat.le_trans h1 g1, m ++ l, by rw [hm, hl, List.append_assoc]⟩
section
variable {D : Den} {P : Program} {w0 : World} {X : Nat → Prop} {cs : CallS} {n : Nat}
theorem seqS_pre {ops : Array Oper} : ∀ {l : List Oper} {s s' : Stt} {q : List Prop}, seqS P cs ops n l s = some (s', q) → Pre s s'
 | [], s, s', q, h => by cases h; exact .refl _
 | o :: rest, s, s', q, h => by
   unfold seqS at h
   split at h
   ·split at h
    ·split at h
     ·rename_i r cl hr
      split at h
      ·rename_i s2 q2 h2
       cases h
       have k := seqS_pre h2
       exact Pre.trans (b := ⟨putT s.tm o.dst r.v, r.wr ++ s.bk, r.c, if cl then r.c else s.th, r.orc⟩) ⟨opS_cc hr, r.wr, rfl⟩ k
      ·cases h
     ·cases h
    ·cases h
   ·split at h
    ·split at h
     ·rename_i s2 q2 h2
      cases h
      have k := seqS_pre h2
      exact k
     ·cases h
    ·cases h
   ·cases h
theorem accAt_pre {α : Type} (ws : List (List (Nat × α))) (L : Nat → Bool) (l0 : List (Nat × α)) : ∀ m, ∃ l, accAt ws L l0 m = l ++ l0
 | 0 => ⟨[], rfl⟩
 | m + 1 => by
   obtain ⟨l, hl⟩ := accAt_pre ws L l0 m
   exact ⟨(if L m then ws.getD m [] else []) ++ l, by show _ ++ accAt ws L l0 m = _; rw [hl, List.append_assoc]⟩
theorem drawS_pre {ops : Array Oper} {s s' : Stt} {q : List Prop} (h : drawS P cs ops n s = some (s', q)) : Pre s s' := by
 unfold drawS at h
 dsimp only at h
 split at h
 ·rename_i rs s2 q2 h2
  split at h
  ·cases h
   have k := recS_ok h2
   obtain ⟨l, hl⟩ := accAt_pre (rs.map (·.wr)) tt s.bk ops.toList.length
   exact ⟨k.cc, l, by rw [← hl]; exact k.bk⟩
  ·cases h
 ·cases h
theorem evC_pre : ∀ {f : Nat} {c : Code} {s s' : Stt} {o : Ot} {q : List Prop}, evC P cs n f c s = some (o, s', q) → Pre s s' := by
 intro f
 induction f with
 | zero => intro c s s' o q h; cases c <;> simp [evC] at h
 | succ f ih =>
   intro c s s' o q h
   cases c with
   | skip => simp only [evC, Option.some.injEq, Prod.mk.injEq] at h; obtain ⟨_, rfl, _⟩ := h; exact .refl _
   | label l => simp only [evC, Option.some.injEq, Prod.mk.injEq] at h; obtain ⟨_, rfl, _⟩ := h; exact .refl _
   | exit id => simp only [evC, Option.some.injEq, Prod.mk.injEq] at h; obtain ⟨_, rfl, _⟩ := h; exact .refl _
   | ret => simp only [evC, Option.some.injEq, Prod.mk.injEq] at h; obtain ⟨_, rfl, _⟩ := h; exact .refl _
   | region id ops draw =>
     simp only [evC] at h
     split at h
     ·rename_i s2 q2 h2
      cases h
      split at h2
      ·exact drawS_pre h2
      ·exact seqS_pre h2
     ·cases h
   | seq x y =>
     simp only [evC] at h
     split at h
     ·rename_i s1 p h1
      split at h
      ·rename_i o2 s2 q2 h2
       cases h
       exact (ih h1).trans (ih h2)
      ·cases h
     ·rename_i h1; cases h; exact ih h1
     ·rename_i h1; cases h; exact ih h1
     ·cases h
   | cond c t e =>
     simp only [evC] at h
     split at h
     ·exact ih h
     ·cases h
   | block id x =>
     simp only [evC] at h
     split at h
     ·rename_i h1; cases h; exact ih h1
     ·rename_i h1; cases h; exact ih h1
     ·rename_i h1; cases h; exact ih h1
     ·cases h
   | scope x => simp only [evC] at h; exact ih h
   | loop x =>
     simp only [evC] at h
     split at h
     ·rename_i s1 p h1
      split at h
      ·rename_i o2 s2 q2 h2
       cases h
       exact (ih h1).trans (ih h2)
      ·cases h
     ·rename_i h1; cases h; exact ih h1
     ·rename_i h1; cases h; exact ih h1
     ·cases h
   | rangeFunc => simp [evC] at h
   | goto => simp [evC] at h
   | refuse => simp [evC] at h
theorem drawS_ok (hcs : CallOk D P w0 X cs) (hm : P.follows .mixedOrders = true) {ops : Array Oper} {s s' : Stt} {q : List Prop} (h : drawS P cs ops n s = some (s', q)) (hq : ∀ p ∈ q, p) {ρ : Nm} {wc w : World} {a : Act}
  (hS : Sat D w0 X s.th ρ wc w s.bk) (hT : TSat D ρ wc n s.tm a) (hn : ∀ k, s.c ≤ k → k < s'.c → ρ k = none) {Q : Exit → Act → World → Prop}
  (hK : ∀ ρ' wc' w' a', Sat D w0 X s'.th ρ' wc' w' s'.bk → TSat D ρ' wc' n s'.tm a' → a'.defers = a.defers → Evo ρ wc w s.bk s.c s'.c ρ' wc' w' s'.bk → Q .normal a' w') (id : Nat) : (Code.region id ops true).wp P Q a w := by
 unfold drawS at h
 dsimp only at h
 split at h
 ·rename_i rs s2 q2 h2
  split at h
  ·rename_i hc
   cases h
   simp only [Bool.and_eq_true, Bool.or_eq_true, Bool.not_eq_true'] at hc
   obtain ⟨⟨hrace, hpre⟩, hcall⟩ := hc
   have hR := recS_ok h2
   have hlen : rs.length = ops.size := by rw [hR.len, Array.length_toList]
   have hD : DrawOk ops ⟨s.tm, s.bk, s.c, if ops.toList.any isCall then TH else s.th, s.orc⟩ rs s2 := by
    refine ⟨hrace, fun j p hp => ?_, fun ⟨o, ho, hoc⟩ => ?_⟩
    ·by_cases hj : j < ops.size
     ·have h1 := List.all_eq_true.1 hpre j (List.mem_range.2 hj)
      have h2 := List.all_eq_true.1 h1 p hp
      exact Nat.blt_eq ▸ h2
     ·unfold prOf at hp
      rw [Array.getElem?_eq_none (by omega)] at hp
      cases hp
    ·have hany : ops.toList.any isCall = true := List.any_eq_true.2 ⟨o, ho, hoc⟩
     rcases hcall with h | h
     ·rw [hany] at h; cases h
     ·obtain ⟨⟨c1, c2⟩, c3⟩ := h
      rw [hany]
      simp only [if_true]
      refine ⟨lookup_all c1, fun r hr => ?_⟩
      have h3 := List.all_eq_true.1 c2 r hr
      rw [Bool.and_eq_true] at h3
      exact ⟨Nat.le_of_ble_eq_true h3.1, lookup_all h3.2⟩
   have hS1 : Sat D w0 X (if ops.toList.any isCall then TH else s.th) ρ wc w.drew s.bk := by
    cases hany : ops.toList.any isCall with
    | false => exact hS.drew
    | true =>
      rcases hcall with h | h
      ·rw [hany] at h; cases h
      ·exact hS.drew.reth (lookup_all h.1.1)
   have hacc : ∀ {α : Type} (ws : List (List (Nat × α))) (l0 : List (Nat × α)) (m : Nat), accAt ws (fun j => (Array.replicate ops.size false).getD j false) l0 m = l0 := by
    intro α ws l0 m
    induction m with
    | zero => rfl
    | succ m ih =>
      show (if _ then _ else _) ++ accAt ws _ l0 m = l0
      rw [ih, if_neg]
      ·rfl
      ·by_cases hm : m < ops.size <;> simp [Array.getD, hm]
   refine wp_region_any hm ?_
   refine wpAny_ev (n := n) hcs hR hD hq (ρ0 := ρ) (wc0 := wc) (w00 := w) (d0 := a.defers) hS.named ?_ ops.size _ a _ ρ wc (by simp) ?_ ?_ ?_ ?_ rfl ?_ ?_
   ·intro ρ' wc' w' a' k1 k2 k3 k4
    refine hK ρ' wc' w' a' ?_ k2 k3 k4
    cases hany : ops.toList.any isCall with
    | false => simpa [hany] using k1
    | true =>
      rcases hcall with h | h
      ·rw [hany] at h; cases h
      ·exact k1.reth (lookup_all h.2)
   ·have : ∀ m, left (fun j => (Array.replicate ops.size false).getD j false) m ≤ m := by
     intro m
     induction m with
     | zero => exact Nat.le_refl _
     | succ m ih => unfold left; split <;> omega
    exact this _
   ·intro j hj
    by_cases hm : j < ops.size <;> simp [Array.getD, hm] at hj
   ·rw [hacc]; exact hS1
   ·rw [hacc]; exact hT
   ·rw [hacc]; exact (Evo.drew ρ wc w s.bk s.c).widen (Nat.le_refl _) hR.cc
   ·intro i r hr _ k h1 h2
    have h3 := hR.rng i r hr
    exact hn k (by dsimp only at h3; omega) (by dsimp only at h3 ⊢; omega)
  ·cases h
 ·cases h
end
end
end Go.Ev
namespace Go.Proofs.YtdgodcgdlfjpaaaGreatDoor
open Go.RowKit Go.Mono
theorem r3prod_ok {m1 m2 : Nat} {v1 v2 : Value} {z y : Int} (w : World) (h1 : LgV m1 w v1 z) (h2 : LgV m2 w v2 y) (hm1 : m1 ≤ 100000) (hm2 : m2 ≤ 100000) :
  Calls Tryz.prog 206 #[v1, v2] w fun e w' => ∃ v, e = .returned v ∧ LgV (m1 + m2) w' v (z * y) ∧ Below w.heap.size w w' := by
 obtain ⟨p, n, c, f, rfl, s1, d1, e1, l1⟩ := h1
 obtain ⟨q, m, c', g, rfl, s2, d2, e2, l2⟩ := h2
 refine (r3prod_digits _ _ p q n m c c' f g w s1 s2 d1 d2 (by omega) (by omega)).mono ?_
 rintro e w' ⟨p', k, c2, h, rfl, hsl, hd, hv, hk, hb⟩
 rw [e1, e2] at hv ⊢
 have habs : ((z * y).natAbs : Int) = z.natAbs * y.natAbs := by rw [Int.natAbs_mul]; norm_cast
 have hneg : ((decide (z < 0) != decide (y < 0)) && decide (0 < (z.natAbs : Int) * y.natAbs)) = decide (z * y < 0) := by
  rw [← habs]
  rw [Bool.eq_iff_iff, Bool.and_eq_true, bne_iff_ne, ne_eq, decide_eq_decide, decide_eq_true_eq, decide_eq_true_eq]
  rcases Int.lt_trichotomy z 0 with hz | rfl | hz
  ·rcases Int.lt_trichotomy y 0 with hy | rfl | hy
   ·have := Int.mul_pos_of_neg_of_neg hz hy; omega
   ·simp
   ·have := Int.mul_neg_of_neg_of_pos hz hy; omega
  ·simp
  ·rcases Int.lt_trichotomy y 0 with hy | rfl | hy
   ·have := Int.mul_neg_of_pos_of_neg hz hy; omega
   ·simp
   ·have := Int.mul_pos hz hy; omega
 rw [hneg]
 exact ⟨_, rfl, ⟨p', k, c2, h, rfl, hsl, hd, by rw [hv, habs], by omega⟩, hb⟩
end Go.Proofs.YtdgodcgdlfjpaaaGreatDoor
namespace Go.Ev
open Go.RowKit Go.Mono
section
theorem exists_least {p : Nat → Prop} (h : ∃ n, p n) : ∃ n, p n ∧ ∀ m, p m → n ≤ m := by
 obtain ⟨n, hn⟩ := h
 induction n using Nat.strongRecOn with
 | _ n ih =>
   by_cases hm : ∃ m, m < n ∧ p m
   ·obtain ⟨m, h1, h2⟩ := hm
    exact ih m h1 h2
   ·exact ⟨n, hn, fun m h2 => Nat.le_of_not_lt fun h1 => hm ⟨m, h1, h2⟩⟩
def Goes (D : Den) (w0 : World) (X : Nat → Prop) (n : Nat) (ρ : Nm) (wc w : World) (s s' : Stt) (d : List Deferred) (Q : Act → World → Prop) : Prop :=
 ∀ ρ' wc' w' a', Sat D w0 X s'.th ρ' wc' w' s'.bk → TSat D ρ' wc' n s'.tm a' → a'.defers = d → Evo ρ wc w s.bk s.c s'.c ρ' wc' w' s'.bk → Q a' w'
section
variable {D : Den} {P : Program} {w0 : World} {X : Nat → Prop} {cs : CallS} {n : Nat}
theorem evC_ok (hcs : CallOk D P w0 X cs) (hm : P.follows .mixedOrders = true) : ∀ (f : Nat) (c : Code) (s s' : Stt) (o : Ot) (q : List Prop) (ρ : Nm) (wc w : World) (a : Act) (Q : Exit → Act → World → Prop),
  evC P cs n f c s = some (o, s', q) → (∀ p ∈ q, p) → Sat D w0 X s.th ρ wc w s.bk → TSat D ρ wc n s.tm a → (∀ k, s.c ≤ k → k < s'.c → ρ k = none) →
  Goes D w0 X n ρ wc w s s' a.defers (Q o.ex) → c.wp P Q a w := by
 intro f
 induction f using Nat.strongRecOn with
 | _ f ih =>
   intro c s s' o q ρ wc w a Q h hq hS hT hn hK
   cases f with
   | zero => cases c <;> simp [evC] at h
   | succ f =>
     have ih' := ih f (Nat.lt_succ_self f)
     cases c with
     | skip =>
       simp only [evC, Option.some.injEq, Prod.mk.injEq] at h; obtain ⟨rfl, rfl, rfl⟩ := h
       exact wp_skip (hK ρ wc w a hS hT rfl (Evo.refl _ _ _ _ _))
     | label l =>
       simp only [evC, Option.some.injEq, Prod.mk.injEq] at h; obtain ⟨rfl, rfl, rfl⟩ := h
       exact wp_label (hK ρ wc w a hS hT rfl (Evo.refl _ _ _ _ _))
     | exit id =>
       simp only [evC, Option.some.injEq, Prod.mk.injEq] at h; obtain ⟨rfl, rfl, rfl⟩ := h
       exact wp_exit (hK ρ wc w a hS hT rfl (Evo.refl _ _ _ _ _))
     | ret =>
       simp only [evC, Option.some.injEq, Prod.mk.injEq] at h; obtain ⟨rfl, rfl, rfl⟩ := h
       exact wp_ret (hK ρ wc w a hS hT rfl (Evo.refl _ _ _ _ _))
     | region id ops draw =>
       simp only [evC] at h
       split at h
       ·rename_i s2 q2 h2
        cases h
        cases draw with
        | true => exact drawS_ok hcs hm (by simpa using h2) hq hS hT hn hK id
        | false => exact wp_region_list (seqS_ok hcs (by simpa using h2) hq hS hT hn hK)
       ·cases h
     | seq x y =>
       simp only [evC] at h
       split at h
       ·rename_i s1 p h1
        split at h
        ·rename_i o2 s2 q2 h2
         cases h
         have p1 := evC_pre h1
         have p2 := evC_pre h2
         refine wp_seq (ih' x s s1 .norm p ρ wc w a _ h1 (fun p hp => hq p (by simp [hp])) hS hT (fun k k1 k2 => hn k k1 (Nat.lt_of_lt_of_le k2 p2.1)) ?_)
         intro ρ' wc' w' a' k1 k2 k3 k4
         refine ih' y s1 _ _ _ ρ' wc' w' a' Q h2 (fun p hp => hq p (by simp [hp])) k1 k2 (fun k j1 j2 => ?_) ?_
         ·rw [k4.dom k (.inr j1)]; exact hn k (Nat.le_trans p1.1 j1) j2
         ·intro ρ2 wc2 w2 a2 m1 m2 m3 m4
          exact hK ρ2 wc2 w2 a2 m1 m2 (m3.trans k3) (k4.trans m4 hS.named)
        ·cases h
       ·rename_i id s1 p h1
        cases h
        exact wp_seq (ih' x s _ (.exit id) _ ρ wc w a _ h1 hq hS hT hn hK)
       ·rename_i s1 p h1
        cases h
        exact wp_seq (ih' x s _ .ret _ ρ wc w a _ h1 hq hS hT hn hK)
       ·cases h
     | cond c t e =>
       simp only [evC] at h
       split at h
       ·rename_i b hb
        have hden := hT.get hb
        have hev : a.eval c = .bool b := by simpa using hden.1
        exact wp_cond hev (ih' (if b then t else e) s _ _ _ ρ wc w a Q h hq hS hT hn hK)
       ·cases h
     | block id x =>
       simp only [evC] at h
       split at h
       ·rename_i j s1 p h1
        cases h
        refine wp_block (ih' x s _ (.exit j) _ ρ wc w a _ h1 hq hS hT hn ?_)
        intro ρ2 wc2 w2 a2 m1 m2 m3 m4
        show (if j = id then Q .normal a2 w2 else Q (.exit j) a2 w2)
        have := hK ρ2 wc2 w2 a2 m1 m2 m3 m4
        by_cases e : j = id
        ·rw [if_pos e] at this ⊢; exact this
        ·rw [if_neg e] at this ⊢; exact this
       ·rename_i s1 p h1
        cases h
        exact wp_block (ih' x s _ .norm _ ρ wc w a _ h1 hq hS hT hn hK)
       ·rename_i s1 p h1
        cases h
        exact wp_block (ih' x s _ .ret _ ρ wc w a _ h1 hq hS hT hn hK)
       ·cases h
     | scope x =>
       simp only [evC] at h
       refine wp_scope_straight (ih' x s _ o _ ρ wc w a _ h hq hS hT hn ?_)
       intro ρ2 wc2 w2 a2 m1 m2 m3 m4
       have := hK ρ2 wc2 w2 a2 m1 m2 m3 m4
       cases o <;> exact this
     | loop x =>
       -- the least number of rounds' fuel that leads from a state to the end
       let J : Nat → Act → World → Prop := fun m a w => m ≤ f + 1 ∧ ∃ (s s' : Stt) (o : Ot) (q : List Prop) (ρ : Nm) (wc : World), evC P cs n m (.loop x) s = some (o, s', q) ∧ (∀ p ∈ q, p) ∧ Sat D w0 X s.th ρ wc w s.bk ∧ TSat D ρ wc n s.tm a ∧ (∀ k, s.c ≤ k → k < s'.c → ρ k = none) ∧
        Goes D w0 X n ρ wc w s s' a.defers (Q o.ex)
       have least : ∀ a w, ∃ m, (∃ m, J m a w) → J m a w ∧ ∀ m', J m' a w → m ≤ m' := fun a w => by
        by_cases hJ : ∃ m, J m a w
        ·obtain ⟨m, h1, h2⟩ := exists_least hJ
         exact ⟨m, fun _ => ⟨h1, h2⟩⟩
        ·exact ⟨0, fun h => absurd h hJ⟩
       refine wp_loop (fun a w => ∃ m, J m a w) (fun a w => Classical.choose (least a w)) ⟨f + 1, Nat.le_refl _, s, s', o, q, ρ, wc, h, hq, hS, hT, hn, hK⟩ ?_
       intro a w hI
       obtain ⟨⟨hle, s, s', o, q, ρ, wc, h, hq, hS, hT, hn, hK⟩, _⟩ := Classical.choose_spec (least a w) hI
       generalize hmm : Classical.choose (least a w) = m at *
       cases m with
       | zero => simp [evC] at h
       | succ m =>
         have ihm := ih m (by omega)
         simp only [evC] at h
         split at h
         ·rename_i s1 p h1
          split at h
          ·rename_i o2 s2 q2 h2
           cases h
           have p1 := evC_pre h1
           have p2 := evC_pre h2
           refine ihm x s s1 .norm p ρ wc w a _ h1 (fun p hp => hq p (by simp [hp])) hS hT (fun k k1 k2 => hn k k1 (Nat.lt_of_lt_of_le k2 p2.1)) ?_
           intro ρ' wc' w' a' k1 k2 k3 k4
           have hJ : J m a' w' := ⟨by omega, s1, _, _, _, ρ', wc', h2, fun p hp => hq p (by simp [hp]), k1, k2, fun k j1 j2 => by
            rw [k4.dom k (.inr j1)]; exact hn k (Nat.le_trans p1.1 j1) j2, fun ρ2 wc2 w2 a2 m1 m2 m3 m4 => hK ρ2 wc2 w2 a2 m1 m2 (m3.trans k3) (k4.trans m4 hS.named)⟩
           refine ⟨⟨m, hJ⟩, ?_⟩
           have := (Classical.choose_spec (least a' w') ⟨m, hJ⟩).2 m hJ
           omega
          ·cases h
         ·rename_i id s1 p h1
          cases h
          exact ihm x s _ (.exit id) _ ρ wc w a _ h1 hq hS hT hn hK
         ·rename_i s1 p h1
          cases h
          exact ihm x s _ .ret _ ρ wc w a _ h1 hq hS hT hn hK
         ·cases h
     | rangeFunc => simp [evC] at h
     | goto => simp [evC] at h
     | refuse => simp [evC] at h
end
end
end Go.Ev
namespace Go.Mono
open Go.RowKit
theorem floor_parts (x : Int) : (x.tmod 1000000000 < 0 → x.tmod 1000000000 + 1000000000 = x % 1000000000 ∧ x.tdiv 1000000000 - 1 = x / 1000000000) ∧ (¬ x.tmod 1000000000 < 0 → x.tmod 1000000000 = x % 1000000000 ∧ x.tdiv 1000000000 = x / 1000000000) := by
 by_cases h : 0 ≤ x
 ·rw [Int.tmod_eq_emod_of_nonneg h, Int.tdiv_eq_ediv_of_nonneg h]
  omega
 ·obtain ⟨y, rfl⟩ : ∃ y, x = -y := ⟨-x, by omega⟩
  rw [Int.neg_tmod, Int.neg_tdiv, Int.tmod_eq_emod_of_nonneg (by omega), Int.tdiv_eq_ediv_of_nonneg (by omega)]
  omega
structure TInv (w0 wr : World) (base G n : Nat) (f : Nat → Int) : Prop where
 row : RowF wr G n f
 lo : base ≤ G
 low : w0.heap.size ≤ base
 below : Below w0.heap.size w0 wr
 size : base ≤ wr.heap.size
theorem TInv.set {w0 wr : World} {base G n : Nat} {f : Nat → Int} (h : TInv w0 wr base G n f) (j : Nat) (x : Int) : TInv w0 (wr.setCell ⟨G, j, none⟩ (.int .i64 x)) base G n (fun i => if i = j then x else f i) :=
 ⟨h.row.set j x, h.lo, h.low, belowSet h.below (Nat.le_trans h.low h.lo) _ _, by simp only [World.size_setCell]; exact h.size⟩
theorem TInv.drew {w0 wr : World} {base G n : Nat} {f : Nat → Int} (h : TInv w0 wr base G n f) : TInv w0 wr.drew base G n f := ⟨h.row.drewN 1, h.lo, h.low, h.below.drew, h.size⟩
theorem TInv.congr {w0 wr : World} {base G n : Nat} {f f' : Nat → Int} (h : TInv w0 wr base G n f) (he : ∀ i, i < n → f i = f' i) : TInv w0 wr base G n f' := ⟨h.row.congr he, h.lo, h.low, h.below, h.size⟩
end Go.Mono
namespace Go.Proofs.YtdgodcgdlfjpaaaGreatDoor
open Go.RowKit Go.Mono
theorem r3taken_ok (base : Nat) (v : Value) (n : Nat) (f : Nat → Int) (q : Option Addr) (m c2 : Nat) (g : Nat → Int) (w0 w : World) (ho : OwnF w base v n f) (hlow : w0.heap.size ≤ base) (hbase : base ≤ w.heap.size) (hB0 : Below w0.heap.size w0 w) (h2 : SlF w0 (.slice q (m + 1) c2) (m + 1) g) (d1 : Digs f n) (d2 : Digs g (m + 1)) (hm6 : m ≤ 100000) (hlt : vf f n < vf g (m + 1) * 1000000000) :
  Calls Tryz.prog 276 #[v, .slice q (m + 1) c2] w fun e w' => ∃ v' n' f' k, e = .returned (.tuple #[v', .int .i64 k]) ∧ OwnF w' base v' n' f' ∧ Digs f' n' ∧ vf f' n' = vf f n % vf g (m + 1) ∧ k = vf f n / vf g (m + 1) ∧ Below w0.heap.size w0 w' ∧ base ≤ w'.heap.size := by
 obtain ⟨hc2, hn2, hx2⟩ := h2.opens
 have hB1 : 0 < vf g (m + 1) := d2.pos.2 (by omega)
 obtain ⟨BB, hBB⟩ : ∃ BB, vf g (m + 1) = BB := ⟨_, rfl⟩
 obtain ⟨RR, hRR⟩ : ∃ RR, vf f n = RR := ⟨_, rfl⟩
 rw [hBB, hRR]
 rw [hBB, hRR] at hlt
 rw [hBB] at hB1
 replace hBB := Lib.hid hBB
 go_enter Tryz.func276, Tryz.ntmps276
 go_wp2
 go_loopw [0, 6] (fun a b wr => ∃ (n : Nat) (f : Nat → Int) (k : Int), OwnF wr base a n f ∧ b = .int .i64 k ∧ Digs f n ∧ vf f n + k * BB = RR ∧ 0 ≤ k ∧ Below w0.heap.size w0 wr ∧ base ≤ wr.heap.size) (fun _ b _ => (1000000000 - intOf b).toNat)
 case atStart => exact ⟨n, f, 0, ho, rfl, d1, by rw [hRR]; simp, Int.le_refl _, hB0, hbase⟩
 case round =>
  clear ho d1 hRR hB0 hbase f n v
  obtain ⟨n, f, k, ho, rfl, d1, hv, hk0, hB0, hbase⟩ := hrel
  obtain ⟨p, c, rfl⟩ := ho.shape
  have hf0 := d1.nonneg
  have hk1 : k * BB < 1000000000 * BB := by rw [Int.mul_comm 1000000000]; omega
  have hk9 : k < 1000000000 := Int.lt_of_mul_lt_mul_right hk1 (by omega)
  have hnm : n ≤ m + 2 := by
   by_cases hn : n ≤ m + 2
   ·exact hn
   ·have h3 := d1.ge (by omega)
    have h4 := pw_mono (show m + 2 ≤ n - 1 by omega)
    have h5 := d2.lt
    have h6 : pw (m + 2) = pw (m + 1) * 1000000000 := rfl
    have h7 := Int.mul_nonneg hk0 (Int.le_of_lt hB1)
    rw [hBB.out] at h5
    omega
  have hsl := ho.sl (by omega)
  have hless := fun (W : World) (hW : Ext wr W) => r3less_ok p q n (m + 1) c c2 f g W (hsl.ext hW) ((h2.ext (.of_below hB0)).ext hW) d1 d2
  rw [hBB.out] at hless
  by_cases hge : BB ≤ vf f n
  ·rw [decide_eq_false (by omega)] at hless
   have hnm1 : m + 1 ≤ n := d2.len_le d1 (by rw [hBB.out]; exact hge)
   have hmn : m < n := by omega
   have hmul := Int.mul_nonneg hk0 (Int.le_of_lt hB1)
   obtain ⟨tk0, tk1⟩ := tak_some d1.lo d2 (by rw [hBB.out]; exact hge) hnm hmn
   have tk2 := tak_bound d1.lo d2 (by rw [hBB.out]; omega) hnm hmn
   have f0 := d1.lo m hmn
   have f9 := d1.hi m hmn
   have g0 := d2.lo m (by omega)
   have g9 := d2.hi m (by omega)
   have x0 := xt_lo d1.lo (m + 1)
   have x9 := xt_hi d1.hi (m + 1)
   rw [hBB.out] at tk1
   obtain ⟨b', off', rfl, hb', hcell'⟩ := hx2 (by omega)
   have a2 := (hB0.cell (p := ⟨b', off' + m, none⟩) hb').trans (hcell' m (by omega))
   obtain ⟨G, cap, hp1, hGb, hcap, hrow⟩ : ∃ g cap, Value.slice p n c = .slice (some ⟨g, 0, none⟩) n cap ∧ base ≤ g ∧ n ≤ cap ∧ RowF wr g n f := by
    rcases ho.open with ⟨_, h0⟩ | h
    ·omega
    ·exact h
   obtain ⟨rfl, rfl⟩ : p = some ⟨G, 0, none⟩ ∧ c = cap := by simpa using hp1
   have a1 := hrow.cell m hmn
   have hgl := hrow.lt
   have hTI : TInv w0 wr base G n f := ⟨hrow, hGb, hlow, hB0, hbase⟩
   have hat1 := fun (W : World) (hW : Ext wr W) => r3at_ok (some ⟨G, 0, none⟩) n c (m + 1) f W (hsl.ext hW)
   have hm1' : (m : Int) < n := by omega
   have hm2' : (m : Int) < m + 1 := by omega
   clear hcell' hp1 ho hsl
   go_wp2_with fail
   refine (hless wr (Ext.refl _)).mono ?_
   rintro e W1 ⟨rfl, kl, rfl⟩
   replace hTI : TInv w0 (wr.drewN kl) base G n f := ⟨hrow.drewN kl, hGb, hlow, below_drewN hB0 _, hbase⟩
   have hx1 : Ext wr (wr.drewN kl) := .of_below (below_drewN (Below.refl _ _) kl)
   replace a1 : (wr.drewN kl).cell? ⟨G, m, none⟩ = some (.int .i64 (f m)) := a1
   replace a2 : (wr.drewN kl).cell? ⟨b', off' + m, none⟩ = some (.int .i64 (g m)) := a2
   clear hless hrow hB0 hbase hgl
   generalize wr.drewN kl = V at *
   go_wp2
   refine wp_region_held_drew (S := fun w' => w'.cell? ⟨G, m, none⟩ = some (.int .i64 (f m)) ∧ w'.cell? ⟨b', off' + m, none⟩ = some (.int .i64 (g m)) ∧ Ext wr w') (by as_aux_lemma => kernel_rfl) ⟨a1, a2, hx1.drew⟩ (fun hHeld => ?_)
   have hTX := hTI.drew
   generalize V.drew = X0 at *
   refine tk 0 (some 19) ?_
   refine tk 1 (some 20) ?_
   refine tk 2 (some 21) ?_
   refine tk 5 (some 24) ?_
   refine tk 6 (some 25) ?_
   refine tk 7 (some 26) ?_
   refine tk 8 (some 27) ?_
   refine tk 10 (some 29) ?_
   refine tk 11 (some 30) ?_
   refine tk 12 (some 31) ?_
   refine tk 13 (some 32) ?_
   refine tk 14 (some 33) ?_
   rw [show IntKind.i64.wrap ((m : Int) + 1) = ((m + 1 : Nat) : Int) from by rw [wrapId (by omega) (by omega)]; rfl, wrapId (z := g m + 1) (by omega) (by omega)]
   refine Mono.stc 3 (some 22) (hat1 X0 hHeld.2.2) (fun e X1 hR => ?_)
   obtain ⟨rfl, rfl⟩ := hR
   refine ⟨(hHeld), fun hHeld => Mono.pt ?_⟩
   generalize xt f n (m + 1) = x at *
   generalize f m = y at *
   generalize g m = t at *
   refine tk 4 (some 23) ?_
   refine tk 9 (some 28) ?_
   rw [wrapId (z := x * 1000000000) (by omega) (by omega), wrapId (z := x * 1000000000 + y) (by omega) (by omega)]
   have ht0 : (t + 1 == 0) = false := by simp; omega
   have ht1 : t + 1 ≠ 0 := by omega
   refine tk 15 (some 34) ?_
   have hH : 0 ≤ x * 1000000000 + y := by omega
   rw [Int.tdiv_eq_ediv_of_nonneg hH, wrapId (z := (x * 1000000000 + y) / (t + 1)) (by omega) (by omega)]
   generalize (x * 1000000000 + y) / (t + 1) = kk at *
   refine tk 16 (some 8) ?_
   refine wpAnyH_done (by as_aux_lemma => kernel_rfl) ?_ _
   clear hHeld hat1 hTI a1 a2 hx1 ht0 ht1 hH x0 x9 f0 f9 g0 g9
   obtain ⟨K, hK, hK1, hK9, hKB⟩ : ∃ K : Int, (K = if kk = 0 then 1 else kk) ∧ 1 ≤ K ∧ K < 1000000000 ∧ K * BB ≤ vf f n := by
    by_cases h : kk = 0
    ·exact ⟨1, by rw [if_pos h], by omega, by omega, by omega⟩
    ·exact ⟨kk, by rw [if_neg h], by omega, by omega, tk1⟩
   replace hK := Lib.hid hK
   replace hKB := Lib.hid hKB
   have hkK : (k + K) * BB ≤ RR := by
    have := hKB.out
    rw [Int.add_mul]; omega
   have hkK9 : k + K < 1000000000 := Int.lt_of_mul_lt_mul_right (a := BB) (by rw [Int.mul_comm 1000000000]; omega) (by omega)
   by_cases hkz : kk = 0
   ·subst hkz
    have hKv := hK.out
    rw [if_pos rfl] at hKv
    obtain rfl : K = 1 := hKv
    clear hK
    go_wp2
    go_loopw [9, 10] (fun a b wr => ∃ (i : Nat) (c : Int) (h : Nat → Int), i ≤ n ∧ a = .int .i64 c ∧ b = .int .i64 (i : Int) ∧ TakI f (xt g (m + 1)) 1 i h c ∧ TInv w0 wr base G n (fun j => if j < i then h j else f j)) (fun _ b _ => (n - intOf b).toNat)
    case atStart => exact ⟨0, 0, fun _ => 0, Nat.zero_le _, rfl, rfl, TakI.start _ _ _ _, hTX.congr fun j _ => by rw [if_neg (by omega)]⟩
    case round =>
     clear hTX hHeld
     obtain ⟨i, c', h, hi, rfl, rfl, hT, hTI⟩ := hrel
     have hrow := hTI.row
     by_cases hin : i < n
     ·have hin' : (i : Int) < n := by omega
      have x0 := d1.lo i hin
      have x9 := d1.hi i hin
      have y0 := xt_lo d2.lo i
      have y9 := xt_hi d2.hi i
      have hnx := hT.next x0 x9 y0 y9 (by omega) hK9
      obtain ⟨q0, q9⟩ := mul_dig y0 y9 (show 0 ≤ 1 by omega) hK9
      have r0 := hT.c0
      have r9 := hT.c1
      have a1 := hrow.cell i hin
      rw [if_neg (Nat.lt_irrefl i)] at a1
      have hat2 := fun (W : World) (hW : Below w0.heap.size w0 W) => r3at_ok (some ⟨b', off', none⟩) (m + 1) c2 i g W (h2.ext (.of_below hW))
      go_wp2
      refine wp_region_held_drew (S := fun w' => w'.cell? ⟨G, i, none⟩ = some (.int .i64 (f i)) ∧ Below w0.heap.size w0 w') (by as_aux_lemma => kernel_rfl) ⟨a1, hTI.below.drew⟩ (fun hHeld => ?_)
      have hTX := hTI.drew
      generalize wr.drew = X0 at *
      refine tk 0 (some 46) ?_
      refine tk 1 (some 47) ?_
      refine tk 2 (some 48) ?_
      refine tk 3 (some 49) ?_
      refine tk 4 (some 50) ?_
      refine tk 5 (some 51) ?_
      refine tk 7 (some 53) ?_
      refine tk 10 (some 56) ?_
      refine Mono.stc 6 (some 52) (hat2 X0 hHeld.2) (fun e X1 hR => ?_)
      obtain ⟨rfl, rfl⟩ := hR
      refine ⟨(hHeld), fun hHeld => Mono.pt ?_⟩
      generalize xt g (m + 1) i = y at *
      generalize hfi : f i = x at *
      refine tk 8 (some 54) ?_
      refine tk 9 (some 55) ?_
      refine tk 11 (some 57) ?_
      refine tk 12 (some 11) ?_
      rw [wrapId (z := y) (by omega) (by omega), wrapId (z := x - y) (by omega) (by omega), wrapId (z := x - y + c') (by omega) (by omega)]
      rw [Int.mul_one] at hnx
      refine wpAnyH_done (by as_aux_lemma => kernel_rfl) ?_ _
      have hHB := hHeld.2
      have e1 : -2000000000000000000 ≤ x - y + c' := by omega
      have e2 : x - y + c' ≤ 1000000000 := by omega
      clear hHeld hat2 q0 q9 hT hTI a1 hrow
      generalize x - y + c' = e at *
      obtain ⟨p1, p2⟩ := floor_parts e
      have hmm : (e.tmod 1000000000).natAbs < 1000000000 := by rw [Int.natAbs_tmod]; exact Nat.mod_lt _ (by decide)
      have t1 : -1000000000 < e.tmod 1000000000 := by omega
      have t2 : e.tmod 1000000000 < 1000000000 := by omega
      have hw : wrap64 (e.tdiv 1000000000) = e.tdiv 1000000000 := by
       have := Int.natAbs_tdiv e 1000000000
       unfold wrap64; omega
      have a3 := hTX.row.cell i hin
      have a4 := hTX.row.frozen i
      have hst := hTX.set i (e % 1000000000)
      replace p1 := Lib.hid p1
      replace p2 := Lib.hid p2
      by_cases hneg : e.tmod 1000000000 < 0
      ·obtain ⟨z1, z2⟩ := p1.out hneg
       go_wp2
       go_roundw
       case rel =>
        refine ⟨i + 1, e / 1000000000, _, by omega, by first | rfl | rw [z2], by simp, hnx, ?_⟩
        try rw [z1]
        exact hst.congr fun j hj => by
         by_cases hji : j = i
         ·subst hji; simp
         ·simp only [if_neg hji]
          by_cases hlt : j < i
          ·rw [if_pos hlt, if_pos (by omega)]
          ·rw [if_neg hlt, if_neg (by omega)]
       case measure => simp [intOf]; omega
      ·obtain ⟨z1, z2⟩ := p2.out hneg
       go_wp2
       go_roundw
       case rel =>
        refine ⟨i + 1, e / 1000000000, _, by omega, by first | rfl | rw [z2], by simp, hnx, ?_⟩
        try rw [z1]
        exact hst.congr fun j hj => by
         by_cases hji : j = i
         ·subst hji; simp
         ·simp only [if_neg hji]
          by_cases hlt : j < i
          ·rw [if_pos hlt, if_pos (by omega)]
          ·rw [if_neg hlt, if_neg (by omega)]
       case measure => simp [intOf]; omega
     ·obtain rfl : i = n := by omega
      have hval := hT.done (m := m + 1) hnm1 (by rw [hBB.out]; exact hKB.out)
      rw [hBB.out] at hval
      have hsl2 : SlF wr (.slice (some ⟨G, 0, none⟩) i c) i h := SlF.congr (hrow.slice (by omega) i (Nat.le_refl _) c hcap) (fun j hj => if_pos hj)
      have hmm := fun W1 hW1 => r3made_ok false (some ⟨G, 0, none⟩) i c h W1 (hsl2.ext hW1) (by omega) hT.lo hT.hi
      have hBw := hTI.below
      have hsz := hTI.size
      replace hval := Lib.hid hval
      clear hT hrow hsl2 hx2
      go_wp2_with fail
      refine (hmm wr (Ext.refl _)).mono ?_
      rintro e W2 ⟨v', rfl, ho2, d3, e3, hb⟩
      have hBw2 := belowCall hBw hb
      have hsz2 := hb.size
      obtain ⟨p', c'', rfl⟩ := ho2.shape
      have hf0 : ∀ w : World, (Instr.field 35 (.agg #[.bool false, .slice p' (trimN h i) c'']) 1).run Tryz.prog w = .ok (.slice p' (trimN h i) c'') w := fun _ => by kernel_rfl
      clear hmm hTI hBw
      go_wp2
      go_roundw
      case rel =>
       refine ⟨trimN h i, h, k + 1, ho2.lower (by omega), rfl, d3, ?_, by omega, hBw2, by omega⟩
       rw [e3, hval.out, Int.add_mul]; omega
      case measure => simp [intOf]; omega
   ·have hKv := hK.out
    rw [if_neg hkz] at hKv
    obtain rfl : K = kk := hKv
    have hkz' : (K == 0) = false := by simpa using hkz
    clear hK
    go_wp2
    go_loopw [9, 10] (fun a b wr => ∃ (i : Nat) (c : Int) (h : Nat → Int), i ≤ n ∧ a = .int .i64 c ∧ b = .int .i64 (i : Int) ∧ TakI f (xt g (m + 1)) K i h c ∧ TInv w0 wr base G n (fun j => if j < i then h j else f j)) (fun _ b _ => (n - intOf b).toNat)
    case atStart => exact ⟨0, 0, fun _ => 0, Nat.zero_le _, rfl, rfl, TakI.start _ _ _ _, hTX.congr fun j _ => by rw [if_neg (by omega)]⟩
    case round =>
     clear hTX hHeld
     obtain ⟨i, c', h, hi, rfl, rfl, hT, hTI⟩ := hrel
     have hrow := hTI.row
     by_cases hin : i < n
     ·have hin' : (i : Int) < n := by omega
      have x0 := d1.lo i hin
      have x9 := d1.hi i hin
      have y0 := xt_lo d2.lo i
      have y9 := xt_hi d2.hi i
      have hnx := hT.next x0 x9 y0 y9 (by omega) hK9
      obtain ⟨q0, q9⟩ := mul_dig y0 y9 (show 0 ≤ K by omega) hK9
      have r0 := hT.c0
      have r9 := hT.c1
      have a1 := hrow.cell i hin
      rw [if_neg (Nat.lt_irrefl i)] at a1
      have hat2 := fun (W : World) (hW : Below w0.heap.size w0 W) => r3at_ok (some ⟨b', off', none⟩) (m + 1) c2 i g W (h2.ext (.of_below hW))
      go_wp2
      refine wp_region_held_drew (S := fun w' => w'.cell? ⟨G, i, none⟩ = some (.int .i64 (f i)) ∧ Below w0.heap.size w0 w') (by as_aux_lemma => kernel_rfl) ⟨a1, hTI.below.drew⟩ (fun hHeld => ?_)
      have hTX := hTI.drew
      generalize wr.drew = X0 at *
      refine tk 0 (some 46) ?_
      refine tk 1 (some 47) ?_
      refine tk 2 (some 48) ?_
      refine tk 3 (some 49) ?_
      refine tk 4 (some 50) ?_
      refine tk 5 (some 51) ?_
      refine tk 7 (some 53) ?_
      refine tk 10 (some 56) ?_
      refine Mono.stc 6 (some 52) (hat2 X0 hHeld.2) (fun e X1 hR => ?_)
      obtain ⟨rfl, rfl⟩ := hR
      refine ⟨(hHeld), fun hHeld => Mono.pt ?_⟩
      generalize xt g (m + 1) i = y at *
      generalize hfi : f i = x at *
      refine tk 8 (some 54) ?_
      refine tk 9 (some 55) ?_
      refine tk 11 (some 57) ?_
      refine tk 12 (some 11) ?_
      rw [wrapId (z := y * K) (by omega) (by omega), wrapId (z := x - y * K) (by omega) (by omega), wrapId (z := x - y * K + c') (by omega) (by omega)]
      refine wpAnyH_done (by as_aux_lemma => kernel_rfl) ?_ _
      have hHB := hHeld.2
      have e1 : -2000000000000000000 ≤ x - y * K + c' := by omega
      have e2 : x - y * K + c' ≤ 1000000000 := by omega
      clear hHeld hat2 q0 q9 hT hTI a1 hrow
      generalize x - y * K + c' = e at *
      obtain ⟨p1, p2⟩ := floor_parts e
      have hmm : (e.tmod 1000000000).natAbs < 1000000000 := by rw [Int.natAbs_tmod]; exact Nat.mod_lt _ (by decide)
      have t1 : -1000000000 < e.tmod 1000000000 := by omega
      have t2 : e.tmod 1000000000 < 1000000000 := by omega
      have hw : wrap64 (e.tdiv 1000000000) = e.tdiv 1000000000 := by
       have := Int.natAbs_tdiv e 1000000000
       unfold wrap64; omega
      have a3 := hTX.row.cell i hin
      have a4 := hTX.row.frozen i
      have hst := hTX.set i (e % 1000000000)
      replace p1 := Lib.hid p1
      replace p2 := Lib.hid p2
      by_cases hneg : e.tmod 1000000000 < 0
      ·obtain ⟨z1, z2⟩ := p1.out hneg
       go_wp2
       go_roundw
       case rel =>
        refine ⟨i + 1, e / 1000000000, _, by omega, by first | rfl | rw [z2], by simp, hnx, ?_⟩
        try rw [z1]
        exact hst.congr fun j hj => by
         by_cases hji : j = i
         ·subst hji; simp
         ·simp only [if_neg hji]
          by_cases hlt : j < i
          ·rw [if_pos hlt, if_pos (by omega)]
          ·rw [if_neg hlt, if_neg (by omega)]
       case measure => simp [intOf]; omega
      ·obtain ⟨z1, z2⟩ := p2.out hneg
       go_wp2
       go_roundw
       case rel =>
        refine ⟨i + 1, e / 1000000000, _, by omega, by first | rfl | rw [z2], by simp, hnx, ?_⟩
        try rw [z1]
        exact hst.congr fun j hj => by
         by_cases hji : j = i
         ·subst hji; simp
         ·simp only [if_neg hji]
          by_cases hlt : j < i
          ·rw [if_pos hlt, if_pos (by omega)]
          ·rw [if_neg hlt, if_neg (by omega)]
       case measure => simp [intOf]; omega
     ·obtain rfl : i = n := by omega
      have hval := hT.done (m := m + 1) hnm1 (by rw [hBB.out]; exact hKB.out)
      rw [hBB.out] at hval
      have hsl2 : SlF wr (.slice (some ⟨G, 0, none⟩) i c) i h := SlF.congr (hrow.slice (by omega) i (Nat.le_refl _) c hcap) (fun j hj => if_pos hj)
      have hmm := fun W1 hW1 => r3made_ok false (some ⟨G, 0, none⟩) i c h W1 (hsl2.ext hW1) (by omega) hT.lo hT.hi
      have hBw := hTI.below
      have hsz := hTI.size
      replace hval := Lib.hid hval
      clear hT hrow hsl2 hx2
      go_wp2_with fail
      refine (hmm wr (Ext.refl _)).mono ?_
      rintro e W2 ⟨v', rfl, ho2, d3, e3, hb⟩
      have hBw2 := belowCall hBw hb
      have hsz2 := hb.size
      obtain ⟨p', c'', rfl⟩ := ho2.shape
      have hf0 : ∀ w : World, (Instr.field 35 (.agg #[.bool false, .slice p' (trimN h i) c'']) 1).run Tryz.prog w = .ok (.slice p' (trimN h i) c'') w := fun _ => by kernel_rfl
      clear hmm hTI hBw
      go_wp2
      go_roundw
      case rel =>
       refine ⟨trimN h i, h, k + K, ho2.lower (by omega), rfl, d3, ?_, by omega, hBw2, by omega⟩
       rw [e3, hval.out, Int.add_mul]; omega
      case measure => simp [intOf]; omega
  ·rw [decide_eq_true (by omega)] at hless
   have hdiv : vf f n = RR % BB ∧ k = RR / BB := by
    rw [← hv, Int.add_mul_ediv_right _ _ (by omega), Int.ediv_eq_zero_of_lt hf0 (by omega), Int.zero_add, Int.add_mul_emod_self_right, Int.emod_eq_of_lt hf0 (by omega)]
    exact ⟨rfl, rfl⟩
   replace hdiv := Lib.hid hdiv
   go_wp2_with fail
   refine (hless wr (Ext.refl _)).mono ?_
   rintro e W1 ⟨rfl, kl, rfl⟩
   clear hv hx2
   go_wp2
   go_ret2
   refine ⟨_, n, f, k, rfl, ho.below (below_drewN (Below.refl _ _) _), d1, hdiv.out.1, hdiv.out.2, below_drewN hB0 _, hbase⟩
end Go.Proofs.YtdgodcgdlfjpaaaGreatDoor
