/- A verified evaluator of the model, and the references of layer 40 by it. Part 6 of 8. No condition beside the row. -/
import Derived.Test.YtdgodcgdlfjpaaaGreatDoorA13
import Derived.Test.YtdgodcgdlfjpaaaGreatDoorA25
import Derived.Test.YtdgodcgdlfjpaaaGreatDoorE01
import Derived.Test.YtdgodcgdlfjpaaaGreatDoorE05
set_option linter.unusedVariables false
set_option linter.unusedSimpArgs false
set_option maxRecDepth 100000
set_option maxHeartbeats 4000000
namespace Go.Ev
open Go.RowKit Go.Mono
section
structure Ctr (D : Den) (P : Program) (w0 : World) (X : Nat → Prop) where
 f : FuncId
 run : List SA → List (Nat × Blk) → Nat → List (Option Bool) → Option OpR
 sound : ∀ args bk c orc r, run args bk c orc = some r → (∀ p ∈ r.obl, p) → ∀ ρ wc w vals, Sat D w0 X c ρ wc w bk → (∀ k b, bk.lookup k = some b → k < c) → (∀ k, c ≤ k → k < r.c → ρ k = none) → denAs D ρ wc args vals →
  Calls P f vals.toArray w fun e w' => ∃ v ρ' wc', e = .returned v ∧ denV D ρ' wc' r.v v ∧ Sat D w0 X r.c ρ' wc' w' (r.wr ++ bk) ∧ Evo ρ wc w bk c r.c ρ' wc' w' (r.wr ++ bk)
def Ctr.plain {D : Den} {P : Program} {w0 : World} {X : Nat → Prop} (f : FuncId) (run : List SA → List (Nat × Blk) → List (Option Bool) → Option (SV × List Prop × List (Option Bool)))
    (sound : ∀ args bk orc v obl orc', run args bk orc = some (v, obl, orc') → (∀ p ∈ obl, p) → ∀ ρ w vals, Frm w0 X w → BkOk D ρ w w bk → denAs D ρ w args vals →
     Calls P f vals.toArray w fun e w' => ∃ u, e = .returned u ∧ denV D ρ w' v u ∧ Below w.heap.size w w') : Ctr D P w0 X where
 f := f
 run := fun args bk c orc => match run args bk orc with
  | some (v, obl, orc') => some ⟨v, [], obl, orc', c⟩
  | none => none
 sound := by
  intro args bk c orc r h hobl ρ wc w vals hS hlt hn hargs
  split at h
  ·rename_i v obl orc' hr
   cases h
   refine (sound _ _ _ _ _ _ hr hobl ρ w vals hS.fr (fun k b hk => ?_) (hargs.mono (Nm.le.refl _) hS.ext)).mono ?_
   ·obtain ⟨B, cs, h1, h2, h3, h4⟩ := hS.bkOk k b hk
    exact ⟨B, cs, h1, h2, h3.mono (Nm.le.refl _) hS.ext, h4⟩
   ·rintro e w' ⟨u, rfl, hu, hb⟩
    obtain ⟨k1, k2⟩ := hS.call (fun k b hk => Nat.not_le.2 (hlt k b hk)) hb c
    exact ⟨u, ρ, w', rfl, hu, k1, k2⟩
  ·cases h
section
variable {D : Den} {P : Program} {w0 : World} {X : Nat → Prop}
def specOf (f : FuncId) : List (Ctr D P w0 X) → Option (Ctr D P w0 X)
 | [] => none
 | p :: r => if Nat.beq p.f f then some p else specOf f r
theorem specOf_ok {f : FuncId} : ∀ {l : List (Ctr D P w0 X)} {p : Ctr D P w0 X}, specOf f l = some p → p.f = f
 | [], p, h => by cases h
 | q :: r, p, h => by
   unfold specOf at h
   split at h
   ·rename_i e
    cases h
    exact Nat.eq_of_beq_eq_true e
   ·exact specOf_ok h
def frame0 (i : Nat) : List SA → List (Nat × SV)
 | [] => []
 | x :: r => (i, .a x) :: frame0 (i + 1) r
def resS (P : Program) (s : Stt) : List ResultVar → Option (List SA)
 | [] => some []
 | .tmp t :: r => match s.tm.lookup t with
   | some (.a x) => (resS P s r).map (x :: ·)
   | _ => none
 | .cell ad ty :: r => match loadS P ty (s.tm.lookup ad) s.bk with
   | some (.a x) => (resS P s r).map (x :: ·)
   | _ => none
def resV : List SA → SV
 | [x] => .a x
 | l => .tup l
def FU : Nat := 100000
def specRun (sp : List (Ctr D P w0 X)) (f : FuncId) (args : List SA) (bk : List (Nat × Blk)) (c : Nat) (orc : List (Option Bool)) : Option OpR :=
 match specOf f sp with
 | some p => p.run args bk c orc
 | none => none
def evF (P : Program) (sp : List (Ctr D P w0 X)) : Nat → CallS
 | 0 => fun _ _ _ _ _ => none
 | d + 1 => fun f args bk c orc =>
   match specRun sp f args bk c orc with
   | some r => some r
   | none => (match P.funcs[f]? with
     | some fn => (match fn.body with
       | some code => (match evC P (evF P sp d) (args.length + (fn.ntmps - args.length)) FU code ⟨frame0 0 args, bk, c, c, orc⟩ with
         | some (.exit _, _, _) => none
         | some (_, s', q) => (match resS P s' fn.results.toList with
           | some l => some ⟨resV l, s'.bk.take (s'.bk.length - bk.length), q, s'.orc, s'.c⟩
           | none => none)
         | none => none)
       | none => none)
     | none => none)
theorem frame0_at {ρ : Nm} {w : World} : ∀ {l : List SA} {vs : List Value} {i t : Nat} {x : SV}, denAs D ρ w l vs → (frame0 i l).lookup t = some x → ∃ v, i ≤ t ∧ vs[t - i]? = some v ∧ denV D ρ w x v
 | [], vs, i, t, x, h, hx => by simp [frame0] at hx
 | y :: l, vs, i, t, x, ⟨v, r, e, hv, hr⟩, hx => by
   subst e
   unfold frame0 at hx
   rw [lookup_cons] at hx
   split at hx
   ·rename_i e
    cases hx
    subst e
    exact ⟨v, Nat.le_refl _, by simp, hv⟩
   ·obtain ⟨v', h1, h2, h3⟩ := frame0_at hr hx
    refine ⟨v', by omega, ?_, h3⟩
    rw [show t - i = (t - (i + 1)) + 1 by omega, List.getElem?_cons_succ]
    exact h2
theorem denAs.len {ρ : Nm} {w : World} : ∀ {l : List SA} {vs : List Value}, denAs D ρ w l vs → vs.length = l.length
 | [], vs, e => by rw [show vs = [] from e]; rfl
 | y :: l, vs, ⟨v, r, e, hv, hr⟩ => by rw [e, List.length_cons, denAs.len hr]; rfl
theorem frame0_ok {ρ : Nm} {w : World} {l : List SA} {vs : List Value} (h : denAs D ρ w l vs) (m : Nat) :
  TSat D ρ w (l.length + m) (frame0 0 l) { tmps := vs.toArray ++ Array.replicate m undef, defers := [] } := by
 refine ⟨by simp [h.len], fun t x hx => ?_⟩
 obtain ⟨v, h1, h2, h3⟩ := frame0_at h hx
 refine ⟨v, ?_, h3⟩
 have ht : t < vs.length := by
  have := (List.getElem?_eq_some_iff.1 h2).1
  omega
 show (vs.toArray ++ Array.replicate m undef)[t]? = some v
 rw [Array.getElem?_append_left (by simpa using ht)]
 simpa using h2
def resOf (a : Act) : ResultVar → Sem Value
 | .tmp t => pure (a.tmps.getD t undef)
 | .cell ad t => do loadVar t (← asAddr (a.tmps.getD ad undef))
theorem resS_ok {ρ : Nm} {wc w : World} {n : Nat} {s : Stt} {a : Act} (hT : TSat D ρ wc n s.tm a) (hB : BkOk D ρ wc w s.bk) : ∀ {l : List ResultVar} {xs : List SA}, resS P s l = some xs →
  ∃ vs, (l.mapM (resOf a)).run P w = .ok vs w ∧ denAs D ρ wc xs vs
 | [], xs, h => by cases h; exact ⟨[], rfl, rfl⟩
 | .tmp t :: r, xs, h => by
   unfold resS at h
   split at h
   ·rename_i x hx
    obtain ⟨ys, hy, rfl⟩ := Option.map_eq_some_iff.1 h
    obtain ⟨vs, h1, h2⟩ := resS_ok hT hB hy
    refine ⟨a.tmps.getD t undef :: vs, ?_, _, _, rfl, hT.get (x := .tmp t) hx, h2⟩
    have h6 : (resOf a (.tmp t)).run P w = .ok (a.tmps.getD t undef) w := rfl
    rw [List.mapM_cons]
    simp only [Sem.run_bind, h6, h1, Result.andThen_ok, Sem.run_pure]
   ·cases h
 | .cell ad ty :: r, xs, h => by
   unfold resS at h
   split at h
   ·rename_i x hx
    obtain ⟨ys, hy, rfl⟩ := Option.map_eq_some_iff.1 h
    obtain ⟨vs, h1, h2⟩ := resS_ok hT hB hy
    obtain ⟨v, h3, h4⟩ := loadS_ok (P := P) (get := getS s.tm) (ev := a.eval) (x := .tmp ad) (fun x z hz => hT.get hz) hB hx
    refine ⟨v :: vs, ?_, _, _, rfl, h4, h2⟩
    have e : ∃ p, a.tmps.getD ad undef = .pointer (some p) := by
     have hx' := hx
     unfold loadS at hx'
     split at hx'
     ·rename_i k off hk
      obtain ⟨B, hB, e⟩ := hT.get (x := .tmp ad) hk
      have e2 : a.eval (.tmp ad) = .pointer (some ⟨B.blk, B.base + off, none⟩) := by simpa using e
      exact ⟨_, e2⟩
     ·cases hx'
    obtain ⟨p, e⟩ := e
    have h5 : (loadVar ty p).run P w = .ok v w := by
     have : a.eval (.tmp ad) = .pointer (some p) := e
     rw [this] at h3
     exact h3
    have h6 : (resOf a (.cell ad ty)).run P w = .ok v w := by
     show (do loadVar ty (← asAddr (a.tmps.getD ad undef)) : Sem Value).run P w = _
     rw [e]
     exact h5
    rw [List.mapM_cons]
    simp only [Sem.run_bind, h6, h1, Result.andThen_ok, Sem.run_pure]
   ·cases h
theorem results_ok {ρ : Nm} {wc w : World} {n : Nat} {s : Stt} {a : Act} (hT : TSat D ρ wc n s.tm a) (hB : BkOk D ρ wc w s.bk) {fn : Func} {xs : List SA} (h : resS P s fn.results.toList = some xs) :
  ∃ v, (results fn a.tmps).run P w = .ok v w ∧ denV D ρ wc (resV xs) v := by
 obtain ⟨vs, h1, h2⟩ := resS_ok (P := P) hT hB h
 have hres : results fn a.tmps = (do
   let vs ← fn.results.mapM (resOf a)
   pure (if h : vs.size = 1 then vs[0] else .tuple vs)) := by
  unfold results
  congr 1
 rw [hres, Array.mapM_eq_mapM_toList]
 refine ⟨if h : vs.toArray.size = 1 then vs.toArray[0] else .tuple vs.toArray, ?_, ?_⟩
 ·simp only [Sem.run_bind, map_eq_pure_bind, h1, Result.andThen_ok, Sem.run_pure]
 ·match xs, vs, h2 with
  | [], vs, h2 =>
    obtain rfl : vs = [] := h2
    exact ⟨[], rfl, rfl⟩
  | [x], vs, h2 =>
    obtain ⟨v, r, e, hv, hr⟩ := h2
    obtain rfl : r = [] := hr
    subst e
    exact hv
  | x :: y :: l, vs, h2 =>
    have h3 := h2.len
    rw [dif_neg (by simp [h3])]
    exact ⟨vs, rfl, h2⟩
theorem evF_ok (hm : P.follows .mixedOrders = true) (sp : List (Ctr D P w0 X)) : ∀ d, CallOk D P w0 X (evF P sp d)
 | 0 => fun f args bk c orc r h => by simp [evF] at h
 | d + 1 => by
   have ih := evF_ok hm sp d
   intro f args bk c orc r h hobl ρ wc w vals hS hlt hn hargs
   simp only [evF] at h
   split at h
   ·rename_i r' hsr
    cases h
    unfold specRun at hsr
    split at hsr
    ·rename_i p hp
     obtain rfl := specOf_ok hp
     exact p.sound _ _ _ _ _ hsr hobl ρ wc w vals hS hlt hn hargs
    ·cases hsr
   ·split at h
    ·rename_i fn hf
     split at h
     ·rename_i code hb
      split at h
      ·cases h
      ·rename_i o s' q hnx hev
       split at h
       ·rename_i l hl
        cases h
        obtain ⟨pc, pre, hpre⟩ := evC_pre hev
        dsimp only at hpre pc
        have htake : s'.bk.take (s'.bk.length - bk.length) ++ bk = s'.bk := by
         rw [hpre, List.length_append, Nat.add_sub_cancel, List.take_left]
        refine calls_of_wp hf hb ?_
        have hsz : vals.toArray.size = args.length := by simp [hargs.len]
        rw [hsz]
        refine evC_ok ih hm FU code _ s' o q ρ wc w _ _ hev hobl hS (frame0_ok hargs _) hn ?_
        intro ρ' wc' w' a' k1 k2 k3 k4
        obtain ⟨v, hv1, hv2⟩ := results_ok (P := P) k2 k1.bkOk hl
        have hfin : ∃ v ρ' wc', Ending.returned v = .returned v ∧ True := ⟨v, ρ', wc', rfl, trivial⟩
        have hR : a'.defers = [] ∧ ∃ v, (results fn a'.tmps).run P w' = .ok v w' ∧ ∃ v' ρ' wc', Ending.returned v = .returned v' ∧ denV D ρ' wc' (resV l) v' ∧
          Sat D w0 X s'.c ρ' wc' w' (s'.bk.take (s'.bk.length - bk.length) ++ bk) ∧ Evo ρ wc w bk c s'.c ρ' wc' w' (s'.bk.take (s'.bk.length - bk.length) ++ bk) := by
         refine ⟨k3, v, hv1, v, ρ', wc', rfl, hv2, ?_, ?_⟩
         ·rw [htake]
          refine k1.reth fun k b hk => ?_
          rcases k4.ids k b hk with h1 | ⟨_, h2, _⟩
          ·obtain ⟨x, hx⟩ := Option.isSome_iff_exists.1 h1
           exact Nat.lt_of_lt_of_le (hlt k x hx) pc
          ·exact h2
         ·rw [htake]; exact k4
        cases o with
        | norm => exact hR
        | ret => exact hR
        | exit id => exact (hnx id rfl).elim
       ·cases h
      ·cases h
     ·cases h
    ·cases h
end
end
end Go.Ev
namespace Go.Mono
open Go.RowKit
theorem Box.results2s {P : Program} {w : World} {B B1 : Nat} {T T1 : TypeId} {cs cs1 : Array Value} (b : Box w B T cs) (b1 : Box w B1 T1 cs1) {fn : Func} {p p1 : Tmp} {ty ty1 : TypeId} (h : fn.results = #[.cell p ty, .cell p1 ty1]) (tmps : Array Value) (d d1 : TypeDesc)
  (ht : tmps.getD p undef = .pointer (some ⟨B, 0, none⟩)) (ht1 : tmps.getD p1 undef = .pointer (some ⟨B1, 0, none⟩)) (hu : P.underlying ty = some d) (hd : d.isRow = true) (hi : (P.info? ty).map (·.size) = some cs.size)
  (hu1 : P.underlying ty1 = some d1) (hd1 : d1.isRow = true) (hi1 : (P.info? ty1).map (·.size) = some cs1.size) : (Go.results fn tmps).run P w = .ok (.tuple #[.agg cs, .agg cs1]) w := by
 have hp' : tmps[p]?.getD undef = .pointer (some ⟨B, 0, none⟩) := by simpa using ht
 have hp1 : tmps[p1]?.getD undef = .pointer (some ⟨B1, 0, none⟩) := by simpa using ht1
 have hld := run_loadVar_row (P := P) w B T ty cs (0, 0) d b.blk hu (by cases d <;> simp_all [TypeDesc.isRow]) hi
 have hld1 := run_loadVar_row (P := P) w B1 T1 ty1 cs1 (0, 0) d1 b1.blk hu1 (by cases d1 <;> simp_all [TypeDesc.isRow]) hi1
 simp [Go.results, h, hp', hp1, asAddr, hld, hld1]
theorem OwnF.lit (w : World) (x : Int) : OwnF (w.alloc (.cells #[.int .i64 x] 3)) w.heap.size (.slice (some ⟨w.heap.size, 0, none⟩) 1 1) 1 (fun _ => x) :=
 ⟨by simp, .inr ⟨w.heap.size, 1, #[.int .i64 x], rfl, Nat.le_refl _, (Box.new _ _ _).blk, Nat.le_refl _, by simp [maxLen], rfl, rfl⟩⟩
theorem cells_other {X : World} {B R j : Nat} {u : Value} {A : Array Value} (h : ∀ i, X.cell? ⟨B, i, none⟩ = A[i]?) (hne : B ≠ R) : ∀ i, (X.setCell ⟨R, j, none⟩ u).cell? ⟨B, i, none⟩ = A[i]? := fun i =>
 (World.cell?_of_block (a := ⟨B, i, none⟩) (Below.heap_setCell X ⟨R, j, none⟩ u B hne)).trans (h i)
structure QInv (w wr : World) (T : TypeId) (R n : Nat) (q : Nat → Int) (A0 A1 : Array Value) : Prop where
 row : RowF wr R n q
 b0 : Box wr w.heap.size T A0
 b1 : Box wr (w.heap.size + 1) T A1
 b2 : Box wr (w.heap.size + 1 + 1) T #[.bool false, .slice none 0 0]
 b3 : Box wr (w.heap.size + 1 + 1 + 1) T #[.bool false, .slice none 0 0]
 below : Below w.heap.size w wr
 above : w.heap.size + 1 + 1 + 1 + 1 ≤ R
theorem QInv.of_below {w wr w' : World} {T : TypeId} {R n : Nat} {q : Nat → Int} {A0 A1 : Array Value} (h : QInv w wr T R n q A0 A1) (hb : Below (R + 1) wr w') : QInv w w' T R n q A0 A1 := by
 have ha := h.above
 obtain ⟨cs, h1, h2⟩ := h.row
 exact ⟨⟨cs, (hb.block R (by omega)).trans h1, h2⟩, h.b0.low hb (by omega), h.b1.low hb (by omega), h.b2.low hb (by omega), h.b3.low hb (by omega), h.below.trans (hb.mono (by omega)), ha⟩
theorem QInv.set {w wr : World} {T : TypeId} {R n : Nat} {q : Nat → Int} {A0 A1 : Array Value} (h : QInv w wr T R n q A0 A1) (j : Nat) (x : Int) : QInv w (wr.setCell ⟨R, j, none⟩ (.int .i64 x)) T R n (fun i => if i = j then x else q i) A0 A1 := by
 have ha := h.above
 exact ⟨h.row.set j x, h.b0.other _ _ (by show w.heap.size ≠ R; omega), h.b1.other _ _ (by show w.heap.size + 1 ≠ R; omega), h.b2.other _ _ (by show w.heap.size + 1 + 1 ≠ R; omega), h.b3.other _ _ (by show w.heap.size + 1 + 1 + 1 ≠ R; omega), belowSet h.below (by omega) _ _, ha⟩
end Go.Mono
namespace Go.Proofs.YtdgodcgdlfjpaaaGreatDoor
open Go.RowKit Go.Mono
theorem r3parts_digits (s t : Bool) (p q : Option Addr) (n m c1 c2 : Nat) (f g : Nat → Int) (w : World) (h1 : SlF w (.slice p n c1) n f) (h2 : SlF w (.slice q (m + 1) c2) (m + 1) g) (d1 : Digs f n) (d2 : Digs g (m + 1)) (hn6 : n ≤ 100000) (hm6 : m ≤ 100000) :
  Calls Tryz.prog 248 #[.agg #[.bool s, .slice p n c1], .agg #[.bool t, .slice q (m + 1) c2]] w fun e w' => ∃ p1 k1 c1 h1 p2 k2 c2 h2, e = .returned (.tuple #[.agg #[.bool ((s != t) && decide (0 < vf f n / vf g (m + 1))), .slice p1 k1 c1], .agg #[.bool (s && decide (0 < vf f n % vf g (m + 1))), .slice p2 k2 c2]]) ∧
   SlF w' (.slice p1 k1 c1) k1 h1 ∧ Digs h1 k1 ∧ vf h1 k1 = vf f n / vf g (m + 1) ∧ k1 ≤ n ∧ SlF w' (.slice p2 k2 c2) k2 h2 ∧ Digs h2 k2 ∧ vf h2 k2 = vf f n % vf g (m + 1) ∧ k2 ≤ m + 1 ∧ Below w.heap.size w w' := by
 obtain ⟨hc1, hn1, hx1⟩ := h1.opens
 obtain ⟨hc2, hn2, hx2⟩ := h2.opens
 have hB1 : 0 < vf g (m + 1) := d2.pos.2 (by omega)
 obtain ⟨s1, hs1⟩ : ∃ sg : Bool, ((s != t) && decide (0 < vf f n / vf g (m + 1))) = sg := ⟨_, rfl⟩
 obtain ⟨s2, hs2⟩ : ∃ sg : Bool, (s && decide (0 < vf f n % vf g (m + 1))) = sg := ⟨_, rfl⟩
 rw [hs1, hs2]
 replace hs1 := Lib.hid hs1
 replace hs2 := Lib.hid hs2
 go_enter Tryz.func248, Tryz.ntmps248
 go_wp2_with (first
  | (at_make; refine wpList_make_ints _ rfl _ _ 33 rfl Tryz.underlying33 infoInt _ _ n rfl rfl (by simp) (by simp) (by omega) ?_; intro W1 r1 hb1; have q0 := ((((Box.new w 35 #[.bool s, .slice p n c1]).alloc (.cells #[.bool t, .slice q (m + 1) c2] 35)).alloc (.cells #[.bool false, .slice none 0 0] 35)).alloc (.cells #[.bool false, .slice none 0 0] 35)).below hb1; have cq0 := q0.cell))
 have hR : ((((w.alloc (.cells #[.bool s, .slice p n c1] 35)).alloc (.cells #[.bool t, .slice q (m + 1) c2] 35)).alloc (.cells #[.bool false, .slice none 0 0] 35)).alloc (.cells #[.bool false, .slice none 0 0] 35)).heap.size = w.heap.size + 1 + 1 + 1 + 1 := by simp
 rw [hR] at r1
 have hB := belowCall (belowAlloc (below3_new w (.cells #[.bool s, .slice p n c1] 35) (.cells #[.bool t, .slice q (m + 1) c2] 35) (.cells #[.bool false, .slice none 0 0] 35)) (.cells #[.bool false, .slice none 0 0] 35)) hb1
 have hI0 : QInv w W1 35 (w.heap.size + 1 + 1 + 1 + 1) n (fun _ => 0) #[.bool s, .slice p n c1] #[.bool t, .slice q (m + 1) c2] := by
  have b1 := Box.new (w.alloc (.cells #[.bool s, .slice p n c1] 35)) 35 #[.bool t, .slice q (m + 1) c2]
  have b3 := Box.new (((w.alloc (.cells #[.bool s, .slice p n c1] 35)).alloc (.cells #[.bool t, .slice q (m + 1) c2] 35)).alloc (.cells #[.bool false, .slice none 0 0] 35)) 35 #[.bool false, .slice none 0 0]
  simp only [World.size_alloc] at b1 b3
  exact ⟨r1, q0, ((b1.alloc _).alloc _).below hb1, ((box3_new w _ _ _ _ _ _).alloc _).below hb1, b3.below hb1, hB, Nat.le_refl _⟩
 have hs0 := hI0.row.lt
 clear hb1 hB hR r1 q0 cq0
 go_loopw [7, 8] (fun v x wr => ∃ (i r : Nat) (h qf : Nat → Int) (R : Int), i ≤ n ∧ x = .int .i64 ((i : Int) - 1) ∧ OwnF wr (w.heap.size + 1 + 1 + 1 + 1 + 1) v r h ∧ Digs h r ∧ vf h r = R ∧ ParI f n (vf g (m + 1)) i qf R ∧ QInv w wr 35 (w.heap.size + 1 + 1 + 1 + 1) n qf #[.bool s, .slice p n c1] #[.bool t, .slice q (m + 1) c2] ∧ w.heap.size + 1 + 1 + 1 + 1 + 1 ≤ wr.heap.size) (fun _ x _ => (intOf x + 1).toNat)
 case atStart => exact ⟨n, 0, fun _ => 0, _, 0, Nat.le_refl _, rfl, OwnF.nil _ _ _, ⟨fun i hi => by omega, fun i hi => by omega, fun h => by omega⟩, rfl, ParI.start _ _ _ hB1, hI0, by omega⟩
 case round =>
  clear hI0 hs0
  obtain ⟨i, r, h, qf, R, hi, rfl, ho, d3, hv, hP, hI, hsz⟩ := hrel
  obtain ⟨pr, cr, rfl⟩ := ho.shape
  have b0 := hI.b0
  have cb0 := b0.cell
  have lb0 := b0.lt
  have fb0 := b0.frozen
  by_cases hi0 : 0 < i
  ·obtain ⟨i, rfl⟩ : ∃ j, i = j + 1 := ⟨i - 1, by omega⟩
   rw [show ((i + 1 : Nat) : Int) - 1 = (i : Int) by omega]
   obtain ⟨b, off, rfl, hb, hcell⟩ := hx1 (by omega)
   have ai := (hI.below.cell (p := ⟨b, off + i, none⟩) hb).trans (hcell i (by omega))
   have hin : (i : Int) < n := by omega
   have f0 := d1.lo i (by omega)
   have f9 := d1.hi i (by omega)
   have hr6 : r ≤ m + 1 := d3.len_le d2 (by have := hP.r1; omega)
   generalize hfi : f i = x at *
   clear hcell
   go_wp2_with (at_builtin; (refine wpList_append_ints _ rfl _ _ 33 rfl Tryz.underlying33 infoInt wr.heap.size (.slice (some ⟨wr.heap.size, 0, none⟩) 1 1) 1 (fun _ => x) rfl (OwnF.lit wr x) pr r cr h rfl ?_ ?_ ?_ ?_); (exact (ho.sl (by omega)).ext ((Ext.refl _).alloc _)); omega; (simp); (intro v' w1 ho' hg))
   obtain ⟨p', c', rfl⟩ := ho'.shape
   have hz : Below wr.heap.size wr w1 := ((Below.refl wr.heap.size wr).alloc (Nat.le_refl _) (.cells #[.int .i64 x] 3)).grown hg (by simp) (fun k hk => (OwnF.lit wr x).low k hk)
   have hnext : SlF w1 (.slice p' (r + 1) c') (r + 1) (shl x h) := by
    have e : OwnF w1 wr.heap.size (.slice p' (1 + r) c') (1 + r) (shl x h) := ho'.congr fun j hj => by
     unfold shl
     by_cases h0 : j = 0
     ·rw [if_pos (by omega), if_pos h0]
     ·rw [if_neg (by omega), if_neg h0]
    rw [Nat.add_comm] at e
    exact e.sl (by omega)
   rw [Nat.add_comm 1 r]
   have hmade := fun (X : World) (hX : Ext w1 X) => r3made_ok false p' (r + 1) c' (shl x h) X (hnext.ext hX) (by omega) (fun j hj => by
    unfold shl; split
    ·exact f0
    ·exact d3.lo _ (by omega)) (fun j hj => by
    unfold shl; split
    ·exact f9
    ·exact d3.hi _ (by omega))
   have hIz := hI.of_below (hz.mono (by omega))
   clear cb0 lb0 fb0 b0 ai ho hg ho'
   have b1 := hIz.b1
   have cb1 := b1.cell
   have lb1 := b1.lt
   have fb1 := b1.frozen
   go_wp2
   refine wp_region_held_drew (S := fun w' => (∀ i, w'.cell? ⟨w.heap.size + 1, i, none⟩ = (#[.bool t, .slice q (m + 1) c2] : Array Value)[i]?) ∧ Below w.heap.size w w') (by as_aux_lemma => kernel_rfl) ⟨cb1, hIz.below.drew⟩ (fun hHeld => ?_)
   have hz0 := hz.drew
   have hx0 : Ext w1 w1.drew := (Ext.refl _).drew
   have hsz0 : wr.heap.size ≤ w1.drew.heap.size := hz.size
   generalize w1.drew = X0 at *
   refine tk 0 (some 31) ?_
   refine tk 1 (some 32) ?_
   refine tk 2 (some 33) ?_
   refine tk 5 (some 36) ?_
   refine tk 6 (some 37) ?_
   have hIX := hI.of_below (hz0.mono (by omega))
   refine Mono.stc 3 (some 34) (hmade X0 hx0) (fun e X1 hR => ?_)
   obtain ⟨v2, rfl, ho2, d4, e4, hb4⟩ := hR
   refine ⟨(⟨(hIX.b1.below hb4).cell, belowCall hHeld.2 hb4⟩), fun hHeld => Mono.pt ?_⟩
   obtain ⟨p2, c2', rfl⟩ := ho2.shape
   refine tl 4 (some 35) rfl (.slice p2 (trimN (shl x h) (r + 1)) c2') (fun w _ => by as_aux_lemma => kernel_rfl) ?_
   have hz1 := belowCall hz0 hb4
   have hP0 := hP.r0
   have hP1 := hP.r1
   have hvs : vf (shl x h) (trimN (shl x h) (r + 1)) = x + 1000000000 * R := by rw [e4, vf_shl, hv]
   have htk := r3taken_ok wr.heap.size (.slice p2 (trimN (shl x h) (r + 1)) c2') (trimN (shl x h) (r + 1)) (shl x h) q m c2 g wr X1 (ho2.lower hsz0) (Nat.le_refl _) (Nat.le_trans hsz0 hb4.size) hz1 (h2.ext (.of_below hI.below)) d4 d2 hm6 (by rw [hvs]; omega)
   rw [hvs] at htk
   refine Mono.stc 7 (some 38) (htk) (fun e X2 hR => ?_)
   obtain ⟨v3, n3, f3, k3, rfl, ho3, d5, e5, hk3, hb5, hs5⟩ := hR
   refine ⟨(⟨(hI.of_below (hb5.mono (by omega))).b1.cell, (hI.of_below (hb5.mono (by omega))).below⟩), fun hHeld => Mono.pt ?_⟩
   replace hk3 := Lib.hid hk3
   refine tk 8 (some 30) ?_
   refine tk 9 (some 39) ?_
   refine tk 10 (some 40) ?_
   refine tk 11 (some 7) ?_
   refine tk 12 (some 41) ?_
   have hI3 := hI.of_below (hb5.mono (by omega))
   have hI4 := hI3.set i k3
   have a5 := hI3.row.cell i (by omega)
   have a6 := hI3.row.frozen i
   refine Mono.st 13 ?_
   intro K hK
   go_simp
   refine kp hK (⟨hI4.b1.cell, hI4.below⟩) (fun hHeld => ?_)
   clear hK K
   refine wpAnyH_done (by as_aux_lemma => kernel_rfl) ?_ _
   have hk30 : 0 ≤ k3 := by rw [hk3.out]; exact Int.ediv_nonneg (by omega) (by omega)
   have hk39 : k3 < 1000000000 := by rw [hk3.out]; exact Int.ediv_lt_of_lt_mul hB1 (by rw [Int.mul_comm]; omega)
   have hdiv := Int.emod_add_mul_ediv (x + 1000000000 * R) (vf g (m + 1))
   have hr0 := Int.emod_nonneg (x + 1000000000 * R) (by omega : vf g (m + 1) ≠ 0)
   have hr1 := Int.emod_lt_of_pos (x + 1000000000 * R) hB1
   rw [← hk3.out] at hdiv
   have hPn := hP.next (by omega) hk30 hk39 hr0 hr1 (by rw [hfi, Int.mul_comm k3]; omega)
   have ho5 := ho3.lower hsz
   have hs6 : w.heap.size + 1 + 1 + 1 + 1 + 1 ≤ X2.heap.size := by omega
   have ho6 := ho5.set ⟨w.heap.size + 1 + 1 + 1 + 1, i, none⟩ (.int .i64 k3) (by show w.heap.size + 1 + 1 + 1 + 1 < _; omega)
   clear hHeld htk hmade hnext hIX hIz hI3 ho3 ho2 hb5 hb4 cb1 fb1 lb1 b1 a5 a6 hz hz0 hz1 hx0
   go_wp2
   go_roundw
   case rel =>
    exact ⟨i, n3, f3, _, _, by omega, by simp, ho6, d5, e5, hPn, hI4, by simpa using hs6⟩
   case measure => simp [intOf]
  ·obtain rfl : i = 0 := by omega
   obtain ⟨hq, hR⟩ := hP.done
   have hlo := fun j (hj : j < n) => hP.lo j (Nat.zero_le _) hj
   have hhi := fun j (hj : j < n) => hP.hi j (Nat.zero_le _) hj
   have hr6 : r ≤ m + 1 := d3.len_le d2 (by have := hP.r1; omega)
   have hm1 := fun (X : World) (hX : Ext wr X) => r3made_ok (s != t) (some ⟨w.heap.size + 1 + 1 + 1 + 1, 0, none⟩) n n qf X ((hI.row.slice (by omega) n (Nat.le_refl _) n (Nat.le_refl _)).ext hX) (by omega) hlo hhi
   have hm2 := fun (X : World) (hX : Ext wr X) => r3made_ok s pr r cr h X ((ho.sl (by omega)).ext hX) (by omega) d3.lo d3.hi
   rw [hq, hs1.out] at hm1
   rw [hv, hR, hs2.out] at hm2
   have b1 := hI.b1
   have cb1 := b1.cell
   have lb1 := b1.lt
   have fb1 := b1.frozen
   clear hx1 hx2 hP
   go_wp2_with fail
   refine wp_region_held_drew (S := fun w' => (∀ i, w'.cell? ⟨w.heap.size, i, none⟩ = (#[.bool s, .slice p n c1] : Array Value)[i]?) ∧ (∀ i, w'.cell? ⟨w.heap.size + 1, i, none⟩ = (#[.bool t, .slice q (m + 1) c2] : Array Value)[i]?) ∧ Below w.heap.size w w') (by as_aux_lemma => kernel_rfl) ⟨cb0, cb1, hI.below.drew⟩ (fun hHeld => ?_)
   have hx0 : Ext wr wr.drew := (Ext.refl _).drew
   have hI0 : QInv w wr.drew 35 (w.heap.size + 1 + 1 + 1 + 1) n qf #[.bool s, .slice p n c1] #[.bool t, .slice q (m + 1) c2] := hI.of_below (Below.refl _ _).drew
   have hsz0 : w.heap.size + 1 + 1 + 1 + 1 + 1 ≤ wr.drew.heap.size := hsz
   generalize wr.drew = X0 at *
   refine tk 0 (some 42) ?_
   refine tk 1 (some 43) ?_
   refine tk 2 (some 44) ?_
   refine tk 3 (some 45) ?_
   refine tk 4 (some 46) ?_
   refine tk 5 (some 47) ?_
   refine tk 7 (some 49) ?_
   refine tk 8 (some 50) ?_
   refine tk 9 (some 51) ?_
   refine Mono.stc 6 (some 48) (hm1 X0 hx0) (fun e X1 hR => ?_)
   obtain ⟨v1, rfl, ho1, hd1, g1, hb4⟩ := hR
   refine ⟨(⟨(hI0.b0.below hb4).cell, (hI0.b1.below hb4).cell, belowCall hHeld.2.2 hb4⟩), fun hHeld => Mono.pt ?_⟩
   have hI1 := hI0.of_below (hb4.mono (by omega))
   refine Mono.stc 10 (some 52) (hm2 X1 (hx0.below hb4)) (fun e X2 hR => ?_)
   obtain ⟨v2, rfl, ho2, hd2, g2, hb5⟩ := hR
   refine ⟨(⟨(hI1.b0.below hb5).cell, (hI1.b1.below hb5).cell, belowCall hHeld.2.2 hb5⟩), fun hHeld => Mono.pt ?_⟩
   have hsz1 := hb4.size
   have hI2 := hI1.of_below (hb5.mono (by omega))
   obtain ⟨p1, c1', rfl⟩ := ho1.shape
   obtain ⟨p2, c2', rfl⟩ := ho2.shape
   have l1 := ho1.sl (by have := trimN_le qf n; omega)
   have l2 := ho2.sl (by have := trimN_le h r; omega)
   have l1' := l1.ext (.of_below hb5)
   have b2 := hI2.b2
   have b3 := hI2.b3
   have hBb := hI2.below
   clear hm1 hm2 hx0 hI0 hI1 hI hb4 hb5 ho1 ho2 l1 b0 b1 cb0 cb1 lb0 lb1 fb0 fb1 ho
   refine wpAnyH_storeK (w.heap.size + 1 + 1) 35 11 rfl rfl rfl rfl 0 #[.bool s1, .slice p1 (trimN qf n) c1'] #[.bool false, .slice none 0 0] #[.bool s1, .slice p1 (trimN qf n) c1'] (by as_aux_lemma => kernel_rfl) (fun X i u h => ⟨cells_other h.1 (by omega), cells_other h.2.1 (by omega), belowSet h.2.2 (by omega) _ _⟩) (by as_aux_lemma => kernel_rfl) (by as_aux_lemma => kernel_rfl) b2 hHeld sizeLong (Nat.le_of_ble_eq_true rfl) (long_ones _ _ _ _) (whole_new rfl) (fun Y1 hk1 r2 hHeld => ?_)
   have b3' := hk1.box b3 b3.lt (by omega)
   refine wpAnyH_storeK (w.heap.size + 1 + 1 + 1) 35 12 rfl rfl rfl rfl 0 #[.bool s2, .slice p2 (trimN h r) c2'] #[.bool false, .slice none 0 0] #[.bool s2, .slice p2 (trimN h r) c2'] (by as_aux_lemma => kernel_rfl) (fun X i u h => ⟨cells_other h.1 (by omega), cells_other h.2.1 (by omega), belowSet h.2.2 (by omega) _ _⟩) (by as_aux_lemma => kernel_rfl) (by as_aux_lemma => kernel_rfl) b3' hHeld sizeLong (Nat.le_of_ble_eq_true rfl) (long_ones _ _ _ _) (whole_new rfl) (fun Y2 hk2 r3 hHeld => ?_)
   have r2' := hk2.box r2 r2.lt (by omega)
   have e1 := hk1.ext b2 (by decide)
   have e2 := hk2.ext b3' (by decide)
   have hBe := hHeld.2.2
   refine wpAnyH_done (by as_aux_lemma => kernel_rfl) ?_ _
   clear hHeld hk1 hk2 b2 b3 b3' r2 hI2
   go_wp2
   refine bodyPost_ret (r2'.results2s r3 rfl _ _ _ rfl rfl Tryz.underlying35 rfl sizeLong Tryz.underlying35 rfl sizeLong) rfl ?_
   exact ⟨p1, _, c1', qf, p2, _, c2', rfl, (l1'.ext e1).ext e2, hd1, g1, trimN_le qf n, h, (l2.ext e1).ext e2, hd2, g2, by have := trimN_le h r; omega, hBe⟩
end Go.Proofs.YtdgodcgdlfjpaaaGreatDoor
namespace Go.Ev
open Go.RowKit Go.Mono
def AllP : List Prop → Prop
 | [] => True
 | p :: r => p ∧ AllP r
theorem AllP.all : ∀ {l : List Prop}, AllP l → ∀ p ∈ l, p
 | [], _, p, h => by cases h
 | x :: r, ⟨hx, hr⟩, p, h => by
   rcases List.mem_cons.1 h with rfl | h
   ·exact hx
   ·exact AllP.all hr p h
def fin (bk wr : List (Nat × Blk)) : List (Option (Nat × Option (List Value))) := bk.map fun p => ((wr ++ bk).lookup p.1).map fun b => (b.T, realL b.cells)
def ini (bk : List (Nat × Blk)) : List (Option (Nat × Option (List Value))) := bk.map fun p => some (p.2.T, realL p.2.cells)
theorem lookup_mem {α : Type} {k : Nat} {b : α} : ∀ {l : List (Nat × α)}, l.lookup k = some b → (k, b) ∈ l
 | [], h => by simp at h
 | (k', x) :: r, h => by
   rw [lookup_cons] at h
   split at h
   ·rename_i e; subst e; cases h; simp
   ·exact List.mem_cons_of_mem _ (lookup_mem h)
theorem lookup_map_eq {β : Type} {bk : List (Nat × Blk)} {f g : Nat × Blk → β} (h : bk.map f = bk.map g) {p : Nat × Blk} (hp : p ∈ bk) : f p = g p := List.map_inj_left.1 h p hp
theorem evRun {D : Den} {P : Program} (hm : P.follows .mixedOrders = true) {w : World} {X : Nat → Prop} (sp : List (Ctr D P w X)) {f : FuncId} {d : Nat} {args : List SA} {bk : List (Nat × Blk)} {c : Nat} {orc : List (Option Bool)} (V : SV) (L : List Prop) (ρ : Nm)
  (hev : (evF P sp d f args bk c orc).map (fun r => (r.v, r.obl, fin bk r.wr)) = some (V, L, ini bk)) (hL : AllP L)
  (hρ : ∀ k, c ≤ k → ρ k = none) (hinj : ∀ k k' B B', ρ k = some B → ρ k' = some B' → B.blk = B'.blk → k = k' ∨ (B.ro = true ∧ B'.ro = true)) (hlt : ∀ k B, ρ k = some B → B.blk < w.heap.size)
  (hbk : ∀ k b, bk.lookup k = some b → k < c ∧ ∃ B cs, ρ k = some B ∧ B.ro = b.ro ∧ Holds w B b.T cs ∧ denL D ρ w b.cells cs ∧ (b.ro = false → X B.blk ∧ realL b.cells = some cs))
  {vals : List Value} (hargs : denAs D ρ w args vals) :
  Calls P f vals.toArray w fun e w' => ∃ v ρ', e = .returned v ∧ denV D ρ' w' V v ∧ Below w.heap.size w w' := by
 obtain ⟨r, hr, he⟩ := Option.map_eq_some_iff.1 hev
 cases he' : r with
 | mk v wr obl orc' c' =>
 subst he'
 simp only [Prod.mk.injEq] at he
 obtain ⟨rfl, rfl, hfin⟩ := he
 have hS : Sat D w X c ρ w w bk := ⟨Frm.refl _ _, Ext.refl _, hinj, hlt, fun k b hk => by
  obtain ⟨hkc, B, cs, h1, h2, h3, h4, h5⟩ := hbk k b hk
  exact ⟨B, cs, h1, h3, h4, fun hro => .inr (h5 hro).1, fun hh => absurd hh (Nat.not_le.2 hkc), h2⟩⟩
 refine (evF_ok hm sp d f args bk c orc _ hr hL.all ρ w w vals hS (fun k b hk => (hbk k b hk).1) (fun k h1 _ => hρ k h1) hargs).mono ?_
 rintro e w' ⟨u, ρ', wc', rfl, hu, k1, k2⟩
 refine ⟨u, ρ', rfl, hu.mono (Nm.le.refl _) k1.ext, ⟨k2.os, k2.tape, k2.output, k2.size, fun i hi => ?_⟩⟩
 by_cases hex : ∃ k b B, bk.lookup k = some b ∧ ρ k = some B ∧ B.ro = false ∧ B.blk = i
 ·obtain ⟨k, b, C, hk, hki, hro, rfl⟩ := hex
  obtain ⟨_, B, cs, h1, h2, h3, h4, h5⟩ := hbk k b hk
  cases h1.symm.trans hki
  obtain ⟨hx, hreal⟩ := h5 (h2.symm.trans hro)
  have h7 := lookup_map_eq hfin (lookup_mem hk)
  dsimp only at h7
  obtain ⟨b', hb', hb2⟩ := Option.map_eq_some_iff.1 h7
  simp only [Prod.mk.injEq] at hb2
  obtain ⟨C, ds, g1, g2, g3, g4, g5, g6⟩ := k1.box k b' hb'
  cases (k2.rho k _ hki).symm.trans g1
  have : ds = cs := realL_den (by rw [hb2.2]; exact hreal) g3
  subst this
  rcases h3 with ⟨h, _⟩ | ⟨_, _, h3⟩
  ·rw [hro] at h; cases h
  ·rcases g2 with ⟨h, _⟩ | ⟨_, _, g2⟩
   ·rw [hro] at h; cases h
   ·rw [h3.blk, g2.blk, hb2.1]
 ·exact k2.loc i hi fun k b B hk hB hro hh => hex ⟨k, b, B, hk, hB, hro, hh⟩
theorem evRun0 {D : Den} {P : Program} (hm : P.follows .mixedOrders = true) {w : World} (sp : List (Ctr D P w (fun _ => False))) {f : FuncId} {d : Nat} {args : List SA} {orc : List (Option Bool)} (V : SV) (L : List Prop)
  (hev : (evF P sp d f args [] 0 orc).map (fun r => (r.v, r.obl)) = some (V, L)) (hL : AllP L) {vals : List Value} (hargs : denAs D (fun _ => none) w args vals) :
  Calls P f vals.toArray w fun e w' => ∃ v ρ', e = .returned v ∧ denV D ρ' w' V v ∧ Below w.heap.size w w' := by
 refine evRun (d := d) (orc := orc) (bk := []) (c := 0) hm sp V L (fun _ => none) ?_ hL (fun _ _ => rfl) (fun _ _ _ _ h => by cases h) (fun _ _ h => by cases h) (fun k b hk => by simp at hk) hargs
 obtain ⟨r, hr, he⟩ := Option.map_eq_some_iff.1 hev
 rw [hr]
 simp only [Prod.mk.injEq] at he
 obtain ⟨rfl, rfl⟩ := he
 rfl
end Go.Ev
namespace Go.Mono
open Go.RowKit
theorem LgV.unique {m m' : Nat} {w : World} {v : Value} {z z' : Int} (h : LgV m w v z) (h' : LgV m' w v z') : z = z' := by
 obtain ⟨p, n, c, f, rfl, s1, d1, e1, _⟩ := h
 obtain ⟨p', n', c', f', hv, s2, d2, e2, _⟩ := h'
 simp only [Value.agg.injEq, Array.mk.injEq, List.cons.injEq, Value.bool.injEq, Value.slice.injEq, and_true] at hv
 obtain ⟨hs, rfl, rfl, rfl⟩ := hv
 have hf : ∀ i, i < n → f i = f' i := fun i hi => by
  obtain ⟨_, _, x1⟩ := s1.opens
  obtain ⟨_, _, x2⟩ := s2.opens
  obtain ⟨b, off, hp, _, g1⟩ := x1 (by omega)
  obtain ⟨b', off', hp', _, g2⟩ := x2 (by omega)
  rw [hp] at hp'
  simp only [Option.some.injEq, Addr.mk.injEq] at hp'
  obtain ⟨rfl, rfl, _⟩ := hp'
  have := g1 i hi
  rw [g2 i hi] at this
  simpa using this.symm
 have e := vf_congr hf
 have h3 : (z < 0 ↔ z' < 0) := by simpa using hs
 omega
def IsVal (w : World) (B : Nat) (T : TypeId) (k : Nat) : Prop := ∃ C z m, Box w B T C ∧ LgV m w (.agg C) z ∧ z.natAbs = k
noncomputable def valAt (w : World) (B : Nat) (T : TypeId) : Nat := Classical.epsilon (IsVal w B T)
theorem valAt_eq {w : World} {B : Nat} {T : TypeId} {C : Array Value} {z : Int} {m : Nat} (hb : Box w B T C) (h : LgV m w (.agg C) z) : valAt w B T = z.natAbs := by
 obtain ⟨C', z', m', hb', h', e⟩ := Classical.epsilon_spec (p := IsVal w B T) ⟨z.natAbs, C, z, m, hb, h, rfl⟩
 have hc : C' = C := by
  have := hb.blk.symm.trans hb'.blk
  simp at this
  exact this.symm
 subst hc
 have := h.unique h'
 subst this
 exact e.symm
end Go.Mono
namespace Go.Proofs.YtdgodcgdlfjpaaaGreatDoor
open Go.RowKit Go.Mono
theorem r3parts_ok {m1 m2 : Nat} {v1 v2 : Value} {z y : Int} (w : World) (h1 : LgV m1 w v1 z) (h2 : LgV m2 w v2 y) (hy : y ≠ 0) (hm1 : m1 ≤ 100000) (hm2 : m2 ≤ 100000) :
  Calls Tryz.prog 248 #[v1, v2] w fun e w' => ∃ q r, e = .returned (.tuple #[q, r]) ∧ LgV m1 w' q (z.tdiv y) ∧ LgV m2 w' r (z.tmod y) ∧ Below w.heap.size w w' := by
 obtain ⟨p, n, c, f, rfl, s1, d1, e1, l1⟩ := h1
 obtain ⟨q, m, c', g, rfl, s2, d2, e2, l2⟩ := h2
 have hm0 : 0 < m := d2.pos.1 (by omega)
 obtain ⟨m, rfl⟩ : ∃ k, m = k + 1 := ⟨m - 1, by omega⟩
 obtain ⟨t1, t2, t3, t4⟩ := tdiv_parts z y hy
 refine (r3parts_digits _ _ p q n m c c' f g w s1 s2 d1 d2 (by omega) (by omega)).mono ?_
 rintro e w' ⟨p1, k1, c1, h1, p2, k2, c2, h2, rfl, hs1, hd1, hv1, hk1, hs2, hd2, hv2, hk2, hb⟩
 rw [e1, e2] at hv1 hv2 ⊢
 rw [t1] at hv1 ⊢
 rw [t2] at hv2 ⊢
 rw [t3, t4]
 exact ⟨_, _, rfl, ⟨p1, k1, c1, h1, rfl, hs1, hd1, hv1, by omega⟩, ⟨p2, k2, c2, h2, rfl, hs2, hd2, hv2, by omega⟩, hb⟩
theorem r3common_ok {m : Nat} {v1 v2 : Value} {z y : Int} (w : World) (h1 : LgV m w v1 z) (h2 : LgV m w v2 y) (hm : m ≤ 100000) :
  Calls Tryz.prog 221 #[v1, v2] w fun e w' => ∃ v, e = .returned v ∧ LgV m w' v (Int.gcd z y) ∧ Below w.heap.size w w' := by
 obtain ⟨A0, rfl, hA0, hA0o⟩ := h1.cells
 obtain ⟨A1, rfl, hA1, hA1o⟩ := h2.cells
 obtain ⟨gz, hgz⟩ : ∃ k, Int.gcd z y = k := ⟨_, rfl⟩
 rw [hgz]
 go_enter Tryz.func221, Tryz.ntmps221
 go_wp2_with fail
 refine boxes3 fun W hB hs b0 b1 b2 => ?_
 go_loopw [5, 6] (fun u v wr => ∃ (A B : Array Value) (a b : Int), Box wr w.heap.size 35 A ∧ Box wr (w.heap.size + 1) 35 B ∧ LgV m wr (.agg A) a ∧ LgV m wr (.agg B) b ∧ Int.gcd a b = gz ∧ Box wr (w.heap.size + 1 + 1) 35 #[.bool false, .slice none 0 0] ∧ Below w.heap.size w wr ∧ w.heap.size + 1 + 1 + 1 ≤ wr.heap.size) (fun _ _ wr => valAt wr (w.heap.size + 1) 35)
 case atStart => exact ⟨A0, A1, z, y, b0, b1, h1.below hB, h2.below hB, hgz, b2, hB, hs⟩
 case round =>
  clear b0 b1 b2 hB hs h1 h2 hgz
  obtain ⟨A, B, a, b, b0, b1, ha, hb, hg, b2, hB, hsz⟩ := hrel
  by_cases hb0 : b = 0
  ·subst hb0
   obtain ⟨pz, cz, hBv⟩ := hb.zero
   cases hBv
   have hga : (Int.natAbs a) = gz := by rw [← hg]; simp
   obtain ⟨p, n, c, f, hAv, s1, d1, e1, l1⟩ := ha
   cases hAv
   generalize decide (a < 0) = sa at *
   have hmade := fun (X : World) (hX : Ext wr X) => r3made_ok false p n c f X (s1.ext hX) (by omega) d1.lo d1.hi
   have cb0 := b0.cell
   have lb0 := b0.lt
   have fb0 := b0.frozen
   have cb1 := b1.cell
   have lb1 := b1.lt
   have fb1 := b1.frozen
   go_wp2_with fail
   refine (hmade wr (Ext.refl _)).mono ?_
   rintro e W2 ⟨v', rfl, ho2, d3, e3, hbb⟩
   replace b2 := b2.below hbb
   have hB1 := belowCall hB hbb
   obtain ⟨p', c', rfl⟩ := ho2.shape
   have hlg : LgV m W2 (.agg #[.bool false, .slice p' (trimN f n) c']) (gz : Int) := ⟨p', _, c', f, by rw [decide_eq_false (by omega)], ho2.sl (by have := trimN_le f n; omega), d3, by rw [e3, e1, hga]; rfl, by have := trimN_le f n; omega⟩
   rw [Bool.false_and]
   clear hmade ho2 b0 b1 cb0 cb1 fb0 fb1 lb0 lb1 hB hb
   go_wp2_with first | (refine wpList_store_box rfl 35 _ _ rfl (w.heap.size + 1 + 1) 0 35 _ #[.bool false, .slice p' (trimN f n) c'] #[.bool false, .slice p' (trimN f n) c'] rfl rfl b2 sizeLong (Nat.le_of_ble_eq_true rfl) (long_ones _ _ _ _) (whole_new rfl) ?_; intro W3 hk b4)
   have hb2 := hk.below hB1 (by omega) hB1.size
   exact bodyPost_ret (b4.results rfl _ _ rfl Tryz.underlying35 rfl sizeLong) rfl ⟨_, rfl, hlg.ext (hk.ext b2 (by decide)), hb2⟩
  ·have hval := valAt_eq b1 hb
   have hpt := fun (X : World) (hX : Ext wr X) => r3parts_ok X (ha.ext hX) (hb.ext hX) hb0 hm hm
   have hg2 : Int.gcd b (a.tmod b) = gz := by
    rw [← hg]
    unfold Int.gcd
    rw [Int.natAbs_tmod, Nat.gcd_comm a.natAbs b.natAbs, Nat.gcd_comm b.natAbs (a.natAbs % b.natAbs)]
    exact (Nat.gcd_rec b.natAbs a.natAbs).symm
   have hlt : (a.tmod b).natAbs < b.natAbs := by
    rw [Int.natAbs_tmod]
    exact Nat.mod_lt _ (by omega)
   obtain ⟨q, n, c, hBv, hn0⟩ := hb.nz hb0
   have hn' : (0 : Int) < n := by omega
   cases hBv
   obtain ⟨sa, pa, na, ca, hAv⟩ := ha.parts
   cases hAv
   generalize decide (b < 0) = sb at *
   have cb0 := b0.cell
   have lb0 := b0.lt
   have fb0 := b0.frozen
   have cb1 := b1.cell
   have lb1 := b1.lt
   have fb1 := b1.frozen
   go_wp2_with fail
   refine (hpt wr (Ext.refl _)).mono ?_
   rintro e W2 ⟨vq, vr, rfl, hq, hr, hbb⟩
   obtain ⟨sq, pq, nq, cq, rfl⟩ := hq.parts
   obtain ⟨sr, pr, nr, cr, rfl⟩ := hr.parts
   have hsz2 := hbb.size
   replace b0 := b0.below hbb
   replace b1 := b1.below hbb
   replace b2 := b2.below hbb
   replace hb := hb.below hbb
   have hB2 := belowCall hB hbb
   clear hpt ha hq cb0 lb0 fb0 cb1 lb1 fb1 hB hbb hg
   go_wp2_with fail
   have h2n := (Below.refl W2.heap.size W2).alloc (Nat.le_refl _) (.cells #[.bool sq, .slice pq nq cq] 35)
   have b6 := Box.new (W2.alloc (.cells #[.bool sq, .slice pq nq cq] 35)) 35 #[.bool sr, .slice pr nr cr]
   rw [World.size_alloc] at b6
   have hbn : Below W2.heap.size W2 ((W2.alloc (.cells #[.bool sq, .slice pq nq cq] 35)).alloc (.cells #[.bool sr, .slice pr nr cr] 35)) := belowAlloc (belowAlloc (Below.refl _ _) _) _
   replace b0 := b0.below hbn
   replace b1 := b1.below hbn
   replace b2 := b2.below hbn
   replace hb := hb.below hbn
   replace hr := hr.below hbn
   replace hB2 := belowCall hB2 hbn
   have hs3 := hbn.size
   generalize (W2.alloc (.cells #[.bool sq, .slice pq nq cq] 35)).alloc (.cells #[.bool sr, .slice pr nr cr] 35) = V at *
   refine wp_region_held_drew (S := fun w' => Box w' (W2.heap.size + 1) 35 #[.bool sr, .slice pr nr cr] ∧ Below w.heap.size w w') (by as_aux_lemma => kernel_rfl) ⟨b6.drew, hB2.drew⟩ (fun hHeld => ?_)
   have c0 := b0.drew
   have c1 := b1.drew
   have c2 := b2.drew
   have hbX : LgV m V.drew (.agg #[.bool sb, .slice q n c]) b := hb.ext (Ext.refl _).drew
   have hrX : LgV m V.drew (.agg #[.bool sr, .slice pr nr cr]) (a.tmod b) := hr.ext (Ext.refl _).drew
   have hsX : w.heap.size + 1 + 1 + 1 ≤ V.drew.heap.size := by show _ ≤ V.heap.size; omega
   clear b0 b1 b2 hb hr b6 hbn h2n hB2
   generalize V.drew = X0 at *
   refine tl 1 (some 18) rfl (.agg #[.bool sr, .slice pr nr cr]) (exec_load 35 _ rfl (W2.heap.size + 1) 0 rfl #[.bool sr, .slice pr nr cr] (fun w h => h.1.range) _ Tryz.underlying35 rfl sizeLong) ?_
   refine Mono.sta 0 (some 17) (.agg #[.bool sb, .slice q n c]) X0 hHeld (fun hHeld => Mono.pt ?_) rfl rfl (by as_aux_lemma => kernel_rfl) (by as_aux_lemma => kernel_rfl) (exec_load (S := fun w => w = X0) 35 _ rfl (w.heap.size + 1) 0 (by as_aux_lemma => kernel_rfl) #[.bool sb, .slice q n c] (fun w hS => by subst hS; exact c1.range) _ Tryz.underlying35 rfl sizeLong X0 rfl)
   refine wpAnyH_storeK w.heap.size 35 2 rfl rfl rfl rfl 0 #[.bool sb, .slice q n c] #[.bool sa, .slice pa na ca] #[.bool sb, .slice q n c] (by as_aux_lemma => kernel_rfl) (fun X i u h => ⟨h.1.other _ _ (by show W2.heap.size + 1 ≠ w.heap.size; omega), belowSet h.2 (by omega) _ _⟩) (by as_aux_lemma => kernel_rfl) (by as_aux_lemma => kernel_rfl) c0 hHeld sizeLong (Nat.le_of_ble_eq_true rfl) (long_ones _ _ _ _) (whole_new rfl) (fun Y1 hk1 r0 hHeld => ?_)
   have d1 := hk1.box c1 c1.lt (by omega)
   have d2 := hk1.box c2 c2.lt (by omega)
   have e1 := hk1.ext c0 (by decide)
   refine wpAnyH_storeK (w.heap.size + 1) 35 3 rfl rfl rfl rfl 0 #[.bool sr, .slice pr nr cr] #[.bool sb, .slice q n c] #[.bool sr, .slice pr nr cr] (by as_aux_lemma => kernel_rfl) (fun X i u h => ⟨h.1.other _ _ (by show W2.heap.size + 1 ≠ w.heap.size + 1; omega), belowSet h.2 (by omega) _ _⟩) (by as_aux_lemma => kernel_rfl) (by as_aux_lemma => kernel_rfl) d1 hHeld sizeLong (Nat.le_of_ble_eq_true rfl) (long_ones _ _ _ _) (whole_new rfl) (fun Y2 hk2 r1 hHeld => ?_)
   have r0' := hk2.box r0 r0.lt (by omega)
   have d2' := hk2.box d2 d2.lt (by omega)
   have e2 := hk2.ext d1 (by decide)
   have hbY := (hbX.ext e1).ext e2
   have hrY := (hrX.ext e1).ext e2
   have hBY := hHeld.2
   have hsY : w.heap.size + 1 + 1 + 1 ≤ Y2.heap.size := by have := hk1.size; have := hk2.size; omega
   have hvn := valAt_eq r1 hrY
   replace hval := Lib.hid hval
   refine wpAnyH_done (by as_aux_lemma => kernel_rfl) ?_ _
   clear hHeld hk1 hk2 r0 c0 c1 c2 d1 d2 e1 e2 hbX hrX
   go_wp2
   go_roundw
   case rel => exact ⟨_, _, b, a.tmod b, r0', r1, hbY, hrY, hg2, d2', hBY, hsY⟩
   case measure => rw [hvn, hval.out]; exact hlt
theorem r3right_ok {v : Value} {z : Int} (w : World) (h : LgV 600 w v z) :
  Calls Tryz.prog 220 #[v] w fun e w' => e = .returned (.bool true) ∧ Below w.heap.size w w' := by
 obtain ⟨p, n, c, f, rfl, s1, d1, e1, l1⟩ := h
 obtain ⟨hc1, hn1, hx1⟩ := s1.opens
 by_cases hn : n = 0
 ·subst hn
  have hz : decide (z < 0) = false := decide_eq_false (by simp [vf] at e1; omega)
  rw [hz]
  clear hx1
  go_enter Tryz.func220, Tryz.ntmps220
  go_wp2
  go_ret
  exact ⟨rfl, belowAlloc (Below.refl _ _) _⟩
 ·have hn' : ((n : Int) == 0) = false := by simp; omega
  generalize decide (z < 0) = s at *
  go_enter Tryz.func220, Tryz.ntmps220
  go_wp2
  refine boxes1 fun W hB hs b0 => ?_
  go_loopw [3] (fun a wr => ∃ i : Nat, i ≤ n ∧ a = .int .i64 (i : Int) ∧ wr = W) (fun a _ => (n - intOf a).toNat)
  case atStart => exact ⟨0, Nat.zero_le _, rfl, rfl⟩
  case round =>
   obtain ⟨i, hi, rfl, hWe⟩ := hrel
   obtain rfl : W = wr := hWe.symm
   have cb0 := b0.cell
   have lb0 := b0.lt
   have fb0 := b0.frozen
   by_cases hin : i < n
   ·obtain ⟨b, off, rfl, hb, hcell⟩ := hx1 (by omega)
    have a1 := (hB.cell (p := ⟨b, off + i, none⟩) hb).trans (hcell i hin)
    have hin' : (i : Int) < n := by omega
    have f0 := d1.lo i hin
    have f9 := d1.hi i hin
    generalize f i = x at *
    clear hcell hx1
    go_wp2
    go_roundw
    case rel => exact ⟨i + 1, by omega, by simp, trivial⟩
    case measure => simp [intOf]; omega
   ·obtain rfl : i = n := by omega
    have hip : 0 < i := Nat.pos_of_ne_zero hn
    clear e1
    obtain ⟨b, off, rfl, hb, hcell⟩ := hx1 hip
    have a1 := (hB.cell (p := ⟨b, off + (i - 1), none⟩) hb).trans (hcell (i - 1) (by omega))
    have ht := d1.top (by omega)
    obtain ⟨k, rfl⟩ : ∃ k, i = k + 1 := ⟨i - 1, by omega⟩
    simp only [Nat.add_sub_cancel] at a1 ht
    have ht2 : (f k != 0) = true := by simpa using ht
    generalize f k = x at *
    have hk6 : (k : Int) + 1 ≤ 600 := by omega
    clear hcell hx1
    go_wp2
    go_ret
    exact ⟨rfl, hB⟩
end Go.Proofs.YtdgodcgdlfjpaaaGreatDoor
namespace Go.Ev
open Go.RowKit Go.Mono
section
section
variable {D : Den} {w0 : World} {X : Nat → Prop} {th : Nat} {ρ : Nm} {wc w : World} {bk : List (Nat × Blk)}
def seeNm (ρ : Nm) (k B off : Nat) : Nm := fun j => if j = k then some ⟨B, off, true⟩ else ρ j
theorem Sat.view (h : Sat D w0 X th ρ wc w bk) {k : Nat} (hk : ρ k = none) (T : TypeId) {l : List U} {cs : List Value} {b off : Nat} (hb : b < w.heap.size) (hne : ∀ j B, ρ j = some B → B.ro = false → B.blk ≠ b)
  (hr : w.rangeAt b off cs) (hl : denL D ρ wc l cs) (hth : ∀ j x, bk.lookup j = some x → j < k) :
  Sat D w0 X (k + 1) (seeNm ρ k b off) wc w ((k, ⟨T, l, true⟩) :: bk) ∧ Evo ρ wc w bk k (k + 1) (seeNm ρ k b off) wc w ((k, ⟨T, l, true⟩) :: bk) ∧ seeNm ρ k b off k = some ⟨b, off, true⟩ := by
 have hle : ρ.le (seeNm ρ k b off) := fun j C hj => by
  unfold seeNm
  by_cases e : j = k
  ·subst e; rw [hk] at hj; cases hj
  ·rw [if_neg e]; exact hj
 have hnew : seeNm ρ k b off k = some ⟨b, off, true⟩ := by simp [seeNm]
 refine ⟨⟨h.fr, h.ext, ?_, ?_, ?_⟩, ⟨hle, Ext.refl _, Nat.le_refl _, rfl, rfl, rfl, fun _ _ _ => rfl, ?_, by omega, ?_⟩, hnew⟩
 ·intro j j' B B' h1 h2 he
  unfold seeNm at h1 h2
  by_cases e1 : j = k <;> by_cases e2 : j' = k
  ·exact .inl (by rw [e1, e2])
  ·rw [if_pos e1] at h1; rw [if_neg e2] at h2; cases h1
   refine .inr ⟨rfl, ?_⟩
   cases hro : B'.ro with
   | true => rfl
   | false => exact absurd he.symm (hne j' B' h2 hro)
  ·rw [if_neg e1] at h1; rw [if_pos e2] at h2; cases h2
   refine .inr ⟨?_, rfl⟩
   cases hro : B.ro with
   | true => rfl
   | false => exact absurd he (hne j B h1 hro)
  ·rw [if_neg e1] at h1; rw [if_neg e2] at h2
   exact h.inj j j' B B' h1 h2 he
 ·intro j B h1
  unfold seeNm at h1
  by_cases e1 : j = k
  ·rw [if_pos e1] at h1; cases h1; exact hb
  ·rw [if_neg e1] at h1
   exact h.lt j B h1
 ·intro j x hj
  rw [lookup_cons] at hj
  by_cases e1 : j = k
  ·rw [if_pos e1] at hj
   cases hj
   subst e1
   exact ⟨_, cs, hnew, .inl ⟨rfl, hr⟩, hl.mono hle (Ext.refl _), (fun hh => by cases hh), (fun hh => by omega), rfl⟩
  ·rw [if_neg e1] at hj
   obtain ⟨B, cs', h1, h2, h3, h4, h5, h6⟩ := h.box j x hj
   exact ⟨B, cs', hle j B h1, h2, h3.mono hle (Ext.refl _), h4, fun hh => by have := hth j x hj; omega, h6⟩
 ·intro j x hj
  rw [lookup_cons] at hj
  by_cases e1 : j = k
  ·subst e1
   exact .inr ⟨Nat.le_refl _, by omega, _, hnew, .inl rfl⟩
  ·rw [if_neg e1] at hj
   exact .inl (by rw [hj]; rfl)
 ·intro j hj
  unfold seeNm
  rw [if_neg (by omega)]
end
def Ctr.list {D : Den} {P : Program} {w0 : World} {X : Nat → Prop} (f : FuncId) (T : TypeId) (run : List SA → List (Nat × Blk) → List (Option Bool) → Option (Nat × List U × List Prop × List (Option Bool)))
    (sound : ∀ args bk orc m l obl orc', run args bk orc = some (m, l, obl, orc') → (∀ p ∈ obl, p) → ∀ ρ w vals, Frm w0 X w → BkOk D ρ w w bk → denAs D ρ w args vals →
     Calls P f vals.toArray w fun e w' => ∃ b off cp cs, e = .returned (.slice (some ⟨b, off, none⟩) m cp) ∧ m ≤ cp ∧ w.heap.size ≤ b ∧ b < w'.heap.size ∧ w'.rangeAt b off cs ∧ denL D ρ w' l cs ∧ Below w.heap.size w w') : Ctr D P w0 X where
 f := f
 run := fun args bk c orc => match run args bk orc with
  | some (m, l, obl, orc') => some ⟨.a (.one (.sli c 0 m)), [(c, ⟨T, l, true⟩)], obl, orc', c + 1⟩
  | none => none
 sound := by
  intro args bk c orc r h hobl ρ wc w vals hS hlt hn hargs
  split at h
  ·rename_i m l obl orc' hr
   cases h
   refine (sound _ _ _ _ _ _ _ hr hobl ρ w vals hS.fr (fun k b hk => ?_) (hargs.mono (Nm.le.refl _) hS.ext)).mono ?_
   ·obtain ⟨B, cs, h1, h2, h3, h4⟩ := hS.bkOk k b hk
    exact ⟨B, cs, h1, h2, h3.mono (Nm.le.refl _) hS.ext, h4⟩
   ·rintro e w' ⟨b, off, cp, cs, rfl, hm, hwb, hbw, hrg, hl, hb⟩
    obtain ⟨k1, k2⟩ := hS.call (fun k b hk => Nat.not_le.2 (hlt k b hk)) hb c
    obtain ⟨g1, g2, g3⟩ := k1.view (hn c (Nat.le_refl _) (Nat.lt_succ_self c)) T hbw (fun j B hj _ => by have := hS.lt j B hj; omega) hrg hl hlt
    exact ⟨_, _, w', rfl, ⟨_, cp, g3, hm, rfl⟩, g1, k2.trans g2 hS.named⟩
  ·cases h
end
end Go.Ev
namespace Go.Mono
open Go.RowKit
def QtV (m : Nat) (w : World) (v : Value) (q : Rat) : Prop := ∃ s p n c s' p' n' c', v = .agg #[.bool s, .slice p n c, .bool s', .slice p' n' c'] ∧ LgV m w (.agg #[.bool s, .slice p n c]) q.num ∧ LgV m w (.agg #[.bool s', .slice p' n' c']) q.den
theorem QtV.ext {m : Nat} {w w' : World} {v : Value} {q : Rat} (h : QtV m w v q) (hx : Ext w w') : QtV m w' v q := by
 obtain ⟨s, p, n, c, s', p', n', c', hv, h1, h2⟩ := h
 exact ⟨s, p, n, c, s', p', n', c', hv, h1.ext hx, h2.ext hx⟩
theorem QtV.below {m : Nat} {w w' : World} {v : Value} {q : Rat} (h : QtV m w v q) (hb : Below w.heap.size w w') : QtV m w' v q := h.ext (.of_below hb)
theorem QtV.mono {m m' : Nat} {w : World} {v : Value} {q : Rat} (h : QtV m w v q) (hm : m ≤ m') : QtV m' w v q := by
 obtain ⟨s, p, n, c, s', p', n', c', hv, h1, h2⟩ := h
 exact ⟨s, p, n, c, s', p', n', c', hv, h1.mono hm, h2.mono hm⟩
theorem LgV.sz {m : Nat} {w : World} {s : Bool} {p : Option Addr} {n c : Nat} {z : Int} (h : LgV m w (.agg #[.bool s, .slice p n c]) z) : s = decide (z < 0) ∧ Sz m w (.slice p n c) z.natAbs := by
 obtain ⟨p', n', c', f, hv, h1, h2, h3, h4⟩ := h
 simp only [Value.agg.injEq, Array.mk.injEq, List.cons.injEq, Value.bool.injEq, Value.slice.injEq, and_true] at hv
 obtain ⟨rfl, rfl, rfl, rfl⟩ := hv
 exact ⟨rfl, n, f, h1, h2, h3, h4⟩
theorem LgV.of_sz {m : Nat} {w : World} {s : Bool} {p : Option Addr} {n c : Nat} {z : Int} (hs : s = decide (z < 0)) (h : Sz m w (.slice p n c) z.natAbs) : LgV m w (.agg #[.bool s, .slice p n c]) z := by
 obtain ⟨n', f, h1, h2, h3, h4, rfl⟩ := h.sl
 exact ⟨p, _, c, f, by rw [hs], h1, h2, h3, h4⟩
theorem QtV.qv {w : World} {v : Value} {q : Rat} (h : QtV 600 w v q) : QV w v q := by
 obtain ⟨s, p, n, c, s', p', n', c', rfl, h1, h2⟩ := h
 obtain ⟨rfl, z1⟩ := h1.sz
 obtain ⟨rfl, z2⟩ := h2.sz
 refine ⟨p, n, c, p', n', c', ?_, z1, by simpa using z2⟩
 rw [decide_eq_false (by omega : ¬ (q.den : Int) < 0)]
theorem QV.qt {w : World} {v : Value} {q : Rat} (h : QV w v q) : QtV 600 w v q := by
 obtain ⟨p, n, c, p', n', c', rfl, z1, z2⟩ := h
 exact ⟨_, p, n, c, _, p', n', c', rfl, LgV.of_sz rfl z1, LgV.of_sz (by rw [decide_eq_false (by omega)]) (by simpa using z2)⟩
end Go.Mono
namespace Go.Proofs.YtdgodcgdlfjpaaaGreatDoor
open Go.RowKit Go.Mono
theorem alloc_long (w : World) : (Instr.alloc 35 true (.tuple #[])).run Tryz.prog w = .ok (.pointer (some ⟨w.heap.size, 0, none⟩)) (w.alloc (.cells #[.bool false, .slice none 0 0] 35)) := by go_simp
theorem quot_ones (a b : Bool) (p q : Option Addr) (n m c d : Nat) : (#[.bool a, .slice p n c, .bool b, .slice q m d] : Array Value).all (·.oneCell') = true := by simp [Value.oneCell']
theorem r4lowest_pos {m : Nat} {v1 v2 : Value} {n d : Int} (w : World) (h1 : LgV m w v1 n) (h2 : LgV m w v2 d) (hd : 0 < d) (hm : m ≤ 100000) :
  Calls Tryz.prog 205 #[v1, v2] w fun e w' => ∃ v, e = .returned v ∧ QtV m w' v (Rat.divInt n d) ∧ Below w.heap.size w w' := by
 have hg0 : 0 < Int.gcd n d := Int.gcd_pos_of_ne_zero_right n (by omega)
 have hnum : (Rat.divInt n d).num = n.tdiv (Int.gcd n d) := by
  rw [Rat.num_divInt, Int.sign_eq_one_of_pos hd, Int.one_mul, Int.gcd_comm d n]
  exact (Int.tdiv_eq_ediv_of_dvd (Int.gcd_dvd_left ..)).symm
 have hden : ((Rat.divInt n d).den : Int) = d.tdiv (Int.gcd n d) := by
  rw [Rat.den_divInt, if_neg (by omega), Int.gcd_comm d n, Int.tdiv_eq_ediv_of_dvd (Int.gcd_dvd_right ..)]
  have : (d.natAbs : Int) = d := by omega
  rw [Int.natCast_ediv, this]
 have hcm := fun (X : World) (hX : Ext w X) => r3common_ok X (h1.ext hX) (h2.ext hX) hm
 have hp1 := fun (X : World) (g : Value) (hX : Ext w X) (h : LgV m X g (Int.gcd n d)) => r3parts_ok X (h1.ext hX) h (by omega) hm hm
 have hp2 := fun (X : World) (g : Value) (hX : Ext w X) (h : LgV m X g (Int.gcd n d)) => r3parts_ok X (h2.ext hX) h (by omega) hm hm
 obtain ⟨s1, p1, n1, c1, rfl⟩ := h1.parts
 have hs2 : ∃ p2 n2 c2, v2 = .agg #[.bool false, .slice p2 n2 c2] := by
  obtain ⟨p, k, c, f, rfl, _⟩ := h2
  exact ⟨p, k, c, by rw [decide_eq_false (by omega)]⟩
 obtain ⟨p2, n2, c2, rfl⟩ := hs2
 go_enter Tryz.func205, Tryz.ntmps205
 go_wp2_with fail
 refine boxes3c fun W hB hs b0 b1 b2 => ?_
 refine (hcm W (.of_below hB)).mono ?_
 rintro e W2 ⟨vg, rfl, hg, hbb⟩
 obtain ⟨sg, pg, ng, cg, rfl⟩ := hg.parts
 replace b0 := b0.below hbb
 replace b1 := b1.below hbb
 replace b2 := b2.below hbb
 have hB2 := belowCall hB hbb
 clear hcm hbb hB
 go_wp2_with first | (refine wpList_put1 35 5 _ #[.bool sg, .slice pg ng cg] _ rfl rfl rfl rfl rfl rfl alloc_long (by as_aux_lemma => (intro _; kernel_rfl)) (by as_aux_lemma => (intro _; kernel_rfl)) sizeLong rfl (long_ones _ _ _ _) ?_; intro W3 B5 _ hB3 b5; replace b0 := b0.below hB3; replace b1 := b1.below hB3; replace b2 := b2.below hB3) | (refine wpList_load_box rfl 35 (.tmp 2) rfl w.heap.size (by as_aux_lemma => kernel_rfl) 35 #[.bool s1, .slice p1 n1 c1] b0 _ Tryz.underlying35 rfl sizeLong ?_) | (refine wpList_load_box rfl 35 (.tmp 5) rfl B5 (by as_aux_lemma => kernel_rfl) 35 #[.bool sg, .slice pg ng cg] b5 _ Tryz.underlying35 rfl sizeLong ?_)
 refine (hp1 W3 _ (.of_below (belowCall hB2 hB3)) (hg.below hB3)).mono ?_
 rintro e W4 ⟨vx, vr, rfl, hx, hr, hb4⟩
 obtain ⟨sx, px, nx, cx, rfl⟩ := hx.parts
 obtain ⟨sr, pr, nr, cr, rfl⟩ := hr.parts
 replace b1 := b1.below hb4
 replace b2 := b2.below hb4
 replace b5 := b5.below hb4
 have hB4 := belowCall (belowCall hB2 hB3) hb4
 have hg4 := (hg.below hB3).below hb4
 clear hp1 hg hb4 hB3 b0 hB2
 go_wp2_with first | (refine wpList_put2 35 6 7 _ _ #[.bool sx, .slice px nx cx] #[.bool sr, .slice pr nr cr] _ rfl rfl rfl rfl rfl rfl rfl rfl rfl rfl rfl rfl alloc_long (by as_aux_lemma => (intro _ _; kernel_rfl)) (by as_aux_lemma => (intro _ _; kernel_rfl)) (by as_aux_lemma => (intro _ _; kernel_rfl)) (by as_aux_lemma => (intro _ _; kernel_rfl)) sizeLong rfl rfl (long_ones _ _ _ _) (long_ones _ _ _ _) ?_; intro W5 B6 B7 _ _ _ hB5 b6 b7; replace b1 := b1.below hB5; replace b2 := b2.below hB5; replace b5 := b5.below hB5) | (refine wpList_load_box rfl 35 (.tmp 3) rfl (w.heap.size + 1) (by as_aux_lemma => kernel_rfl) 35 #[.bool false, .slice p2 n2 c2] b1 _ Tryz.underlying35 rfl sizeLong ?_) | (refine wpList_load_box rfl 35 (.tmp 5) rfl B5 (by as_aux_lemma => kernel_rfl) 35 #[.bool sg, .slice pg ng cg] b5 _ Tryz.underlying35 rfl sizeLong ?_)
 refine (hp2 W5 _ (.of_below (belowCall hB4 hB5)) (hg4.below hB5)).mono ?_
 rintro e W6 ⟨vy, vr2, rfl, hy, hr2, hb6⟩
 obtain ⟨sy, py, ny, cy, rfl⟩ := hy.parts
 obtain ⟨sr2, pr2, nr2, cr2, rfl⟩ := hr2.parts
 replace b2 := b2.below hb6
 replace b6 := b6.below hb6
 have hB6 := belowCall (belowCall hB4 hB5) hb6
 have hx6 := (hx.below hB5).below hb6
 clear hp2 hg4 hb6 hB5 hB4 b1 b5 b7 hx hr hr2
 rw [← hnum] at hx6
 rw [← hden] at hy
 clear hnum hden h1 h2 hg0
 go_wp2_with first | (refine wpList_load_box rfl 35 (.tmp 6) rfl B6 (by as_aux_lemma => kernel_rfl) 35 #[.bool sx, .slice px nx cx] b6 _ Tryz.underlying35 rfl sizeLong ?_) | (refine wpList_load_box rfl 35 (.tmp 8) rfl B8 (by as_aux_lemma => kernel_rfl) 35 #[.bool sy, .slice py ny cy] b8 _ Tryz.underlying35 rfl sizeLong ?_) | (refine wpList_build2 rfl 37 _ rfl #[.bool sx, .slice px nx cx, .bool sy, .slice py ny cy] (by as_aux_lemma => kernel_rfl) ?_) | (refine wpList_store_box rfl 37 (.tmp 4) _ rfl (w.heap.size + 1 + 1) 0 37 _ #[.bool sx, .slice px nx cx, .bool sy, .slice py ny cy] #[.bool sx, .slice px nx cx, .bool sy, .slice py ny cy] rfl rfl b2 sizeQuot (Nat.le_of_ble_eq_true rfl) (quot_ones _ _ _ _ _ _ _ _) (whole_new rfl) ?_; intro W8 hk b4) | (refine wpList_put2 35 8 9 _ _ #[.bool sy, .slice py ny cy] #[.bool sr2, .slice pr2 nr2 cr2] _ rfl rfl rfl rfl rfl rfl rfl rfl rfl rfl rfl rfl alloc_long (by as_aux_lemma => (intro _ _; kernel_rfl)) (by as_aux_lemma => (intro _ _; kernel_rfl)) (by as_aux_lemma => (intro _ _; kernel_rfl)) (by as_aux_lemma => (intro _ _; kernel_rfl)) sizeLong rfl rfl (long_ones _ _ _ _) (long_ones _ _ _ _) ?_; intro W7 B8 B9 _ _ _ hB7 b8 b9; replace b2 := b2.below hB7; replace b6 := b6.below hB7)
 have hB8 := belowCall hB6 hB7
 have hb8 := hk.below hB8 (by omega) hB8.size
 have he := hk.ext b2 (by decide)
 refine bodyPost_ret (b4.results rfl _ _ rfl Tryz.underlying37 rfl sizeQuot) rfl ⟨_, rfl, ⟨_, _, _, _, _, _, _, _, rfl, (hx6.below hB7).ext he, (hy.below hB7).ext he⟩, hb8⟩
end Go.Proofs.YtdgodcgdlfjpaaaGreatDoor
