/- The law MatrixKnown: the examples of the ray transfer matrices, afocal lenses, mirrors and the order of errors; its walk by a verified evaluator of the model, and its card. Part 4 of 36. No condition beside the row. -/
import Derived.Great.BuildSlice
import Derived.Test.YtdgodcgdlfjpaaaGreatDoorM01
import Derived.Test.YtdgodcgdlfjpaaaGreatDoorM03
set_option linter.unusedVariables false
set_option linter.unusedSimpArgs false
set_option maxRecDepth 100000
set_option maxHeartbeats 4000000
namespace Go.Proofs.YtdgodcgdlfjpaaaGreatDoor
open Go.RowKit Go.Mono
theorem clone_any (p : Option Addr) (n c1 : Nat) (f : Nat → Int) (w : World) (h1 : SlF w (.slice p n c1) n f) (hn : n ≤ 1000000) :
  Calls Tryz.prog 224 #[.slice p n c1] w fun e w' => ∃ v, e = .returned v ∧ OwnF w' w.heap.size v n f ∧ Below w.heap.size w w' := by
 have hq : ∀ (w : World), (binOp .eql 147 (.slice p n c1) (.slice none 0 0)).run Tryz.prog w = .ok (.bool p.isNone) w := fun w => Lib.run_eql_slice_nil w _ _ p n c1 0 0 Tryz.underlying147
 cases p with
 | none =>
   obtain ⟨rfl, rfl⟩ : n = 0 ∧ c1 = 0 := by
    rcases h1 with ⟨h, rfl⟩ | ⟨b, off, cap, cs, fr, h, _⟩
    ·simp at h; exact ⟨rfl, h⟩
    ·simp at h
   go_enter Tryz.func224, Tryz.ntmps224
   go_wp2
   go_ret
   exact ⟨_, rfl, OwnF.nil _ _ _, Below.refl _ _⟩
 | some a =>
   have ho : OwnF (w.alloc (.cells #[] 3)) w.heap.size (.slice (some ⟨w.heap.size, 0, none⟩) 0 0) 0 (fun _ => 0) := World.ownsRow_lit w #[] 0 (Nat.le_refl _) (by decide) rfl
   have hx : Below w.heap.size w (w.alloc (.cells #[] 3)) := (Below.refl _ _).alloc (Nat.le_refl _) _
   have hs := h1.ext (.of_below hx)
   clear h1
   go_enter Tryz.func224, Tryz.ntmps224
   go_wp2_with (at_builtin; refine wpList_append_ints _ rfl _ _ 147 rfl Tryz.underlying147 infoInt w.heap.size _ 0 (fun _ => 0) rfl ho _ n c1 f rfl hs (by omega) (by simp) ?_; intro v' w1 ho' hg)
   go_ret
   refine ⟨_, rfl, ?_, hx.grown hg (by simp) (by rintro k ⟨⟩; exact Nat.le_refl _)⟩
   have := ho'.congr (f' := f) (fun i _ => by simp)
   rwa [Nat.zero_add] at this
theorem minus_any (p q : Option Addr) (n m c1 c2 : Nat) (f g : Nat → Int) (w : World) (h1 : SlF w (.slice p n c1) n f) (h2 : SlF w (.slice q m c2) m g)
  (f0 : ∀ i, i < n → 0 ≤ f i) (f1 : ∀ i, i < n → f i < 1000000000) (g0 : ∀ i, i < m → 0 ≤ g i) (g1 : ∀ i, i < m → g i < 1000000000) (hmn : m ≤ n) (hn : n ≤ 1000000) (hle : vf g m ≤ vf f n) :
  Calls Tryz.prog 159 #[.slice p n c1, .slice q m c2] w fun e w' => ∃ p k c h, e = .returned (.slice p k c) ∧ SlF w' (.slice p k c) k h ∧ Digs h k ∧ vf h k = vf f n - vf g m ∧ k ≤ n ∧ Below w.heap.size w w' := by
 obtain ⟨hc2, hn2, hx2⟩ := h2.opens
 clear h2
 by_cases h0 : n = 0
 ·subst h0
  obtain rfl : m = 0 := by omega
  go_enter Tryz.func159, Tryz.ntmps159
  go_wp2_with (go_at_call 224; refine (clone_any _ _ _ f _ h1 (by omega)).mono ?_; rintro e w' ⟨v, rfl, ho, hb⟩)
  obtain ⟨p2, c3, rfl⟩ := ho.shape
  have hs := ho.sl (by omega)
  go_wp2_with fail
  go_loopw [13] (fun a wr => a = .int .i64 0 ∧ wr = w') (fun _ _ => 0)
  case atStart => exact ⟨rfl, rfl⟩
  case round =>
   obtain ⟨rfl, rfl⟩ := hrel
   go_wp2
   go_loopw [28] (fun a wr' => a = .int .i64 0 ∧ wr' = wr) (fun _ _ => 0)
   case atStart => exact ⟨rfl, rfl⟩
   case round =>
    obtain ⟨rfl, rfl⟩ := hrel
    go_wp2_with (go_at_call 223; refine (trim_any _ _ _ f _ hs).mono ?_; rintro e w' ⟨rfl, rfl⟩)
    go_ret
    exact ⟨p2, 0, c3, f, rfl, hs, ⟨fun i hi => by omega, fun i hi => by omega, fun hi => by omega⟩, by simp [vf], Nat.le_refl _, hb⟩
 ·go_enter Tryz.func159, Tryz.ntmps159
  go_wp2_with (go_at_call 224; refine (clone_any _ _ _ f _ h1 (by omega)).mono ?_; rintro e w' ⟨v, rfl, ho, hb⟩)
  rcases ho.open with ⟨_, h⟩ | ⟨r, cap, rfl, hB, hcap, hr⟩
  ·exact absurd h h0
  clear ho h1
  have HP := MinusInv.start hmn f0 f1 g0 g1
  have hS : 0 ≤ vf f n - vf g m := by omega
  go_wp2_with fail
  go_loopw [13] (fun a wr => ∃ k : Nat, k ≤ m ∧ a = .int .i64 k ∧ Below w.heap.size w wr ∧ RowF wr r n (fun j => f j - (if j < k then g j else 0))) (fun a _ => m - (intOf a).toNat)
  case atStart => exact ⟨0, Nat.zero_le _, rfl, hb, hr.congr fun i _ => by simp⟩
  case round =>
   clear hb hr
   obtain ⟨k, hk, rfl, hb, hr⟩ := hrel
   by_cases hlt : k < m
   ·obtain ⟨b, off, rfl, hbs, hcell⟩ := hx2 (by omega)
    have a1 := (hb.cell (p := ⟨b, off + k, none⟩) hbs).trans (hcell k hlt)
    have a2 := hr.cell k (by omega)
    rw [if_neg (by omega), Int.sub_zero] at a2
    have a3 := hr.frozen k
    have d1 := f0 k (by omega)
    have d2 := f1 k (by omega)
    have d3 := g0 k hlt
    have d4 := g1 k hlt
    clear hcell hx2 f0 f1 g0 g1 HP
    go_wp2
    go_roundw
    case rel =>
     refine ⟨k + 1, by omega, by go_num, hb.setCell (p := ⟨r, k, none⟩) hB _, (hr.set k _).congr fun i hi => ?_⟩
     by_cases e : i = k
     ·subst e; simp
     ·rw [if_neg e]; simp only [show i < k + 1 ↔ i < k by omega]
    case measure => simp [intOf]; omega
   ·obtain rfl : k = m := by omega
    clear hlt hk hx2
    clear f0 f1 g0 g1
    go_wp2
    go_loopw [28] (fun a wr => ∃ i : Nat, i ≤ n ∧ a = .int .i64 i ∧ Below w.heap.size w wr ∧ ∃ h, RowF wr r n h ∧ MinusInv n (vf f n - vf g k) i h) (fun a _ => n - (intOf a).toNat)
    case atStart => exact ⟨0, Nat.zero_le _, rfl, hb, _, hr, HP⟩
    case round =>
     clear hb hr HP
     obtain ⟨i, hi, rfl, hb, h, hr, HP⟩ := hrel
     by_cases hlt : i < n
     ·obtain ⟨q1, q2, q3⟩ := HP.bd hlt
      have a2 := hr.cell i (by omega)
      have a3 := hr.frozen i
      by_cases hge : h i < 0
      ·have hl := HP.last hS hlt hge
       obtain ⟨q4, q5⟩ := q3 hl
       have a4 := hr.cell (i + 1) (by omega)
       have a5 := hr.frozen (i + 1)
       have r1 := hr.set i (h i + 1000000000)
       have a6 := r1.cell (i + 1) (by omega)
       have a7 := r1.frozen (i + 1)
       simp only [show ¬ i + 1 = i by omega, if_false] at a6
       clear q3
       go_wp2
       go_roundw
       case rel => exact ⟨i + 1, by omega, by go_num, (hb.setCell (p := ⟨r, i, none⟩) hB _).setCell (p := ⟨r, i + 1, none⟩) hB _, _, r1.set (i + 1) (h (i + 1) - 1), HP.carry hl hge⟩
       case measure => simp [intOf]; omega
      ·have hge' : 0 ≤ h i := by omega
       clear q3
       go_wp2
       go_roundw
       case rel => exact ⟨i + 1, by omega, by go_num, hb, _, hr, HP.plain hlt hge'⟩
       case measure => simp [intOf]; omega
     ·obtain rfl : i = n := by omega
      clear hlt hi
      have hs := hr.slice (by omega) i (Nat.le_refl _) cap hcap
      obtain ⟨c1', c2'⟩ := HP.done
      have hle := trimN_le h i
      replace c2' := Lib.hid c2'
      go_wp2_with (go_at_call 223; refine (trim_any _ _ _ h _ hs).mono ?_; rintro e w' ⟨rfl, rfl⟩)
      go_ret
      exact ⟨_, _, _, h, rfl, hs.take _ hle, c1', c2'.out, hle, hb⟩
theorem minus_sz (m1 m2 : Nat) (w wf : World) (hx : Ext wf w) (p q : Option Addr) (n m c1 c2 : Nat) (N M : Int) (h1 : Sz m1 wf (.slice p n c1) N) (h2 : Sz m2 wf (.slice q m c2) M) (hm1 : m1 ≤ 1000000) (hle : M ≤ N) :
  Calls Tryz.prog 159 #[.slice p n c1, .slice q m c2] w fun e w' => ∃ p k c, e = .returned (.slice p k c) ∧ Sz m1 w' (.slice p k c) (N - M) ∧ Below w.heap.size w w' := by
 obtain ⟨n, f, s1, d1, rfl, l1, rfl⟩ := (h1.ext hx).sl
 obtain ⟨m, g, s2, d2, rfl, l2, rfl⟩ := (h2.ext hx).sl
 refine (minus_any p q n m c1 c2 f g w s1 s2 d1.lo d1.hi d2.lo d2.hi (d2.len_le d1 hle) (by omega) hle).mono ?_
 rintro e w' ⟨p, k, c, h, rfl, hs, hd, hv, hk, hb⟩
 exact ⟨_, _, _, rfl, ⟨k, h, hs, hd, hv, by omega⟩, hb⟩
end Go.Proofs.YtdgodcgdlfjpaaaGreatDoor
namespace Go.Ex
open Go.RowKit Go.Mono
section
def pureOf {α : Type} (P : Program) : Sem α → Option α
 | .pure a => some a
 | .program k => pureOf P (k P)
 | .mark _ k => pureOf P k
 | _ => none
theorem pureOf_run {α : Type} {P : Program} : ∀ {s : Sem α} {x : α}, pureOf P s = some x → ∀ w, s.run P w = .ok x w
 | .pure a, x, h, w => by simp only [pureOf, Option.some.injEq] at h; subst h; rfl
 | .program k, x, h, w => by simp only [pureOf] at h; exact pureOf_run h w
 | .mark _ k, x, h, w => by simp only [pureOf] at h; exact pureOf_run h w
def szOf (P : Program) (t : TypeId) : Option Nat := (P.info? t).map (·.size)
def rowT (P : Program) (t : TypeId) : Option Bool := (P.underlying t).map TypeDesc.isRow
section
variable {P : Program} {w : World} {B off : Nat}
theorem run_szOf {t : TypeId} {n : Nat} (h : szOf P t = some n) (w : World) : (sizeOf t).run P w = .ok n w := by
 obtain ⟨i, hi, rfl⟩ := Option.map_eq_some_iff.1 h
 unfold sizeOf typeInfo
 simp [hi]
theorem run_rowT {t : TypeId} {b : Bool} (h : rowT P t = some b) (w : World) : (isAgg t).run P w = .ok b w := by
 obtain ⟨d, hd, rfl⟩ := Option.map_eq_some_iff.1 h
 unfold isAgg
 simp only [Sem.run_bind, run_underlying hd, Result.andThen_ok]
 cases d <;> rfl
theorem run_fieldAt' {s f : Nat} {fs : Array Field} {fl : Field} {n : Nat} (hs : P.underlying s = some (.struct fs)) (hf : fs[f]? = some fl) (hz : szOf P fl.type = some (n + 1)) :
  (Instr.fieldAt s (.pointer (some ⟨B, off, none⟩)) f).run P w = .ok (.pointer (some ⟨B, off + fl.offset, none⟩)) w := by
 unfold Instr.fieldAt
 simp only [Sem.run_bind, run_underlying hs, Result.andThen_ok, hf, Instr.sureAddr, Sem.run_pure, fieldPlace, run_szOf hz]
 simp [Addr.add_mid]
theorem run_indexAt_s {t e len cap : Nat} {k : IntKind} {i : Int} {n : Nat} (hs : P.underlying t = some (.slice e)) (hz : szOf P e = some n) (hi : 0 ≤ i ∧ i < len) :
  (Instr.indexAt t (.slice (some ⟨B, off, none⟩) len cap) (.int k i)).run P w = .ok (.pointer (some ⟨B, off + i.toNat * n, none⟩)) w := by
 unfold Instr.indexAt
 simp only [Sem.run_bind, asIntOf, run_underlying hs, Result.andThen_ok, Sem.run_pure, if_pos hi, run_szOf hz, Addr.add_mid]
theorem run_indexAt_a {t e len : Nat} {k : IntKind} {i : Int} {n : Nat} (hs : P.underlying t = some (.array len e)) (hz : szOf P e = some n) (hi : 0 ≤ i ∧ i < len) :
  (Instr.indexAt t (.pointer (some ⟨B, off, none⟩)) (.int k i)).run P w = .ok (.pointer (some ⟨B, off + i.toNat * n, none⟩)) w := by
 unfold Instr.indexAt
 simp only [Sem.run_bind, asIntOf, run_underlying hs, Result.andThen_ok, Sem.run_pure, Instr.sureAddr, if_pos hi, run_szOf hz, Addr.add_mid]
end
def fieldAddrS (P : Program) (s : TypeId) (x : Option SV) (f : Nat) : Option SV :=
 match x with
 | some (.a (.one (.ptr k off))) => match P.underlying s with
   | some (.struct fs) => match fs[f]? with
     | some fl => match szOf P fl.type with
       | some (_ + 1) => some (.a (.one (.ptr k (off + fl.offset))))
       | _ => none
     | none => none
   | _ => none
 | _ => none
def indexAddrS (P : Program) (t : TypeId) (x ix : Option SV) : Option SV :=
 match x, ix with
 | some (.a (.one (.ptr k off))), some (.a (.one (.val (.int _ i)))) => match P.underlying t with
   | some (.array n e) => match szOf P e with
     | some s => if 0 ≤ i ∧ i < n then some (.a (.one (.ptr k (off + i.toNat * s)))) else none
     | none => none
   | _ => none
 | some (.a (.one (.slc k off len _))), some (.a (.one (.val (.int _ i)))) => match P.underlying t with
   | some (.slice e) => match szOf P e with
     | some s => if 0 ≤ i ∧ i < len then some (.a (.one (.ptr k (off + i.toNat * s)))) else none
     | none => none
   | _ => none
 | some (.a (.one (.sli k off len))), some (.a (.one (.val (.int _ i)))) => match P.underlying t with
   | some (.slice e) => match szOf P e with
     | some s => if 0 ≤ i ∧ i < len then some (.a (.one (.ptr k (off + i.toNat * s)))) else none
     | none => none
   | _ => none
 | some (.a (.one (.own k len _))), some (.a (.one (.val (.int _ i)))) => match P.underlying t with
   | some (.slice e) => match szOf P e with
     | some s => if 0 ≤ i ∧ i < len then some (.a (.one (.ptr k (i.toNat * s)))) else none
     | none => none
   | _ => none
 | _, _ => none
def partS (P : Program) (t : TypeId) (l : List U) (off : Nat) : Option SV :=
 match rowT P t, szOf P t with
 | some true, some n => (subX l off n).map fun m => .a (.agg m)
 | some false, some _ => match subX l off 1 with
   | some [u] => some (.a (.one u))
   | _ => none
 | _, _ => none
def fieldS (P : Program) (t : TypeId) (x : Option SV) (f : Nat) : Option SV :=
 match x with
 | some (.a (.agg l)) => match P.underlying t with
   | some (.struct fs) => match fs[f]? with
     | some fl => partS P fl.type l fl.offset
     | none => none
   | _ => none
 | _ => none
def indexS (P : Program) (t : TypeId) (x ix : Option SV) : Option SV :=
 match x, ix with
 | some (.a (.agg l)), some (.a (.one (.val (.int _ i)))) => match P.underlying t with
   | some (.array n e) => match szOf P e with
     | some s => if 0 ≤ i ∧ i < n then partS P e l (i.toNat * s) else none
     | none => none
   | _ => none
 | _, _ => none
section
variable {D : Den} {P : Program} {ρ : Nm} {wc w : World}
theorem partS_ok {t : TypeId} {l : List U} {off : Nat} {x : SV} {cs : List Value} (h : partS P t l off = some x) (hl : denL D ρ wc l cs) :
  ∃ v, (part t cs.toArray off).run P w = .ok v w ∧ denV D ρ wc x v := by
 unfold partS at h
 split at h
 ·rename_i n hr hz
  obtain ⟨m, hm, rfl⟩ := Option.map_eq_some_iff.1 h
  obtain ⟨h1, h2⟩ := subX_den hm hl
  refine ⟨.agg ((cs.drop off).take n).toArray, ?_, _, rfl, h1⟩
  unfold part
  simp only [Sem.run_bind, run_rowT hr, Result.andThen_ok, if_true, run_szOf hz, Sem.run_pure]
  congr 2
  apply Array.toList_inj.1
  simp [List.extract_eq_take_drop]
 ·rename_i n hr hz
  split at h
  ·rename_i u hu
   cases h
   obtain ⟨h1, h2⟩ := subX_den hu hl
   obtain ⟨c, d, e, hc, hd⟩ := h1
   obtain rfl : d = [] := hd
   rw [List.append_nil] at e
   rw [e] at h2
   obtain ⟨v, rfl⟩ : ∃ v, c = [v] := List.length_eq_one_iff.1 h2
   refine ⟨v, ?_, hc⟩
   have hv : cs[off]? = some v := by
    have := congrArg (·[0]?) e
    simpa using this
   unfold part
   simp only [Sem.run_bind, run_rowT hr, Result.andThen_ok, Bool.false_eq_true, if_false, List.getElem?_toArray, hv, Sem.run_pure]
  ·cases h
 ·cases h
end
end
section
theorem oneCell_cells {v : Value} (h : v.oneCell' = true) : v.cells = #[v] := by
 cases v <;> first | rfl | simp [Value.oneCell'] at h
def unitsA : SA → List U
 | .one u => [u]
 | .agg l => l
theorem denA_cells {D : Den} {ρ : Nm} {w : World} : ∀ {x : SA} {v : Value}, denA D ρ w x v → denL D ρ w (unitsA x) v.cells.toList
 | .one u, v, h => by
   rw [oneCell_cells (denU.ones h v (by simp))]
   exact ⟨[v], [], rfl, h, rfl⟩
 | .agg l, v, ⟨cs, e, hl⟩ => by rw [e]; exact hl
def fillS (place : Nat → Option (Nat × Nat)) (l : List U) : List (Nat × List U) → Option (List U)
 | [] => some l
 | (i, us) :: r => match place i with
   | none => none
   | some (off, size) => if widths us = size then (putX l off us).bind fun m => fillS place m r else none
theorem foldl_put (off : Nat) : ∀ (vs : List Value) (k : Nat) (cs : Array Value), off + k + vs.length ≤ cs.size →
  (vs.zipIdx k).foldl (fun c (p : Value × Nat) => c.setIfInBounds (off + p.2) p.1) cs = (cs.toList.take (off + k) ++ vs ++ cs.toList.drop (off + k + vs.length)).toArray
 | [], k, cs, h => by simp
 | v :: r, k, cs, h => by
   have hl : off + k + (r.length + 1) ≤ cs.size := by simpa using h
   rw [List.zipIdx_cons, List.foldl_cons, foldl_put off r (k + 1) _ (by simp; omega)]
   apply congrArg
   rw [Array.toList_setIfInBounds, ← Nat.add_assoc]
   have hL : off + k < cs.toList.length := by rw [Array.length_toList]; omega
   rw [List.set_eq_take_append_cons_drop, if_pos hL]
   generalize off + k = m at *
   have e1 : (cs.toList.take m).length = m := by rw [List.length_take]; omega
   have t1 : (cs.toList.take m ++ v :: cs.toList.drop (m + 1)).take (m + 1) = cs.toList.take m ++ [v] := by
    rw [List.take_append, e1, List.take_of_length_le (by omega), show m + 1 - m = 0 + 1 by omega, List.take_succ_cons]
    simp
   have t2 : (cs.toList.take m ++ v :: cs.toList.drop (m + 1)).drop (m + 1 + r.length) = cs.toList.drop (m + (r.length + 1)) := by
    rw [List.drop_append, e1, List.drop_of_length_le (by omega), show m + 1 + r.length - m = r.length + 1 by omega, List.drop_succ_cons, List.drop_drop, List.nil_append]
    congr 1
    omega
   rw [t1, t2]
   simp
section
variable {D : Den} {ρ : Nm} {w : World}
def denParts (D : Den) (ρ : Nm) (w : World) : List (Nat × List U) → List (Nat × Value) → Prop
 | [], vs => vs = []
 | p :: r, vs => ∃ v s, vs = (p.1, v) :: s ∧ denL D ρ w p.2 v.cells.toList ∧ denParts D ρ w r s
theorem fillS_ok (place : Nat → Option (Nat × Nat)) : ∀ {ps : List (Nat × List U)} {l m : List U} {cs : List Value} {vs : List (Nat × Value)}, fillS place l ps = some m → denL D ρ w l cs → denParts D ρ w ps vs →
  ∃ c : Array Value, Instr.fill place cs.toArray vs = some c ∧ denL D ρ w m c.toList
 | [], l, m, cs, vs, h, hl, hp => by
   obtain rfl : vs = [] := hp
   cases h
   exact ⟨_, rfl, hl⟩
 | (i, us) :: r, l, m, cs, vs, h, hl, hp => by
   obtain ⟨v, s, rfl, hv, hs⟩ := hp
   unfold fillS at h
   cases hpl : place i with
   | none => rw [hpl] at h; cases h
   | some os =>
     obtain ⟨off, size⟩ := os
     rw [hpl] at h
     dsimp only at h
     split at h
     ·rename_i hw
      obtain ⟨m', hm', h2⟩ := Option.bind_eq_some_iff.1 h
      obtain ⟨k1, k2⟩ := putX_den hm' hl hv
      have hlen := hv.len
      have hsz : v.cells.size = size := by rw [← hw, ← hlen, Array.length_toList]
      have hk : ¬ (off + v.cells.size > cs.length) := by
       rw [Array.length_toList] at k2
       omega
      obtain ⟨c, hc1, hc2⟩ := fillS_ok place h2 k1 hs
      refine ⟨c, ?_, hc2⟩
      show (match place i with
       | none => none
       | some (off, size) =>
         if v.cells.size ≠ size || off + v.cells.size > cs.toArray.size then none
         else Instr.fill place (v.cells.zipIdx.foldl (fun cs (c, j) => cs.setIfInBounds (off + j) c) cs.toArray) s) = some c
      rw [hpl]
      dsimp only
      rw [if_neg (by simp [hsz]; omega), ← hc1]
      congr 1
      have := foldl_put off v.cells.toList 0 cs.toArray (by simp; rw [Array.length_toList] at k2; omega)
      simp only [Nat.add_zero, List.toList_toArray] at this
      rw [← this, ← Array.foldl_toList]
      simp
     ·cases h
end
def zeroU (P : Program) (t : TypeId) : Option (List U) :=
 match (P.info? t).bind (·.zero) with
 | some z => if z.cells.toList.all (·.oneCell') then some (z.cells.toList.map .val) else none
 | none => none
theorem zeroU_ok {P : Program} {t : TypeId} {l : List U} (h : zeroU P t = some l) (D : Den) (ρ : Nm) (w : World) :
  ∃ i z, P.info? t = some i ∧ i.zero = some z ∧ denL D ρ w l z.cells.toList := by
 unfold zeroU at h
 split at h
 ·rename_i z hz
  obtain ⟨i, hi, hz'⟩ := Option.bind_eq_some_iff.1 hz
  split at h
  ·rename_i ha
   cases h
   exact ⟨i, z, hi, hz', denL_vals _ fun v hv => List.all_eq_true.1 ha v hv⟩
  ·cases h
 ·cases h
def getS (tm : List (Nat × SV)) : Operand → Option SV
 | .tmp t => tm.look t
 | .const v => ofVal v
 | .global g => some (.a (.one (.val (.pointer (some ⟨g, 0, none⟩)))))
 | .func f => some (.a (.one (.clo f [])))
structure TSat (D : Den) (ρ : Nm) (w : World) (n : Nat) (tm : List (Nat × SV)) (a : Act) : Prop where
 size : a.tmps.size = n
 at_ : ∀ t x, tm.look t = some x → ∃ v, a.tmps[t]? = some v ∧ denV D ρ w x v
theorem TSat.get {D : Den} {ρ : Nm} {w : World} {n : Nat} {tm : List (Nat × SV)} {a : Act} (h : TSat D ρ w n tm a) : ∀ {x : Operand} {z : SV}, getS tm x = some z → denV D ρ w z (a.eval x)
 | .tmp t, z, hz => by
   obtain ⟨v, hv, hd⟩ := h.at_ t z hz
   have : a.eval (.tmp t) = v := by
    show a.tmps.getD t undef = v
    simp [Array.getD_eq_getD_getElem?, hv]
   rw [this]
   exact hd
 | .const v, z, hz => ofVal_den hz
 | .global g, z, hz => by cases hz; exact ⟨rfl, rfl⟩
 | .func f, z, hz => by cases hz; exact ⟨[], rfl, rfl⟩
theorem TSat.mono {D : Den} {ρ ρ' : Nm} {w w' : World} {n : Nat} {tm : List (Nat × SV)} {a : Act} (h : TSat D ρ w n tm a) (hr : ρ.le ρ') (hx : Ext w w') : TSat D ρ' w' n tm a :=
 ⟨h.size, fun t x hl => let ⟨v, hv, hd⟩ := h.at_ t x hl; ⟨v, hv, hd.mono hr hx⟩⟩
def partsS (get : Operand → Option SV) : List (Nat × Operand) → Option (List (Nat × List U))
 | [] => some []
 | (i, x) :: r => match get x with
   | some (.a s) => (partsS get r).map ((i, unitsA s) :: ·)
   | _ => none
theorem partsS_ok {D : Den} {ρ : Nm} {w : World} {get : Operand → Option SV} {ev : Operand → Value} (hg : ∀ x z, get x = some z → denV D ρ w z (ev x)) :
  ∀ {l : List (Nat × Operand)} {ps : List (Nat × List U)}, partsS get l = some ps → denParts D ρ w ps (l.map fun (i, x) => (i, ev x))
 | [], ps, h => by cases h; rfl
 | (i, x) :: r, ps, h => by
   unfold partsS at h
   split at h
   ·rename_i s hs
    obtain ⟨q, hq, rfl⟩ := Option.map_eq_some_iff.1 h
    exact ⟨_, _, rfl, denA_cells (hg _ _ hs), partsS_ok hg hq⟩
   ·cases h
def buildS (P : Program) (t : TypeId) (parts : List (Nat × Operand)) (get : Operand → Option SV) : Option SV :=
 match zeroU P t, partsS get parts with
 | some z, some ps => match P.underlying t with
   | some (.array _ e) => match szOf P e with
     | some s => (fillS (fun i => some (i * s, s)) z ps).map fun m => .a (.agg m)
     | none => none
   | some (.struct fields) => match fields.toList.mapM (fun f => (P.info? f.type).map fun i => (f.offset, i.size)) with
     | some places => (fillS (places.toArray[·]?) z ps).map fun m => .a (.agg m)
     | none => none
   | _ => none
 | _, _ => none
theorem buildS_ok {D : Den} {P : Program} {ρ : Nm} {w : World} {get : Operand → Option SV} {ev : Operand → Value} (hg : ∀ x z, get x = some z → denV D ρ w z (ev x))
  {t : TypeId} {parts : Array (Nat × Operand)} {x : SV} (h : buildS P t parts.toList get = some x) (W : World) :
  ∃ v, (Instr.build t (parts.map fun (i, x) => (i, ev x))).run P W = .ok v W ∧ denV D ρ w x v := by
 unfold buildS at h
 split at h
 ·rename_i z ps hz hp
  obtain ⟨it, zv, h1, h2, h3⟩ := zeroU_ok hz D ρ w
  have hps := partsS_ok hg hp
  split at h
  ·rename_i n e hu
   split at h
   ·rename_i s hs
    obtain ⟨m, hm, rfl⟩ := Option.map_eq_some_iff.1 h
    obtain ⟨c, hc1, hc2⟩ := fillS_ok _ hm h3 hps
    obtain ⟨ie, hie, rfl⟩ := Option.map_eq_some_iff.1 hs
    refine ⟨.agg c, run_build W t _ c ?_, c.toList, by simp, hc2⟩
    unfold Program.built
    rw [h1, hu]
    dsimp only
    rw [h2, hie]
    simpa using hc1
   ·cases h
  ·rename_i fields hu
   split at h
   ·rename_i places hpl
    obtain ⟨m, hm, rfl⟩ := Option.map_eq_some_iff.1 h
    obtain ⟨c, hc1, hc2⟩ := fillS_ok _ hm h3 hps
    refine ⟨.agg c, run_build W t _ c ?_, c.toList, by simp, hc2⟩
    unfold Program.built
    rw [h1, hu]
    dsimp only
    rw [h2, hpl]
    simpa using hc1
   ·cases h
  ·cases h
 ·cases h
end
section
def capsOf (get : Operand → Option SV) : List Operand → Option (List (Nat × Nat))
 | [] => some []
 | x :: r => match get x with
   | some (.a (.one (.ptr k o))) => (capsOf get r).map ((k, o) :: ·)
   | _ => none
def realO (get : Operand → Option SV) : Option Operand → Option (Option Value)
 | none => some none
 | some x => ((get x).bind realV).map some
def cutS (len : Nat) (l h m : Option Value) : Option (Nat × Nat) :=
 match m, (match l with
  | none => some 0
  | some (.int .i64 (.ofNat a)) => some a
  | _ => none), (match h with
  | none => some len
  | some (.int .i64 (.ofNat b)) => some b
  | _ => none) with
 | none, some a, some b => if a < b ∧ b ≤ len then some (a, b) else none
 | _, _, _ => none
def sliceS (P : Program) (t : TypeId) (x : Option SV) (get : Operand → Option SV) (lo hi mx : Option Operand) : Option SV :=
 match realO get lo, realO get hi, realO get mx with
 | some l, some h, some m => match x, P.underlying t with
   | some (.a (.one (.slc k off len cap))), some (.slice e) => match pureOf P (Instr.sliceBounds true len cap l h m), szOf P e with
     | some (a, b, c), some s => some (.a (.one (.slc k (if c = a then off else off + a * s) (b - a) (c - a))))
     | _, _ => none
   | some (.a (.one (.ptr k off))), some (.array n e) => match pureOf P (Instr.sliceBounds false n n l h m), szOf P e with
     | some (a, b, c), some s => some (.a (.one (.slc k (if c = a then off else off + a * s) (b - a) (c - a))))
     | _, _ => none
   | some (.a (.one (.own k len _))), some (.slice e) => match cutS len l h m, szOf P e with
     | some (a, b), some s => some (.a (.one (.sli k (a * s) (b - a))))
     | _, _ => none
   | some (.a (.one (.sli k off len))), some (.slice e) => match cutS len l h m, szOf P e with
     | some (a, b), some s => some (.a (.one (.sli k (off + a * s) (b - a))))
     | _, _ => none
   | _, _ => none
 | _, _, _ => none
def lenS (P : Program) (c : Call) (get : Operand → Option SV) : Option SV :=
 match c.callee, c.args.toList, c.argTypes.toList with
 | .builtin .len, [x], [t] => match get x, P.underlying t with
   | some (.a (.one (.slc _ _ n _))), some (.slice _) => some (.a (.one (.val (goInt n))))
   | some (.a (.one (.sli _ _ n))), some (.slice _) => some (.a (.one (.val (goInt n))))
   | some (.a (.one (.own _ n _))), some (.slice _) => some (.a (.one (.val (goInt n))))
   | some (.a (.one .emp)), some (.slice _) => some (.a (.one (.val (goInt (0 : Nat)))))
   | _, _ => none
 | .builtin .cap, [x], [t] => match get x, P.underlying t with
   | some (.a (.one (.slc _ _ _ c))), some (.slice _) => some (.a (.one (.val (goInt c))))
   | _, _ => none
 | _, _, _ => none
def loadS (P : Program) (t : TypeId) (x : Option SV) (bk : List (Nat × Blk)) : Option SV :=
 match x with
 | some (.a (.one (.ptr k off))) => match bk.look k with
   | some b => if b.dead then none else partS P t b.cells off
   | none => none
 | _ => none
def isSelect : Op → Bool
 | .select .. => true
 | _ => false
def realOp (P : Program) (o : Oper) (get : Operand → Option SV) : Option SV :=
 if !isSelect o.op && o.op.operands.toList.all (fun x => ((get x).bind realV).isSome) then
  match pureOf P (execOp (fun x => ((get x).bind realV).getD undef) o) with
  | some (.value v) => ofVal v
  | _ => none
 else none
def evPure (P : Program) (o : Oper) (get : Operand → Option SV) (bk : List (Nat × Blk)) : Option SV :=
 match o.op with
 | .move x => get x
 | .assign x => get x
 | .makeFunc (.func f) first caps => if first.isEmpty then (capsOf get caps.toList).map fun l => .a (.one (.clo f l)) else none
 | .fieldAddr s x f => fieldAddrS P s (get x) f
 | .indexAddr t x ix => match indexAddrS P t (get x) (get ix) with
   | some r => some r
   | none => realOp P o get
 | .field t x f => match fieldS P t (get x) f with
   | some r => some r
   | none => realOp P o get
 | .index t x ix => match indexS P t (get x) (get ix) with
   | some r => some r
   | none => realOp P o get
 | .extract x i => match get x with
   | some (.tup l) => (l[i]?).map .a
   | _ => none
 | .nilCheck x => match get x with
   | some (.a (.one (.ptr k off))) => some (.a (.one (.ptr k off)))
   | some (.a (.one (.clo f l))) => some (.a (.one (.clo f l)))
   | _ => realOp P o get
 | .build t parts => buildS P t parts.toList get
 | .load t x => loadS P t (get x) bk
 | .slice t x lo hi mx => match sliceS P t (get x) get lo hi mx with
   | some r => some r
   | none => realOp P o get
 | .call c => match lenS P c get with
   | some r => some r
   | none => realOp P o get
 | _ => realOp P o get
section
variable {D : Den} {P : Program} {ρ : Nm} {wc w : World} {get : Operand → Option SV} {ev : Operand → Value}
theorem capsOf_ok (hg : ∀ x z, get x = some z → denV D ρ wc z (ev x)) : ∀ {l : List Operand} {c : List (Nat × Nat)}, capsOf get l = some c → adrs ρ c (l.map ev)
 | [], c, h => by cases h; rfl
 | x :: r, c, h => by
   unfold capsOf at h
   split at h
   ·rename_i k o hx
    obtain ⟨q, hq, rfl⟩ := Option.map_eq_some_iff.1 h
    obtain ⟨B, hB, e⟩ := hg _ _ hx
    exact ⟨B, _, hB, by rw [List.map_cons, show ev x = _ from by simpa using e], capsOf_ok hg hq⟩
   ·cases h
theorem realO_ok (hg : ∀ x z, get x = some z → denV D ρ wc z (ev x)) {x : Option Operand} {l : Option Value} (h : realO get x = some l) : l = x.map ev := by
 cases x with
 | none => cases h; rfl
 | some x =>
   unfold realO at h
   obtain ⟨v, hv, rfl⟩ := Option.map_eq_some_iff.1 h
   obtain ⟨z, hz, hr⟩ := Option.bind_eq_some_iff.1 hv
   rw [Option.map_some, realV_den hr (hg _ _ hz)]
theorem add_if (B off a c s : Nat) : (if c = a then (⟨B, off, none⟩ : Addr) else (⟨B, off, none⟩ : Addr).add (a * s)) = ⟨B, if c = a then off else off + a * s, none⟩ := by
 split
 ·rfl
 ·rw [Addr.add_mid]
theorem cutS_ok {len cap : Nat} {l h m : Option Value} {a b : Nat} (e : cutS len l h m = some (a, b)) (hc : len ≤ cap) :
  (Instr.sliceBounds true len cap l h m).run P w = .ok (a, b, cap) w ∧ a < b ∧ b ≤ len := by
 unfold cutS at e
 split at e
 ·rename_i a' b' hl hh
  split at e
  ·rename_i hab
   obtain ⟨rfl, rfl⟩ : a' = a ∧ b' = b := by simpa using e
   refine ⟨?_, hab⟩
   have hl0 : (l = none ∧ a' = 0) ∨ l = some (.int .i64 (Int.ofNat a')) := by
    split at hl
    ·cases hl; simp
    ·cases hl; simp
    ·cases hl
   have hhigh : (h = none ∧ b' = len) ∨ h = some (.int .i64 (Int.ofNat b')) := by
    split at hh
    ·cases hh; simp
    ·cases hh; simp
    ·cases hh
   have n1 : a' ≤ b' := by omega
   have n2 : b' ≤ cap := by omega
   unfold Instr.sliceBounds
   rcases hl0 with ⟨rfl, rfl⟩ | rfl <;> rcases hhigh with ⟨rfl, rfl⟩ | rfl <;> simp [Instr.sliceBound, asIntOf, n1, n2]
  ·cases e
 ·cases e
theorem sliceS_ok (hg : ∀ x z, get x = some z → denV D ρ wc z (ev x)) {t : TypeId} {x : Operand} {lo hi mx : Option Operand} {r : SV} (h : sliceS P t (get x) get lo hi mx = some r) :
  ∃ v, (Instr.sliceAt t (ev x) (lo.map ev) (hi.map ev) (mx.map ev)).run P w = .ok v w ∧ denV D ρ wc r v := by
 unfold sliceS at h
 split at h
 ·rename_i l h' m hl hh hm
  rw [← realO_ok hg hl, ← realO_ok hg hh, ← realO_ok hg hm]
  split at h
  ·rename_i k off len cap e hx hu
   split at h
   ·rename_i a b c s hb hs
    cases h
    obtain ⟨B, hB, e1⟩ := hg _ _ hx
    rw [show ev x = _ from by simpa using e1]
    refine ⟨.slice (some ⟨B.blk, B.base + (if c = a then off else off + a * s), none⟩) (b - a) (c - a), ?_, B, hB, rfl⟩
    unfold Instr.sliceAt
    simp only [Sem.run_bind, run_underlying hu, Result.andThen_ok]
    unfold Instr.slice
    simp only [Sem.run_bind, run_underlying hu, Result.andThen_ok, pureOf_run hb, run_szOf hs, Sem.run_pure]
    congr 2
    split <;> simp [Addr.add_mid, Nat.add_assoc]
   ·cases h
  ·rename_i k off n e hx hu
   split at h
   ·rename_i a b c s hb hs
    cases h
    obtain ⟨B, hB, e1⟩ := hg _ _ hx
    rw [show ev x = _ from by simpa using e1]
    refine ⟨.slice (some ⟨B.blk, B.base + (if c = a then off else off + a * s), none⟩) (b - a) (c - a), ?_, B, hB, rfl⟩
    unfold Instr.sliceAt
    simp only [Sem.run_bind, run_underlying hu, Result.andThen_ok, Instr.sureAddr, pureOf_run hb, run_szOf hs, Sem.run_pure]
    rw [add_if]
    congr 2
    split <;> simp [Nat.add_assoc]
   ·cases h
  ·rename_i k len sz e hx hu
   split at h
   ·rename_i a b s hb hs
    cases h
    obtain ⟨B, hB, h1, h2, h3, e1⟩ := hg _ _ hx
    rw [show ev x = _ from by simpa using e1]
    obtain ⟨g1, g2, g3⟩ := cutS_ok (P := P) (w := w) hb h1
    refine ⟨.slice (some ⟨B.blk, B.base + a * s, none⟩) (b - a) (B.cap - a), ?_, B, B.cap - a, hB, by omega, rfl⟩
    unfold Instr.sliceAt
    simp only [Sem.run_bind, run_underlying hu, Result.andThen_ok]
    unfold Instr.slice
    simp only [Sem.run_bind, run_underlying hu, Result.andThen_ok, g1, run_szOf hs, Sem.run_pure]
    rw [if_neg (by omega)]
    simp [Addr.add_mid, h3]
   ·cases h
  ·rename_i k off len e hx hu
   split at h
   ·rename_i a b s hb hs
    cases h
    obtain ⟨B, cp, hB, h1, e1⟩ := hg _ _ hx
    rw [show ev x = _ from by simpa using e1]
    obtain ⟨g1, g2, g3⟩ := cutS_ok (P := P) (w := w) hb h1
    refine ⟨.slice (some ⟨B.blk, B.base + (off + a * s), none⟩) (b - a) (cp - a), ?_, B, cp - a, hB, by omega, rfl⟩
    unfold Instr.sliceAt
    simp only [Sem.run_bind, run_underlying hu, Result.andThen_ok]
    unfold Instr.slice
    simp only [Sem.run_bind, run_underlying hu, Result.andThen_ok, g1, run_szOf hs, Sem.run_pure]
    rw [if_neg (by omega)]
    simp [Addr.add_mid, Nat.add_assoc]
   ·cases h
  ·cases h
 ·cases h
theorem realOp_ok (hg : ∀ x z, get x = some z → denV D ρ wc z (ev x)) {o : Oper} {r : SV} (h : realOp P o get = some r) :
  ∃ v, (execOp ev o).run P w = .ok (.value v) w ∧ denV D ρ wc r v := by
 unfold realOp at h
 split at h
 ·rename_i hc
  rw [Bool.and_eq_true] at hc
  split at h
  ·rename_i v hv
   refine ⟨v, ?_, ofVal_den h⟩
   rw [execOp_congr (ρ := ev) (ρ' := fun x => ((get x).bind realV).getD undef) o (fun cs b he => by rw [he] at hc; simp [isSelect] at hc) (fun x hx => by
    have := List.all_eq_true.1 hc.2 x (by simpa using hx)
    obtain ⟨y, hy⟩ := Option.isSome_iff_exists.1 this
    obtain ⟨z, hz, hr⟩ := Option.bind_eq_some_iff.1 hy
    rw [hy, Option.getD_some, realV_den hr (hg _ _ hz)])]
   exact pureOf_run hv w
  ·cases h
 ·cases h
theorem fieldAddrS_ok (hg : ∀ x z, get x = some z → denV D ρ wc z (ev x)) {s f : Nat} {x : Operand} {r : SV} (h : fieldAddrS P s (get x) f = some r) :
  ∃ v, (Instr.fieldAt s (ev x) f).run P w = .ok v w ∧ denV D ρ wc r v := by
 unfold fieldAddrS at h
 split at h
 ·rename_i k off hx
  split at h
  ·rename_i fs hu
   split at h
   ·rename_i fl hf
    split at h
    ·rename_i n hz
     cases h
     obtain ⟨B, hB, e1⟩ := hg _ _ hx
     rw [show ev x = _ from by simpa using e1]
     exact ⟨.pointer (some ⟨B.blk, B.base + (off + fl.offset), none⟩), by rw [← Nat.add_assoc]; exact run_fieldAt' hu hf hz, B, hB, rfl⟩
    ·cases h
   ·cases h
  ·cases h
 ·cases h
theorem indexAddrS_ok (hg : ∀ x z, get x = some z → denV D ρ wc z (ev x)) {t : Nat} {x ix : Operand} {r : SV} (h : indexAddrS P t (get x) (get ix) = some r) :
  ∃ v, (Instr.indexAt t (ev x) (ev ix)).run P w = .ok v w ∧ denV D ρ wc r v := by
 unfold indexAddrS at h
 split at h
 ·rename_i k off kd i hx hi
  split at h
  ·rename_i n e hu
   split at h
   ·rename_i s hz
    split at h
    ·rename_i hb
     cases h
     obtain ⟨B, hB, e1⟩ := hg _ _ hx
     rw [show ev x = _ from by simpa using e1, show ev ix = _ from by simpa using (hg _ _ hi).1]
     exact ⟨.pointer (some ⟨B.blk, B.base + (off + i.toNat * s), none⟩), by rw [← Nat.add_assoc]; exact run_indexAt_a hu hz hb, B, hB, rfl⟩
    ·cases h
   ·cases h
  ·cases h
 ·rename_i k off len cap kd i hx hi
  split at h
  ·rename_i e hu
   split at h
   ·rename_i s hz
    split at h
    ·rename_i hb
     cases h
     obtain ⟨B, hB, e1⟩ := hg _ _ hx
     rw [show ev x = _ from by simpa using e1, show ev ix = _ from by simpa using (hg _ _ hi).1]
     exact ⟨.pointer (some ⟨B.blk, B.base + (off + i.toNat * s), none⟩), by rw [← Nat.add_assoc]; exact run_indexAt_s hu hz hb, B, hB, rfl⟩
    ·cases h
   ·cases h
  ·cases h
 ·rename_i k off len kd i hx hi
  split at h
  ·rename_i e hu
   split at h
   ·rename_i s hz
    split at h
    ·rename_i hb
     cases h
     obtain ⟨B, c, hB, hc, e1⟩ := hg _ _ hx
     rw [show ev x = _ from by simpa using e1, show ev ix = _ from by simpa using (hg _ _ hi).1]
     exact ⟨.pointer (some ⟨B.blk, B.base + (off + i.toNat * s), none⟩), by rw [← Nat.add_assoc]; exact run_indexAt_s hu hz hb, B, hB, rfl⟩
    ·cases h
   ·cases h
  ·cases h
 ·rename_i k len sz kd i hx hi
  split at h
  ·rename_i e hu
   split at h
   ·rename_i s hz
    split at h
    ·rename_i hb
     cases h
     obtain ⟨B, hB, h1, h2, h3, e1⟩ := hg _ _ hx
     rw [show ev x = _ from by simpa using e1, show ev ix = _ from by simpa using (hg _ _ hi).1]
     refine ⟨.pointer (some ⟨B.blk, B.base + i.toNat * s, none⟩), ?_, B, hB, rfl⟩
     rw [h3, run_indexAt_s hu hz hb]
    ·cases h
   ·cases h
  ·cases h
 ·cases h
theorem fieldS_ok (hg : ∀ x z, get x = some z → denV D ρ wc z (ev x)) {s f : Nat} {x : Operand} {r : SV} (h : fieldS P s (get x) f = some r) :
  ∃ v, (Instr.field s (ev x) f).run P w = .ok v w ∧ denV D ρ wc r v := by
 unfold fieldS at h
 split at h
 ·rename_i l hx
  split at h
  ·rename_i fs hu
   split at h
   ·rename_i fl hf
    obtain ⟨cs, e, hl⟩ := hg _ _ hx
    obtain ⟨v, h1, h2⟩ := partS_ok (P := P) (w := w) h hl
    refine ⟨v, ?_, h2⟩
    rw [e]
    unfold Instr.field
    simp only [Sem.run_bind, run_underlying hu, Result.andThen_ok, hf, asAgg, Sem.run_pure, h1]
   ·cases h
  ·cases h
 ·cases h
theorem indexS_ok (hg : ∀ x z, get x = some z → denV D ρ wc z (ev x)) {t : Nat} {x ix : Operand} {r : SV} (h : indexS P t (get x) (get ix) = some r) :
  ∃ v, (Instr.index t (ev x) (ev ix)).run P w = .ok v w ∧ denV D ρ wc r v := by
 unfold indexS at h
 split at h
 ·rename_i l kd i hx hi
  split at h
  ·rename_i n e hu
   split at h
   ·rename_i s hz
    split at h
    ·rename_i hb
     obtain ⟨cs, e1, hl⟩ := hg _ _ hx
     obtain ⟨v, h1, h2⟩ := partS_ok (P := P) (w := w) h hl
     refine ⟨v, ?_, h2⟩
     rw [e1, show ev ix = _ from by simpa using (hg _ _ hi).1]
     unfold Instr.index
     simp only [Sem.run_bind, asIntOf, run_underlying hu, Result.andThen_ok, Sem.run_pure, if_pos hb, run_szOf hz, h1]
    ·cases h
   ·cases h
  ·cases h
 ·cases h
theorem denAs_get : ∀ {l : List SA} {vs : List Value} {i : Nat} {x : SA}, denAs D ρ w l vs → l[i]? = some x → ∃ v, vs[i]? = some v ∧ denA D ρ w x v
 | [], vs, i, x, h, hx => by simp at hx
 | y :: l, vs, i, x, ⟨v, r, e, hv, hr⟩, hx => by
   subst e
   cases i with
   | zero => simp at hx; subst hx; exact ⟨v, by simp, hv⟩
   | succ i => simp at hx; simpa using denAs_get hr hx
end
end
end Go.Ex
namespace Go.Mono
theorem cmpV_spec {f g : Nat → Int} {n m : Nat} (hf : Digs f n) (hg : Digs g m) : (cmpV f n g m < 0 ↔ vf f n < vf g m) ∧ (cmpV f n g m = 0 ↔ vf f n = vf g m) := by
 unfold cmpV
 by_cases h : n = m
 ·subst h
  rw [if_pos rfl]
  exact cmpDown_spec hf.lo hf.hi hg.lo hg.hi (cmpDown f g) rfl fun k => rfl
 ·rw [if_neg h]
  rcases Nat.lt_or_gt_of_ne h with h1 | h1
  ·have a1 := hf.lt
   have a2 := hg.ge (by omega)
   have a3 := pw_mono (i := n) (k := m - 1) (by omega)
   omega
  ·have a1 := hg.lt
   have a2 := hf.ge (by omega)
   have a3 := pw_mono (i := m) (k := n - 1) (by omega)
   omega
end Go.Mono
namespace Go.Proofs.YtdgodcgdlfjpaaaGreatDoor
open Go.RowKit Go.Mono
theorem cmp_sz (m1 m2 : Nat) (w wf : World) (hx : Ext wf w) (p q : Option Addr) (n m c1 c2 : Nat) (N M : Int) (h1 : Sz m1 wf (.slice p n c1) N) (h2 : Sz m2 wf (.slice q m c2) M) :
  Calls Tryz.prog 158 #[.slice p n c1, .slice q m c2] w fun e w' => ∃ c : Int, (e = .returned (.int .i64 c) ∧ ∃ k, w' = w.drewN k) ∧ (c < 0 ↔ N < M) ∧ (c = 0 ↔ N = M) := by
 obtain ⟨n, f, s1, d1, rfl, l1, rfl⟩ := (h1.ext hx).sl
 obtain ⟨m, g, s2, d2, rfl, l2, rfl⟩ := (h2.ext hx).sl
 refine (cmp_any p q n m c1 c2 f g w s1 s2 d1.lo d1.hi d2.lo d2.hi).mono ?_
 intro e w' h
 exact ⟨_, h, cmpV_spec d1 d2⟩
theorem over_less (m1 m2 : Nat) (w wf : World) (hx : Ext wf w) (p q : Option Addr) (n m c1 c2 : Nat) (N M : Int) (h1 : Sz m1 wf (.slice p n c1) N) (h2 : Sz m2 wf (.slice q m c2) M) (hlt : N < M) :
  Calls Tryz.prog 226 #[.slice p n c1, .slice q m c2] w fun e w' => e = .returned (.tuple #[.slice none 0 0, .slice p n c1]) ∧ ∃ k, w' = w.drewN k := by
 have hc := cmp_sz m1 m2 w wf hx p q n m c1 c2 N M h1 h2
 clear h1 h2
 go_enter Tryz.func226, Tryz.ntmps226
 go_wp2_with (go_at_call 158; refine hc.mono ?_; rintro e w' ⟨c, ⟨rfl, k, rfl⟩, hc1, hc2⟩; have hc0 : c < 0 := hc1.2 hlt; clear hc1 hc2)
 go_ret2
 exact ⟨rfl, _, rfl⟩
theorem over_one (m1 : Nat) (w wf : World) (hx : Ext wf w) (p q : Option Addr) (n c1 c2 : Nat) (N M : Int) (h1 : Sz m1 wf (.slice p n c1) N) (h2 : Sz 1 wf (.slice q 1 c2) M) (hM : 0 < M) (hle : M ≤ N) (hm1 : m1 ≤ 1000000) :
  Calls Tryz.prog 226 #[.slice p n c1, .slice q 1 c2] w fun e w' => ∃ p1 k1 c1 p2 k2 c2, e = .returned (.tuple #[.slice p1 k1 c1, .slice p2 k2 c2]) ∧ Sz m1 w' (.slice p1 k1 c1) (N / M) ∧ Sz 1 w' (.slice p2 k2 c2) (N % M) ∧ Below w.heap.size w w' := by
 have hc := cmp_sz m1 1 w wf hx p q n 1 c1 c2 N M h1 h2
 obtain ⟨n', g, s2, d2, hv2, l2, rfl⟩ := (h2.ext hx).sl
 obtain ⟨_, _, hx2⟩ := s2.opens
 obtain ⟨b, off, rfl, hb2, hcell⟩ := hx2 (by omega)
 have a1 := hcell 0 (by omega)
 rw [Nat.add_zero] at a1
 have eM : g 0 = M := by rw [← hv2]; simp [vf, pw]
 rw [eM] at a1
 have M1 : M < 1000000000 := by rw [← eM]; exact d2.hi 0 (by omega)
 have h1' := h1.ext hx
 clear hcell hx2 h1 h2 s2 d2 hv2 eM hx
 go_enter Tryz.func226, Tryz.ntmps226
 go_wp2_with (go_at_call 158; refine hc.mono ?_; rintro e w' ⟨c, ⟨rfl, k, rfl⟩, hc1, hc2⟩; have hc0 : ¬ c < 0 := fun h => by have := hc1.1 h; omega)
 have hp := part_sz m1 (w.drewN k) w ((Ext.refl w).below (below_drewN (Below.refl _ _) k)) p n c1 N M h1' hm1 hM M1
 go_wp2_with (go_at_call 254; refine hp.mono ?_; rintro e w1 ⟨p1, k1, c3, rfl, hs1, hb1⟩)
 have hB : Below w.heap.size w w1 := (below_drewN (Below.refl _ _) k).trans hb1
 have hr0 : RowF (w1.alloc (.cells #[.int .i64 (N % M)] 3)) w1.heap.size 1 (fun _ => N % M) := ⟨#[.int .i64 (N % M)], by show (w1.heap.push _)[w1.heap.size]? = _; simp, by simp, fun i hi => by obtain rfl : i = 0 := by omega
                                                                                                                                                                                                 simp⟩
 have hs2 := hr0.slice (by omega) 1 (Nat.le_refl _) 1 (Nat.le_refl _)
 have r0 := Int.emod_nonneg N (show M ≠ 0 by omega)
 have r1 := Int.emod_lt_of_pos N hM
 obtain ⟨q1, q2⟩ := trimN_can (f := fun _ => N % M) (k := 1) (fun _ _ => r0) (fun _ _ => by omega)
 have q3 := trimN_le (fun _ => N % M) 1
 have q4 : vf (fun _ => N % M) 1 = N % M := by simp [vf, pw]
 have q5 := Lib.hid (q2.trans q4)
 clear q2 q4
 go_wp2_with (go_at_call 223; refine (trim_any _ _ _ _ _ hs2).mono ?_; rintro e w2 ⟨rfl, rfl⟩)
 go_ret2
 exact ⟨_, _, _, _, _, _, rfl, hs1.ext ((Ext.refl _).alloc _), ⟨_, _, hs2.take _ q3, q1, q5.out, q3⟩, hB.alloc hB.size _⟩
end Go.Proofs.YtdgodcgdlfjpaaaGreatDoor
namespace Go.Ex
open Go.RowKit Go.Mono
section
section
variable {D : Den} {P : Program} {ρ : Nm} {wc w : World} {get : Operand → Option SV} {ev : Operand → Value}
theorem partS_val {t : TypeId} {l : List U} {off : Nat} {x : SV} {cs : List Value} (h : partS P t l off = some x) (hl : denL D ρ wc l cs) :
  (∃ n m, rowT P t = some true ∧ szOf P t = some n ∧ x = .a (.agg m) ∧ denL D ρ wc m ((cs.drop off).take n) ∧ ((cs.drop off).take n).length = n) ∨
  (∃ u v, rowT P t = some false ∧ x = .a (.one u) ∧ cs[off]? = some v ∧ denU D ρ wc u [v]) := by
 unfold partS at h
 split at h
 ·rename_i n hr hz
  obtain ⟨m, hm, rfl⟩ := Option.map_eq_some_iff.1 h
  obtain ⟨h1, h2⟩ := subX_den hm hl
  exact .inl ⟨n, m, hr, hz, rfl, h1, h2⟩
 ·rename_i n hr hz
  split at h
  ·rename_i u hu
   cases h
   obtain ⟨h1, h2⟩ := subX_den hu hl
   obtain ⟨c, d, e, hc, hd⟩ := h1
   obtain rfl : d = [] := hd
   rw [List.append_nil] at e
   rw [e] at h2
   obtain ⟨v, rfl⟩ : ∃ v, c = [v] := List.length_eq_one_iff.1 h2
   refine .inr ⟨u, v, hr, rfl, ?_, hc⟩
   have := congrArg (·[0]?) e
   simpa using this
  ·cases h
 ·cases h
def Holds (w : World) (p : Pl) (T : TypeId) (sp : Bool) (cs : List Value) : Prop :=
 (p.ro = true ∧ w.rangeAt p.blk p.base cs) ∨ (p.ro = false ∧ p.base = 0 ∧ ∃ rest, (sp = false → rest = []) ∧ (sp = true → (cs ++ rest).length = p.tot) ∧ Box w p.blk T (cs ++ rest).toArray)
theorem Holds.cell {w : World} {p : Pl} {T : TypeId} {sp : Bool} {cs : List Value} (h : Holds w p T sp cs) {i : Nat} {v : Value} (hi : cs[i]? = some v) : w.cell? ⟨p.blk, p.base + i, none⟩ = some v := by
 rcases h with ⟨_, h⟩ | ⟨_, h0, rest, _, _, h⟩
 ·exact h i v hi
 ·rw [h0, Nat.zero_add, h.cell]
  have := (List.getElem?_eq_some_iff.1 hi).1
  simpa [List.getElem?_append_left this] using hi
theorem cell_of_block {w w' : World} {B : Nat} (h : w'.heap[B]? = w.heap[B]?) (o : Nat) : w'.cell? ⟨B, o, none⟩ = w.cell? ⟨B, o, none⟩ := by
 simp only [World.cell?, h]
theorem Holds.of_block {w w' : World} {p : Pl} {T : TypeId} {sp : Bool} {cs : List Value} (h : Holds w p T sp cs) (hb : w'.heap[p.blk]? = w.heap[p.blk]?) : Holds w' p T sp cs := by
 rcases h with ⟨h1, h⟩ | ⟨h1, h0, rest, h2, h3, h⟩
 ·exact .inl ⟨h1, fun j v hj => (cell_of_block hb _).trans (h j v hj)⟩
 ·exact .inr ⟨h1, h0, rest, h2, h3, ⟨hb.trans h.blk⟩⟩
def BkOk (D : Den) (ρ : Nm) (wc w : World) (bk : List (Nat × Blk)) : Prop :=
 ∀ k b, bk.look k = some b → b.dead = false → ∃ B cs, ρ k = some B ∧ Holds w B b.T b.sp cs ∧ denL D ρ wc b.cells cs ∧ B.ro = b.ro
theorem loadS_ok (hg : ∀ x z, get x = some z → denV D ρ wc z (ev x)) {bk : List (Nat × Blk)} (hb : BkOk D ρ wc w bk) {t : TypeId} {x : Operand} {r : SV} (h : loadS P t (get x) bk = some r) :
  ∃ v, (Instr.loadAt t (ev x)).run P w = .ok v w ∧ denV D ρ wc r v := by
 unfold loadS at h
 split at h
 ·rename_i k off hx
  split at h
  ·rename_i b hk
   split at h
   ·cases h
   rename_i hdd
   obtain ⟨B, cs, hB, bx, hl, _⟩ := hb k b hk (by simpa using hdd)
   obtain ⟨B', hB', e⟩ := hg _ _ hx
   cases hB.symm.trans hB'
   rw [show ev x = _ from by simpa using e]
   rcases partS_val h hl with ⟨n, m, hr, hz, rfl, h1, h2⟩ | ⟨u, v, hr, rfl, hv, hu⟩
   ·refine ⟨.agg ((cs.drop off).take n).toArray, ?_, _, rfl, h1⟩
    obtain ⟨d, hd, hd'⟩ := Option.map_eq_some_iff.1 hr
    refine run_loadAt_mid w B.blk (B.base + off) t _ d ?_ hd hd' (by rw [h2]; exact hz)
    intro j v hj
    rw [Nat.add_assoc]
    refine bx.cell ?_
    have hjl : j < n := by
     have := (List.getElem?_eq_some_iff.1 hj).1
     omega
    rw [List.getElem?_take, if_pos hjl, List.getElem?_drop] at hj
    simpa using hj
   ·refine ⟨v, ?_, hu⟩
    unfold Instr.loadAt loadVar
    simp only [Sem.run_bind, Instr.sureAddr, Sem.run_pure, Result.andThen_ok, run_rowT hr, Bool.false_eq_true, if_false]
    rw [run_load, bx.cell hv]
  ·cases h
 ·cases h
theorem lenS_ok (hg : ∀ x z, get x = some z → denV D ρ wc z (ev x)) {o : Oper} {c : Call} (ho : o.op = .call c) {r : SV} (h : lenS P c get = some r) :
  ∃ v, (execOp ev o).run P w = .ok (.value v) w ∧ denV D ρ wc r v := by
 obtain ⟨cal, ⟨args⟩, ⟨ts⟩⟩ := c
 unfold lenS at h
 dsimp only at h
 split at h
 ·rename_i x t
  split at h
  ·rename_i k off n cp e hx hu
   cases h
   obtain ⟨B, hB, e1⟩ := hg _ _ hx
   have e2 : ev x = .slice (some ⟨B.blk, B.base + off, none⟩) n cp := by simpa using e1
   refine ⟨goInt n, ?_, rfl, rfl⟩
   unfold execOp
   simp only [ho, resolve, Sem.run_bind, Sem.run_pure, Result.andThen_ok, invoke, builtin, Builtin.len_]
   simp [e2, run_underlying hu]
  ·rename_i k off n e hx hu
   cases h
   obtain ⟨B, cp, hB, hc, e1⟩ := hg _ _ hx
   have e2 : ev x = .slice (some ⟨B.blk, B.base + off, none⟩) n cp := by simpa using e1
   refine ⟨goInt n, ?_, rfl, rfl⟩
   unfold execOp
   simp only [ho, resolve, Sem.run_bind, Sem.run_pure, Result.andThen_ok, invoke, builtin, Builtin.len_]
   simp [e2, run_underlying hu]
  ·rename_i k n sz e hx hu
   cases h
   obtain ⟨B, hB, h1, h2, h3, e1⟩ := hg _ _ hx
   have e2 : ev x = .slice (some ⟨B.blk, 0, none⟩) n B.cap := by simpa using e1
   refine ⟨goInt n, ?_, rfl, rfl⟩
   unfold execOp
   simp only [ho, resolve, Sem.run_bind, Sem.run_pure, Result.andThen_ok, invoke, builtin, Builtin.len_]
   simp [e2, run_underlying hu]
  ·rename_i e hx hu
   cases h
   obtain ⟨p, cp, hp, e1⟩ := hg _ _ hx
   have e2 : ev x = .slice p 0 cp := by simpa using e1
   refine ⟨goInt (0 : Nat), ?_, rfl, rfl⟩
   unfold execOp
   simp only [ho, resolve, Sem.run_bind, Sem.run_pure, Result.andThen_ok, invoke, builtin, Builtin.len_]
   simp [e2, run_underlying hu]
  ·cases h
 ·rename_i x t
  split at h
  ·rename_i k off n cp e hx hu
   cases h
   obtain ⟨B, hB, e1⟩ := hg _ _ hx
   have e2 : ev x = .slice (some ⟨B.blk, B.base + off, none⟩) n cp := by simpa using e1
   refine ⟨goInt cp, ?_, rfl, rfl⟩
   unfold execOp
   simp only [ho, resolve, Sem.run_bind, Sem.run_pure, Result.andThen_ok, invoke, builtin, Builtin.cap_]
   simp [e2, run_underlying hu]
  ·cases h
 ·cases h
theorem evPure_ok (hg : ∀ x z, get x = some z → denV D ρ wc z (ev x)) {bk : List (Nat × Blk)} (hb : BkOk D ρ wc w bk) {o : Oper} {r : SV} (h : evPure P o get bk = some r) :
  ∃ v, (execOp ev o).run P w = .ok (.value v) w ∧ denV D ρ wc r v := by
 have viaV : ∀ {s : Sem Value}, (∃ v, s.run P w = .ok v w ∧ denV D ρ wc r v) → ∃ v, (do pure (Next.value (← s)) : Sem Next).run P w = .ok (.value v) w ∧ denV D ρ wc r v := by
  rintro s ⟨v, h1, h2⟩
  exact ⟨v, by simp only [Sem.run_bind, h1, Result.andThen_ok, Sem.run_pure], h2⟩
 unfold evPure at h
 split at h
 ·rename_i x ho
  exact ⟨ev x, by unfold execOp; rw [ho]; rfl, hg _ _ h⟩
 ·rename_i x ho
  exact ⟨ev x, by unfold execOp; rw [ho]; rfl, hg _ _ h⟩
 ·rename_i f first caps ho
  split at h
  ·rename_i hf
   obtain ⟨l, hl, rfl⟩ := Option.map_eq_some_iff.1 h
   have hc := capsOf_ok hg hl
   have hfe : first = #[] := Array.isEmpty_iff.1 hf
   subst hfe
   refine ⟨.func (.func f) #[] (caps.map ev), by unfold execOp; simp [ho, Instr.makeFunc], _, hc, ?_⟩
   congr 2
   apply Array.toList_inj.1
   simp
  ·cases h
 ·rename_i s x f ho
  unfold execOp
  rw [ho]
  exact viaV (fieldAddrS_ok hg h)
 ·rename_i t x ix ho
  split at h
  ·rename_i r' hr
   cases h
   unfold execOp
   rw [ho]
   exact viaV (indexAddrS_ok (x := x) (ix := ix) hg hr)
  ·exact realOp_ok hg h
 ·rename_i t x f ho
  split at h
  ·rename_i r' hr
   cases h
   unfold execOp
   rw [ho]
   exact viaV (fieldS_ok hg hr)
  ·exact realOp_ok hg h
 ·rename_i t x ix ho
  split at h
  ·rename_i r' hr
   cases h
   unfold execOp
   rw [ho]
   exact viaV (indexS_ok (x := x) (ix := ix) hg hr)
  ·exact realOp_ok hg h
 ·rename_i x i ho
  split at h
  ·rename_i l hx
   obtain ⟨y, hy, rfl⟩ := Option.map_eq_some_iff.1 h
   obtain ⟨vs, e, hl⟩ := hg _ _ hx
   obtain ⟨v, hv, hd⟩ := denAs_get hl hy
   unfold execOp
   rw [ho]
   refine viaV ⟨v, ?_, hd⟩
   rw [e]
   simp [Instr.extract, hv]
  ·cases h
 ·rename_i x ho
  split at h
  ·rename_i k off hx
   cases h
   have hd := hg _ _ hx
   obtain ⟨B, hB, e1⟩ := hd
   have e2 : ev x = .pointer (some ⟨B.blk, B.base + off, none⟩) := by simpa using e1
   refine ⟨ev x, ?_, B, hB, e1⟩
   unfold execOp
   rw [ho]
   simp only [e2]
   rfl
  ·rename_i f l hx
   cases h
   have hd := hg _ _ hx
   obtain ⟨vs, hv, e1⟩ := hd
   have e2 : ev x = .func (.func f) #[] vs.toArray := by simpa using e1
   refine ⟨ev x, ?_, vs, hv, e1⟩
   unfold execOp
   rw [ho]
   simp only [e2]
   rfl
  ·exact realOp_ok hg h
 ·rename_i t parts ho
  unfold execOp
  rw [ho]
  exact viaV (buildS_ok hg h w)
 ·rename_i t x ho
  unfold execOp
  rw [ho]
  exact viaV (loadS_ok hg hb h)
 ·rename_i t x lo hi mx ho
  split at h
  ·rename_i r' hr
   cases h
   unfold execOp
   rw [ho]
   exact viaV (sliceS_ok hg hr)
  ·exact realOp_ok hg h
 ·rename_i c ho
  split at h
  ·rename_i r' hr
   cases h
   exact lenS_ok hg ho hr
  ·exact realOp_ok hg h
 ·exact realOp_ok hg h
end
end
end Go.Ex
