/- A verified evaluator of the model, and the references of layer 40 by it. Part 2 of 8. No condition beside the row. -/
import Derived.Great.BuildSlice
import Derived.Test.YtdgodcgdlfjpaaaGreatDoorA01
import Derived.Test.YtdgodcgdlfjpaaaGreatDoorA02
import Derived.Test.YtdgodcgdlfjpaaaGreatDoorA03
import Derived.Test.YtdgodcgdlfjpaaaGreatDoorA04
import Derived.Test.YtdgodcgdlfjpaaaGreatDoorA09
import Derived.Test.YtdgodcgdlfjpaaaGreatDoorE01
set_option linter.unusedVariables false
set_option linter.unusedSimpArgs false
set_option maxRecDepth 100000
set_option maxHeartbeats 4000000
namespace Go.Proofs.YtdgodcgdlfjpaaaGreatDoor
open Go.RowKit Go.Mono
theorem frow_ones (G : Nat → Flm) (n : Nat) : ∀ u ∈ frow G n, u.oneCell' = true := by
 induction n with
 | zero => intro u hu; cases hu
 | succ n ih =>
   intro u hu
   rw [frow, List.mem_append] at hu
   rcases hu with hu | hu
   ·exact ih u hu
   ·simp [Flm.vals] at hu
    rcases hu with rfl | rfl | rfl <;> rfl
theorem films_cells {w : World} {b : Addr} {n c : Nat} {F : Nat → Flm} (h : FilmsAt w (some b) n c F) : ∀ j u, (frow F n)[j]? = some u → w.cell? (b.add j) = some u := by
 intro j u hj
 have hl : j < (frow F n).length := (List.getElem?_eq_some_iff.1 hj).1
 rw [frow_length] at hl
 obtain ⟨b', off, hp, hb, hc⟩ := h.2.2 (by omega)
 cases hp
 have h1 := hc (j / 3) (j % 3) (by omega) (by omega)
 have h2 := frow_get F n (j / 3) (j % 3) (by omega) (by omega)
 rw [show j / 3 * 3 + j % 3 = j by omega] at h2
 rw [h2] at hj
 cases hj
 rw [Addr.add_lit, ← h1]
 congr 2
 omega
theorem films_ok (p : Option Addr) (n c : Nat) (G : Nat → Thn) (hG : ∀ i, i < n → (G i).ok) (most : Nat) (hm : most ≤ 9) (w : World) (h : ThinsAt w p n c G) :
  Calls Tryz.prog 13 #[.slice p n c, .int .i64 (most : Int)] w fun e w' => ∃ p' c', e = .returned (.slice p' (min n most) c') ∧ w'.ownsRow w.heap.size 24 3 (.slice p' (min n most) c') (min n most) (frow (fun i => (G i).film) (min n most)) ∧ Below w.heap.size w w' := by
 have hn63 : n ≤ 140737488351232 := h.2.1
 go_enter Tryz.func13, Tryz.ntmps13
 go_wp2_with fail
 go_loopw [5, 6] (fun v x wr => ∃ i : Nat, i ≤ min n most ∧ x = .int .i64 (i : Int) ∧ wr.ownsRow w.heap.size 24 3 v i (frow (fun i => (G i).film) i) ∧ Below w.heap.size w wr) (fun _ x _ => (most - intOf x).toNat)
 case atStart => exact ⟨0, Nat.zero_le _, rfl, World.ownsRow_nil _ _ _ _, Below.refl _ _⟩
 case round =>
  obtain ⟨i, hi, rfl, hown, hB⟩ := hrel
  by_cases him : i < min n most
  ·have h1 : i < n := by omega
   have h2 : i < most := by omega
   obtain ⟨b, off, rfl, hbl, hrow0⟩ := h.rowAt (by omega)
   have hrow := hrow0 i h1 wr hB
   have hti := hG i h1
   obtain ⟨v0, v1, v2, hv⟩ : ∃ v0 v1 v2 : Int, G i = ⟨v0, v1, v2⟩ := ⟨_, _, _, rfl⟩
   have r0 : wr.cell? ⟨b, off + i * 3, none⟩ = some (.int .u8 v0) := by have := hrow 0 (by omega); rw [hv] at this; exact this
   have r1 : wr.cell? ⟨b, off + i * 3 + 1, none⟩ = some (.int .u8 v1) := by have := hrow 1 (by omega); rw [hv] at this; exact this
   have r2 : wr.cell? ⟨b, off + i * 3 + 2, none⟩ = some (.int .u8 v2) := by have := hrow 2 (by omega); rw [hv] at this; exact this
   have hrg : wr.rangeAt b (off + i * 3) (Thn.mk v0 v1 v2).vals.toList := by
    intro j u hj
    match j, hj with
    | 0, hj => cases hj; exact r0
    | 1, hj => cases hj; exact r1
    | 2, hj => cases hj; exact r2
   have hsl : (Tryz.prog.info? 112).map (·.size) = some (Thn.mk v0 v1 v2).vals.toList.length := by kernel_rfl
   have hin : (i : Int) < n := by omega
   have him' : (i : Int) < most := by omega
   obtain ⟨ti, hti1, htz, hts, htb⟩ := info_parts infoFilm
   have hwr := hB.size
   have hfi : (fun i => (G i).film) i = Thn.film ⟨v0, v1, v2⟩ := by simp only [hv]
   clear hrow0 hrow r0 r1 r2 h hG
   rw [hv] at hti
   go_wp2_with first | (refine wpList_load_mid rfl 112 _ rfl b (off + i * 3) rfl (Thn.mk v0 v1 v2).vals.toList _ hrg Tryz.underlying112 rfl hsl ?_)
   refine (thin_film ⟨v0, v1, v2⟩ hti wr).mono ?_
   rintro e W1 ⟨rfl, hb1⟩
   obtain ⟨x0, x1, x2, hx⟩ : ∃ x0 x1 x2 : Int, (Thn.film ⟨v0, v1, v2⟩).vals = #[.int .i64 x0, .int .i64 x1, .int .i64 x2] := ⟨_, _, _, rfl⟩
   rw [hx]
   have hown1 := ownsRow_below hown hb1
   have hB1 := belowCall hB hb1
   have hb2 : Below W1.heap.size W1 (W1.alloc (.cells #[.int .i64 x0, .int .i64 x1, .int .i64 x2] 24)) := belowAlloc (Below.refl _ _) _
   have hown2 := ownsRow_below hown1 hb2
   have hB2 := belowCall hB1 hb2
   have hcn := new_cells W1 #[.int .i64 x0, .int .i64 x1, .int .i64 x2] 24
   replace hx := Lib.hid hx
   replace hfi := Lib.hid hfi
   clear hown hown1 hb1 hrg
   go_wp2_with first | ((refine wpList_append_own _ rfl _ _ 27 rfl w.heap.size 24 ti _ 3 24 Tryz.underlying27 hti1 htz hts htb rfl (by decide) _ _ _ rfl hown2 ⟨W1.heap.size, 0, none⟩ 1 1 [.int .i64 x0, .int .i64 x1, .int .i64 x2] rfl rfl hcn (by simp [Value.oneCell']) (by simp [maxLen]; omega) (by omega) hB2.size ?_); intro v' W3 hown3 hgrow _)
   have hB3 := Below.appended hown2 hgrow hB2 (Nat.le_refl _)
   go_roundw
   case rel =>
    refine ⟨i + 1, by omega, by simp, ?_, hB3⟩
    rw [frow, hfi.out, hx.out]
    exact hown3
   case measure => simp [intOf]; omega
  ·obtain rfl : i = min n most := by omega
   obtain ⟨p', c', rfl⟩ := ownsRow_slice hown
   by_cases hnm : (↑(min n most) : Int) < n
   ·have hmm : ¬ (↑(min n most) : Int) < most := by omega
    go_wp2
    go_ret
    exact ⟨p', c', rfl, hown, hB⟩
   ·go_wp2
    go_ret
    exact ⟨p', c', rfl, hown, hB⟩
end Go.Proofs.YtdgodcgdlfjpaaaGreatDoor
namespace Go.Ev
open Go.RowKit Go.Mono
section
theorem oneCell_cells {v : Value} (h : v.oneCell' = true) : v.cells = #[v] := by
 cases v <;> first | rfl | simp [Value.oneCell'] at h
def unitsA : SA → List U
 | .one u => [u]
 | .agg l => l
theorem denA_cells {D : Den} {ρ : Nm} {w : World} : ∀ {x : SA} {v : Value}, denA D ρ w x v → denL D ρ w (unitsA x) v.cells.toList
 | .one u, v, h => by
   rw [oneCell_cells (denU.ones h v (by simp))]
   exact ⟨[v], [], rfl, h, rfl⟩
 | .agg l, v, ⟨cs, e, hl⟩ => by rw [e]; exact hl
def fillS (place : Nat → Option (Nat × Nat)) (l : List U) : List (Nat × List U) → Option (List U)
 | [] => some l
 | (i, us) :: r => match place i with
   | none => none
   | some (off, size) => if widths us = size then (putU l off us).bind fun m => fillS place m r else none
theorem foldl_put (off : Nat) : ∀ (vs : List Value) (k : Nat) (cs : Array Value), off + k + vs.length ≤ cs.size →
  (vs.zipIdx k).foldl (fun c (p : Value × Nat) => c.setIfInBounds (off + p.2) p.1) cs = (cs.toList.take (off + k) ++ vs ++ cs.toList.drop (off + k + vs.length)).toArray
 | [], k, cs, h => by simp
 | v :: r, k, cs, h => by
   have hl : off + k + (r.length + 1) ≤ cs.size := by simpa using h
   rw [List.zipIdx_cons, List.foldl_cons, foldl_put off r (k + 1) _ (by simp; omega)]
   apply congrArg
   rw [Array.toList_setIfInBounds, ← Nat.add_assoc]
   have hL : off + k < cs.toList.length := by rw [Array.length_toList]; omega
   rw [List.set_eq_take_append_cons_drop, if_pos hL]
   generalize off + k = m at *
   have e1 : (cs.toList.take m).length = m := by rw [List.length_take]; omega
   have t1 : (cs.toList.take m ++ v :: cs.toList.drop (m + 1)).take (m + 1) = cs.toList.take m ++ [v] := by
    rw [List.take_append, e1, List.take_of_length_le (by omega), show m + 1 - m = 0 + 1 by omega, List.take_succ_cons]
    simp
   have t2 : (cs.toList.take m ++ v :: cs.toList.drop (m + 1)).drop (m + 1 + r.length) = cs.toList.drop (m + (r.length + 1)) := by
    rw [List.drop_append, e1, List.drop_of_length_le (by omega), show m + 1 + r.length - m = r.length + 1 by omega, List.drop_succ_cons, List.drop_drop, List.nil_append]
    congr 1
    omega
   rw [t1, t2]
   simp
section
variable {D : Den} {ρ : Nm} {w : World}
def denParts (D : Den) (ρ : Nm) (w : World) : List (Nat × List U) → List (Nat × Value) → Prop
 | [], vs => vs = []
 | p :: r, vs => ∃ v s, vs = (p.1, v) :: s ∧ denL D ρ w p.2 v.cells.toList ∧ denParts D ρ w r s
theorem fillS_ok (place : Nat → Option (Nat × Nat)) : ∀ {ps : List (Nat × List U)} {l m : List U} {cs : List Value} {vs : List (Nat × Value)}, fillS place l ps = some m → denL D ρ w l cs → denParts D ρ w ps vs →
  ∃ c : Array Value, Instr.fill place cs.toArray vs = some c ∧ denL D ρ w m c.toList
 | [], l, m, cs, vs, h, hl, hp => by
   obtain rfl : vs = [] := hp
   cases h
   exact ⟨_, rfl, hl⟩
 | (i, us) :: r, l, m, cs, vs, h, hl, hp => by
   obtain ⟨v, s, rfl, hv, hs⟩ := hp
   unfold fillS at h
   cases hpl : place i with
   | none => rw [hpl] at h; cases h
   | some os =>
     obtain ⟨off, size⟩ := os
     rw [hpl] at h
     dsimp only at h
     split at h
     ·rename_i hw
      obtain ⟨m', hm', h2⟩ := Option.bind_eq_some_iff.1 h
      obtain ⟨k1, k2⟩ := putU_den hm' hl hv
      have hlen := hv.len
      have hsz : v.cells.size = size := by rw [← hw, ← hlen, Array.length_toList]
      have hk : ¬ (off + v.cells.size > cs.length) := by
       rw [Array.length_toList] at k2
       omega
      obtain ⟨c, hc1, hc2⟩ := fillS_ok place h2 k1 hs
      refine ⟨c, ?_, hc2⟩
      show (match place i with
       | none => none
       | some (off, size) =>
         if v.cells.size ≠ size || off + v.cells.size > cs.toArray.size then none
         else Instr.fill place (v.cells.zipIdx.foldl (fun cs (c, j) => cs.setIfInBounds (off + j) c) cs.toArray) s) = some c
      rw [hpl]
      dsimp only
      rw [if_neg (by simp [hsz]; omega), ← hc1]
      congr 1
      have := foldl_put off v.cells.toList 0 cs.toArray (by simp; rw [Array.length_toList] at k2; omega)
      simp only [Nat.add_zero, List.toList_toArray] at this
      rw [← this, ← Array.foldl_toList]
      simp
     ·cases h
end
def zeroU (P : Program) (t : TypeId) : Option (List U) :=
 match (P.info? t).bind (·.zero) with
 | some z => if z.cells.toList.all (·.oneCell') then some (z.cells.toList.map .val) else none
 | none => none
theorem zeroU_ok {P : Program} {t : TypeId} {l : List U} (h : zeroU P t = some l) (D : Den) (ρ : Nm) (w : World) :
  ∃ i z, P.info? t = some i ∧ i.zero = some z ∧ denL D ρ w l z.cells.toList := by
 unfold zeroU at h
 split at h
 ·rename_i z hz
  obtain ⟨i, hi, hz'⟩ := Option.bind_eq_some_iff.1 hz
  split at h
  ·rename_i ha
   cases h
   exact ⟨i, z, hi, hz', denL_vals _ fun v hv => List.all_eq_true.1 ha v hv⟩
  ·cases h
 ·cases h
def getS (tm : List (Nat × SV)) : Operand → Option SV
 | .tmp t => tm.lookup t
 | .const v => ofVal v
 | .global g => some (.a (.one (.val (.pointer (some ⟨g, 0, none⟩)))))
 | .func f => some (.a (.one (.clo f [])))
structure TSat (D : Den) (ρ : Nm) (w : World) (n : Nat) (tm : List (Nat × SV)) (a : Act) : Prop where
 size : a.tmps.size = n
 at_ : ∀ t x, tm.lookup t = some x → ∃ v, a.tmps[t]? = some v ∧ denV D ρ w x v
theorem TSat.get {D : Den} {ρ : Nm} {w : World} {n : Nat} {tm : List (Nat × SV)} {a : Act} (h : TSat D ρ w n tm a) : ∀ {x : Operand} {z : SV}, getS tm x = some z → denV D ρ w z (a.eval x)
 | .tmp t, z, hz => by
   obtain ⟨v, hv, hd⟩ := h.at_ t z hz
   have : a.eval (.tmp t) = v := by
    show a.tmps.getD t undef = v
    simp [Array.getD_eq_getD_getElem?, hv]
   rw [this]
   exact hd
 | .const v, z, hz => ofVal_den hz
 | .global g, z, hz => by cases hz; exact ⟨rfl, rfl⟩
 | .func f, z, hz => by cases hz; exact ⟨[], rfl, rfl⟩
theorem TSat.mono {D : Den} {ρ ρ' : Nm} {w w' : World} {n : Nat} {tm : List (Nat × SV)} {a : Act} (h : TSat D ρ w n tm a) (hr : ρ.le ρ') (hx : Ext w w') : TSat D ρ' w' n tm a :=
 ⟨h.size, fun t x hl => let ⟨v, hv, hd⟩ := h.at_ t x hl; ⟨v, hv, hd.mono hr hx⟩⟩
def partsS (get : Operand → Option SV) : List (Nat × Operand) → Option (List (Nat × List U))
 | [] => some []
 | (i, x) :: r => match get x with
   | some (.a s) => (partsS get r).map ((i, unitsA s) :: ·)
   | _ => none
theorem partsS_ok {D : Den} {ρ : Nm} {w : World} {get : Operand → Option SV} {ev : Operand → Value} (hg : ∀ x z, get x = some z → denV D ρ w z (ev x)) :
  ∀ {l : List (Nat × Operand)} {ps : List (Nat × List U)}, partsS get l = some ps → denParts D ρ w ps (l.map fun (i, x) => (i, ev x))
 | [], ps, h => by cases h; rfl
 | (i, x) :: r, ps, h => by
   unfold partsS at h
   split at h
   ·rename_i s hs
    obtain ⟨q, hq, rfl⟩ := Option.map_eq_some_iff.1 h
    exact ⟨_, _, rfl, denA_cells (hg _ _ hs), partsS_ok hg hq⟩
   ·cases h
def buildS (P : Program) (t : TypeId) (parts : List (Nat × Operand)) (get : Operand → Option SV) : Option SV :=
 match zeroU P t, partsS get parts with
 | some z, some ps => match P.underlying t with
   | some (.array _ e) => match szOf P e with
     | some s => (fillS (fun i => some (i * s, s)) z ps).map fun m => .a (.agg m)
     | none => none
   | some (.struct fields) => match fields.toList.mapM (fun f => (P.info? f.type).map fun i => (f.offset, i.size)) with
     | some places => (fillS (places.toArray[·]?) z ps).map fun m => .a (.agg m)
     | none => none
   | _ => none
 | _, _ => none
theorem buildS_ok {D : Den} {P : Program} {ρ : Nm} {w : World} {get : Operand → Option SV} {ev : Operand → Value} (hg : ∀ x z, get x = some z → denV D ρ w z (ev x))
  {t : TypeId} {parts : Array (Nat × Operand)} {x : SV} (h : buildS P t parts.toList get = some x) (W : World) :
  ∃ v, (Instr.build t (parts.map fun (i, x) => (i, ev x))).run P W = .ok v W ∧ denV D ρ w x v := by
 unfold buildS at h
 split at h
 ·rename_i z ps hz hp
  obtain ⟨it, zv, h1, h2, h3⟩ := zeroU_ok hz D ρ w
  have hps := partsS_ok hg hp
  split at h
  ·rename_i n e hu
   split at h
   ·rename_i s hs
    obtain ⟨m, hm, rfl⟩ := Option.map_eq_some_iff.1 h
    obtain ⟨c, hc1, hc2⟩ := fillS_ok _ hm h3 hps
    obtain ⟨ie, hie, rfl⟩ := Option.map_eq_some_iff.1 hs
    refine ⟨.agg c, run_build W t _ c ?_, c.toList, by simp, hc2⟩
    unfold Program.built
    rw [h1, hu]
    dsimp only
    rw [h2, hie]
    simpa using hc1
   ·cases h
  ·rename_i fields hu
   split at h
   ·rename_i places hpl
    obtain ⟨m, hm, rfl⟩ := Option.map_eq_some_iff.1 h
    obtain ⟨c, hc1, hc2⟩ := fillS_ok _ hm h3 hps
    refine ⟨.agg c, run_build W t _ c ?_, c.toList, by simp, hc2⟩
    unfold Program.built
    rw [h1, hu]
    dsimp only
    rw [h2, hpl]
    simpa using hc1
   ·cases h
  ·cases h
 ·cases h
end
end Go.Ev
namespace Go.Mono
open Go.RowKit
theorem trimN_pos {f : Nat → Int} {k : Nat} (h0 : ∀ i, i < k → 0 ≤ f i) (h1 : ∀ i, i < k → f i < 1000000000) : (0 < trimN f k) ↔ 0 < vf f k := by
 obtain ⟨a, b⟩ := trimN_can h0 h1
 rw [← b]
 exact a.pos.symm
theorem trimN_last {f : Nat → Int} {k : Nat} (h : ¬ (0 < k ∧ f (k - 1) = 0)) : trimN f k = k := by
 by_cases hk : 0 < k
 ·exact trimN_ne f k hk (fun e => h ⟨hk, e⟩)
 ·obtain rfl : k = 0 := by omega
  rfl
end Go.Mono
namespace Go.Proofs.YtdgodcgdlfjpaaaGreatDoor
open Go.RowKit Go.Mono
theorem sizeLong : (Tryz.prog.info? 35).map (·.size) = some 2 := by kernel_rfl
theorem r3made_core (neg nb : Bool) (p : Option Addr) (n c K : Nat) (f : Nat → Int) (w : World) (h : SlF w (.slice p n c) n f) (hn6 : n ≤ 1000000) (hK : Hid (trimN f n = K)) (hN : Hid ((neg && decide (0 < K)) = nb)) :
  Calls Tryz.prog 245 #[.bool neg, .slice p n c] w fun e w' => ∃ v, e = .returned (.agg #[.bool nb, v]) ∧ OwnF w' w.heap.size v K f ∧ Below w.heap.size w w' := by
 obtain ⟨hc, hn, hx⟩ := h.opens
 have hsl := h
 clear h
 go_enter Tryz.func245, Tryz.ntmps245
 go_wp2_with fail
 refine boxes1 fun W hB hs b0 => ?_
 go_loopw [5] (fun a wr => ∃ k : Nat, k ≤ n ∧ a = .int .i64 (k : Int) ∧ trimN f k = trimN f n ∧ wr = W) (fun a _ => (intOf a).toNat)
 case atStart => exact ⟨n, Nat.le_refl _, rfl, rfl, rfl⟩
 case round =>
  obtain ⟨k, hk, rfl, ht, hWe⟩ := hrel
  obtain rfl : W = wr := hWe.symm
  have HT := Lib.hid ht; clear ht
  by_cases h0 : 0 < k ∧ f (k - 1) = 0
  ·obtain ⟨hk0, hz⟩ := h0
   obtain ⟨b, off, rfl, hb, hcell⟩ := hx (by omega)
   have hcl := (hB.cell (p := ⟨b, off + (k - 1), none⟩) hb).trans (hcell (k - 1) (by omega))
   rw [hz] at hcl
   obtain ⟨k, rfl⟩ : ∃ j, k = j + 1 := ⟨k - 1, by omega⟩
   have hz' := trimN_zero f (k + 1) hk0 hz
   simp only [Nat.add_sub_cancel] at hcl hz'
   replace hz' := Lib.hid hz'
   replace hz := Lib.hid hz
   clear hcell hx
   go_wp2
   go_roundw
   case rel => exact ⟨k, by omega, by simp, by rw [← hz'.out]; exact HT.out, trivial⟩
   case measure => simp [intOf]
  ·have hk' := trimN_last h0
   obtain rfl : k = K := by rw [← hK.out, ← HT.out, hk']
   clear hK hk' HT
   have hw0 := hB.size
   by_cases hk0 : 0 < k
   ·have hz : ¬ f (k - 1) = 0 := fun e => h0 ⟨hk0, e⟩
    obtain ⟨b, off, rfl, hb, hcell⟩ := hx (by omega)
    have hcl := (hB.cell (p := ⟨b, off + (k - 1), none⟩) hb).trans (hcell (k - 1) (by omega))
    obtain ⟨k, rfl⟩ : ∃ j, k = j + 1 := ⟨k - 1, by omega⟩
    simp only [Nat.add_sub_cancel] at hcl hz
    have hz2 : (f k == 0) = false := by simpa using hz
    replace hz := Lib.hid hz
    clear h0
    cases neg
    all_goals
     go_wp2
     go_loopw [7] (fun a W2 => ∃ (i : Nat) (v : Value), i ≤ k + 1 ∧ a = .int .i64 (i : Int) ∧ OwnF W2 (W.heap.size + 1) v i f ∧ Box W2 W.heap.size 35 #[.bool nb, v] ∧ Box W2 w.heap.size 35 #[.bool false, .slice none 0 0] ∧ Below w.heap.size w W2 ∧ W.heap.size + 1 ≤ W2.heap.size) (fun a _ => (k + 1 - intOf a).toNat)
     case atStart => exact ⟨0, _, Nat.zero_le _, rfl, OwnF.nil _ _ _, by rw [← hN.out]; exact Box.new _ _ _, b0.alloc _, belowAlloc hB _, by simp⟩
     case round =>
      obtain ⟨i, v, hi, rfl, ho, b1, b2, hB2, hs2⟩ := hrel
      by_cases hik : i < k + 1
      ·have hci := (hB2.cell (p := ⟨b, off + i, none⟩) hb).trans (hcell i (by omega))
       have hik' : (i : Int) < k + 1 := by omega
       obtain ⟨pv, cv, rfl⟩ := ho.shape
       have hin : i < n := by omega
       have hin' : (i : Int) < n := by omega
       have bX1 := b1.drew
       have bX2 := b2.drew
       have hoX := ho.below (Below.refl wr.heap.size wr).drew
       have hBX := hB2.drew
       have hX1 : wr.drew.cell? ⟨W.heap.size, 1, none⟩ = some (.slice pv i cv) := bX1.cell 1
       have hX2 : wr.drew.cell? ⟨b, off + i, none⟩ = some (.int .i64 (f i)) := hci
       have hsX : W.heap.size + 1 ≤ wr.drew.heap.size := hs2
       clear hcell hx hcl b1 b2 ho hci
       go_wp2_with fail
       refine wp_region_held_drew (S := fun w' => Below w.heap.size w w') (by as_aux_lemma => kernel_rfl) hBX (fun hHeld => ?_)
       generalize wr.drew = X0 at *
       refine tk 0 (some 33) ?_
       refine tk 2 (some 35) ?_
       refine tk 3 (some 36) ?_
       refine tk 4 (some 37) ?_
       refine Mono.fork2 1 5 ?_ ?_
       ·intro K hK
        refine Mono.arma (some 34) hK (.slice pv i cv) X0 hHeld (fun hHeld => Mono.pt ?_) rfl (by as_aux_lemma => kernel_rfl) (by go_simp)
        clear hK K
        refine Mono.sta 5 (some 38) (.int .i64 (f i)) X0 hHeld (fun hHeld => Mono.pt ?_) rfl rfl (by as_aux_lemma => kernel_rfl) (by as_aux_lemma => kernel_rfl) (by go_simp)
        refine Mono.sta 6 (some 39) (.slice (some ⟨X0.heap.size, 0, none⟩) 1 1) (X0.alloc (.cells #[.int .i64 (f i)] 3)) (belowAlloc hHeld _) (fun hHeld => Mono.pt ?_)
        refine Mono.st 7 ?_
        intro K hK
        rw [if_pos (by as_aux_lemma => kernel_rfl)]
        refine wp_push_int (.tmp 34) (.tmp 39) 33 rfl Tryz.underlying33 infoInt (W.heap.size + 1) (.slice pv i cv) i f rfl (hoX.below (belowAlloc (Below.refl _ _) _)) X0.heap.size (f i) rfl (Box.new _ _ _) (by omega) (by simp; omega) ?_
        intro v' X1 ho' hg
        have hz : Below (W.heap.size + 1) X0 X1 := ((Below.refl (W.heap.size + 1) X0).alloc hsX _).grown hg (by simp; omega) (fun k hk => hoX.low k hk)
        obtain ⟨p', c', rfl⟩ := ho'.shape
        have b1' := bX1.low hz (by omega)
        have b2' := bX2.low hz (by omega)
        have hB1 := hBX.trans (hz.mono (by omega))
        have hs1 := hz.size
        refine hK.out _ _ hB1 (fun hHeld => Mono.pt ?_)
        clear hK K hg hz bX1 bX2 hoX hBX hX1 hX2
        refine tk 8 (some 41) ?_
        have cb1 := b1'.cell
        have fb1 := b1'.frozen
        have lb1 := b1'.lt
        refine Mono.st 9 ?_
        intro K hK
        go_simp
        refine kp hK (belowSet hB1 (by omega) _ _) (fun hHeld => ?_)
        clear hK K
        refine wpAnyH_done (by as_aux_lemma => kernel_rfl) ?_ _
        go_wp2
        go_roundw
        case rel =>
         refine ⟨i + 1, _, by omega, by simp, ?_, b1'.set 1 _, b2'.other _ _ (by show w.heap.size ≠ W.heap.size; omega), hHeld, by simp; omega⟩
         refine OwnF.congr (ho'.set _ _ (by show W.heap.size < _; omega)) fun j hj => ?_
         by_cases hji : j < i
         ·rw [if_pos hji]
         ·rw [if_neg hji]
          congr 1; omega
        case measure => simp [intOf]; omega
       ·intro K hK
        refine Mono.arma (some 38) hK (.int .i64 (f i)) X0 hHeld (fun hHeld => Mono.pt ?_) rfl (by as_aux_lemma => kernel_rfl) (by go_simp)
        clear hK K
        refine Mono.fork2 1 6 ?_ ?_
        ·intro K hK
         refine Mono.arma (some 34) hK (.slice pv i cv) X0 hHeld (fun hHeld => Mono.pt ?_) rfl (by as_aux_lemma => kernel_rfl) (by go_simp)
         clear hK K
         refine Mono.sta 6 (some 39) (.slice (some ⟨X0.heap.size, 0, none⟩) 1 1) (X0.alloc (.cells #[.int .i64 (f i)] 3)) (belowAlloc hHeld _) (fun hHeld => Mono.pt ?_)
         refine Mono.st 7 ?_
         intro K hK
         rw [if_pos (by as_aux_lemma => kernel_rfl)]
         refine wp_push_int (.tmp 34) (.tmp 39) 33 rfl Tryz.underlying33 infoInt (W.heap.size + 1) (.slice pv i cv) i f rfl (hoX.below (belowAlloc (Below.refl _ _) _)) X0.heap.size (f i) rfl (Box.new _ _ _) (by omega) (by simp; omega) ?_
         intro v' X1 ho' hg
         have hz : Below (W.heap.size + 1) X0 X1 := ((Below.refl (W.heap.size + 1) X0).alloc hsX _).grown hg (by simp; omega) (fun k hk => hoX.low k hk)
         obtain ⟨p', c', rfl⟩ := ho'.shape
         have b1' := bX1.low hz (by omega)
         have b2' := bX2.low hz (by omega)
         have hB1 := hBX.trans (hz.mono (by omega))
         have hs1 := hz.size
         refine hK.out _ _ hB1 (fun hHeld => Mono.pt ?_)
         clear hK K hg hz bX1 bX2 hoX hBX hX1 hX2
         refine tk 8 (some 41) ?_
         have cb1 := b1'.cell
         have fb1 := b1'.frozen
         have lb1 := b1'.lt
         refine Mono.st 9 ?_
         intro K hK
         go_simp
         refine kp hK (belowSet hB1 (by omega) _ _) (fun hHeld => ?_)
         clear hK K
         refine wpAnyH_done (by as_aux_lemma => kernel_rfl) ?_ _
         go_wp2
         go_roundw
         case rel =>
          refine ⟨i + 1, _, by omega, by simp, ?_, b1'.set 1 _, b2'.other _ _ (by show w.heap.size ≠ W.heap.size; omega), hHeld, by simp; omega⟩
          refine OwnF.congr (ho'.set _ _ (by show W.heap.size < _; omega)) fun j hj => ?_
          by_cases hji : j < i
          ·rw [if_pos hji]
          ·rw [if_neg hji]
           congr 1; omega
         case measure => simp [intOf]; omega
        ·intro K hK
         have hX1' : (X0.alloc (.cells #[.int .i64 (f i)] 3)).cell? ⟨W.heap.size, 1, none⟩ = some (.slice pv i cv) := (bX1.alloc _).cell 1
         refine Mono.arma (some 39) hK (.slice (some ⟨X0.heap.size, 0, none⟩) 1 1) (X0.alloc (.cells #[.int .i64 (f i)] 3)) (belowAlloc hHeld _) (fun hHeld => Mono.pt ?_)
         clear hK K
         refine Mono.sta 1 (some 34) (.slice pv i cv) (X0.alloc (.cells #[.int .i64 (f i)] 3)) hHeld (fun hHeld => Mono.pt ?_) rfl rfl (by as_aux_lemma => kernel_rfl) (by as_aux_lemma => kernel_rfl) (by go_simp)
         refine Mono.st 7 ?_
         intro K hK
         rw [if_pos (by as_aux_lemma => kernel_rfl)]
         refine wp_push_int (.tmp 34) (.tmp 39) 33 rfl Tryz.underlying33 infoInt (W.heap.size + 1) (.slice pv i cv) i f rfl (hoX.below (belowAlloc (Below.refl _ _) _)) X0.heap.size (f i) rfl (Box.new _ _ _) (by omega) (by simp; omega) ?_
         intro v' X1 ho' hg
         have hz : Below (W.heap.size + 1) X0 X1 := ((Below.refl (W.heap.size + 1) X0).alloc hsX _).grown hg (by simp; omega) (fun k hk => hoX.low k hk)
         obtain ⟨p', c', rfl⟩ := ho'.shape
         have b1' := bX1.low hz (by omega)
         have b2' := bX2.low hz (by omega)
         have hB1 := hBX.trans (hz.mono (by omega))
         have hs1 := hz.size
         refine hK.out _ _ hB1 (fun hHeld => Mono.pt ?_)
         clear hK K hg hz bX1 bX2 hoX hBX hX1 hX2
         refine tk 8 (some 41) ?_
         have cb1 := b1'.cell
         have fb1 := b1'.frozen
         have lb1 := b1'.lt
         refine Mono.st 9 ?_
         intro K hK
         go_simp
         refine kp hK (belowSet hB1 (by omega) _ _) (fun hHeld => ?_)
         clear hK K
         refine wpAnyH_done (by as_aux_lemma => kernel_rfl) ?_ _
         go_wp2
         go_roundw
         case rel =>
          refine ⟨i + 1, _, by omega, by simp, ?_, b1'.set 1 _, b2'.other _ _ (by show w.heap.size ≠ W.heap.size; omega), hHeld, by simp; omega⟩
          refine OwnF.congr (ho'.set _ _ (by show W.heap.size < _; omega)) fun j hj => ?_
          by_cases hji : j < i
          ·rw [if_pos hji]
          ·rw [if_neg hji]
           congr 1; omega
         case measure => simp [intOf]; omega
      ·obtain rfl : i = k + 1 := by omega
       obtain ⟨pv, cv, rfl⟩ := ho.shape
       have hlong := sizeLong
       have cb1 := b1.cell
       have lb1 := b1.lt
       have fb1 := b1.frozen
       have cb2 := b2.cell
       have lb2 := b2.lt
       have fb2 := b2.frozen
       clear hcell hx hcl
       go_wp2
       have b4 := (b2.set 0 (.bool nb)).set 1 (.slice pv (k + 1) cv)
       refine bodyPost_ret (b4.results rfl _ _ rfl Tryz.underlying35 rfl sizeLong) rfl ⟨.slice pv (k + 1) cv, rfl, ?_, belowSet (belowSet hB2 (Nat.le_refl _) _ _) (Nat.le_refl _) _ _⟩
       exact ((ho.set _ _ (by show w.heap.size < _; omega)).set _ _ (by show w.heap.size < _; omega)).lower (by omega)
   ·obtain rfl : k = 0 := by omega
    cases neg
    all_goals
     go_wp2
     go_loopw [7] (fun a W2 => a = .int .i64 0 ∧ Box W2 W.heap.size 35 #[.bool nb, .slice none 0 0] ∧ Box W2 w.heap.size 35 #[.bool false, .slice none 0 0] ∧ Below w.heap.size w W2) (fun a _ => 0)
     case atStart => exact ⟨rfl, by rw [← hN.out]; exact Box.new _ _ _, b0.alloc _, belowAlloc hB _⟩
     case round =>
      obtain ⟨rfl, b1, b2, hB2⟩ := hrel
      have cb1 := b1.cell
      have lb1 := b1.lt
      have fb1 := b1.frozen
      have cb2 := b2.cell
      have lb2 := b2.lt
      have fb2 := b2.frozen
      clear hx
      go_wp2
      have b4 := (b2.set 0 (.bool nb)).set 1 (.slice none 0 0)
      refine bodyPost_ret (b4.results rfl _ _ rfl Tryz.underlying35 rfl sizeLong) rfl ⟨.slice none 0 0, rfl, OwnF.nil _ _ _, belowSet (belowSet hB2 (Nat.le_refl _) _ _) (Nat.le_refl _) _ _⟩
theorem r3made_ok (neg : Bool) (p : Option Addr) (n c : Nat) (f : Nat → Int) (w : World) (h : SlF w (.slice p n c) n f) (hn6 : n ≤ 1000000) (f0 : ∀ i, i < n → 0 ≤ f i) (f1 : ∀ i, i < n → f i < 1000000000) :
  Calls Tryz.prog 245 #[.bool neg, .slice p n c] w fun e w' => ∃ v, e = .returned (.agg #[.bool (neg && decide (0 < vf f n)), v]) ∧ OwnF w' w.heap.size v (trimN f n) f ∧ Digs f (trimN f n) ∧ vf f (trimN f n) = vf f n ∧ Below w.heap.size w w' := by
 obtain ⟨d1, d2⟩ := trimN_can f0 f1
 have hp := trimN_pos f0 f1
 refine (r3made_core neg (neg && decide (0 < vf f n)) p n c (trimN f n) f w h hn6 (Lib.hid rfl) (Lib.hid (by simp only [hp]))).mono ?_
 rintro e w' ⟨v, rfl, ho, hb⟩
 exact ⟨v, rfl, ho, d1, d2, hb⟩
theorem r3less_any (p q : Option Addr) (n m c1 c2 : Nat) (f g : Nat → Int) (w : World) (h1 : SlF w (.slice p n c1) n f) (h2 : SlF w (.slice q m c2) m g) :
  Calls Tryz.prog 253 #[.slice p n c1, .slice q m c2] w fun e w' => e = .returned (.bool (decide (cmpV f n g m < 0))) ∧ ∃ k, w' = w.drewN k := by
 obtain ⟨hc1, hn1, hx1⟩ := h1.opens
 obtain ⟨hc2, hn2, hx2⟩ := h2.opens
 clear h1 h2
 by_cases hnm : n = m
 ·subst hnm
  go_enter Tryz.func253, Tryz.ntmps253
  go_wp2
  go_loopw [5] (fun a wr => ∃ k : Nat, k ≤ n ∧ a = .int .i64 ((k : Int) - 1) ∧ cmpDown f g k = cmpDown f g n ∧ ∃ j, wr = w.drewN j) (fun a _ => (intOf a + 1).toNat)
  case atStart => exact ⟨n, Nat.le_refl _, rfl, rfl, 0, rfl⟩
  case round =>
   obtain ⟨k, hk, rfl, ht, j, rfl⟩ := hrel
   have HT := Lib.hid ht; clear ht
   by_cases h0 : 0 < k
   ·obtain ⟨b, off, rfl, hb, hcell⟩ := hx1 (by omega)
    obtain ⟨b2, off2, rfl, hb2, hcell2⟩ := hx2 (by omega)
    have a1 := hcell (k-1) (by omega)
    have a2 := hcell2 (k-1) (by omega)
    clear hcell hcell2 hx1 hx2
    obtain ⟨k, rfl⟩ : ∃ j, k = j + 1 := ⟨k-1, by omega⟩
    simp only [Nat.add_sub_cancel] at a1 a2
    rw [show ((k + 1 : Nat) : Int) - 1 = (k : Int) by omega]
    have HE := cmpDown_eq f g (k + 1) (by omega)
    have HN := cmpDown_ne f g (k + 1) (by omega)
    simp only [Nat.add_sub_cancel] at HE HN
    replace HE := Lib.hid HE
    replace HN := Lib.hid HN
    by_cases hfg : f k = g k
    ·have hq : (f k != g k) = false := by simpa using hfg
     have HF := Lib.hid hfg; clear hfg
     go_wp2
     go_quiet (fail)
     go_wp2
     go_roundw
     case rel => exact ⟨k, by omega, rfl, by rw [← HT.out, HE.out HF.out], _, rfl⟩
     case measure => simp [intOf]
    ·have hq : (f k != g k) = true := by simpa using hfg
     have HF := Lib.hid hfg; clear hfg
     go_wp2
     go_quiet (fail)
     go_wp2
     go_quiet (fail)
     go_wp2
     go_ret
     exact ⟨by rw [cmpV, if_pos rfl, ← HT.out, HN.out HF.out, show decide (f k - g k < 0) = decide (f k < g k) from by rw [decide_eq_decide]; omega]; rfl, _, by rw [World.drewN_drewN, World.drewN_drewN]⟩
   ·obtain rfl : k = 0 := by omega
    go_wp2
    go_ret
    exact ⟨by rw [cmpV, if_pos rfl, ← HT.out]; rfl, _, rfl⟩
 ·have hnm' : ((n : Int) != (m : Int)) = true := by simp; omega
  go_enter Tryz.func253, Tryz.ntmps253
  go_wp2
  go_ret
  refine ⟨by rw [cmpV, if_neg hnm, show decide ((n : Int) - m < 0) = decide (n < m) from by rw [decide_eq_decide]; omega]; rfl, 0, rfl⟩
theorem r3less_ok (p q : Option Addr) (n m c1 c2 : Nat) (f g : Nat → Int) (w : World) (h1 : SlF w (.slice p n c1) n f) (h2 : SlF w (.slice q m c2) m g) (d1 : Digs f n) (d2 : Digs g m) :
  Calls Tryz.prog 253 #[.slice p n c1, .slice q m c2] w fun e w' => e = .returned (.bool (decide (vf f n < vf g m))) ∧ ∃ k, w' = w.drewN k := by
 refine (r3less_any p q n m c1 c2 f g w h1 h2).mono ?_
 rintro e w' ⟨rfl, hk⟩
 exact ⟨by simp only [(cmpV_spec d1 d2).1], hk⟩
theorem r3at_ok (p : Option Addr) (n c i : Nat) (f : Nat → Int) (w : World) (h : SlF w (.slice p n c) n f) :
  Calls Tryz.prog 275 #[.slice p n c, .int .i64 (i : Int)] w fun e w' => e = .returned (.int .i64 (xt f n i)) ∧ w' = w := by
 obtain ⟨hc, hn, hx⟩ := h.opens
 clear h
 by_cases hin : i < n
 ·obtain ⟨b, off, rfl, hb, hcell⟩ := hx (by omega)
  have a1 := hcell i hin
  have hi' : (i : Int) < n := by omega
  rw [xt_lt hin]
  clear hcell hx
  go_enter Tryz.func275, Tryz.ntmps275
  go_wp2
  go_ret
  exact ⟨rfl, rfl⟩
 ·have hi' : ¬ (i : Int) < n := by omega
  rw [xt_ge (by omega)]
  clear hx
  go_enter Tryz.func275, Tryz.ntmps275
  go_wp2
  go_ret
  exact ⟨rfl, rfl⟩
end Go.Proofs.YtdgodcgdlfjpaaaGreatDoor
namespace Go.Ev
open Go.RowKit Go.Mono
section
def capsOf (get : Operand → Option SV) : List Operand → Option (List (Nat × Nat))
 | [] => some []
 | x :: r => match get x with
   | some (.a (.one (.ptr k o))) => (capsOf get r).map ((k, o) :: ·)
   | _ => none
def realO (get : Operand → Option SV) : Option Operand → Option (Option Value)
 | none => some none
 | some x => ((get x).bind realV).map some
def sliceS (P : Program) (t : TypeId) (x : Option SV) (get : Operand → Option SV) (lo hi mx : Option Operand) : Option SV :=
 match realO get lo, realO get hi, realO get mx with
 | some l, some h, some m => match x, P.underlying t with
   | some (.a (.one (.slc k off len cap))), some (.slice e) => match pureOf P (Instr.sliceBounds true len cap l h m), szOf P e with
     | some (a, b, c), some s => some (.a (.one (.slc k (if c = a then off else off + a * s) (b - a) (c - a))))
     | _, _ => none
   | some (.a (.one (.ptr k off))), some (.array n e) => match pureOf P (Instr.sliceBounds false n n l h m), szOf P e with
     | some (a, b, c), some s => some (.a (.one (.slc k (if c = a then off else off + a * s) (b - a) (c - a))))
     | _, _ => none
   | _, _ => none
 | _, _, _ => none
def lenS (P : Program) (c : Call) (get : Operand → Option SV) : Option SV :=
 match c.callee, c.args.toList, c.argTypes.toList with
 | .builtin .len, [x], [t] => match get x, P.underlying t with
   | some (.a (.one (.slc _ _ n _))), some (.slice _) => some (.a (.one (.val (goInt n))))
   | some (.a (.one (.sli _ _ n))), some (.slice _) => some (.a (.one (.val (goInt n))))
   | some (.a (.one .emp)), some (.slice _) => some (.a (.one (.val (goInt (0 : Nat)))))
   | _, _ => none
 | .builtin .cap, [x], [t] => match get x, P.underlying t with
   | some (.a (.one (.slc _ _ _ c))), some (.slice _) => some (.a (.one (.val (goInt c))))
   | _, _ => none
 | _, _, _ => none
def loadS (P : Program) (t : TypeId) (x : Option SV) (bk : List (Nat × Blk)) : Option SV :=
 match x with
 | some (.a (.one (.ptr k off))) => match bk.lookup k with
   | some b => partS P t b.cells off
   | none => none
 | _ => none
def isSelect : Op → Bool
 | .select .. => true
 | _ => false
def realOp (P : Program) (o : Oper) (get : Operand → Option SV) : Option SV :=
 if !isSelect o.op && o.op.operands.toList.all (fun x => ((get x).bind realV).isSome) then
  match pureOf P (execOp (fun x => ((get x).bind realV).getD undef) o) with
  | some (.value v) => ofVal v
  | _ => none
 else none
def evPure (P : Program) (o : Oper) (get : Operand → Option SV) (bk : List (Nat × Blk)) : Option SV :=
 match o.op with
 | .move x => get x
 | .assign x => get x
 | .makeFunc (.func f) first caps => if first.isEmpty then (capsOf get caps.toList).map fun l => .a (.one (.clo f l)) else none
 | .fieldAddr s x f => fieldAddrS P s (get x) f
 | .indexAddr t x ix => match indexAddrS P t (get x) (get ix) with
   | some r => some r
   | none => realOp P o get
 | .field t x f => match fieldS P t (get x) f with
   | some r => some r
   | none => realOp P o get
 | .index t x ix => match indexS P t (get x) (get ix) with
   | some r => some r
   | none => realOp P o get
 | .extract x i => match get x with
   | some (.tup l) => (l[i]?).map .a
   | _ => none
 | .nilCheck x => match get x with
   | some (.a (.one (.ptr k off))) => some (.a (.one (.ptr k off)))
   | some (.a (.one (.clo f l))) => some (.a (.one (.clo f l)))
   | _ => realOp P o get
 | .build t parts => buildS P t parts.toList get
 | .load t x => loadS P t (get x) bk
 | .slice t x lo hi mx => match sliceS P t (get x) get lo hi mx with
   | some r => some r
   | none => realOp P o get
 | .call c => match lenS P c get with
   | some r => some r
   | none => realOp P o get
 | _ => realOp P o get
section
variable {D : Den} {P : Program} {ρ : Nm} {wc w : World} {get : Operand → Option SV} {ev : Operand → Value}
theorem capsOf_ok (hg : ∀ x z, get x = some z → denV D ρ wc z (ev x)) : ∀ {l : List Operand} {c : List (Nat × Nat)}, capsOf get l = some c → adrs ρ c (l.map ev)
 | [], c, h => by cases h; rfl
 | x :: r, c, h => by
   unfold capsOf at h
   split at h
   ·rename_i k o hx
    obtain ⟨q, hq, rfl⟩ := Option.map_eq_some_iff.1 h
    obtain ⟨B, hB, e⟩ := hg _ _ hx
    exact ⟨B, _, hB, by rw [List.map_cons, show ev x = _ from by simpa using e], capsOf_ok hg hq⟩
   ·cases h
theorem realO_ok (hg : ∀ x z, get x = some z → denV D ρ wc z (ev x)) {x : Option Operand} {l : Option Value} (h : realO get x = some l) : l = x.map ev := by
 cases x with
 | none => cases h; rfl
 | some x =>
   unfold realO at h
   obtain ⟨v, hv, rfl⟩ := Option.map_eq_some_iff.1 h
   obtain ⟨z, hz, hr⟩ := Option.bind_eq_some_iff.1 hv
   rw [Option.map_some, realV_den hr (hg _ _ hz)]
theorem add_if (B off a c s : Nat) : (if c = a then (⟨B, off, none⟩ : Addr) else (⟨B, off, none⟩ : Addr).add (a * s)) = ⟨B, if c = a then off else off + a * s, none⟩ := by
 split
 ·rfl
 ·rw [Addr.add_mid]
theorem sliceS_ok (hg : ∀ x z, get x = some z → denV D ρ wc z (ev x)) {t : TypeId} {x : Operand} {lo hi mx : Option Operand} {r : SV} (h : sliceS P t (get x) get lo hi mx = some r) :
  ∃ v, (Instr.sliceAt t (ev x) (lo.map ev) (hi.map ev) (mx.map ev)).run P w = .ok v w ∧ denV D ρ wc r v := by
 unfold sliceS at h
 split at h
 ·rename_i l h' m hl hh hm
  rw [← realO_ok hg hl, ← realO_ok hg hh, ← realO_ok hg hm]
  split at h
  ·rename_i k off len cap e hx hu
   split at h
   ·rename_i a b c s hb hs
    cases h
    obtain ⟨B, hB, e1⟩ := hg _ _ hx
    rw [show ev x = _ from by simpa using e1]
    refine ⟨.slice (some ⟨B.blk, B.base + (if c = a then off else off + a * s), none⟩) (b - a) (c - a), ?_, B, hB, rfl⟩
    unfold Instr.sliceAt
    simp only [Sem.run_bind, run_underlying hu, Result.andThen_ok]
    unfold Instr.slice
    simp only [Sem.run_bind, run_underlying hu, Result.andThen_ok, pureOf_run hb, run_szOf hs, Sem.run_pure]
    congr 2
    split <;> simp [Addr.add_mid, Nat.add_assoc]
   ·cases h
  ·rename_i k off n e hx hu
   split at h
   ·rename_i a b c s hb hs
    cases h
    obtain ⟨B, hB, e1⟩ := hg _ _ hx
    rw [show ev x = _ from by simpa using e1]
    refine ⟨.slice (some ⟨B.blk, B.base + (if c = a then off else off + a * s), none⟩) (b - a) (c - a), ?_, B, hB, rfl⟩
    unfold Instr.sliceAt
    simp only [Sem.run_bind, run_underlying hu, Result.andThen_ok, Instr.sureAddr, pureOf_run hb, run_szOf hs, Sem.run_pure]
    rw [add_if]
    congr 2
    split <;> simp [Nat.add_assoc]
   ·cases h
  ·cases h
 ·cases h
theorem realOp_ok (hg : ∀ x z, get x = some z → denV D ρ wc z (ev x)) {o : Oper} {r : SV} (h : realOp P o get = some r) :
  ∃ v, (execOp ev o).run P w = .ok (.value v) w ∧ denV D ρ wc r v := by
 unfold realOp at h
 split at h
 ·rename_i hc
  rw [Bool.and_eq_true] at hc
  split at h
  ·rename_i v hv
   refine ⟨v, ?_, ofVal_den h⟩
   rw [execOp_congr (ρ := ev) (ρ' := fun x => ((get x).bind realV).getD undef) o (fun cs b he => by rw [he] at hc; simp [isSelect] at hc) (fun x hx => by
    have := List.all_eq_true.1 hc.2 x (by simpa using hx)
    obtain ⟨y, hy⟩ := Option.isSome_iff_exists.1 this
    obtain ⟨z, hz, hr⟩ := Option.bind_eq_some_iff.1 hy
    rw [hy, Option.getD_some, realV_den hr (hg _ _ hz)])]
   exact pureOf_run hv w
  ·cases h
 ·cases h
theorem fieldAddrS_ok (hg : ∀ x z, get x = some z → denV D ρ wc z (ev x)) {s f : Nat} {x : Operand} {r : SV} (h : fieldAddrS P s (get x) f = some r) :
  ∃ v, (Instr.fieldAt s (ev x) f).run P w = .ok v w ∧ denV D ρ wc r v := by
 unfold fieldAddrS at h
 split at h
 ·rename_i k off hx
  split at h
  ·rename_i fs hu
   split at h
   ·rename_i fl hf
    split at h
    ·rename_i n hz
     cases h
     obtain ⟨B, hB, e1⟩ := hg _ _ hx
     rw [show ev x = _ from by simpa using e1]
     exact ⟨.pointer (some ⟨B.blk, B.base + (off + fl.offset), none⟩), by rw [← Nat.add_assoc]; exact run_fieldAt' hu hf hz, B, hB, rfl⟩
    ·cases h
   ·cases h
  ·cases h
 ·cases h
theorem indexAddrS_ok (hg : ∀ x z, get x = some z → denV D ρ wc z (ev x)) {t : Nat} {x ix : Operand} {r : SV} (h : indexAddrS P t (get x) (get ix) = some r) :
  ∃ v, (Instr.indexAt t (ev x) (ev ix)).run P w = .ok v w ∧ denV D ρ wc r v := by
 unfold indexAddrS at h
 split at h
 ·rename_i k off kd i hx hi
  split at h
  ·rename_i n e hu
   split at h
   ·rename_i s hz
    split at h
    ·rename_i hb
     cases h
     obtain ⟨B, hB, e1⟩ := hg _ _ hx
     rw [show ev x = _ from by simpa using e1, show ev ix = _ from by simpa using (hg _ _ hi).1]
     exact ⟨.pointer (some ⟨B.blk, B.base + (off + i.toNat * s), none⟩), by rw [← Nat.add_assoc]; exact run_indexAt_a hu hz hb, B, hB, rfl⟩
    ·cases h
   ·cases h
  ·cases h
 ·rename_i k off len cap kd i hx hi
  split at h
  ·rename_i e hu
   split at h
   ·rename_i s hz
    split at h
    ·rename_i hb
     cases h
     obtain ⟨B, hB, e1⟩ := hg _ _ hx
     rw [show ev x = _ from by simpa using e1, show ev ix = _ from by simpa using (hg _ _ hi).1]
     exact ⟨.pointer (some ⟨B.blk, B.base + (off + i.toNat * s), none⟩), by rw [← Nat.add_assoc]; exact run_indexAt_s hu hz hb, B, hB, rfl⟩
    ·cases h
   ·cases h
  ·cases h
 ·rename_i k off len kd i hx hi
  split at h
  ·rename_i e hu
   split at h
   ·rename_i s hz
    split at h
    ·rename_i hb
     cases h
     obtain ⟨B, c, hB, hc, e1⟩ := hg _ _ hx
     rw [show ev x = _ from by simpa using e1, show ev ix = _ from by simpa using (hg _ _ hi).1]
     exact ⟨.pointer (some ⟨B.blk, B.base + (off + i.toNat * s), none⟩), by rw [← Nat.add_assoc]; exact run_indexAt_s hu hz hb, B, hB, rfl⟩
    ·cases h
   ·cases h
  ·cases h
 ·cases h
theorem fieldS_ok (hg : ∀ x z, get x = some z → denV D ρ wc z (ev x)) {s f : Nat} {x : Operand} {r : SV} (h : fieldS P s (get x) f = some r) :
  ∃ v, (Instr.field s (ev x) f).run P w = .ok v w ∧ denV D ρ wc r v := by
 unfold fieldS at h
 split at h
 ·rename_i l hx
  split at h
  ·rename_i fs hu
   split at h
   ·rename_i fl hf
    obtain ⟨cs, e, hl⟩ := hg _ _ hx
    obtain ⟨v, h1, h2⟩ := partS_ok (P := P) (w := w) h hl
    refine ⟨v, ?_, h2⟩
    rw [e]
    unfold Instr.field
    simp only [Sem.run_bind, run_underlying hu, Result.andThen_ok, hf, asAgg, Sem.run_pure, h1]
   ·cases h
  ·cases h
 ·cases h
theorem indexS_ok (hg : ∀ x z, get x = some z → denV D ρ wc z (ev x)) {t : Nat} {x ix : Operand} {r : SV} (h : indexS P t (get x) (get ix) = some r) :
  ∃ v, (Instr.index t (ev x) (ev ix)).run P w = .ok v w ∧ denV D ρ wc r v := by
 unfold indexS at h
 split at h
 ·rename_i l kd i hx hi
  split at h
  ·rename_i n e hu
   split at h
   ·rename_i s hz
    split at h
    ·rename_i hb
     obtain ⟨cs, e1, hl⟩ := hg _ _ hx
     obtain ⟨v, h1, h2⟩ := partS_ok (P := P) (w := w) h hl
     refine ⟨v, ?_, h2⟩
     rw [e1, show ev ix = _ from by simpa using (hg _ _ hi).1]
     unfold Instr.index
     simp only [Sem.run_bind, asIntOf, run_underlying hu, Result.andThen_ok, Sem.run_pure, if_pos hb, run_szOf hz, h1]
    ·cases h
   ·cases h
  ·cases h
 ·cases h
theorem denAs_get : ∀ {l : List SA} {vs : List Value} {i : Nat} {x : SA}, denAs D ρ w l vs → l[i]? = some x → ∃ v, vs[i]? = some v ∧ denA D ρ w x v
 | [], vs, i, x, h, hx => by simp at hx
 | y :: l, vs, i, x, ⟨v, r, e, hv, hr⟩, hx => by
   subst e
   cases i with
   | zero => simp at hx; subst hx; exact ⟨v, by simp, hv⟩
   | succ i => simp at hx; simpa using denAs_get hr hx
end
end
end Go.Ev
namespace Go.Mono
open Go.RowKit
def LgV (m : Nat) (w : World) (v : Value) (z : Int) : Prop := ∃ p n c f, v = .agg #[.bool (decide (z < 0)), .slice p n c] ∧ SlF w (.slice p n c) n f ∧ Digs f n ∧ vf f n = z.natAbs ∧ n ≤ m
theorem LgV.ext {m : Nat} {w w' : World} {v : Value} {z : Int} (h : LgV m w v z) (hx : Ext w w') : LgV m w' v z := by
 obtain ⟨p, n, c, f, hv, h1, h2⟩ := h
 exact ⟨p, n, c, f, hv, h1.ext hx, h2⟩
theorem LgV.below {m : Nat} {w w' : World} {v : Value} {z : Int} (h : LgV m w v z) (hb : Below w.heap.size w w') : LgV m w' v z := h.ext (.of_below hb)
theorem LgV.mono {m m' : Nat} {w : World} {v : Value} {z : Int} (h : LgV m w v z) (hm : m ≤ m') : LgV m' w v z := by
 obtain ⟨p, n, c, f, hv, h1, h2, h3, h4⟩ := h
 exact ⟨p, n, c, f, hv, h1, h2, h3, by omega⟩
theorem LgV.tight {m k : Nat} {w : World} {v : Value} {z : Int} (h : LgV m w v z) (hz : (z.natAbs : Int) < pw k) : LgV k w v z := by
 obtain ⟨p, n, c, f, hv, h1, h2, h3, h4⟩ := h
 refine ⟨p, n, c, f, hv, h1, h2, h3, ?_⟩
 by_cases hn : n = 0
 ·omega
 have := h2.ge (by omega)
 by_cases hk : n ≤ k
 ·exact hk
 ·have := pw_mono (i := k) (k := n - 1) (by omega)
  omega
theorem LgV.lt {m : Nat} {w : World} {v : Value} {z : Int} (h : LgV m w v z) : (z.natAbs : Int) < pw m := by
 obtain ⟨p, n, c, f, hv, h1, h2, h3, h4⟩ := h
 have := h2.lt
 have := pw_mono h4
 omega
theorem long_eq {z y : Int} {n m : Nat} {f g : Nat → Int} (d1 : Digs f n) (v1 : vf f n = z.natAbs) (d2 : Digs g m) (v2 : vf g m = y.natAbs) :
  z = y ↔ (decide (z < 0) = decide (y < 0) ∧ n = m ∧ ∀ i, i < n → f i = g i) := by
 constructor
 ·rintro rfl
  obtain ⟨rfl, h⟩ := d1.unique d2 (by omega)
  exact ⟨rfl, rfl, h⟩
 ·rintro ⟨h1, rfl, h2⟩
  have e := vf_congr h2
  have h3 : (z < 0 ↔ y < 0) := by simpa using h1
  omega
end Go.Mono
namespace Go.Proofs.YtdgodcgdlfjpaaaGreatDoor
open Go.RowKit Go.Mono
theorem r3same_any (s t : Bool) (p q : Option Addr) (n m c1 c2 : Nat) (f g : Nat → Int) (r : Bool) (w : World) (h1 : SlF w (.slice p n c1) n f) (h2 : SlF w (.slice q m c2) m g) (hr : Hid (r = true ↔ (s = t ∧ n = m ∧ ∀ i, i < n → f i = g i))) :
  Calls Tryz.prog 67 #[.agg #[.bool s, .slice p n c1], .agg #[.bool t, .slice q m c2]] w fun e w' => e = .returned (.bool r) ∧ Below w.heap.size w w' := by
 obtain ⟨hc1, hn1, hx1⟩ := h1.opens
 obtain ⟨hc2, hn2, hx2⟩ := h2.opens
 clear h1 h2
 by_cases hst : s = t
 ·subst hst
  by_cases hnm : n = m
  ·subst hnm
   go_enter Tryz.func67, Tryz.ntmps67
   go_wp2
   refine boxes2 fun W hB hs b0 b1 => ?_
   have cb0 := b0.cell
   have lb0 := b0.lt
   have fb0 := b0.frozen
   have cb1 := b1.cell
   have lb1 := b1.lt
   have fb1 := b1.frozen
   go_loopw [5] (fun a wr => ∃ i : Nat, i ≤ n ∧ a = .int .i64 (i : Int) ∧ (∀ j, j < i → f j = g j) ∧ ∃ k, wr = W.drewN k) (fun a _ => (n - intOf a).toNat)
   case atStart => exact ⟨0, Nat.zero_le _, rfl, fun j hj => absurd hj (Nat.not_lt_zero _), 0, rfl⟩
   case round =>
    obtain ⟨i, hi, rfl, heq, k, rfl⟩ := hrel
    replace heq := Lib.hid heq
    by_cases hin : i < n
    ·obtain ⟨b, off, rfl, hb, hcell⟩ := hx1 (by omega)
     obtain ⟨b2, off2, rfl, hb2, hcell2⟩ := hx2 (by omega)
     have a1 := (hB.cell (p := ⟨b, off + i, none⟩) hb).trans (hcell i hin)
     have a2 := (hB.cell (p := ⟨b2, off2 + i, none⟩) hb2).trans (hcell2 i hin)
     have hin' : (i : Int) < n := by omega
     clear hcell hcell2 hx1 hx2
     by_cases hfg : f i = g i
     ·have hq : (f i != g i) = false := by simpa using hfg
      replace hfg := Lib.hid hfg
      go_wp2
      go_quiet (fail)
      go_wp2
      go_roundw
      case rel =>
       refine ⟨i + 1, by omega, by simp, fun j hj => ?_, _, rfl⟩
       by_cases hji : j = i
       ·subst hji; exact hfg.out
       ·exact heq.out j (by omega)
      case measure => simp [intOf]; omega
     ·have hq : (f i != g i) = true := by simpa using hfg
      obtain rfl : r = false := by
       rw [Bool.eq_false_iff]
       intro e
       exact hfg ((hr.out.1 e).2.2 i hin)
      replace hfg := Lib.hid hfg
      go_wp2
      go_quiet (fail)
      go_wp2
      go_ret
      exact ⟨rfl, below_drewN (below_drewN hB _) _⟩
    ·obtain rfl : i = n := by omega
     obtain rfl : r = true := hr.out.2 ⟨by trivial, by trivial, heq.out⟩
     clear hx1 hx2
     go_wp2
     go_ret
     exact ⟨rfl, below_drewN hB _⟩
  ·obtain rfl : r = false := by
    rw [Bool.eq_false_iff]
    intro e
    exact hnm (hr.out.1 e).2.1
   have hnm' : ((n : Int) != (m : Int)) = true := by simp; omega
   clear hx1 hx2
   go_enter Tryz.func67, Tryz.ntmps67
   go_wp2
   go_ret
   exact ⟨rfl, belowAlloc (belowAlloc (Below.refl _ _) _) _⟩
 ·obtain rfl : r = false := by
   rw [Bool.eq_false_iff]
   intro e
   exact hst (hr.out.1 e).1
  have hst' : (s != t) = true := by simpa using hst
  clear hx1 hx2
  go_enter Tryz.func67, Tryz.ntmps67
  go_wp2
  go_ret
  exact ⟨rfl, belowAlloc (belowAlloc (Below.refl _ _) _) _⟩
theorem r3same_ok {m1 m2 : Nat} {v1 v2 : Value} {z y : Int} (w : World) (h1 : LgV m1 w v1 z) (h2 : LgV m2 w v2 y) :
  Calls Tryz.prog 67 #[v1, v2] w fun e w' => e = .returned (.bool (decide (z = y))) ∧ Below w.heap.size w w' := by
 obtain ⟨p, n, c, f, rfl, s1, d1, e1, _⟩ := h1
 obtain ⟨q, m, c', g, rfl, s2, d2, e2, _⟩ := h2
 refine r3same_any _ _ p q n m c c' f g _ w s1 s2 (Lib.hid ?_)
 rw [decide_eq_true_eq]
 exact long_eq d1 e1 d2 e2
end Go.Proofs.YtdgodcgdlfjpaaaGreatDoor
