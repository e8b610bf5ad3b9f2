/- Contracts of the program's fractions, lenses and rays, and a verified evaluator of the model. Part 30 of 30. No condition beside the row. -/
import Derived.Test.YtcgfdibagldafaaGreatDoorA29
set_option linter.unusedVariables false
set_option linter.unusedSimpArgs false
set_option maxRecDepth 100000
set_option maxHeartbeats 4000000
namespace Go.Proofs.YtcgfdibagldafaaGreatDoor
open Go.RowKit Go.Mono Go.Ex
def gG : ByteArray := { data := #[71] }
def nA : ByteArray := { data := #[65] }
def sStd (curv thick : Int) (glass : ByteArray) : Srf := ⟨1, curv, 0, 0, 0, 0, 0, 0, 0, 0, 0, 0, thick, glass, 0, 0, 0, 0, 0, 0, 0⟩
def sNo : ByteArray := { data := #[] }
def sIdeal (curv thick : Int) : Srf := ⟨4, curv, 0, 0, 0, 0, 0, 0, 0, 0, 0, 0, thick, sNo, 0, 0, 0, 0, 0, 0, 0⟩
def g3 {α : Type} (a b c : α) : Nat → α
 | 0 => a
 | 1 => b
 | _ => c
def puL (st : Int) : Lns := ⟨nA, 0, 4000000, st, 0, 1, fun _ => 0, fun _ => 100000, 1, fun _ => 587562, fun _ => 1, 3, g3 (sStd 20000000 3000000 gG) (sStd (-20000000) 10000000 sNo) (sStd 0 0 sNo), fun i _ => g3 15000000 10000000 10000000 i⟩
def puFlat : Lns := ⟨nA, 0, 4000000, 0, 0, 1, fun _ => 0, fun _ => 100000, 1, fun _ => 587562, fun _ => 1, 3, g3 (sStd 0 3000000 gG) (sStd 0 10000000 sNo) (sStd 0 0 sNo), fun i _ => g3 15000000 10000000 10000000 i⟩
def puNear : Lns := ⟨nA, 98000000, 4000000, 0, 0, 1, fun _ => 0, fun _ => 7000000, 1, fun _ => 587562, fun _ => 1, 3, g3 (sStd 20000000 3000000 gG) (sStd (-20000000) 10000000 sNo) (sStd 0 0 sNo), fun i _ => g3 15000000 10000000 10000000 i⟩
def puFront : Lns := ⟨nA, 0, 4000000, 1, 0, 1, fun _ => 0, fun _ => 100000, 1, fun _ => 587562, fun _ => 1, 3, g3 (sIdeal 20000000 50000000) (sStd 0 10000000 sNo) (sStd 0 0 sNo), fun _ _ => 10000000⟩
def puBack : Lns := ⟨nA, 0, 4000000, 0, 0, 1, fun _ => 0, fun _ => 100000, 1, fun _ => 587562, fun _ => 1, 3, g3 (sStd 0 50000000 sNo) (sIdeal 20000000 50000000) (sStd 0 0 sNo), fun _ _ => 10000000⟩
def g2 {α : Type} (a b : α) : Nat → α
 | 0 => a
 | _ => b
def seL (conic a1 : Int) : Lns := ⟨nA, 0, 20000000, 0, 0, 1, fun _ => 0, fun _ => 10000, 1, fun _ => 587562, fun _ => 1, 2, g2 ⟨1, -10000000, conic, 0, 0, 0, a1, 0, 0, 0, 0, 0, -50000000, mirror, 0, 0, 0, 0, 0, 0, 0⟩ (sStd 0 0 sNo), fun _ _ => 10000000⟩
def sePlate : Lns := ⟨nA, 0, 20000000, 0, 0, 1, fun _ => 0, fun _ => 10000, 2, g2 486133 656273, fun _ => 1, 2, g2 ⟨1, 0, 0, 0, 0, 1, 0, 0, 0, 0, 0, 0, 1000000, gG, 0, 0, 0, 0, 0, 0, 0⟩ (sStd 0 0 sNo), fun _ j => g2 15000000 15100000 j⟩
section
def MemoL (m : Nat) (f : FuncId) (a : Lns) (zs : List Int) (n : Nat) (l : List U) (rest : List SA) : Prop :=
 ∀ (w : World), PowsAt w m → ∀ q, OptAt w a q → ∀ ρ, Calls Tryz.prog f (.agg (a.ovals q) :: zs.map (Value.int .i64)).toArray w fun e w' => ∃ b off cp cs vs, e = .returned (.tuple (Value.slice (some ⟨b, off, none⟩) n cp :: vs).toArray) ∧ n ≤ cp ∧
   w.heap.size ≤ b ∧ b < w'.heap.size ∧ w'.rangeAt b off cs ∧ denL (qDen (pK m) (pK1 m)) ρ w' l cs ∧ denAs (qDen (pK m) (pK1 m)) ρ w' rest vs ∧ Below w.heap.size w w'
def cMemoL {m : Nat} {w0 : World} (hp : PowsAt w0 m) {f : FuncId} {a : Lns} {zs : List Int} {n : Nat} {l : List U} {rest : List SA} (h : MemoL m f a zs n l rest) : Ctr (qDen (pK m) (pK1 m)) Tryz.prog w0 (fun _ => False) where
 f := f
 run := fun args bk c orc => if memoRun a zs args bk then some ⟨.tup (.one (.sli c 0 n) :: rest), [(c, ⟨0, l, true, false, false⟩)], [], orc, c + 1, c + 1, none⟩ else none
 cc := by
  intro args bk c orc r h
  split at h
  ·cases h; exact Nat.le_succ _
  ·cases h
 sound := by
  intro args bk c orc r hr hobl th ρ wc w vals hS hlt hn hargs
  split at hr
  ·rename_i hm
   cases hr
   obtain ⟨q, ho, rfl⟩ := memoRun_ok hm (w := w) (ρ := ρ) (fun k b hk hd => by
    obtain ⟨B, cs, h1, h2, h3, h4⟩ := hS.bkOk k b hk hd
    exact ⟨B, cs, h1, h2, h3.mono (Nm.le.refl _) hS.ext, h4⟩) (hargs.mono (Nm.le.refl _) hS.ext)
   refine (h w (hp.below hS.fr.below) q ho ρ).mono ?_
   rintro e w' ⟨b, off, cp, cs, vs, rfl, hm, hwb, hbw, hrg, hl, hrest, hb⟩
   obtain ⟨k1, k2⟩ := hS.call hb c c (fun k b hk => Nat.not_le.2 (hlt k b hk))
   have hc := hn c (Nat.le_refl _) (Nat.lt_succ_self c)
   have g1 := k1.view hc 0 hbw (fun j B hj _ => by have := hS.lt j B hj; omega) hrg hl hlt
   refine ⟨_, _, w', rfl, ⟨_, rfl, _, _, rfl, ⟨_, cp, addNm_new _ _ _, hm, rfl⟩, hrest.mono (addNm_le hc) (Ext.refl _)⟩, g1, ⟨addNm_le hc, k2.ext, k2.size, k2.os, k2.tape, k2.output, k2.loc, fun j x hj => ?_, Nat.le_succ _, fun j hj => addNm_old _ _ (by dsimp only at hj; omega)⟩⟩
   rcases liv_cons hj with ⟨rfl, rfl, _⟩ | ⟨e1, hj⟩
   ·exact .inr ⟨Nat.le_refl _, Nat.lt_succ_self _, _, addNm_new _ _ _, .inl hwb⟩
   ·exact .inl ⟨x, hj⟩
  ·cases hr
theorem memoL_of {m : Nat} {f : FuncId} {a : Lns} {zs : List Int} {k n s : Nat} {l : List U} {rest : List SA} (hl : l.all plainU = true) (hV : rest.all plainA = true) (h0 : (Nat.blt 0 a.nf && Nat.blt 0 a.nw && Nat.blt 0 a.ns) = true) {d : Nat}
  (sp : ∀ w, PowsAt w m → List (Ctr (qDen (pK m) (pK1 m)) Tryz.prog w (fun _ => False)))
  (hev : ∀ w (h : PowsAt w m) (q : Plc), (evF Tryz.prog (sp w h) [powF h] d [] f (.agg (usU a q) :: zsU zs) (bkU a q) (4 + a.ns) (4 + a.ns) []).map (fun r => (r.v, r.obl, (r.wr.look k).map (fun b => (b.dead, b.ro, b.cells)), r.pan)) =
   some (.tup (.one (.own k n s) :: rest), [], some (false, false, l), none)) : MemoL m f a zs n l rest := by
 intro w hp q ho ρ
 rw [Bool.and_eq_true, Bool.and_eq_true, Nat.blt_eq, Nat.blt_eq, Nat.blt_eq] at h0
 obtain ⟨vs, e1, e2, e3, e4⟩ := run_at (K := pK m) (hK := pK1 m) h0.1.1 h0.1.2 h0.2 ho
 obtain ⟨r, hr, he⟩ := Option.map_eq_some_iff.1 (hev w hp q)
 simp only [Prod.mk.injEq] at he
 obtain ⟨hv, hobl, hlook, hpan⟩ := he
 obtain ⟨b, hb, eb⟩ := Option.map_eq_some_iff.1 hlook
 simp only [Prod.mk.injEq] at eb
 obtain ⟨b1, b2, rfl⟩ := eb
 refine (evRunV (D := qDen (pK m) (pK1 m)) (d := d) (n := 4 + a.ns) (orc := []) (args := .agg (usU a q) :: zsU zs) wide_ (sp w hp) [powF hp] (bkU a q) e1 e2.symm (.tup (.one (.own k n s) :: rest)) [] r.wr ?_ trivial (vals := .agg (a.ovals q) :: zs.map (Value.int .i64)) e3 ⟨_, _, rfl, e4, zsU_den zs⟩).mono ?_
 ·rw [hr, Option.map_some, hv, hobl, hpan]
 ·rintro e w' ⟨v, ρ', rfl, ⟨ws, rfl, v1, vs', rfl, ⟨B, hB, g1, g2, g3, g4⟩, hrest⟩, hbl, _, hbk, hnew⟩
  have hlk : (r.wr ++ bkU a q).look k = some b := by rw [look_append, hb]; rfl
  obtain ⟨B', cs, k1, k2, k3, k4⟩ := hbk k b hlk b1
  cases k1.symm.trans hB
  obtain ⟨n1, n2⟩ := hnew k b B ⟨hlk, b1⟩ hB
  obtain rfl : v1 = .slice (some ⟨B.blk, 0, none⟩) n B.cap := by simpa using g4
  refine ⟨B.blk, 0, B.cap, cs, vs', rfl, g1, n1 b2, n2, fun j x hj => ?_, plainU_den hl k3, plainAs_den hV hrest, hbl⟩
  have := k2.cell hj
  rw [g3] at this
  exact this
end
end Go.Proofs.YtcgfdibagldafaaGreatDoor
