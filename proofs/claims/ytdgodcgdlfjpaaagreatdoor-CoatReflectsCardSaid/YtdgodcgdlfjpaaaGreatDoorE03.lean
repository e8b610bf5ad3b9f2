/- A verified evaluator of the model, and the references of layer 40 by it. Part 3 of 8. No condition beside the row. -/
import Derived.Test.YtdgodcgdlfjpaaaGreatDoorA02
import Derived.Test.YtdgodcgdlfjpaaaGreatDoorE02
set_option linter.unusedVariables false
set_option linter.unusedSimpArgs false
set_option maxRecDepth 100000
set_option maxHeartbeats 4000000
namespace Go.Ev
open Go.RowKit Go.Mono
section
section
variable {D : Den} {P : Program} {ρ : Nm} {wc w : World} {get : Operand → Option SV} {ev : Operand → Value}
theorem partS_val {t : TypeId} {l : List U} {off : Nat} {x : SV} {cs : List Value} (h : partS P t l off = some x) (hl : denL D ρ wc l cs) :
  (∃ n m, rowT P t = some true ∧ szOf P t = some n ∧ x = .a (.agg m) ∧ denL D ρ wc m ((cs.drop off).take n) ∧ ((cs.drop off).take n).length = n) ∨
  (∃ u v, rowT P t = some false ∧ x = .a (.one u) ∧ cs[off]? = some v ∧ denU D ρ wc u [v]) := by
 unfold partS at h
 split at h
 ·rename_i n hr hz
  obtain ⟨m, hm, rfl⟩ := Option.map_eq_some_iff.1 h
  obtain ⟨h1, h2⟩ := subU_den hm hl
  exact .inl ⟨n, m, hr, hz, rfl, h1, h2⟩
 ·rename_i n hr hz
  split at h
  ·rename_i u hu
   cases h
   obtain ⟨h1, h2⟩ := subU_den hu hl
   obtain ⟨c, d, e, hc, hd⟩ := h1
   obtain rfl : d = [] := hd
   rw [List.append_nil] at e
   rw [e] at h2
   obtain ⟨v, rfl⟩ : ∃ v, c = [v] := List.length_eq_one_iff.1 h2
   refine .inr ⟨u, v, hr, rfl, ?_, hc⟩
   have := congrArg (·[0]?) e
   simpa using this
  ·cases h
 ·cases h
def Holds (w : World) (p : Pl) (T : TypeId) (cs : List Value) : Prop :=
 (p.ro = true ∧ w.rangeAt p.blk p.base cs) ∨ (p.ro = false ∧ p.base = 0 ∧ Box w p.blk T cs.toArray)
theorem Holds.cell {w : World} {p : Pl} {T : TypeId} {cs : List Value} (h : Holds w p T cs) {i : Nat} {v : Value} (hi : cs[i]? = some v) : w.cell? ⟨p.blk, p.base + i, none⟩ = some v := by
 rcases h with ⟨_, h⟩ | ⟨_, h0, h⟩
 ·exact h i v hi
 ·rw [h0, Nat.zero_add, h.cell]
  simpa using hi
theorem cell_of_block {w w' : World} {B : Nat} (h : w'.heap[B]? = w.heap[B]?) (o : Nat) : w'.cell? ⟨B, o, none⟩ = w.cell? ⟨B, o, none⟩ := by
 simp only [World.cell?, h]
theorem Holds.of_block {w w' : World} {p : Pl} {T : TypeId} {cs : List Value} (h : Holds w p T cs) (hb : w'.heap[p.blk]? = w.heap[p.blk]?) : Holds w' p T cs := by
 rcases h with ⟨h1, h⟩ | ⟨h1, h0, h⟩
 ·exact .inl ⟨h1, fun j v hj => (cell_of_block hb _).trans (h j v hj)⟩
 ·exact .inr ⟨h1, h0, ⟨hb.trans h.blk⟩⟩
def BkOk (D : Den) (ρ : Nm) (wc w : World) (bk : List (Nat × Blk)) : Prop :=
 ∀ k b, bk.lookup k = some b → ∃ B cs, ρ k = some B ∧ Holds w B b.T cs ∧ denL D ρ wc b.cells cs ∧ B.ro = b.ro
theorem loadS_ok (hg : ∀ x z, get x = some z → denV D ρ wc z (ev x)) {bk : List (Nat × Blk)} (hb : BkOk D ρ wc w bk) {t : TypeId} {x : Operand} {r : SV} (h : loadS P t (get x) bk = some r) :
  ∃ v, (Instr.loadAt t (ev x)).run P w = .ok v w ∧ denV D ρ wc r v := by
 unfold loadS at h
 split at h
 ·rename_i k off hx
  split at h
  ·rename_i b hk
   obtain ⟨B, cs, hB, bx, hl, _⟩ := hb k b hk
   obtain ⟨B', hB', e⟩ := hg _ _ hx
   cases hB.symm.trans hB'
   rw [show ev x = _ from by simpa using e]
   rcases partS_val h hl with ⟨n, m, hr, hz, rfl, h1, h2⟩ | ⟨u, v, hr, rfl, hv, hu⟩
   ·refine ⟨.agg ((cs.drop off).take n).toArray, ?_, _, rfl, h1⟩
    obtain ⟨d, hd, hd'⟩ := Option.map_eq_some_iff.1 hr
    refine run_loadAt_mid w B.blk (B.base + off) t _ d ?_ hd hd' (by rw [h2]; exact hz)
    intro j v hj
    rw [Nat.add_assoc]
    refine bx.cell ?_
    have hjl : j < n := by
     have := (List.getElem?_eq_some_iff.1 hj).1
     omega
    rw [List.getElem?_take, if_pos hjl, List.getElem?_drop] at hj
    simpa using hj
   ·refine ⟨v, ?_, hu⟩
    unfold Instr.loadAt loadVar
    simp only [Sem.run_bind, Instr.sureAddr, Sem.run_pure, Result.andThen_ok, run_rowT hr, Bool.false_eq_true, if_false]
    rw [run_load, bx.cell hv]
  ·cases h
 ·cases h
theorem lenS_ok (hg : ∀ x z, get x = some z → denV D ρ wc z (ev x)) {o : Oper} {c : Call} (ho : o.op = .call c) {r : SV} (h : lenS P c get = some r) :
  ∃ v, (execOp ev o).run P w = .ok (.value v) w ∧ denV D ρ wc r v := by
 obtain ⟨cal, ⟨args⟩, ⟨ts⟩⟩ := c
 unfold lenS at h
 dsimp only at h
 split at h
 ·rename_i x t
  split at h
  ·rename_i k off n cp e hx hu
   cases h
   obtain ⟨B, hB, e1⟩ := hg _ _ hx
   have e2 : ev x = .slice (some ⟨B.blk, B.base + off, none⟩) n cp := by simpa using e1
   refine ⟨goInt n, ?_, rfl, rfl⟩
   unfold execOp
   simp only [ho, resolve, Sem.run_bind, Sem.run_pure, Result.andThen_ok, invoke, builtin, Builtin.len_]
   simp [e2, run_underlying hu]
  ·rename_i k off n e hx hu
   cases h
   obtain ⟨B, cp, hB, hc, e1⟩ := hg _ _ hx
   have e2 : ev x = .slice (some ⟨B.blk, B.base + off, none⟩) n cp := by simpa using e1
   refine ⟨goInt n, ?_, rfl, rfl⟩
   unfold execOp
   simp only [ho, resolve, Sem.run_bind, Sem.run_pure, Result.andThen_ok, invoke, builtin, Builtin.len_]
   simp [e2, run_underlying hu]
  ·rename_i e hx hu
   cases h
   obtain ⟨p, cp, hp, e1⟩ := hg _ _ hx
   have e2 : ev x = .slice p 0 cp := by simpa using e1
   refine ⟨goInt (0 : Nat), ?_, rfl, rfl⟩
   unfold execOp
   simp only [ho, resolve, Sem.run_bind, Sem.run_pure, Result.andThen_ok, invoke, builtin, Builtin.len_]
   simp [e2, run_underlying hu]
  ·cases h
 ·rename_i x t
  split at h
  ·rename_i k off n cp e hx hu
   cases h
   obtain ⟨B, hB, e1⟩ := hg _ _ hx
   have e2 : ev x = .slice (some ⟨B.blk, B.base + off, none⟩) n cp := by simpa using e1
   refine ⟨goInt cp, ?_, rfl, rfl⟩
   unfold execOp
   simp only [ho, resolve, Sem.run_bind, Sem.run_pure, Result.andThen_ok, invoke, builtin, Builtin.cap_]
   simp [e2, run_underlying hu]
  ·cases h
 ·cases h
theorem evPure_ok (hg : ∀ x z, get x = some z → denV D ρ wc z (ev x)) {bk : List (Nat × Blk)} (hb : BkOk D ρ wc w bk) {o : Oper} {r : SV} (h : evPure P o get bk = some r) :
  ∃ v, (execOp ev o).run P w = .ok (.value v) w ∧ denV D ρ wc r v := by
 have viaV : ∀ {s : Sem Value}, (∃ v, s.run P w = .ok v w ∧ denV D ρ wc r v) → ∃ v, (do pure (Next.value (← s)) : Sem Next).run P w = .ok (.value v) w ∧ denV D ρ wc r v := by
  rintro s ⟨v, h1, h2⟩
  exact ⟨v, by simp only [Sem.run_bind, h1, Result.andThen_ok, Sem.run_pure], h2⟩
 unfold evPure at h
 split at h
 ·rename_i x ho
  exact ⟨ev x, by unfold execOp; rw [ho]; rfl, hg _ _ h⟩
 ·rename_i x ho
  exact ⟨ev x, by unfold execOp; rw [ho]; rfl, hg _ _ h⟩
 ·rename_i f first caps ho
  split at h
  ·rename_i hf
   obtain ⟨l, hl, rfl⟩ := Option.map_eq_some_iff.1 h
   have hc := capsOf_ok hg hl
   have hfe : first = #[] := Array.isEmpty_iff.1 hf
   subst hfe
   refine ⟨.func (.func f) #[] (caps.map ev), by unfold execOp; simp [ho, Instr.makeFunc], _, hc, ?_⟩
   congr 2
   apply Array.toList_inj.1
   simp
  ·cases h
 ·rename_i s x f ho
  unfold execOp
  rw [ho]
  exact viaV (fieldAddrS_ok hg h)
 ·rename_i t x ix ho
  split at h
  ·rename_i r' hr
   cases h
   unfold execOp
   rw [ho]
   exact viaV (indexAddrS_ok (x := x) (ix := ix) hg hr)
  ·exact realOp_ok hg h
 ·rename_i t x f ho
  split at h
  ·rename_i r' hr
   cases h
   unfold execOp
   rw [ho]
   exact viaV (fieldS_ok hg hr)
  ·exact realOp_ok hg h
 ·rename_i t x ix ho
  split at h
  ·rename_i r' hr
   cases h
   unfold execOp
   rw [ho]
   exact viaV (indexS_ok (x := x) (ix := ix) hg hr)
  ·exact realOp_ok hg h
 ·rename_i x i ho
  split at h
  ·rename_i l hx
   obtain ⟨y, hy, rfl⟩ := Option.map_eq_some_iff.1 h
   obtain ⟨vs, e, hl⟩ := hg _ _ hx
   obtain ⟨v, hv, hd⟩ := denAs_get hl hy
   unfold execOp
   rw [ho]
   refine viaV ⟨v, ?_, hd⟩
   rw [e]
   simp [Instr.extract, hv]
  ·cases h
 ·rename_i x ho
  split at h
  ·rename_i k off hx
   cases h
   have hd := hg _ _ hx
   obtain ⟨B, hB, e1⟩ := hd
   have e2 : ev x = .pointer (some ⟨B.blk, B.base + off, none⟩) := by simpa using e1
   refine ⟨ev x, ?_, B, hB, e1⟩
   unfold execOp
   rw [ho]
   simp only [e2]
   rfl
  ·rename_i f l hx
   cases h
   have hd := hg _ _ hx
   obtain ⟨vs, hv, e1⟩ := hd
   have e2 : ev x = .func (.func f) #[] vs.toArray := by simpa using e1
   refine ⟨ev x, ?_, vs, hv, e1⟩
   unfold execOp
   rw [ho]
   simp only [e2]
   rfl
  ·exact realOp_ok hg h
 ·rename_i t parts ho
  unfold execOp
  rw [ho]
  exact viaV (buildS_ok hg h w)
 ·rename_i t x ho
  unfold execOp
  rw [ho]
  exact viaV (loadS_ok hg hb h)
 ·rename_i t x lo hi mx ho
  split at h
  ·rename_i r' hr
   cases h
   unfold execOp
   rw [ho]
   exact viaV (sliceS_ok hg hr)
  ·exact realOp_ok hg h
 ·rename_i c ho
  split at h
  ·rename_i r' hr
   cases h
   exact lenS_ok hg ho hr
  ·exact realOp_ok hg h
 ·exact realOp_ok hg h
end
end
end Go.Ev
namespace Go.Mono
open Go.RowKit
theorem LgV.cells {m : Nat} {w : World} {v : Value} {z : Int} (h : LgV m w v z) : ∃ C : Array Value, v = .agg C ∧ C.size = 2 ∧ C.all (·.oneCell') = true := by
 obtain ⟨p, n, c, f, rfl, _⟩ := h
 exact ⟨_, rfl, rfl, by simp [Value.oneCell']⟩
theorem OwnF.lg {w : World} {base : Nat} {v : Value} {n m : Nat} {f : Nat → Int} {z : Int} (h : OwnF w base v n f) (hd : Digs f n) (hv : vf f n = z.natAbs) (hm : n ≤ m) (hm6 : m ≤ 1000000) : LgV m w (.agg #[.bool (decide (z < 0)), v]) z := by
 obtain ⟨p, c, rfl⟩ := h.shape
 exact ⟨p, n, c, f, rfl, h.sl (by omega), hd, hv, hm⟩
theorem wrapId {z : Int} (h1 : -9223372036854775808 ≤ z) (h2 : z ≤ 9223372036854775807) : IntKind.i64.wrap z = z := by
 simp [IntKind.wrap, IntKind.signed, IntKind.bits]
 omega
theorem long_ones (b : Bool) (p : Option Addr) (n c : Nat) : (#[.bool b, .slice p n c] : Array Value).all (·.oneCell') = true := by simp [Value.oneCell']
end Go.Mono
namespace Go.Proofs.YtdgodcgdlfjpaaaGreatDoor
open Go.RowKit Go.Mono
theorem r3minus_ok {m : Nat} {v : Value} {z : Int} (w : World) (h : LgV m w v z) (hm : m ≤ 100000) :
  Calls Tryz.prog 247 #[v] w fun e w' => ∃ v', e = .returned v' ∧ LgV m w' v' (-z) ∧ Below w.heap.size w w' := by
 obtain ⟨p, n, c, f, rfl, s1, d1, e1, l1⟩ := h
 have hb1 : (!decide (z < 0)) = decide (0 ≤ z) := by
  rw [Bool.eq_iff_iff]; simp
 have hsg : (decide (0 ≤ z) && decide (0 < vf f n)) = decide (-z < 0) := by
  rw [Bool.eq_iff_iff]; simp; omega
 rw [e1] at hsg
 generalize decide (z < 0) = sz at *
 go_enter Tryz.func247, Tryz.ntmps247
 go_wp2_with fail
 refine boxes2c fun W hB hs b0 b1 => ?_
 refine (r3made_ok _ p n c f W (s1.ext (.of_below hB)) (by omega) d1.lo d1.hi).mono ?_
 rintro e W1 ⟨v', rfl, ho, d2, e2, hb⟩
 replace b1 := b1.below hb
 replace hB := belowCall hB hb
 rw [e1, hsg]
 have hlg := ho.lg (z := -z) (m := m) d2 (by rw [e2, e1, Int.natAbs_neg]) (by have := trimN_le f n; omega) (by omega)
 generalize decide (-z < 0) = ng at *
 obtain ⟨p', c', rfl⟩ := ho.shape
 clear ho hb b0 hsg
 go_wp2_with first | (refine wpList_store_box rfl 35 _ _ rfl (w.heap.size + 1) 0 35 _ #[.bool ng, .slice p' (trimN f n) c'] #[.bool ng, .slice p' (trimN f n) c'] rfl rfl b1 sizeLong (Nat.le_of_ble_eq_true rfl) (long_ones _ _ _ _) (whole_new rfl) ?_; intro W2 hk b2)
 have hb2 := hk.below hB (by omega) hB.size
 refine bodyPost_ret (b2.results rfl _ _ rfl Tryz.underlying35 rfl sizeLong) rfl ⟨_, rfl, hlg.ext (hk.ext b1 (by decide)), hb2⟩
end Go.Proofs.YtdgodcgdlfjpaaaGreatDoor
namespace Go.Ev
open Go.RowKit Go.Mono
section
structure Frm (w0 : World) (X : Nat → Prop) (w : World) : Prop where
 os : w.os = w0.os
 tape : w.tape = w0.tape
 output : w.output = w0.output
 size : w0.heap.size ≤ w.heap.size
 block : ∀ i, i < w0.heap.size → ¬ X i → w.heap[i]? = w0.heap[i]?
theorem Frm.refl (w : World) (X : Nat → Prop) : Frm w X w := ⟨rfl, rfl, rfl, Nat.le_refl _, fun _ _ _ => rfl⟩
theorem Frm.below {w0 w : World} (h : Frm w0 (fun _ => False) w) : Below w0.heap.size w0 w := ⟨h.os, h.tape, h.output, h.size, fun k hk => h.block k hk id⟩
theorem Frm.of_below {w0 w : World} (h : Below w0.heap.size w0 w) (X : Nat → Prop) : Frm w0 X w := ⟨h.os, h.tape, h.output, h.size, fun k hk _ => h.block k hk⟩
structure Sat (D : Den) (w0 : World) (X : Nat → Prop) (th : Nat) (ρ : Nm) (wc w : World) (bk : List (Nat × Blk)) : Prop where
 fr : Frm w0 X w
 ext : Ext wc w
 inj : ∀ k k' B B', ρ k = some B → ρ k' = some B' → B.blk = B'.blk → k = k' ∨ (B.ro = true ∧ B'.ro = true)
 lt : ∀ k B, ρ k = some B → B.blk < w.heap.size
 box : ∀ k b, bk.lookup k = some b → ∃ B cs, ρ k = some B ∧ Holds w B b.T cs ∧ denL D ρ wc b.cells cs ∧ (b.ro = false → w0.heap.size ≤ B.blk ∨ X B.blk) ∧ (th ≤ k → wc.heap.size ≤ B.blk) ∧ B.ro = b.ro
structure Evo (ρ : Nm) (wc w : World) (bk : List (Nat × Blk)) (c c' : Nat) (ρ' : Nm) (wc' w' : World) (bk' : List (Nat × Blk)) : Prop where
 rho : ρ.le ρ'
 ext : Ext wc wc'
 size : w.heap.size ≤ w'.heap.size
 os : w'.os = w.os
 tape : w'.tape = w.tape
 output : w'.output = w.output
 loc : ∀ i, i < w.heap.size → (∀ k b B, bk.lookup k = some b → ρ k = some B → B.ro = false → B.blk ≠ i) → w'.heap[i]? = w.heap[i]?
 ids : ∀ k b, bk'.lookup k = some b → (bk.lookup k).isSome = true ∨ (c ≤ k ∧ k < c' ∧ ∃ B, ρ' k = some B ∧ (B.ro = true ∨ w.heap.size ≤ B.blk))
 cc : c ≤ c'
 dom : ∀ k, (k < c ∨ c' ≤ k) → ρ' k = ρ k
theorem Evo.refl (ρ : Nm) (wc w : World) (bk : List (Nat × Blk)) (c : Nat) : Evo ρ wc w bk c c ρ wc w bk :=
 ⟨Nm.le.refl _, Ext.refl _, Nat.le_refl _, rfl, rfl, rfl, fun _ _ _ => rfl, fun k b h => .inl (by rw [h]; rfl), Nat.le_refl _, fun _ _ => rfl⟩
theorem Evo.trans {ρ ρ1 ρ2 : Nm} {wc w wc1 w1 wc2 w2 : World} {bk bk1 bk2 : List (Nat × Blk)} {c c1 c2 : Nat}
  (h : Evo ρ wc w bk c c1 ρ1 wc1 w1 bk1) (g : Evo ρ1 wc1 w1 bk1 c1 c2 ρ2 wc2 w2 bk2) (hlt : ∀ k b, bk.lookup k = some b → ∃ B, ρ k = some B) : Evo ρ wc w bk c c2 ρ2 wc2 w2 bk2 where
 rho := h.rho.trans g.rho
 ext := h.ext.trans g.ext
 size := Nat.le_trans h.size g.size
 os := g.os.trans h.os
 tape := g.tape.trans h.tape
 output := g.output.trans h.output
 loc := fun i hi hn => by
  rw [g.loc i (Nat.lt_of_lt_of_le hi h.size) ?_, h.loc i hi hn]
  intro k b C hk he hro
  rcases h.ids k b hk with h1 | ⟨_, _, B, hB, hle⟩
  ·obtain ⟨b', hb'⟩ := Option.isSome_iff_exists.1 h1
   obtain ⟨B, hB⟩ := hlt k b' hb'
   have := h.rho k B hB
   rw [he] at this
   cases this
   exact hn k b' C hb' hB hro
  ·rw [he] at hB
   cases hB
   rcases hle with hle | hle
   ·rw [hro] at hle; cases hle
   ·omega
 ids := fun k b hk => by
  have hc1 := h.cc
  have hc2 := g.cc
  rcases g.ids k b hk with h1 | ⟨k1, k2, B, hB, hle⟩
  ·obtain ⟨b', hb'⟩ := Option.isSome_iff_exists.1 h1
   rcases h.ids k b' hb' with h2 | ⟨k1, k2, B, hB, hle⟩
   ·exact .inl h2
   ·exact .inr ⟨k1, by omega, B, g.rho k B hB, hle⟩
  ·exact .inr ⟨by omega, k2, B, hB, hle.imp id fun hle => Nat.le_trans h.size hle⟩
 cc := Nat.le_trans h.cc g.cc
 dom := fun k hk => by
  have h1 := h.cc
  have h2 := g.cc
  rw [g.dom k (by omega), h.dom k (by omega)]
section
variable {D : Den} {w0 : World} {X : Nat → Prop} {th : Nat} {ρ : Nm} {wc w : World} {bk : List (Nat × Blk)}
theorem Sat.named (h : Sat D w0 X th ρ wc w bk) : ∀ k b, bk.lookup k = some b → ∃ B, ρ k = some B := fun k b hk => let ⟨B, _, hB, _⟩ := h.box k b hk; ⟨B, hB⟩
theorem Sat.bkOk (h : Sat D w0 X th ρ wc w bk) : BkOk D ρ wc w bk := fun k b hk => let ⟨B, cs, h1, h2, h3, _, _, h6⟩ := h.box k b hk; ⟨B, cs, h1, h2, h3, h6⟩
theorem Sat.mono (h : Sat D w0 X th ρ wc w bk) {th' : Nat} (hle : th ≤ th') : Sat D w0 X th' ρ wc w bk :=
 ⟨h.fr, h.ext, h.inj, h.lt, fun k b hk => let ⟨B, cs, h1, h2, h3, h4, h5, h6⟩ := h.box k b hk; ⟨B, cs, h1, h2, h3, h4, fun hh => h5 (Nat.le_trans hle hh), h6⟩⟩
theorem lookup_cons {α : Type} (k k' : Nat) (x : α) (l : List (Nat × α)) : List.lookup k ((k', x) :: l) = if k = k' then some x else List.lookup k l := by
 rw [List.lookup_cons]
 by_cases h : k = k'
 ·subst h
  simp
 ·have e : (k == k') = false := by simpa using h
  rw [e, if_neg h]
def addNm (ρ : Nm) (k B : Nat) : Nm := fun j => if j = k then some ⟨B, 0, false⟩ else ρ j
theorem addNm_le {ρ : Nm} {k B : Nat} (h : ρ k = none) : ρ.le (addNm ρ k B) := fun j C hj => by
 unfold addNm
 by_cases e : j = k
 ·subst e; rw [h] at hj; cases hj
 ·rw [if_neg e]; exact hj
theorem Sat.alloc (h : Sat D w0 X th ρ wc w bk) {k : Nat} (hk : ρ k = none) (T : TypeId) {l : List U} {cs : List Value} (hl : denL D ρ wc l cs) :
  Sat D w0 X th (addNm ρ k w.heap.size) wc (w.alloc (.cells cs.toArray T)) ((k, ⟨T, l, false⟩) :: bk) ∧
  Evo ρ wc w bk k (k + 1) (addNm ρ k w.heap.size) wc (w.alloc (.cells cs.toArray T)) ((k, ⟨T, l, false⟩) :: bk) ∧ addNm ρ k w.heap.size k = some ⟨w.heap.size, 0, false⟩ := by
 have hle := addNm_le (B := w.heap.size) hk
 have hb : Below w.heap.size w (w.alloc (.cells cs.toArray T)) := belowAlloc (Below.refl _ _) _
 have hnew : addNm ρ k w.heap.size k = some ⟨w.heap.size, 0, false⟩ := by simp [addNm]
 refine ⟨⟨⟨h.fr.os, h.fr.tape, h.fr.output, Nat.le_trans h.fr.size hb.size, fun i hi hx => (hb.block i (Nat.lt_of_lt_of_le hi h.fr.size)).trans (h.fr.block i hi hx)⟩,
  h.ext.alloc _, ?_, ?_, ?_⟩, ⟨hle, Ext.refl _, hb.size, rfl, rfl, rfl, fun i hi _ => hb.block i hi, ?_, by omega, ?_⟩, hnew⟩
 ·intro j j' B B' h1 h2 he
  unfold addNm at h1 h2
  by_cases e1 : j = k <;> by_cases e2 : j' = k
  ·exact .inl (by rw [e1, e2])
  ·rw [if_pos e1] at h1; rw [if_neg e2] at h2; cases h1
   have := h.lt j' _ h2; dsimp only at he; omega
  ·rw [if_neg e1] at h1; rw [if_pos e2] at h2; cases h2
   have := h.lt j _ h1; dsimp only at he; omega
  ·rw [if_neg e1] at h1; rw [if_neg e2] at h2
   exact h.inj j j' B B' h1 h2 he
 ·intro j B h1
  unfold addNm at h1
  by_cases e1 : j = k
  ·rw [if_pos e1] at h1; cases h1; simp
  ·rw [if_neg e1] at h1
   exact Nat.lt_of_lt_of_le (h.lt j B h1) hb.size
 ·intro j b hj
  rw [lookup_cons] at hj
  by_cases e1 : j = k
  ·rw [if_pos e1] at hj
   cases hj
   subst e1
   exact ⟨_, cs, hnew, .inr ⟨rfl, rfl, Box.new _ _ _⟩, hl.mono hle (Ext.refl _), fun _ => .inl h.fr.size, fun _ => h.ext.size, rfl⟩
  ·rw [if_neg e1] at hj
   obtain ⟨B, cs', h1, h2, h3, h4, h5, h6⟩ := h.box j b hj
   exact ⟨B, cs', hle j B h1, h2.of_block (hb.block _ (h.lt j B h1)), h3.mono hle (Ext.refl _), h4, h5, h6⟩
 ·intro j b hj
  rw [lookup_cons] at hj
  by_cases e1 : j = k
  ·subst e1
   exact .inr ⟨Nat.le_refl _, by omega, _, hnew, .inr (Nat.le_refl _)⟩
  ·rw [if_neg e1] at hj
   exact .inl (by rw [hj]; rfl)
 ·intro j hj
  unfold addNm
  rw [if_neg (by omega)]
theorem Sat.store (h : Sat D w0 X th ρ wc w bk) {k : Nat} {b : Blk} (hk : bk.lookup k = some b) (hro : b.ro = false) {off : Nat} {us l : List U} {ps : List Value} (hput : putU b.cells off us = some l) (hp : denL D ρ wc us ps)
  (hT : b.T ≠ 3 ∨ th ≤ k) {B : Pl} (hB : ρ k = some B) (c : Nat) :
  Sat D w0 X th ρ wc (w.setCells B.blk off ps) ((k, ⟨b.T, l, false⟩) :: bk) ∧ Evo ρ wc w bk c c ρ wc (w.setCells B.blk off ps) ((k, ⟨b.T, l, false⟩) :: bk) ∧ w.there B.blk off ps.length ∧ B.base = 0 := by
 obtain ⟨B', cs, h1, h2, h3, h4, h5, h6⟩ := h.box k b hk
 cases hB.symm.trans h1
 have hBro : B.ro = false := h6.trans hro
 have h2' : B.base = 0 ∧ Box w B.blk b.T cs.toArray := by
  rcases h2 with ⟨g, _⟩ | ⟨_, g⟩
  ·rw [hBro] at g; cases g
  ·exact g
 obtain ⟨hbase, h2'⟩ := h2'
 obtain ⟨q1, q2⟩ := putU_den hput h3 hp
 have hks : KeepBut B.blk w.heap.size w (w.setCells B.blk off ps) := (KeepBut.refl _ _).setCells _ _ _
 have hbx : Box (w.setCells B.blk off ps) B.blk b.T (cs.take off ++ ps ++ cs.drop (off + ps.length)).toArray := Box.setCells ps off w cs.toArray h2' (by simpa using q2)
 have hext : Ext wc (w.setCells B.blk off ps) := by
  rcases hT with hT | hT
  ·exact h.ext.trans (hks.ext h2' hT)
  ·have h6 := h5 hT
   refine ⟨Nat.le_trans h.ext.size hks.size, fun j ds fr hj => ?_⟩
   have h7 := h.ext.kept j ds fr hj
   have h8 := lt_of_some hj
   rw [hks.block j (lt_of_some h7) (by omega)]
   exact h7
 refine ⟨⟨⟨?_, ?_, ?_, ?_, ?_⟩, hext, h.inj, fun j C hj => Nat.lt_of_lt_of_le (h.lt j C hj) hks.size, ?_⟩, ⟨Nm.le.refl _, Ext.refl _, hks.size, hks.os, hks.tape, hks.output, ?_, ?_, Nat.le_refl _, fun _ _ => rfl⟩, ?_, hbase⟩
 ·exact hks.os.trans h.fr.os
 ·exact hks.tape.trans h.fr.tape
 ·exact hks.output.trans h.fr.output
 ·exact Nat.le_trans h.fr.size hks.size
 ·intro i hi hx
  rw [hks.block i (Nat.lt_of_lt_of_le hi h.fr.size) (by
   intro e
   subst e
   rcases h4 hro with h4 | h4
   ·omega
   ·exact hx h4)]
  exact h.fr.block i hi hx
 ·intro j b' hj
  rw [lookup_cons] at hj
  by_cases e1 : j = k
  ·rw [if_pos e1] at hj
   cases hj
   subst e1
   exact ⟨B, _, h1, .inr ⟨hBro, hbase, hbx⟩, q1, fun _ => h4 hro, h5, hBro⟩
  ·rw [if_neg e1] at hj
   obtain ⟨C, ds, g1, g2, g3, g4, g5, g6⟩ := h.box j b' hj
   refine ⟨C, ds, g1, g2.of_block (hks.block _ (h.lt j C g1) fun e => ?_), g3, g4, g5, g6⟩
   rcases h.inj j k C B g1 h1 e with h7 | h7
   ·exact e1 h7
   ·rw [hBro] at h7; cases h7.2
 ·intro i hi hn
  exact hks.block i hi (fun e => hn k b B hk h1 hBro e.symm)
 ·intro j b' hj
  rw [lookup_cons] at hj
  by_cases e1 : j = k
  ·subst e1
   exact .inl (by rw [hk]; rfl)
  ·rw [if_neg e1] at hj
   exact .inl (by rw [hj]; rfl)
 ·exact h2'.there off ps.length (by simpa using q2)
theorem Sat.call (h : Sat D w0 X th ρ wc w bk) (hf : ∀ k b, bk.lookup k = some b → ¬ th ≤ k) {w' : World} (hb : Below w.heap.size w w') (c : Nat) :
  Sat D w0 X th ρ w' w' bk ∧ Evo ρ wc w bk c c ρ w' w' bk := by
 have hx : Ext wc w' := h.ext.trans (.of_below hb)
 refine ⟨⟨⟨hb.os.trans h.fr.os, hb.tape.trans h.fr.tape, hb.output.trans h.fr.output, Nat.le_trans h.fr.size hb.size, fun i hi hX => (hb.block i (Nat.lt_of_lt_of_le hi h.fr.size)).trans (h.fr.block i hi hX)⟩,
  Ext.refl _, h.inj, fun j C hj => Nat.lt_of_lt_of_le (h.lt j C hj) hb.size, ?_⟩, ⟨Nm.le.refl _, hx, hb.size, hb.os, hb.tape, hb.output, fun i hi _ => hb.block i hi, fun k b hk => .inl (by rw [hk]; rfl), Nat.le_refl _, fun _ _ => rfl⟩⟩
 intro j b hj
 obtain ⟨B, cs, h1, h2, h3, h4, h5, h6⟩ := h.box j b hj
 exact ⟨B, cs, h1, h2.of_block (hb.block _ (h.lt j B h1)), h3.mono (Nm.le.refl _) hx, h4, fun hh => absurd hh (hf j b hj), h6⟩
theorem Sat.drew (h : Sat D w0 X th ρ wc w bk) : Sat D w0 X th ρ wc w.drew bk :=
 ⟨⟨h.fr.os, h.fr.tape, h.fr.output, h.fr.size, h.fr.block⟩, h.ext.drew, h.inj, h.lt, fun k b hk => let ⟨B, cs, h1, h2, h3⟩ := h.box k b hk; ⟨B, cs, h1, h2.of_block rfl, h3⟩⟩
theorem Evo.drew (ρ : Nm) (wc w : World) (bk : List (Nat × Blk)) (c : Nat) : Evo ρ wc w bk c c ρ wc w.drew bk :=
 ⟨Nm.le.refl _, Ext.refl _, Nat.le_refl _, rfl, rfl, rfl, fun _ _ _ => rfl, fun k b h => .inl (by rw [h]; rfl), Nat.le_refl _, fun _ _ => rfl⟩
end
end
end Go.Ev
namespace Go.Proofs.YtdgodcgdlfjpaaaGreatDoor
open Go.RowKit Go.Mono
theorem r3of_ok (z : Int) (w : World) (h1 : -9223372036854775808 ≤ z) (h2 : z ≤ 9223372036854775807) :
  Calls Tryz.prog 200 #[.int .i64 z] w fun e w' => ∃ v, e = .returned v ∧ LgV 3 w' v z ∧ Below w.heap.size w w' := by
 obtain ⟨sz, hsz⟩ : ∃ sz, decide (z < 0) = sz := ⟨_, rfl⟩
 go_enter Tryz.func200, Tryz.ntmps200
 go_wp2_with fail
 refine boxes1 fun W hB hs b0 => ?_
 replace hsz := Lib.hid hsz
 go_loopw [0, 3] (fun a v wr => ∃ (k : Nat) (f : Nat → Int) (r : Int), a = .int .i64 r ∧ OwnF wr (w.heap.size + 1) v k f ∧ Box wr w.heap.size 35 #[.bool false, .slice none 0 0] ∧ OfInv z r k f ∧ Below w.heap.size w wr ∧ w.heap.size + 1 ≤ wr.heap.size) (fun a _ _ => (intOf a).natAbs)
 case atStart => exact ⟨0, _, z, rfl, OwnF.nil _ _ _, b0, OfInv.start z, hB, hs⟩
 case round =>
  clear b0 hB hs
  obtain ⟨k, f, r, rfl, ho, b0, hI, hB, hs⟩ := hrel
  have hr := hI.bound h1 h2
  obtain ⟨p, c, rfl⟩ := ho.shape
  by_cases h0 : r = 0
  ·subst h0
   have hv := hI.val
   have hd : Digs f k := ⟨hI.lo, hI.hi, hI.top rfl⟩
   have hk3 : k ≤ 3 := by
    by_cases h : k ≤ 3
    ·exact h
    ·have := hd.ge (by omega)
     have h3 := pw_mono (i := 3) (k := k - 1) (by omega)
     have e3 : pw 3 = 1000000000000000000000000000 := by decide
     simp at hv
     omega
   have hv' : vf f k = z.natAbs := by simpa using hv
   go_wp2_with fail
   refine (r3made_ok sz p k c f wr (ho.sl (by omega)) (by omega) hI.lo hI.hi).mono ?_
   rintro e W1 ⟨v', rfl, ho2, d2, e2, hb⟩
   replace b0 := b0.below hb
   have hB1 := belowCall hB hb
   have hneg : (sz && decide (0 < vf f k)) = decide (z < 0) := by
    rw [← hsz.out, hv', Bool.eq_iff_iff]; simp; omega
   rw [hneg]
   have hlg := ho2.lg (z := z) (m := 3) d2 (by rw [e2, hv']) (by have := trimN_le f k; omega) (by omega)
   rw [hsz.out] at hlg ⊢
   obtain ⟨p', c', rfl⟩ := ho2.shape
   have hw1 := hb.size
   clear ho ho2 hb hneg hI hv hv' d2 e2 hB
   go_wp2_with first | (refine wpList_store_box rfl 35 _ _ rfl w.heap.size 0 35 _ #[.bool sz, .slice p' (trimN f k) c'] #[.bool sz, .slice p' (trimN f k) c'] rfl rfl b0 sizeLong (Nat.le_of_ble_eq_true rfl) (long_ones _ _ _ _) (whole_new rfl) ?_; intro W2 hk b2)
   have hb2 := hk.below hB1 (by omega) hB1.size
   refine bodyPost_ret (b2.results rfl _ _ rfl Tryz.underlying35 rfl sizeLong) rfl ⟨_, rfl, hlg.ext (hk.ext b0 (by decide)), hb2⟩
  ·have hk := hI.small h1 h2 h0
   have hst := hI.step h0
   have h0' : (r != 0) = true := by simpa using h0
   have hmm : (r.tmod 1000000000).natAbs < 1000000000 := by rw [Int.natAbs_tmod]; exact Nat.mod_lt _ (by decide)
   have hm1 : -1000000000 < r.tmod 1000000000 := by omega
   have hm2 : r.tmod 1000000000 < 1000000000 := by omega
   have hdd : (r.tdiv 1000000000).natAbs = r.natAbs / 1000000000 := by rw [Int.natAbs_tdiv]; rfl
   have hw : wrap64 (r.tdiv 1000000000) = r.tdiv 1000000000 := by unfold wrap64; omega
   replace h0 := Lib.hid h0
   by_cases hneg : r.tmod 1000000000 < 0
   all_goals
    go_wp2_with (at_builtin; (refine wpList_append_ints _ rfl _ _ 33 rfl Tryz.underlying33 infoInt (w.heap.size + 1) (.slice p k c) k f rfl ?_ (some ⟨wr.heap.size, 0, none⟩) 1 1 (fun _ => ((r.tmod 1000000000).natAbs : Int)) rfl ?_ ?_ ?_ ?_); (exact (ho.below ((Below.refl _ _).alloc (Nat.le_refl _) _))); (exact (slF_lit wr _ _ (by omega))); omega; (simp; omega); (intro v' w1 ho' hg))
    obtain ⟨p', c', rfl⟩ := ho'.shape
    have hz := ((Below.refl (w.heap.size + 1) wr).alloc hs (.cells _ 3)).grown hg (by simp; omega) (fun k hk => ho.low k hk)
    replace b0 := b0.low hz (by omega)
    go_wp2
    go_roundw
    case rel =>
     refine ⟨k + 1, _, r.tdiv 1000000000, rfl, ho', b0, hst, hB.trans (hz.mono (by omega)), ?_⟩
     have := hz.size
     omega
    case measure =>
     have := h0.out
     show (r.tdiv 1000000000).natAbs < r.natAbs
     rw [hdd]; exact Nat.div_lt_self (by omega) (by decide)
end Go.Proofs.YtdgodcgdlfjpaaaGreatDoor
namespace Go.Mono
open Go.RowKit

end Go.Mono
namespace Go.Proofs.YtdgodcgdlfjpaaaGreatDoor
open Go.RowKit Go.Mono

end Go.Proofs.YtdgodcgdlfjpaaaGreatDoor
namespace Go.Ev
open Go.RowKit Go.Mono
section
theorem lookup_append {α : Type} (l m : List (Nat × α)) (k : Nat) : (l ++ m).lookup k = (l.lookup k).or (m.lookup k) := by
 induction l with
 | nil => simp
 | cons p r ih =>
   obtain ⟨k', x⟩ := p
   rw [List.cons_append, lookup_cons, lookup_cons, ih]
   split <;> rfl
def Sub {α : Type} (l m : List (Nat × α)) : Prop := ∀ k x, l.lookup k = some x → m.lookup k = some x
section
variable {D : Den} {w0 : World} {X : Nat → Prop} {th t' : Nat} {ρ ρ' : Nm} {wc w wc' w' : World} {bk bkR wr : List (Nat × Blk)} {c c' : Nat}
theorem Sat.sub (h : Sat D w0 X th ρ wc w bk) (hs : Sub bkR bk) : Sat D w0 X th ρ wc w bkR := ⟨h.fr, h.ext, h.inj, h.lt, fun k b hk => h.box k b (hs k b hk)⟩
theorem Sat.frame (h : Sat D w0 X th ρ wc w bk) (hs : Sub bkR bk) (hf : ∀ k b, bk.lookup k = some b → k < th) (g : Sat D w0 X t' ρ' wc' w' (wr ++ bkR)) (e : Evo ρ wc w bkR c c' ρ' wc' w' (wr ++ bkR)) (hc : c' ≤ th) :
  Sat D w0 X th ρ' wc' w' (wr ++ bk) ∧ Evo ρ wc w bk c c' ρ' wc' w' (wr ++ bk) := by
 have hids : ∀ k b, (wr ++ bk).lookup k = some b → (bk.lookup k).isSome = true ∨ (c ≤ k ∧ k < c' ∧ ∃ B, ρ' k = some B ∧ (B.ro = true ∨ w.heap.size ≤ B.blk)) := fun k b hk => by
  rw [lookup_append] at hk
  cases hw : wr.lookup k with
  | none =>
    rw [hw, Option.none_or] at hk
    exact .inl (by rw [hk]; rfl)
  | some b' =>
    rcases e.ids k b' (by rw [lookup_append, hw]; rfl) with h1 | h1
    ·obtain ⟨x, hx⟩ := Option.isSome_iff_exists.1 h1
     exact .inl (by rw [hs k x hx]; rfl)
    ·exact .inr h1
 have hlt : ∀ k b, (wr ++ bk).lookup k = some b → k < th := fun k b hk => by
  rcases hids k b hk with h1 | ⟨_, h2, _⟩
  ·obtain ⟨x, hx⟩ := Option.isSome_iff_exists.1 h1
   exact hf k x hx
  ·omega
 refine ⟨⟨g.fr, g.ext, g.inj, g.lt, ?_⟩, ⟨e.rho, e.ext, e.size, e.os, e.tape, e.output, ?_, hids, e.cc, e.dom⟩⟩
 ·intro k b hk
  have hkt := hlt k b hk
  rw [lookup_append] at hk
  have old : (wr ++ bkR).lookup k = some b → ∃ B cs, ρ' k = some B ∧ Holds w' B b.T cs ∧ denL D ρ' wc' b.cells cs ∧ (b.ro = false → w0.heap.size ≤ B.blk ∨ X B.blk) ∧ (th ≤ k → wc'.heap.size ≤ B.blk) ∧ B.ro = b.ro := fun hh => by
   obtain ⟨B, cs, h1, h2, h3, h4, h5, h6⟩ := g.box k b hh
   exact ⟨B, cs, h1, h2, h3, h4, fun hx => absurd hx (by omega), h6⟩
  cases hw : wr.lookup k with
  | some b' =>
    rw [hw, Option.some_or] at hk
    exact old (by rw [lookup_append, hw, Option.some_or]; exact hk)
  | none =>
    rw [hw, Option.none_or] at hk
    cases hR : bkR.lookup k with
    | some b' =>
      have := hs k b' hR
      rw [hk] at this
      cases this
      exact old (by rw [lookup_append, hw, Option.none_or]; exact hR)
    | none =>
      obtain ⟨B, cs, h1, h2, h3, h4, h5, h6⟩ := h.box k b hk
      refine ⟨B, cs, e.rho k B h1, h2.of_block (e.loc B.blk (h.lt k B h1) fun k2 b2 B2 hk2 hB hro he => ?_), h3.mono e.rho e.ext, h4, fun hx => absurd hx (by omega), h6⟩
      rcases h.inj k2 k B2 B hB h1 he with h7 | h7
      ·subst h7
       rw [hR] at hk2
       cases hk2
      ·rw [hro] at h7; cases h7.1
 ·intro i hi hn
  exact e.loc i hi fun k b B hk => hn k b B (hs k b hk)
end
structure OpR where
 v : SV
 wr : List (Nat × Blk)
 obl : List Prop
 orc : List (Option Bool)
 c : Nat
abbrev CallS := FuncId → List SA → List (Nat × Blk) → Nat → List (Option Bool) → Option OpR
def CallOk (D : Den) (P : Program) (w0 : World) (X : Nat → Prop) (cs : CallS) : Prop :=
 ∀ f args bk c orc r, cs f args bk c orc = some r → (∀ p ∈ r.obl, p) → ∀ ρ wc w vals, Sat D w0 X c ρ wc w bk → (∀ k b, bk.lookup k = some b → k < c) → (∀ k, c ≤ k → k < r.c → ρ k = none) → denAs D ρ wc args vals →
   Calls P f vals.toArray w fun e w' => ∃ v ρ' wc', e = .returned v ∧ denV D ρ' wc' r.v v ∧ Sat D w0 X r.c ρ' wc' w' (r.wr ++ bk) ∧ Evo ρ wc w bk c r.c ρ' wc' w' (r.wr ++ bk)
def zerosU (P : Program) (e : TypeId) (n : Nat) : Option (List U) :=
 match (P.info? e).bind (·.zero) with
 | some z => (fun l : List Value => if l.all (·.oneCell') then some (l.map .val) else none) ((Array.range n).map (z.cells[· % z.cells.size]!)).toList
 | none => none
def effS (P : Program) (o : Oper) (get : Operand → Option SV) (bk : List (Nat × Blk)) (th c : Nat) : Option (SV × List (Nat × Blk) × Nat) :=
 match o.op with
 | .alloc T => (zeroU P T).map fun l => (.a (.one (.ptr c 0)), [(c, ⟨T, l, false⟩)], c + 1)
 | .box T x => match get x with
   | some (.a s) => some (.a (.one (.ptr c 0)), [(c, ⟨T, unitsA s, false⟩)], c + 1)
   | _ => none
 | .buildSlice t len parts => match P.underlying t with
   | some (.slice e) => match szOf P e, partsS get parts.toList with
     | some s, some ps => if len * s ≤ 2 ^ 24 && len * s != 0 then
       match zerosU P e (len * s) with
       | some z => (fillS (fun i => some (i * s, s)) z ps).map fun m => (.a (.one (.slc c 0 len len)), [(c, ⟨e, m, false⟩)], c + 1)
       | none => none
       else none
     | _, _ => none
   | _ => none
 | .store t x y => match get x, get y with
   | some (.a (.one (.ptr k off))), some (.a s) => match bk.lookup k with
     | some b => if (szOf P t).any (· == widths (unitsA s)) && (b.T != 3 || th ≤ k) && !b.ro then (putU b.cells off (unitsA s)).map fun l => (.tup [], [(k, ⟨b.T, l, false⟩)], c) else none
     | none => none
   | _, _ => none
 | _ => (evPure P o get bk).map fun x => (x, [], c)
theorem denA_cell1 {D : Den} {ρ : Nm} {w : World} {x : SA} {v : Value} (h : denA D ρ w x v) : (∃ cs : Array Value, v = .agg cs) ∨ v.oneCell' = true := by
 cases x with
 | one u => exact .inr (denU.ones h v (by simp))
 | agg l => obtain ⟨cs, e, _⟩ := h; exact .inl ⟨_, e⟩
theorem run_storeAt_any {P : Program} (w : World) (b o : Nat) (ty : TypeId) (v : Value) (hv : (∃ cs : Array Value, v = .agg cs) ∨ v.oneCell' = true) (ht : w.there b o v.cells.size) (hi : (P.info? ty).map (·.size) = some v.cells.size)
  (h1 : ∀ u ∈ v.cells.toList, u.oneCell' = true) : (Instr.storeAt ty (.pointer (some ⟨b, o, none⟩)) v).run P w = .ok () (w.setCells b o v.cells.toList) := by
 rcases hv with ⟨cs, rfl⟩ | hv
 ·exact run_storeAt_mid w b o ty cs ht hi (by rw [Array.all_eq_true_iff_forall_mem]; intro u hu; exact h1 u (by simpa [Value.cells] using hu))
 ·rw [oneCell_cells hv] at ht hi ⊢
  have := run_storeAt_mid (P := P) w b o ty #[v] ht hi (by simpa using hv)
  rw [← this]
  unfold Instr.storeAt storeVar
  rw [oneCell_cells hv]
  rfl
section
variable {D : Den} {P : Program} {w0 : World} {X : Nat → Prop} {th : Nat} {ρ : Nm} {wc w : World} {bk bkR : List (Nat × Blk)} {c : Nat} {get : Operand → Option SV} {a : Act}
theorem effS_ok (h : Sat D w0 X th ρ wc w bk) (hs : Sub bkR bk) (hg : ∀ x z, get x = some z → denV D ρ wc z (a.eval x)) {o : Oper} {x : SV} {wr : List (Nat × Blk)} {c' : Nat}
  (he : effS P o get bkR th c = some (x, wr, c')) (hn : ∀ k, c ≤ k → k < c' → ρ k = none) {K : Act → World → Prop} {Q : Exit → Act → World → Prop}
  (hK : ∀ ρ' w' v, denV D ρ' wc x v → Sat D w0 X th ρ' wc w' (wr ++ bk) → Evo ρ wc w bk c c' ρ' wc w' (wr ++ bk) → K (a.put o.dst v) w') : o.wp P a w K Q := by
 have fresh : ∀ {T : TypeId} {l : List U} {cells : Array Value} {s : Sem Value} {n : Nat} (mk : Addr → Value) (x : SV), (∀ B, denV D (addNm ρ c B) wc x (mk ⟨B, 0, none⟩)) → s.run P w = .ok (mk ⟨w.heap.size, 0, none⟩) (w.alloc (.cells cells T)) → denL D ρ wc l cells.toList →
   (execOp a.eval o = do pure (Next.value (← s))) → c' = c + 1 → (∀ ρ' w' v, denV D ρ' wc x v → Sat D w0 X th ρ' wc w' ((c, ⟨T, l, false⟩) :: bk) → Evo ρ wc w bk c c' ρ' wc w' ((c, ⟨T, l, false⟩) :: bk) → K (a.put o.dst v) w') → o.wp P a w K Q := by
  intro T l cells s n mk x hx hrun hl hex hc hK
  have hk : ρ c = none := hn c (Nat.le_refl _) (by omega)
  obtain ⟨k1, k2, k3⟩ := h.alloc hk T hl
  unfold Oper.wp
  rw [hex]
  simp only [Sem.run_bind, hrun, Result.andThen_ok, Sem.run_pure, Oper.upon_value]
  subst hc
  rw [Array.toArray_toList] at k1 k2
  exact hK _ _ _ (hx _) k1 k2
 have nm : ∀ B, addNm ρ c B c = some ⟨B, 0, false⟩ := fun B => by simp [addNm]
 unfold effS at he
 split at he
 ·rename_i T ho
  obtain ⟨l, hl, e⟩ := Option.map_eq_some_iff.1 he
  cases e
  obtain ⟨i, z, h1, h2, h3⟩ := zeroU_ok hl D ρ wc
  refine fresh (n := 0) (fun p => .pointer (some p)) (.a (.one (.ptr c 0))) (fun B => ⟨_, nm B, rfl⟩) ?_ h3 (s := Instr.alloc T true (.tuple #[])) (by unfold execOp; rw [ho]) rfl hK
  simp [Instr.alloc, zeroValue, typeInfo, h1, h2, newVar, newRow]
 ·rename_i T y ho
  split at he
  ·rename_i s hy
   cases he
   have hd := hg _ _ hy
   refine fresh (n := 0) (fun p => .pointer (some p)) (.a (.one (.ptr c 0))) (fun B => ⟨_, nm B, rfl⟩) ?_ (denA_cells hd) (s := Instr.box T (a.eval y)) (by unfold execOp; rw [ho]) rfl hK
   simp [Instr.box, newVar, newRow]
  ·cases he
 ·rename_i t len parts ho
  split at he
  ·rename_i e hu
   split at he
   ·rename_i s ps hz hp
    split at he
    ·rename_i hlen
     rw [Bool.and_eq_true] at hlen
     split at he
     ·rename_i z hzs
      obtain ⟨m, hm, e1⟩ := Option.map_eq_some_iff.1 he
      cases e1
      unfold zerosU at hzs
      split at hzs
      ·rename_i zv hzv
       obtain ⟨ie, hie, hze⟩ := Option.bind_eq_some_iff.1 hzv
       dsimp only at hzs
       split at hzs
       ·rename_i hall
        cases hzs
        have hps := partsS_ok (D := D) (ρ := ρ) (w := wc) hg hp
        obtain ⟨cells, hf1, hf2⟩ := fillS_ok _ hm (denL_vals _ fun v hv => List.all_eq_true.1 hall v hv) hps
        obtain ⟨ie', hie', rfl⟩ := Option.map_eq_some_iff.1 hz
        cases hie.symm.trans hie'
        refine fresh (n := 0) (fun p => .slice (some p) len len) (.a (.one (.slc c 0 len len))) (fun B => ⟨_, nm B, rfl⟩) ?_ hf2 (s := Instr.buildSlice t len (parts.map fun (i, x) => (i, a.eval x))) (by unfold execOp; rw [ho]) rfl hK
        refine run_buildSlice w t e len _ cells ie zv hu hie hze (by have := hlen.1; simp only [decide_eq_true_eq] at this; omega) (by simpa using hlen.2) ?_
        rw [← hf1]
        congr 1
        simp
       ·cases hzs
      ·cases hzs
     ·cases he
    ·cases he
   ·cases he
  ·cases he
 ·rename_i t y z ho
  split at he
  ·rename_i k off s hy hz
   split at he
   ·rename_i b hb
    split at he
    ·rename_i hc
     rw [Bool.and_eq_true, Bool.and_eq_true] at hc
     obtain ⟨hc, hro⟩ := hc
     obtain ⟨l, hl, e⟩ := Option.map_eq_some_iff.1 he
     cases e
     obtain ⟨B, hB, e1⟩ := hg _ _ hy
     have e2 : a.eval y = .pointer (some ⟨B.blk, B.base + off, none⟩) := by simpa using e1
     have hd := hg _ _ hz
     have hcs := denA_cells hd
     obtain ⟨sz, hsz, hw⟩ := Option.any_eq_true_iff_get .. |>.1 hc.1 |> fun ⟨h1, h2⟩ => (⟨_, Option.some_get h1 |>.symm, by simpa using h2⟩ : ∃ sz, szOf P t = some sz ∧ sz = widths (unitsA s))
     obtain ⟨k1, k2, k3, hbase⟩ := h.store (hs k b hb) (by simpa using hro) hl hcs (by
      have := hc.2
      simp only [Bool.or_eq_true, bne_iff_ne, decide_eq_true_eq] at this
      exact this) hB c
     rw [hbase, Nat.zero_add] at e2
     have hrun := run_storeAt_any (P := P) w B.blk off t (a.eval z) (denA_cell1 hd) (by rw [← Array.length_toList]; exact k3) (by rw [← Array.length_toList, hcs.len, ← hw]; exact hsz) hcs.ones
     unfold Oper.wp execOp
     rw [ho]
     simp only [e2, Sem.run_bind, hrun, Result.andThen_ok, Sem.run_pure, Oper.upon_skip]
     exact hK ρ _ undef ⟨[], rfl, rfl⟩ k1 k2
    ·cases he
   ·cases he
  ·cases he
 ·obtain ⟨y, hy, e⟩ := Option.map_eq_some_iff.1 he
  cases e
  obtain ⟨v, h1, h2⟩ := evPure_ok (P := P) hg (fun k b hk => h.bkOk k b (hs k b hk)) hy
  unfold Oper.wp
  rw [h1, Oper.upon_value]
  exact hK ρ w v h2 h (Evo.refl _ _ _ _ _)
end
end
end Go.Ev
namespace Go.Proofs.YtdgodcgdlfjpaaaGreatDoor
open Go.RowKit Go.Mono
theorem r3sum_digits (s : Bool) (p q : Option Addr) (n m c1 c2 : Nat) (f g : Nat → Int) (w : World) (h1 : SlF w (.slice p n c1) n f) (h2 : SlF w (.slice q m c2) m g) (d1 : Digs f n) (d2 : Digs g m) (hn0 : 0 < n) (hm0 : 0 < m) (hn6 : n ≤ 100000) (hm6 : m ≤ 100000) :
  Calls Tryz.prog 246 #[.agg #[.bool s, .slice p n c1], .agg #[.bool s, .slice q m c2]] w fun e w' => ∃ p k c h, e = .returned (.agg #[.bool s, .slice p k c]) ∧ SlF w' (.slice p k c) k h ∧ Digs h k ∧ vf h k = vf f n + vf g m ∧ k ≤ max n m + 1 ∧ Below w.heap.size w w' := by
 obtain ⟨hc1, hn1, _⟩ := h1.opens
 obtain ⟨hc2, hn2, _⟩ := h2.opens
 have hn0' : ((n : Int) == 0) = false := by simp; omega
 have hm0' : ((m : Int) == 0) = false := by simp; omega
 go_enter Tryz.func246, Tryz.ntmps246
 go_wp2
 refine boxes3 fun W hB hs b0 b1 b2 => ?_
 go_loopw [5, 6, 7] (fun v x y wr => ∃ (i : Nat) (c : Int) (h : Nat → Int), i ≤ max n m + 1 ∧ x = .int .i64 c ∧ y = .int .i64 (i : Int) ∧ OwnF wr (w.heap.size + 1 + 1 + 1) v i h ∧ SumI (xt f n) (xt g m) i h c ∧ Box wr w.heap.size 35 #[.bool s, .slice p n c1] ∧ Box wr (w.heap.size + 1) 35 #[.bool s, .slice q m c2] ∧ Box wr (w.heap.size + 1 + 1) 35 #[.bool false, .slice none 0 0] ∧ Below w.heap.size w wr ∧ w.heap.size + 1 + 1 + 1 ≤ wr.heap.size) (fun _ _ y _ => (max n m + 1 - intOf y).toNat)
 case atStart => exact ⟨0, 0, _, Nat.zero_le _, rfl, rfl, OwnF.nil _ _ _, SumI.start _ _ (fun _ => 0), b0, b1, b2, hB, hs⟩
 case round =>
  clear b0 b1 b2 hB hs
  obtain ⟨i, c, h, hi, rfl, rfl, ho, hI, b0, b1, b2, hB, hs⟩ := hrel
  obtain ⟨pv, cv, rfl⟩ := ho.shape
  by_cases hgo : i < n ∨ i < m ∨ 0 < c
  ·have hlt : i < max n m + 1 := by
    rcases hgo with h | h | h
    ·omega
    ·omega
    ·by_cases hin : i < n
     ·omega
     ·by_cases him : i < m
      ·omega
      ·have := hI.len d1.hi d2.hi (by omega) (by omega) h
       omega
   have x0 := xt_lo d1.lo i
   have x1 := xt_hi d1.hi i
   have y0 := xt_lo d2.lo i
   have y1 := xt_hi d2.hi i
   have hat1 := fun X (hX : Below w.heap.size w X) => r3at_ok p n c1 i f X (h1.ext (.of_below hX))
   have hat2 := fun X (hX : Below w.heap.size w X) => r3at_ok q m c2 i g X (h2.ext (.of_below hX))
   have hnx := hI.next x0 x1 y0 y1
   have k0 := hI.c0
   have k1 := hI.c1
   generalize hX : xt f n = Xf at *
   generalize hY : xt g m = Yf at *
   generalize Xf i = x at *
   generalize Yf i = y at *
   have hways : ((i : Int) < n) ∨ (¬ (i : Int) < n ∧ (i : Int) < m) ∨ (¬ (i : Int) < n ∧ ¬ (i : Int) < m ∧ 0 < c) := by omega
   have cb0 := b0.cell
   have lb0 := b0.lt
   have fb0 := b0.frozen
   have cb1 := b1.cell
   have lb1 := b1.lt
   have fb1 := b1.frozen
   clear hgo
   rcases hways with hw1 | ⟨hw1, hw2⟩ | ⟨hw1, hw2, hw3⟩
   all_goals
    go_wp2
    refine wp_region_held_drew (S := fun w' => (∀ i, w'.cell? ⟨w.heap.size, i, none⟩ = (#[.bool s, .slice p n c1] : Array Value)[i]?) ∧ (∀ i, w'.cell? ⟨w.heap.size + 1, i, none⟩ = (#[.bool s, .slice q m c2] : Array Value)[i]?) ∧ Below w.heap.size w w') (by as_aux_lemma => kernel_rfl) ⟨cb0, cb1, hB.drew⟩ (fun hHeld => ?_)
    have hoX := ho.below (Below.refl wr.heap.size wr).drew
    have bX0 := b0.drew
    have bX1 := b1.drew
    have bX2 := b2.drew
    have hsX : w.heap.size + 1 + 1 + 1 ≤ wr.drew.heap.size := hs
    generalize wr.drew = X0 at *
    refine tk 0 (some 46) ?_
    refine tk 1 (some 47) ?_
    refine tk 2 (some 48) ?_
    refine tk 4 (some 50) ?_
    refine tk 5 (some 51) ?_
    refine tk 6 (some 52) ?_
    refine tk 9 (some 55) ?_
    refine Mono.stc 3 (some 49) (hat1 X0 hHeld.2.2) (fun e X1 hR => ?_)
    obtain ⟨rfl, rfl⟩ := hR
    refine ⟨(hHeld), fun hHeld => Mono.pt ?_⟩
    refine Mono.stc 7 (some 53) (hat2 X1 hHeld.2.2) (fun e X2 hR => ?_)
    obtain ⟨rfl, rfl⟩ := hR
    refine ⟨(hHeld), fun hHeld => Mono.pt ?_⟩
    refine tk 8 (some 54) ?_
    refine tk 10 (some 56) ?_
    refine tk 11 (some 8) ?_
    refine wpAnyH_done (by as_aux_lemma => kernel_rfl) ?_ _
    have hB2 := hHeld.2.2
    clear hHeld hat1 hat2 cb0 cb1 fb0 fb1 lb0 lb1 b0 b1 b2 ho hI
    have e1 : (x + y + c).tmod 1000000000 = (x + y + c) % 1000000000 := Int.tmod_eq_emod_of_nonneg (by omega)
    have e2 : (x + y + c).tdiv 1000000000 = (x + y + c) / 1000000000 := Int.tdiv_eq_ediv_of_nonneg (by omega)
    rw [wrapId (z := x + y) (by omega) (by omega), wrapId (z := x + y + c) (by omega) (by omega)]
    go_wp2_with (at_builtin; (refine wpList_append_ints _ rfl _ _ 33 rfl Tryz.underlying33 infoInt (w.heap.size + 1 + 1 + 1) (.slice pv i cv) i h rfl ?_ (some ⟨X2.heap.size, 0, none⟩) 1 1 (fun _ => (x + y + c) % 1000000000) rfl ?_ ?_ ?_ ?_); (exact (hoX.below (belowAlloc (Below.refl _ _) _))); (exact (slF_lit X2 _ _ rfl)); omega; (simp; omega); (intro v' w1 ho' hg))
    obtain ⟨p', c', rfl⟩ := ho'.shape
    have hz := ((Below.refl (w.heap.size + 1 + 1 + 1) X2).alloc hsX (.cells _ 3)).grown hg (by simp; omega) (fun k hk => hoX.low k hk)
    replace bX0 := bX0.low hz (by omega)
    replace bX1 := bX1.low hz (by omega)
    replace bX2 := bX2.low hz (by omega)
    have hB3 := hB2.trans (hz.mono (by omega))
    have hs3 := hz.size
    clear hoX hB2 hg hz hB hs
    go_wp2
    go_roundw
    case rel =>
     refine ⟨i + 1, _, _, hlt, rfl, by simp, ho'.congr (f' := fun j => if j = i then (x + y + c) % 1000000000 else h j) (fun j hj => ?_), ?_, bX0, bX1, bX2, hB3, by omega⟩
     ·by_cases hji : j = i
      ·subst hji; simp
      ·rw [if_pos (by omega), if_neg hji]
     ·exact hnx
    case measure => simp [intOf]; omega
  ·have hI0 : SumI (xt f n) (xt g m) i h 0 := by
    have h0 := hI.c0
    obtain rfl : c = 0 := by omega
    exact hI
   have hval := hI0.done (by omega) (by omega)
   have hc0 : ¬ (0 < c) := by omega
   have hw1 : ¬ (i : Int) < n := by omega
   have hw2 : ¬ (i : Int) < m := by omega
   have cb0 := b0.cell
   have lb0 := b0.lt
   have fb0 := b0.frozen
   have cb1 := b1.cell
   have lb1 := b1.lt
   have fb1 := b1.frozen
   have hmm := fun W1 hW1 => r3made_ok s pv i cv h W1 ((ho.sl (by omega)).ext hW1) (by omega) hI.lo hI.hi
   have hpos : decide (0 < vf h i) = true := decide_eq_true (by rw [hval]; have := d1.pos.2 hn0; have := d2.nonneg; omega)
   rw [hpos, Bool.and_true] at hmm
   have hli : i ≤ max n m + 1 := hi
   replace hval := Lib.hid hval
   clear hgo hI hI0 ho
   go_wp2_with fail
   refine (hmm wr (Ext.refl _)).mono ?_
   rintro e W1 ⟨v', rfl, ho2, d3, e3, hb⟩
   replace b2 := b2.below hb
   have hB1 := belowCall hB hb
   obtain ⟨p', c', rfl⟩ := ho2.shape
   have hsl := ho2.sl (by have := trimN_le h i; omega)
   clear hmm ho2 b0 b1 cb0 cb1 fb0 fb1 lb0 lb1 hB
   go_wp2_with first | (refine wpList_store_box rfl 35 _ _ rfl (w.heap.size + 1 + 1) 0 35 _ #[.bool s, .slice p' (trimN h i) c'] #[.bool s, .slice p' (trimN h i) c'] rfl rfl b2 sizeLong (Nat.le_of_ble_eq_true rfl) (long_ones _ _ _ _) (whole_new rfl) ?_; intro W2 hk b4)
   have hb2 := hk.below hB1 (by omega) hB1.size
   refine bodyPost_ret (b4.results rfl _ _ rfl Tryz.underlying35 rfl sizeLong) rfl ⟨p', _, c', h, rfl, hsl.ext (hk.ext b2 (by decide)), d3, by rw [e3]; exact hval.out, by have := trimN_le h i; omega, hb2⟩
end Go.Proofs.YtdgodcgdlfjpaaaGreatDoor
