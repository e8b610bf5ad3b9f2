/- The law MatrixKnown: the examples of the ray transfer matrices, afocal lenses, mirrors and the order of errors; its walk by a verified evaluator of the model, and its card. Part 6 of 36. No condition beside the row. -/
import Derived.TacticsIn
import Derived.Test.YtdgodcgdlfjpaaaGreatDoorM01
import Derived.Test.YtdgodcgdlfjpaaaGreatDoorM02
import Derived.Test.YtdgodcgdlfjpaaaGreatDoorM05
set_option linter.unusedVariables false
set_option linter.unusedSimpArgs false
set_option maxRecDepth 100000
set_option maxHeartbeats 4000000
namespace Go.Proofs.YtdgodcgdlfjpaaaGreatDoor
open Go.RowKit Go.Mono
theorem wtimes_sz (neg : Bool) (p1 p2 : Option Addr) (k1 c1 k2 c2 m1 m2 : Nat) (n1 n2 : Int) (w wf : World) (hx : Ext wf w) (h1 : Sz m1 wf (.slice p1 k1 c1) n1) (h2 : Sz m2 wf (.slice p2 k2 c2) n2) (hm1 : m1 ≤ 1000000) (hm2 : m2 ≤ 1000000) :
  Calls Tryz.prog 81 #[.agg #[.bool neg, .slice p1 k1 c1], .slice p2 k2 c2] w fun e w' => ∃ p n c, e = .returned (.agg #[.bool neg, .slice p n c]) ∧ Sz (m1 + m2) w' (.slice p n c) (n1 * n2) ∧ Below w.heap.size w w' := by
 go_enter Tryz.func81, Tryz.ntmps81
 go_wp2
 refine boxes2 fun W hB hs b0 b1 => ?_
 have z1 := h1.ext (hx.below hB)
 have z2 := h2.ext (hx.below hB)
 have c0 := b0.cell
 have l0 := b0.lt
 have K0 := KeepBut.refl (w.heap.size + 1) W
 clear h1 h2 hx
 go_region_held3 (fun w' => (∀ b o, b < W.heap.size → b ≠ w.heap.size + 1 → w'.cell? ⟨b, o, none⟩ = W.cell? ⟨b, o, none⟩) ∧ KeepBut (w.heap.size + 1) W.heap.size W w') ((refine KeepBut.S ?_; first | exact K0.drew | (repeat' (first | exact And.right ‹_› | exact KeepBut.call (And.right ‹_›) ‹_› | refine KeepBut.set ?_ _ _)))) (first | (go_at_call 156; refine (times_sz m1 m2 _ W (KeepBut.ext (And.right ‹_›) b1 (by decide)) _ _ _ _ _ _ n1 n2 z1 z2 hm1 hm2).mono ?_; rintro e w' ⟨p, n, c, rfl, hv, hb⟩; have b1' := b1.drew.below hb; have k1 := b1'.cell; have f1 := b1'.frozen))
 go_wp2
 have b2 := ((b1'.set 0 (.bool neg)).set 1 (.slice p n c)).cell
 refine bodyPost_ret (v := .agg #[.bool neg, .slice p n c]) (by simp [results, Tryz.results81, go_sem, b2]) rfl ⟨p, n, c, rfl, ?_, ?_⟩
 ·exact hv.ext (((Ext.refl _).set b1' (by decide) _ _).set (b1'.set _ _) (by decide) _ _)
 ·exact KeepBut.below (And.right ‹_›) hB (by omega) hB.size
end Go.Proofs.YtdgodcgdlfjpaaaGreatDoor
namespace Go.Ex
open Go.RowKit Go.Mono
section
def sargs (get : Operand → Option SV) : List Operand → Option (List SA)
 | [] => some []
 | x :: r => match get x with
   | some (.a s) => (sargs get r).map (s :: ·)
   | _ => none
def capsA (caps : List (Nat × Nat)) : List SA := caps.map fun p => .one (.ptr p.1 p.2)
def entersB (P : Program) (f : FuncId) : Bool :=
 match P.funcs[f]? with
 | some fn => !(fn.name == "runtime.NumGoroutine") && fn.body.isSome
 | none => false
theorem enters_run {P : Program} {f : FuncId} (h : entersB P f = true) (args : Array Value) (w : World) : (callFunc f args).run P w = .ok (.enter f args) w := by
 unfold entersB at h
 split at h
 ·rename_i fn hf
  rw [Bool.and_eq_true] at h
  obtain ⟨h1, h2⟩ := h
  unfold callFunc
  have e1 : (fn.name == "runtime.NumGoroutine") = false := by simpa using h1
  have e2 : fn.body.isNone = false := by cases hb : fn.body <;> simp_all
  simp only [Sem.run_bind, run_program, Result.andThen_ok, hf, e1, e2, Bool.false_eq_true, if_false, Sem.run_pure]
 ·cases h
section
variable {D : Den} {P : Program} {ρ : Nm} {wc w : World} {get : Operand → Option SV} {ev : Operand → Value}
theorem denAs.append : ∀ {l m : List SA} {vs us : List Value}, denAs D ρ w l vs → denAs D ρ w m us → denAs D ρ w (l ++ m) (vs ++ us)
 | [], m, vs, us, e, hm => by rw [show vs = [] from e]; exact hm
 | x :: l, m, _, us, ⟨v, r, e, hv, hr⟩, hm => ⟨v, r ++ us, by rw [e, List.cons_append], hv, denAs.append hr hm⟩
theorem sargs_ok (hg : ∀ x z, get x = some z → denV D ρ wc z (ev x)) : ∀ {l : List Operand} {s : List SA}, sargs get l = some s → denAs D ρ wc s (l.map ev)
 | [], s, h => by cases h; rfl
 | x :: r, s, h => by
   unfold sargs at h
   split at h
   ·rename_i y hy
    obtain ⟨q, hq, rfl⟩ := Option.map_eq_some_iff.1 h
    exact ⟨_, _, rfl, hg _ _ hy, sargs_ok hg hq⟩
   ·cases h
theorem capsA_ok : ∀ {l : List (Nat × Nat)} {vs : List Value}, adrs ρ l vs → denAs D ρ w (capsA l) vs
 | [], vs, e => e
 | p :: r, vs, ⟨B, v', hB, e, hr⟩ => ⟨_, v', e, ⟨B, hB, rfl⟩, capsA_ok hr⟩
end
def ans (b : Bool) : List (Option Bool) → Bool × List Prop × List (Option Bool)
 | some x :: r => (x, [b = x], r)
 | none :: r => (b, [], r)
 | [] => (b, [], [])
theorem ans_ok {b : Bool} {orc : List (Option Bool)} (h : ∀ p ∈ (ans b orc).2.1, p) : (ans b orc).1 = b := by
 match orc, h with
 | some x :: r, h => exact (h (b = x) (by simp [ans])).symm
 | none :: r, h => rfl
 | [], h => rfl
def fixB (x : SV) (orc : List (Option Bool)) : SV × List Prop × List (Option Bool) :=
 match x with
 | .a (.one (.tst b)) => (.a (.one (.val (.bool (ans b orc).1))), (ans b orc).2.1, (ans b orc).2.2)
 | x => (x, [], orc)
theorem fixB_ok {D : Den} {ρ : Nm} {w : World} {x : SV} {orc : List (Option Bool)} {v : Value} (h : ∀ p ∈ (fixB x orc).2.1, p) (hv : denV D ρ w x v) : denV D ρ w (fixB x orc).1 v := by
 unfold fixB at h ⊢
 split
 ·rename_i b
  dsimp only at h ⊢
  rw [ans_ok h]
  exact ⟨hv, rfl⟩
 ·exact hv
def inR (z : Int) : Prop := -9223372036854775808 ≤ z ∧ z ≤ 9223372036854775807
theorem wrap_inR {z : Int} (h : inR z) : IntKind.i64.wrap z = z := by
 rw [IntKind.wrap_i64]
 have := h.1
 have := h.2
 omega
def intOf : Option SV → Option (Int × Bool)
 | some (.a (.one (.val (.int .i64 n)))) => some (n, false)
 | some (.a (.one (.sym z))) => some (z, true)
 | _ => none
theorem intOf_ok {D : Den} {ρ : Nm} {w : World} {x : SV} {z : Int} {b : Bool} {v : Value} (h : intOf (some x) = some (z, b)) (hv : denV D ρ w x v) : v = .int .i64 z := by
 unfold intOf at h
 split at h
 ·rename_i n e
  cases h
  cases e
  simpa using hv.1
 ·rename_i z' e
  cases h
  cases e
  simpa [denV, denA, denU] using hv
 ·cases h
def arith (op : BinOp) (a b : Int) : Option (SV × List Prop) :=
 match op with
 | .add => some (.a (.one (.sym (a + b))), [inR (a + b)])
 | .sub => some (.a (.one (.sym (a - b))), [inR (a - b)])
 | .mul => some (.a (.one (.sym (a * b))), [inR (a * b)])
 | .quo => some (.a (.one (.sym (a.tdiv b))), [b ≠ 0, inR (a.tdiv b)])
 | .rem => some (.a (.one (.sym (a.tmod b))), [b ≠ 0])
 | .eql => some (.a (.one (.tst (a == b))), [])
 | .neq => some (.a (.one (.tst (a != b))), [])
 | .lss => some (.a (.one (.tst (decide (a < b)))), [])
 | .leq => some (.a (.one (.tst (decide (a ≤ b)))), [])
 | .gtr => some (.a (.one (.tst (decide (a > b)))), [])
 | .geq => some (.a (.one (.tst (decide (a ≥ b)))), [])
 | _ => none
def symS (o : Oper) (get : Operand → Option SV) : Option (SV × List Prop) :=
 match o.op with
 | .binOp op _ x y _ => match intOf (get x), intOf (get y) with
   | some (a, s), some (b, s') => if s || s' then arith op a b else none
   | _, _ => none
 | .unOp .neg _ x => match intOf (get x) with
   | some (a, true) => some (.a (.one (.sym (0 - a))), [inR (0 - a)])
   | _ => none
 | _ => none
theorem arith_ok {D : Den} {P : Program} {ρ : Nm} {wc w : World} {op : BinOp} {t : TypeId} {x y : Operand} {a b : Int} {r : SV} {ps : List Prop} (h : arith op a b = some (r, ps)) (hp : ∀ p ∈ ps, p) :
  ∃ v, (do eqGuard op t x y (.int .i64 a) (.int .i64 b); binOp op t (.int .i64 a) (.int .i64 b) : Sem Value).run P w = .ok v w ∧ denV D ρ wc r v := by
 have hg : ∀ (s : Sem Value), (do eqGuard op t x y (.int .i64 a) (.int .i64 b); s : Sem Value).run P w = s.run P w := by
  intro s
  unfold eqGuard
  cases op <;> rfl
 rw [hg]
 unfold arith at h
 split at h <;> cases h
 ·exact ⟨.int .i64 (a + b), by simp [binOp, Op.intArith, wrap_inR (hp (inR (a + b)) (by simp))], rfl⟩
 ·exact ⟨.int .i64 (a - b), by simp [binOp, Op.intArith, wrap_inR (hp (inR (a - b)) (by simp))], rfl⟩
 ·exact ⟨.int .i64 (a * b), by simp [binOp, Op.intArith, wrap_inR (hp (inR (a * b)) (by simp))], rfl⟩
 ·exact ⟨.int .i64 (a.tdiv b), by simp [binOp, Op.intDiv, hp (b ≠ 0) (by simp), wrap_inR (hp (inR (a.tdiv b)) (by simp))], rfl⟩
 ·exact ⟨.int .i64 (a.tmod b), by simp [binOp, Op.intDiv, hp (b ≠ 0) (by simp)], rfl⟩
 ·exact ⟨.bool (a == b), by simp [binOp, Op.intCmp], rfl⟩
 ·exact ⟨.bool (a != b), by simp [binOp, Op.intCmp], rfl⟩
 ·exact ⟨.bool (decide (a < b)), by simp [binOp, Op.intCmp], rfl⟩
 ·exact ⟨.bool (decide (a ≤ b)), by simp [binOp, Op.intCmp], rfl⟩
 ·exact ⟨.bool (decide (a > b)), by simp [binOp, Op.intCmp], rfl⟩
 ·exact ⟨.bool (decide (a ≥ b)), by simp [binOp, Op.intCmp], rfl⟩
theorem symS_ok {D : Den} {P : Program} {ρ : Nm} {wc w : World} {get : Operand → Option SV} {ev : Operand → Value} (hg : ∀ x z, get x = some z → denV D ρ wc z (ev x)) {o : Oper} {r : SV} {ps : List Prop} (h : symS o get = some (r, ps)) (hp : ∀ p ∈ ps, p) :
  ∃ v, (execOp ev o).run P w = .ok (.value v) w ∧ denV D ρ wc r v := by
 have ofInt : ∀ {x : Operand} {z : Int} {b : Bool}, intOf (get x) = some (z, b) → ev x = .int .i64 z := by
  intro x z b hx
  cases hgx : get x with
  | none => rw [hgx] at hx; simp [intOf] at hx
  | some s => rw [hgx] at hx; exact intOf_ok hx (hg _ _ hgx)
 have viaV : ∀ {s : Sem Value}, (∃ v, s.run P w = .ok v w ∧ denV D ρ wc r v) → ∃ v, (do pure (Next.value (← s)) : Sem Next).run P w = .ok (.value v) w ∧ denV D ρ wc r v := by
  rintro s ⟨v, h1, h2⟩
  exact ⟨v, by simp only [Sem.run_bind, h1, Result.andThen_ok, Sem.run_pure], h2⟩
 unfold symS at h
 split at h
 ·rename_i op t x y ty ho
  split at h
  ·rename_i a s b s' ha hb
   split at h
   ·unfold execOp
    rw [ho]
    refine viaV ?_
    rw [ofInt ha, ofInt hb]
    exact arith_ok h hp
   ·cases h
  ·cases h
 ·rename_i t x ho
  split at h
  ·rename_i a ha
   cases h
   unfold execOp
   rw [ho]
   refine viaV ⟨.int .i64 (0 - a), ?_, rfl⟩
   rw [ofInt ha]
   have := wrap_inR (hp (inR (0 - a)) (by simp))
   simp only [Op.unary, Op.intArith, Sem.run_pure, this]
  ·cases h
 ·cases h
def callOf (P : Program) (o : Oper) (get : Operand → Option SV) : Option (FuncId × List SA) :=
 match o.op with
 | .call c => match c.callee with
   | .value fv => match get fv, sargs get c.args.toList with
     | some (.a (.one (.clo f caps))), some args => if entersB P f then some (f, args ++ capsA caps) else none
     | _, _ => none
   | _ => none
 | _ => none
def yldOf (o : Oper) (get : Operand → Option SV) : Option (Nat × List SA) :=
 match o.op with
 | .call c => match c.callee with
   | .value fv => match get fv, sargs get c.args.toList with
     | some (.a (.one (.yld k))), some args => some (k, args)
     | _, _ => none
   | _ => none
 | _ => none
def panOf (o : Oper) (get : Operand → Option SV) : Option Value :=
 match o.op with
 | .panic x => match (get x).bind realV with
   | some (.iface t v) => some (.iface t v)
   | _ => none
 | .call ⟨.builtin .panic, ⟨[x]⟩, _⟩ => match (get x).bind realV with
   | some (.iface t v) => some (.iface t v)
   | _ => none
 | _ => none
def isDefer (o : Oper) : Bool :=
 match o.op with
 | .defer _ => true
 | _ => false
def tmin (a b : Nat) : Nat := bif Nat.ble a b then a else b
theorem tmin_le (a b : Nat) : tmin a b ≤ b := by
 unfold tmin
 cases h : Nat.ble a b with
 | true => exact Nat.le_of_ble_eq_true h
 | false => exact Nat.le_refl _
def retS (r : OpR) : OpR := ⟨(fixB r.v r.orc).1, r.wr, r.obl ++ (fixB r.v r.orc).2.1, (fixB r.v r.orc).2.2, r.c, r.th, r.pan⟩
def opS (P : Program) (cs : CallS) (ys : YEnv) (o : Oper) (get : Operand → Option SV) (bk : List (Nat × Blk)) (th c : Nat) (orc : List (Option Bool)) : Option (OpR × Bool) :=
 if isDefer o then none else
 match cs.op o get with
 | some x => some (⟨x, [], [], orc, c, th, none⟩, false)
 | none =>
 match callOf P o get with
 | some (f, args) => if bk.all (fun p => Nat.blt p.1 c) then (match cs.call ys f args bk c (tmin th c) orc with
   | some r => if Nat.ble c r.c then some (retS r, true) else none
   | none => none) else none
 | none => match yldOf o get with
   | some (k, args) => match ys.look k with
     | some h => if bk.all (fun p => Nat.blt p.1 c) then (match h args bk c (tmin th c) orc with
       | some r => if Nat.ble c r.c then some (retS r, true) else none
       | none => none) else none
     | none => none
   | none => match panOf o get with
     | some p => some (⟨.no, bk, [], orc, c, th, some p⟩, false)
     | none => match symS o get with
       | some (x, ps) => some (⟨(fixB x orc).1, [], ps ++ (fixB x orc).2.1, (fixB x orc).2.2, c, th, none⟩, false)
       | none => match effS P o get bk th c with
         | some (x, wr, c') => if Nat.ble c c' then some (⟨x, wr, [], orc, c', th, none⟩, false) else none
         | none => none
theorem look_all {α : Type} {l : List (Nat × α)} {c : Nat} (h : l.all (fun p => Nat.blt p.1 c) = true) : ∀ k b, l.look k = some b → k < c := by
 induction l with
 | nil => intro k b hk; simp at hk
 | cons p r ih =>
   obtain ⟨k', x⟩ := p
   intro k b hk
   rw [List.all_cons, Bool.and_eq_true] at h
   rw [look_cons] at hk
   split at hk
   ·rename_i e
    subst e
    exact of_eq_true (by rw [← Nat.blt_eq]; simpa using h.1)
   ·exact ih h.2 k b hk
theorem Sat.reth {D : Den} {w0 : World} {X : Nat → Prop} {th t : Nat} {ρ : Nm} {wc w : World} {bk : List (Nat × Blk)} (h : Sat D w0 X th ρ wc w bk) (hf : ∀ k b, bk.look k = some b → k < t) : Sat D w0 X t ρ wc w bk :=
 ⟨h.fr, h.ext, h.inj, h.lt, fun k b hk => let ⟨B, cs, h1, h2, h3, h4, _, h6⟩ := h.box k b hk; ⟨B, cs, h1, h2, h3, h4, fun _ hh => absurd hh (Nat.not_le.2 (hf k b hk.1)), h6⟩⟩
theorem Sat.tmin {D : Den} {w0 : World} {X : Nat → Prop} {th c : Nat} {ρ : Nm} {wc w : World} {bk : List (Nat × Blk)} (h : Sat D w0 X th ρ wc w bk) (hf : ∀ k b, bk.look k = some b → k < c) : Sat D w0 X (tmin th c) ρ wc w bk := by
 unfold Go.Ex.tmin
 cases hb : Nat.ble th c with
 | true => exact h
 | false => exact h.reth hf
theorem YOk.at {D : Den} {P : Program} {w0 : World} {X : Nat → Prop} : ∀ {bd : Nat} {ys : YEnv} {ρ : Nm} {wc w : World} {k : Nat} {h : YS}, YOk D P w0 X bd ys ρ wc w → ys.look k = some h →
  ∃ B, ρ k = some B ∧ ∀ args bk c th orc r, h args bk c th orc = some r → (∀ p ∈ r.obl, p) → ∀ vals, Sat D w0 X th ρ wc w bk → (∀ j x, bk.look j = some x → j < c) → th ≤ c →
    (∀ j, c ≤ j → j < r.c → ρ j = none) → denAs D ρ wc args vals →
    ∃ fn tmps assign body, (Instr.yield B.blk vals.toArray).run P w = .ok (.round B.blk fn tmps assign body) w ∧
      RoundIn (WF none) 0 P B.blk fn tmps assign body w (Post D w0 X ρ wc w bk c r)
 | _, (k', h') :: ys, ρ, wc, w, k, h, ⟨B, lp, h2, h3, _, _, h1, h4⟩, hk => by
   rw [look_cons] at hk
   split at hk
   ·rename_i e
    cases hk
    subst e
    refine ⟨B, h2, fun args bk c th orc r hh ho vals g1 g2 g3 g4 g5 => ?_⟩
    obtain ⟨fn, tmps, assign, body, q1, q2⟩ := h4 args bk c th orc r hh ho ρ wc w vals (Nm.le.refl _) (Ext.refl _) g1 h1 g2 g3 g4 g5 h3
    exact ⟨fn, tmps, assign, body, q1, q2.mono fun e w' hp => hp.1⟩
   ·exact YOk.at h1 hk
section
variable {D : Den} {P : Program} {w0 : World} {X : Nat → Prop} {th : Nat} {ρ : Nm} {wc w : World} {bk bkR : List (Nat × Blk)} {c : Nat} {get : Operand → Option SV} {a : Act} {cs : CallS} {ys : YEnv}
theorem opS_cc {o : Oper} {orc : List (Option Bool)} {r : OpR} {cl : Bool} (he : opS P cs ys o get bkR th c orc = some (r, cl)) : c ≤ r.c := by
 unfold opS at he
 split at he
 ·cases he
 ·split at he
  ·cases he
   exact Nat.le_refl _
  split at he
  ·split at he
   ·split at he
    ·split at he
     ·rename_i h
      cases he
      exact Nat.le_of_ble_eq_true h
     ·cases he
    ·cases he
   ·cases he
  ·split at he
   ·split at he
    ·split at he
     ·split at he
      ·split at he
       ·rename_i h
        cases he
        exact Nat.le_of_ble_eq_true h
       ·cases he
      ·cases he
     ·cases he
    ·cases he
   ·split at he
    ·cases he
     exact Nat.le_refl _
    ·split at he
     ·cases he
      exact Nat.le_refl _
     ·split at he
      ·split at he
       ·rename_i h
        cases he
        exact Nat.le_of_ble_eq_true h
       ·cases he
      ·cases he
theorem opS_ok (hcs : CallOk D P w0 X cs) {bd : Nat} (hy : YOk D P w0 X bd ys ρ wc w) (h : Sat D w0 X th ρ wc w bk) (hs : Sub bkR bk) (hg : ∀ x z, get x = some z → denV D ρ wc z (a.eval x)) {o : Oper} {orc : List (Option Bool)} {r : OpR} {cl : Bool}
  (he : opS P cs ys o get bkR th c orc = some (r, cl)) (hobl : ∀ p ∈ r.obl, p) (hn : ∀ k, c ≤ k → k < r.c → ρ k = none) {G : List (Nat × Blk)} {th' : Nat} {ro : Option Nat} {n : Nat}
  (hcl : cl = true → (∀ k b, bkR.look k = some b → k < c) → ∀ ρ' wc' w', Sat D w0 X r.th ρ' wc' w' (r.fin bkR) → Evo ρ wc w bkR c r.c ρ' wc' w' (r.fin bkR) → Sat D w0 X th' ρ' wc' w' G ∧ Evo ρ wc w bk c r.c ρ' wc' w' G)
  (hpl : cl = false → r.th = th → th' = th ∧ ((r.pan = none ∧ G = r.wr ++ bk) ∨ (r.pan ≠ none ∧ (r.wr = bkR → Sub' G bk))))
  {K : Act → World → Prop} {Q : Exit → Act → World → Prop}
  (hK : r.pan = none → ∀ ρ' wc' w' v, denV D ρ' wc' r.v v → Sat D w0 X th' ρ' wc' w' G → Evo ρ wc w bk c r.c ρ' wc' w' G → K (a.put o.dst v) w')
  (hP : ∀ p, r.pan = some p → ∀ ρ' wc' w', Sat D w0 X th' ρ' wc' w' G → Evo ρ wc w bk c r.c ρ' wc' w' G → Q (.panic [{ v := p, recovered := false }]) a w') : o.wpIn (WF ro) n P a w K Q := by
 refine ⟨fun _ _ => trivial, ?_⟩
 unfold opS at he
 split at he
 ·cases he
 rename_i hdf
 rw [Oper.semAt_eq _ _ _ (fun c hc => by rw [isDefer, hc] at hdf; simp at hdf)]
 have fin : ∀ {r' : OpR} {e : Ending} {w' : World}, r = retS r' → (∀ ρ' wc' w', Sat D w0 X r'.th ρ' wc' w' (r'.fin bkR) → Evo ρ wc w bkR c r'.c ρ' wc' w' (r'.fin bkR) → Sat D w0 X th' ρ' wc' w' G ∧ Evo ρ wc w bk c r'.c ρ' wc' w' G) → Post D w0 X ρ wc w bkR c r' e w' →
   (match e, w' with
    | .returned v, w'' => K (a.put o.dst v) w''
    | .panicked chain, w'' => Q (.panic chain) a w''
    | .outgrown, _ => LetsOut Q) := by
  intro r' e w' hr hm ⟨v, ρ', wc', hend, hv, hS, hE⟩
  subst hr
  obtain ⟨k1, k2⟩ := hm ρ' wc' w' hS hE
  unfold OpR.ends at hend
  split at hend
  ·rename_i hp
   subst hend
   exact hK hp ρ' wc' w' v (fixB_ok (fun p hp => hobl p (List.mem_append_right _ hp)) hv) k1 k2
  ·rename_i p hp
   subst hend
   exact hP p hp ρ' wc' w' k1 k2
 split at he
 ·rename_i x hx
  obtain ⟨rfl, rfl⟩ : (⟨x, [], [], orc, c, th, none⟩ : OpR) = r ∧ false = cl := by simpa using he
  obtain ⟨rfl, hG⟩ := hpl rfl rfl
  obtain rfl : G = bk := by
   rcases hG with ⟨_, h2⟩ | ⟨h2, _⟩
   ·exact h2
   ·exact absurd rfl h2
  obtain ⟨v, h1, h2⟩ := hcs.op o get x hx ρ wc w a.eval h.fr hg
  rw [h1, Oper.uponIn_value]
  exact hK rfl ρ wc w v h2 h (Evo.refl _ _ _ _ _)
 split at he
 ·rename_i f args hcall
  split at he
  ·rename_i hall
   split at he
   ·rename_i r' hr
    split at he
    ·rename_i hle
     obtain ⟨rfl, rfl⟩ : retS r' = r ∧ true = cl := by simpa using he
     have hlt := look_all hall
     unfold callOf at hcall
     split at hcall
     ·rename_i cc ho
      split at hcall
      ·rename_i fv hcal
       split at hcall
       ·rename_i gf caps sa hfv hsa
        split at hcall
        ·rename_i hen
         obtain ⟨rfl, rfl⟩ : gf = f ∧ sa ++ capsA caps = args := by simpa using hcall
         obtain ⟨vs, hvs, e1⟩ := hg _ _ hfv
         have e2 : a.eval fv = .func (.func gf) #[] vs.toArray := by simpa using e1
         have hargs := (sargs_ok hg hsa).append (capsA_ok (D := D) (w := wc) hvs)
         have hx : (execOp a.eval o).run P w = .ok (.enter gf (cc.args.toList.map a.eval ++ vs).toArray) w := by
          unfold execOp
          simp only [ho, resolve, hcal, Deferred.ofValue, e2, Sem.run_bind, Sem.run_pure, Result.andThen_ok, invoke]
          rw [enters_run hen]
          congr 2
          apply Array.toList_inj.1
          simp
         rw [hx, Oper.uponIn_enter]
         refine ⟨(fun hh => by cases hh), callsIn_WF.2 ((hcs.call _ _ _ _ _ _ _ _ hr (fun p hp => hobl p (List.mem_append_left _ hp)) bd ρ wc w _ ((h.sub hs).tmin hlt) hy hlt (tmin_le _ _) hn hargs).mono ?_)⟩
         intro e w' hp
         exact fin rfl (hcl rfl hlt) hp
        ·cases hcall
       ·cases hcall
      ·cases hcall
     ·cases hcall
    ·cases he
   ·cases he
  ·cases he
 ·split at he
  ·rename_i k args hyl
   split at he
   ·rename_i hd hhd
    split at he
    ·rename_i hall
     split at he
     ·rename_i r' hr
      split at he
      ·rename_i hle
       obtain ⟨rfl, rfl⟩ : retS r' = r ∧ true = cl := by simpa using he
       have hlt := look_all hall
       unfold yldOf at hyl
       split at hyl
       ·rename_i cc ho
        split at hyl
        ·rename_i fv hcal
         split at hyl
         ·rename_i k' sa hfv hsa
          obtain ⟨rfl, rfl⟩ : k' = k ∧ sa = args := by simpa using hyl
          obtain ⟨B, hB, e1⟩ := hg _ _ hfv
          have e2 : a.eval fv = .func (.yield B.blk) #[] #[] := by simpa using e1
          have hargs := sargs_ok (D := D) (wc := wc) hg hsa
          obtain ⟨B', hB', hround⟩ := hy.at hhd
          cases hB.symm.trans hB'
          obtain ⟨fn, tmps, assign, body, q1, q2⟩ := hround _ _ _ _ _ _ hr (fun p hp => hobl p (List.mem_append_left _ hp)) _ ((h.sub hs).tmin hlt) hlt (tmin_le _ _) hn hargs
          have hx : (execOp a.eval o).run P w = .ok (.round B.blk fn tmps assign body) w := by
           rw [← q1]
           unfold execOp
           simp only [ho, resolve, hcal, Deferred.ofValue, e2, Sem.run_bind, Sem.run_pure, Result.andThen_ok, invoke]
           congr 2
           apply Array.toList_inj.1
           simp
          rw [hx, Oper.uponIn_round]
          refine ⟨(fun hh => by cases hh), ?_⟩
          refine RoundIn.mono (F := WF ro) (R := Post D w0 X ρ wc w bkR c r') ⟨trivial, fun c' cs' hroom => ?_⟩ fun e w' hp => fin rfl (hcl rfl hlt) hp
          exact q2.2 c' cs' (fun d hd => by cases hd)
         ·cases hyl
        ·cases hyl
       ·cases hyl
      ·cases he
     ·cases he
    ·cases he
   ·cases he
  ·split at he
   ·rename_i p hpan
    obtain ⟨rfl, rfl⟩ : (⟨.no, bkR, [], orc, c, th, some p⟩ : OpR) = r ∧ false = cl := by simpa using he
    obtain ⟨rfl, hG⟩ := hpl rfl rfl
    have hG : Sub' G bk := by
     rcases hG with ⟨h1, _⟩ | ⟨_, h2⟩
     ·cases h1
     ·exact h2 rfl
    have real : ∀ {x : Operand} {u : Value}, (get x).bind realV = some u → a.eval x = u := by
     intro x u hx
     obtain ⟨z, hz, hr⟩ := Option.bind_eq_some_iff.1 hx
     exact realV_den hr (hg _ _ hz)
    have hrun : (execOp a.eval o).run P w = .halt (.panic p) w := by
     unfold panOf at hpan
     split at hpan
     ·rename_i x ho
      split at hpan
      ·rename_i t v hx
       cases hpan
       unfold execOp
       simp only [ho, real hx]
       rfl
      ·cases hpan
     ·rename_i x ts ho
      split at hpan
      ·rename_i t v hx
       cases hpan
       unfold execOp
       simp only [ho, resolve, Sem.run_bind, Sem.run_pure, Result.andThen_ok, invoke, builtin, List.map_toArray, List.map_cons, List.map_nil, real hx]
       rfl
      ·cases hpan
     ·cases hpan
    rw [hrun, Oper.uponIn_panic]
    exact hP p rfl ρ wc w (h.sub' hG) ((Evo.refl ρ wc w bk c).sub' hG)
   ·split at he
    ·rename_i x ps hsym
     obtain ⟨rfl, rfl⟩ : (⟨(fixB x orc).1, [], ps ++ (fixB x orc).2.1, (fixB x orc).2.2, c, th, none⟩ : OpR) = r ∧ false = cl := by simpa using he
     obtain ⟨rfl, hG⟩ := hpl rfl rfl
     obtain rfl : G = bk := by
      rcases hG with ⟨_, h2⟩ | ⟨h2, _⟩
      ·exact h2
      ·exact absurd rfl h2
     obtain ⟨v, h1, h2⟩ := symS_ok (P := P) (w := w) hg hsym (fun p hp => hobl p (List.mem_append_left _ hp))
     rw [h1, Oper.uponIn_value]
     exact hK rfl ρ wc w v (fixB_ok (fun p hp => hobl p (List.mem_append_right _ hp)) h2) h (Evo.refl _ _ _ _ _)
    ·split at he
     ·rename_i x wr c' heff
      split at he
      ·obtain ⟨rfl, rfl⟩ : (⟨x, wr, [], orc, c', th, none⟩ : OpR) = r ∧ false = cl := by simpa using he
       obtain ⟨rfl, hG⟩ := hpl rfl rfl
       obtain rfl : G = wr ++ bk := by
        rcases hG with ⟨_, h2⟩ | ⟨h2, _⟩
        ·exact h2
        ·exact absurd rfl h2
       obtain ⟨nx, v, w', ρ', hrun, hnx, hv, k1, k2⟩ := effS_ok h hs hg heff hn
       rw [hrun]
       rcases hnx with rfl | ⟨rfl, rfl⟩
       ·exact hK rfl ρ' wc w' v hv k1 k2
       ·exact hK rfl ρ' wc w' undef hv k1 k2
      ·cases he
     ·cases he
end
/-! ### slots -/
def putT (tm : List (Nat × SV)) (d : Option Tmp) (x : SV) : List (Nat × SV) :=
 match d with
 | some t => (t, x) :: tm
 | none => tm
def dstOk (n : Nat) (d : Option Tmp) : Bool :=
 match d with
 | some t => Nat.blt t n
 | none => true
theorem TSat.put {D : Den} {ρ : Nm} {w : World} {n : Nat} {tm : List (Nat × SV)} {a : Act} (h : TSat D ρ w n tm a) {d : Option Tmp} (hd : dstOk n d = true) {x : SV} {v : Value} (hv : denV D ρ w x v) :
  TSat D ρ w n (putT tm d x) (a.put d v) := by
 cases d with
 | none => exact h
 | some t =>
   have ht : t < a.tmps.size := by rw [h.size]; exact Nat.blt_eq ▸ (show Nat.blt t n = true from hd)
   refine ⟨by simp [Act.put, h.size], fun s y hs => ?_⟩
   unfold putT at hs
   dsimp only at hs
   rw [look_cons] at hs
   show ∃ v', (a.tmps.setIfInBounds t v)[s]? = some v' ∧ _
   by_cases e : s = t
   ·rw [if_pos e] at hs
    cases hs
    subst e
    exact ⟨v, by simp [ht], hv⟩
   ·rw [if_neg e] at hs
    obtain ⟨v', h1, h2⟩ := h.at_ s y hs
    exact ⟨v', by rw [Array.getElem?_setIfInBounds, if_neg (fun h => e h.symm)]; exact h1, h2⟩
def wantS (ops : Array Oper) (o : Oper) (tm : List (Nat × SV)) (orc : List (Option Bool)) : Option (Bool × List Prop × List (Option Bool)) :=
 match o.guard with
 | none => some (true, [], orc)
 | some (j, want) => match (ops[j]?).bind (·.dst) with
   | some d => match tm.look d with
     | some (.a (.one (.val (.bool b)))) => some (b == want, [], orc)
     | some (.tup _) => some (false, [], orc)
     | _ => none
   | none => none
theorem wantS_ok {D : Den} {ρ : Nm} {w : World} {n : Nat} {tm : List (Nat × SV)} {a : Act} (h : TSat D ρ w n tm a) {ops : Array Oper} {o : Oper} {orc orc' : List (Option Bool)} {b : Bool} {ps : List Prop}
  (hw : wantS ops o tm orc = some (b, ps, orc')) (hps : ∀ p ∈ ps, p) : Region.wanted o (yielded ops a.tmps) = b := by
 unfold wantS at hw
 unfold Region.wanted
 split at hw
 ·rename_i hg
  cases hw
  rw [hg]
 ·rename_i j want hg
  rw [hg]
  dsimp only
  split at hw
  ·rename_i d hd
   split at hw
   ·rename_i b' hb
    obtain ⟨v, hv, hden⟩ := h.at_ d _ hb
    have hvb : v = .bool b' := by simpa using hden.1
    subst hvb
    cases hw
    unfold yielded
    rw [hd, Option.bind_some, hv]
    cases b' <;> cases want <;> rfl
   ·rename_i l hb
    cases hw
    obtain ⟨v, hv, vs, rfl, _⟩ := h.at_ d _ hb
    unfold yielded
    rw [hd, Option.bind_some, hv]
    rfl
   ·cases hw
  ·cases hw
end
section
inductive DF where
 | clo (f : FuncId) (caps : List (Nat × Nat))
 | col (k : Nat)
structure Stt where
 tm : List (Nat × SV)
 bk : List (Nat × Blk)
 c : Nat
 th : Nat
 orc : List (Option Bool)
 df : List DF
def DfOk (P : Program) (m : Nat) (ρ : Nm) (w : World) : List DF → List Deferred → Prop
 | [], ds => ds = []
 | .clo f caps :: r, ds => ∃ (vs : List Value) (d : List Deferred), ds = { target := .fn (.func f) vs.toArray, args := #[] } :: d ∧ adrs ρ caps vs ∧ entersB P f = true ∧ DfOk P m ρ w r d
 | .col k :: r, ds => ∃ (B : Pl) (d : List Deferred), ds = { target := .collected B.blk, args := #[] } :: d ∧ ρ k = some B ∧ m ≤ B.blk ∧ (∀ x ∈ d, ∀ b, x.target = .collected b → b < B.blk) ∧ w.heap[B.blk]? = some (Obj.deferred (some [])) ∧ DfOk P m ρ w r d
theorem DfOk.step {P : Program} {m : Nat} {ρ ρ' : Nm} {w w' : World} (hr : ρ.le ρ') :
  ∀ {df : List DF} {ds : List Deferred}, (∀ l : Nat, (∃ x ∈ ds, x.target = .collected l) → w.heap[l]? = some (Obj.deferred (some [])) → w'.heap[l]? = some (Obj.deferred (some []))) → DfOk P m ρ w df ds → DfOk P m ρ' w' df ds
 | [], ds, hl, h => h
 | .clo f caps :: r, ds, hl, ⟨vs, d, h1, h2, h3, h4⟩ => by
   subst h1
   exact ⟨vs, d, rfl, h2.mono hr, h3, h4.step hr fun l ⟨x, hx, e⟩ => hl l ⟨x, List.mem_cons_of_mem _ hx, e⟩⟩
 | .col k :: r, ds, hl, ⟨B, d, h1, h2, hm, hb, h3, h4⟩ => by
   subst h1
   exact ⟨B, d, rfl, hr k B h2, hm, hb, hl _ ⟨_, List.mem_cons_self .., rfl⟩ h3, h4.step hr fun l ⟨x, hx, e⟩ => hl l ⟨x, List.mem_cons_of_mem _ hx, e⟩⟩
theorem DfOk.low {P : Program} {m N : Nat} {ρ : Nm} {w : World} (hN : ∀ k B, ρ k = some B → B.blk < N) : ∀ {df : List DF} {ds : List Deferred}, DfOk P m ρ w df ds → ∀ x ∈ ds, ∀ b, x.target = .collected b → b < N
 | [], ds, h, x, hx, b, e => by rw [show ds = [] from h] at hx; cases hx
 | .clo f caps :: r, ds, ⟨vs, d, h1, h2, h3, h4⟩, x, hx, b, e => by
   rw [h1] at hx
   rcases List.mem_cons.1 hx with rfl | hx
   ·cases e
   ·exact h4.low hN x hx b e
 | .col k :: r, ds, ⟨B, d, h1, h2, hm, hb, h3, h4⟩, x, hx, b, e => by
   rw [h1] at hx
   rcases List.mem_cons.1 hx with rfl | hx
   ·cases e; exact hN k B h2
   ·exact h4.low hN x hx b e
theorem DfOk.evo {D : Den} {P : Program} {w0 : World} {X : Nat → Prop} {th : Nat} {ρ ρ' : Nm} {wc w wc' w' : World} {bk bk' : List (Nat × Blk)} {c c' : Nat} {df : List DF} {ds : List Deferred} {m : Nat} (h : DfOk P m ρ w df ds)
  (hS : Sat D w0 X th ρ wc w bk) (e : Evo ρ wc w bk c c' ρ' wc' w' bk') : DfOk P m ρ' w' df ds :=
 h.step e.rho fun l _ hl => hS.stays e hl rfl
def deferOf (P : Program) (o : Oper) (get : Operand → Option SV) : Option DF :=
 match o.op with
 | .defer c => match c.callee, c.args.toList with
   | .value fv, [] => match get fv with
     | some (.a (.one (.clo f caps))) => if entersB P f then some (.clo f caps) else none
     | _ => none
   | _, _ => none
 | _ => none
def exP : Option Value → Exit
 | none => .normal
 | some p => .panic [{ v := p, recovered := false }]
def seqS (P : Program) (cs : CallS) (ys : YEnv) (rd : Bool) (ops : Array Oper) (n : Nat) : List Oper → Stt → Option (Stt × List Prop × Option Value)
 | [], s => some (s, [], none)
 | o :: rest, s => match wantS ops o s.tm s.orc with
   | some (true, ps, orc) => if dstOk n o.dst then (match deferOf P o (getS s.tm) with
     | some d => if rd then none else (match seqS P cs ys rd ops n rest ⟨putT s.tm o.dst (.tup []), s.bk, s.c, s.th, orc, d :: s.df⟩ with
       | some (s', q, p) => some (s', ps ++ q, p)
       | none => none)
     | none => (match opS P cs ys o (getS s.tm) s.bk s.th s.c orc with
       | some (r, _) => (match r.pan with
         | some p => some (⟨s.tm, r.wr, r.c, r.th, r.orc, s.df⟩, ps ++ r.obl, some p)
         | none => (match seqS P cs ys rd ops n rest ⟨putT s.tm o.dst r.v, r.wr ++ s.bk, r.c, r.th, r.orc, s.df⟩ with
           | some (s', q, p) => some (s', ps ++ (r.obl ++ q), p)
           | none => none))
       | none => none)) else none
   | some (false, ps, orc) => if dstOk n o.dst then (match seqS P cs ys rd ops n rest ⟨putT s.tm o.dst (.tup []), s.bk, s.c, s.th, orc, s.df⟩ with
     | some (s', q, p) => some (s', ps ++ q, p)
     | none => none) else none
   | none => none
def Goes (D : Den) (P : Program) (w0 : World) (X : Nat → Prop) (mm n : Nat) (ρ : Nm) (wc w : World) (s s' : Stt) (Q : Act → World → Prop) : Prop :=
 ∀ ρ' wc' w' a', Sat D w0 X s'.th ρ' wc' w' s'.bk → TSat D ρ' wc' n s'.tm a' → DfOk P mm ρ' w' s'.df a'.defers → Evo ρ wc w s.bk s.c s'.c ρ' wc' w' s'.bk → Q a' w'
section
variable {D : Den} {P : Program} {w0 : World} {X : Nat → Prop} {cs : CallS} {ys : YEnv}
theorem seqS_cc {rd : Bool} {ops : Array Oper} {n : Nat} : ∀ {l : List Oper} {s s' : Stt} {q : List Prop} {p : Option Value}, seqS P cs ys rd ops n l s = some (s', q, p) → s.c ≤ s'.c
 | [], s, s', q, p, h => by cases h; exact Nat.le_refl _
 | o :: rest, s, s', q, p, h => by
   unfold seqS at h
   split at h
   ·split at h
    ·split at h
     ·split at h
      ·cases h
      ·split at h
       ·rename_i s2 q2 p2 h2
        cases h
        have k := seqS_cc h2
        exact k
       ·cases h
     ·split at h
      ·rename_i r cl hr
       split at h
       ·cases h
        exact opS_cc hr
       ·split at h
        ·rename_i s2 q2 p2 h2
         cases h
         exact Nat.le_trans (opS_cc hr) (seqS_cc h2)
        ·cases h
      ·cases h
    ·cases h
   ·split at h
    ·split at h
     ·rename_i s2 q2 p2 h2
      cases h
      have k := seqS_cc h2
      exact k
     ·cases h
    ·cases h
   ·cases h
theorem undef_den {ρ : Nm} {w : World} : denV D ρ w (.tup []) undef := ⟨[], rfl, rfl⟩
theorem seqS_ok (hcs : CallOk D P w0 X cs) {bd mm : Nat} {rd : Bool} {ro : Option Nat} (hrd : rd = false → ro = none) {m : Nat} {ops : Array Oper} {n : Nat} {Q : Exit → Act → World → Prop} : ∀ {l : List Oper} {s s' : Stt} {q : List Prop} {pn : Option Value} {ρ : Nm} {wc w : World} {a : Act},
  seqS P cs ys rd ops n l s = some (s', q, pn) → (∀ p ∈ q, p) →
  Sat D w0 X s.th ρ wc w s.bk → YOk D P w0 X bd ys ρ wc w → TSat D ρ wc n s.tm a → DfOk P mm ρ w s.df a.defers → (∀ k, s.c ≤ k → k < s'.c → ρ k = none) →
  Goes D P w0 X mm n ρ wc w s s' (Q (exP pn)) → wpListIn (WF ro) m P ops Q l a w
 | [], s, s', q, pn, ρ, wc, w, a, h, hq, hS, hY, hT, hD, hn, hK => by
   cases h
   exact hK ρ wc w a hS hT hD (Evo.refl _ _ _ _ _)
 | o :: rest, s, s', q, pn, ρ, wc, w, a, h, hq, hS, hY, hT, hD, hn, hK => by
   unfold seqS at h
   unfold wpListIn
   split at h
   ·rename_i ps orc hw
    split at h
    ·rename_i hd
     split at h
     ·rename_i df hdf
      split at h
      ·cases h
      ·rename_i hrd'
       have hro : ro = none := hrd (by simpa using hrd')
       subst hro
       split at h
       ·rename_i s2 q2 p2 h2
        cases h
        rw [if_pos (wantS_ok hT hw fun p hp => hq p (by simp [hp]))]
        refine ⟨fun _ _ => trivial, ?_⟩
        unfold deferOf at hdf
        split at hdf
        ·rename_i cc ho
         split at hdf
         ·rename_i fv hcal hargs
          split at hdf
          ·rename_i f caps hfv
           split at hdf
           ·rename_i hen
            cases hdf
            obtain ⟨vs, hvs, e1⟩ := hT.get hfv
            have e2 : a.eval fv = .func (.func f) #[] vs.toArray := by simpa using e1
            have hx : (o.semAt none a.eval).run P w = .ok (.defer { target := .fn (.func f) vs.toArray, args := #[] }) w := by
             rw [Oper.semAt_none]
             unfold execOp
             have ha : cc.args = #[] := by apply Array.toList_inj.1; rw [hargs]
             simp only [ho, resolve, hcal, Deferred.ofValue, e2, ha, Sem.run_bind, Sem.run_pure, Result.andThen_ok]
             simp
            show Oper.uponIn _ _ _ _ _ _ _ ((o.semAt (WF none).round a.eval).run P w)
            rw [show (WF none).round = none from rfl, hx, Oper.uponIn_defer]
            refine seqS_ok (mm := mm) hcs hrd h2 (fun p hp => hq p (by simp [hp])) hS hY (TSat.put (a := { a with defers := _ :: a.defers }) ⟨hT.size, hT.at_⟩ hd undef_den) ?_ hn ?_
            ·have e3 : (({ a with defers := { target := .fn (.func f) vs.toArray, args := #[] } :: a.defers } : Act).put o.dst undef).defers = { target := .fn (.func f) vs.toArray, args := #[] } :: a.defers := by
              cases o.dst <;> rfl
             rw [e3]
             exact ⟨vs, a.defers, rfl, hvs, hen, hD⟩
            ·intro ρ2 wc2 w2 a2 k1 k2 k3 k4
             exact hK ρ2 wc2 w2 a2 k1 k2 k3 k4
           ·cases hdf
          ·cases hdf
         ·cases hdf
        ·cases hdf
       ·cases h
     ·split at h
      ·rename_i r cl hr
       have hrc := opS_cc hr
       split at h
       ·rename_i p hp
        cases h
        rw [if_pos (wantS_ok hT hw fun p hp => hq p (by simp [hp]))]
        refine opS_ok (G := r.fin s.bk) (th' := r.th) hcs hY hS (fun k b hk => hk) (fun x z hz => hT.get hz) hr (fun p hp => hq p (by simp [hp])) hn (fun _ _ _ _ _ h1 h2 => ⟨h1, h2⟩) (fun _ ht => ⟨ht, ?_⟩) (fun hnn => ?_) ?_
        ·refine .inr ⟨by rw [hp]; simp, fun hw => ?_⟩
         unfold OpR.fin
         rw [hp]
         dsimp only
         rw [hw]
         exact fun k b hk => hk
        ·rw [hp] at hnn; cases hnn
        ·intro p' hp' ρ' wc' w' k1 k2
         rw [hp] at hp'
         cases hp'
         have ef : r.fin s.bk = r.wr := by unfold OpR.fin; rw [hp]
         rw [ef] at k1 k2
         exact hK ρ' wc' w' a k1 (hT.mono k2.rho k2.ext) (hD.evo hS k2) k2
       ·rename_i hp
        split at h
        ·rename_i s2 q2 p2 h2
         cases h
         have hcc := seqS_cc h2
         have ef : r.fin s.bk = r.wr ++ s.bk := by unfold OpR.fin; rw [hp]
         rw [if_pos (wantS_ok hT hw fun p hp => hq p (by simp [hp]))]
         refine opS_ok (G := r.fin s.bk) (th' := r.th) hcs hY hS (fun k b hk => hk) (fun x z hz => hT.get hz) hr (fun p hp => hq p (by simp [hp])) (fun k h1 h2 => hn k h1 (by dsimp only at hcc; omega)) (fun _ _ _ _ _ h1 h2 => ⟨h1, h2⟩) (fun _ ht => ⟨ht, .inl ⟨hp, ef⟩⟩) ?_ (fun p' hp' => ?_)
         ·intro _ ρ' wc' w' v hv hS' hE
          rw [ef] at hS' hE
          refine seqS_ok (mm := mm) hcs hrd h2 (fun p hp => hq p (by simp [hp])) hS' (hY.evo hS hE) ((hT.mono hE.rho hE.ext).put hd hv) ?_ (fun k h1 h2 => ?_) ?_
          ·have e3 : (a.put o.dst v).defers = a.defers := by cases o.dst <;> rfl
           rw [e3]
           exact hD.evo hS hE
          ·dsimp only at h1
           rw [hE.dom k (.inr h1)]
           exact hn k (by omega) h2
          ·intro ρ2 wc2 w2 a2 k1 k2 k3 k4
           exact hK ρ2 wc2 w2 a2 k1 k2 k3 (hE.trans k4 hS.named)
         ·rw [hp] at hp'; cases hp'
        ·cases h
      ·cases h
    ·cases h
   ·rename_i ps orc hw
    split at h
    ·rename_i hd
     split at h
     ·rename_i s2 q2 p2 h2
      cases h
      rw [if_neg (by rw [wantS_ok hT hw fun p hp => hq p (by simp [hp])]; simp)]
      refine ⟨fun _ _ => trivial, ?_⟩
      refine seqS_ok (mm := mm) hcs hrd h2 (fun p hp => hq p (by simp [hp])) hS hY (hT.put hd undef_den) ?_ hn ?_
      ·have e3 : (a.put o.dst undef).defers = a.defers := by cases o.dst <;> rfl
       rw [e3]
       exact hD
      ·intro ρ2 wc2 w2 a2 k1 k2 k3 k4
       exact hK ρ2 wc2 w2 a2 k1 k2 k3 k4
     ·cases h
    ·cases h
   ·cases h
end
/-! ### any order: lists of what was written, by those that came up -/
def accAt {α : Type} (ws : List (List (Nat × α))) (L : Nat → Bool) (l0 : List (Nat × α)) : Nat → List (Nat × α)
 | 0 => l0
 | m + 1 => (if L m then ws.getD m [] else []) ++ accAt ws L l0 m
section
variable {α : Type} {ws : List (List (Nat × α))} {l0 : List (Nat × α)}
abbrev wrote (ws : List (List (Nat × α))) (j k : Nat) : Prop := ((ws.getD j []).look k).isSome = true
theorem accAt_cons (x : List (Nat × α)) (L : Nat → Bool) : ∀ m, accAt (x :: ws) L l0 (m + 1) = accAt ws (fun j => L (j + 1)) ((if L 0 then x else []) ++ l0) m
 | 0 => rfl
 | m + 1 => by
   have ih := accAt_cons x L m
   show (if L (m + 1) then (x :: ws).getD (m + 1) [] else []) ++ accAt (x :: ws) L l0 (m + 1) = _
   rw [ih]
   rfl
theorem acc_step (L : Nat → Bool) (m k : Nat) : (accAt ws L l0 (m + 1)).look k = if L m = true ∧ wrote ws m k then (ws.getD m []).look k else (accAt ws L l0 m).look k := by
 show ((if L m then ws.getD m [] else []) ++ accAt ws L l0 m).look k = _
 rw [look_append]
 unfold wrote
 cases hL : L m with
 | false => simp
 | true =>
   rw [if_pos rfl]
   generalize ws.getD m [] = x
   cases hw : x.look k with
   | none => rw [if_neg (by simp)]; rfl
   | some b => rw [if_pos ⟨rfl, rfl⟩]; rfl
theorem acc_read {L : Nat → Bool} {i k : Nat} (hi : L i = false) (hlo : ∀ j, j < i → wrote ws j k → L j = true) (hhi : ∀ j, i < j → wrote ws j k → L j = false) :
  ∀ N, i ≤ N → (accAt ws L l0 N).look k = (accAt ws (fun _ => true) l0 i).look k := by
 have lo : ∀ m, m ≤ i → (accAt ws L l0 m).look k = (accAt ws (fun _ => true) l0 m).look k := by
  intro m
  induction m with
  | zero => intro _; rfl
  | succ m ih =>
    intro hm
    rw [acc_step, acc_step, ih (by omega)]
    by_cases hw : wrote ws m k
    ·rw [if_pos ⟨hlo m (by omega) hw, hw⟩, if_pos ⟨rfl, hw⟩]
    ·rw [if_neg (fun h => hw h.2), if_neg (fun h => hw h.2)]
 intro N
 induction N with
 | zero => intro hN; obtain rfl : i = 0 := by omega
           exact lo 0 (by omega)
 | succ N ih =>
   intro hN
   by_cases he : i = N + 1
   ·subst he; exact lo _ (Nat.le_refl _)
   ·rw [acc_step, if_neg, ih (by omega)]
    rintro ⟨h1, h2⟩
    by_cases h3 : i = N
    ·subst h3; rw [hi] at h1; cases h1
    ·rw [hhi N (by omega) h2] at h1; cases h1
theorem acc_add {L : Nat → Bool} {i k : Nat} (hi : L i = false) (hhi : ∀ j, i < j → wrote ws i k → wrote ws j k → L j = false) :
  ∀ N, i < N → (accAt ws (fun j => j == i || L j) l0 N).look k = ((ws.getD i []).look k).or ((accAt ws L l0 N).look k) := by
 have lo : ∀ m, m ≤ i → (accAt ws (fun j => j == i || L j) l0 m).look k = (accAt ws L l0 m).look k := by
  intro m
  induction m with
  | zero => intro _; rfl
  | succ m ih =>
    intro hm
    have e : (m == i) = false := by simp; omega
    rw [acc_step, acc_step, ih (by omega)]
    simp only [e, Bool.false_or]
 intro N
 induction N with
 | zero => intro h; omega
 | succ N ih =>
   intro hN
   by_cases he : i = N
   ·subst he
    rw [acc_step, acc_step, lo i (Nat.le_refl _), if_neg (show ¬ (L i = true ∧ wrote ws i k) from fun h => by rw [hi] at h; cases h.1)]
    by_cases hw : wrote ws i k
    ·rw [if_pos ⟨by simp, hw⟩]
     obtain ⟨b, hb⟩ := Option.isSome_iff_exists.1 hw
     rw [hb]; rfl
    ·rw [if_neg (fun h => hw h.2)]
     have : (ws.getD i []).look k = none := by
      unfold wrote at hw
      cases h : (ws.getD i []).look k with
      | none => rfl
      | some b => rw [h] at hw; simp at hw
     rw [this]; rfl
   ·have e : (N == i) = false := by simp; omega
    rw [acc_step, acc_step, ih (by omega)]
    simp only [e, Bool.false_or]
    by_cases hw : L N = true ∧ wrote ws N k
    ·rw [if_pos hw, if_pos hw]
     have : (ws.getD i []).look k = none := by
      cases h : (ws.getD i []).look k with
      | none => rfl
      | some b =>
        have := hhi N (by omega) (by unfold wrote; rw [h]; rfl) hw.2
        rw [this] at hw
        cases hw.1
     rw [this, Option.none_or]
    ·rw [if_neg hw, if_neg hw]
end
end
end Go.Ex
namespace Go.Mono
theorem Sg.add_same {s : Bool} {a b : Int} (h : Sg s a) (k : Sg s b) : Sg s (a + b) ∧ (a + b).natAbs = a.natAbs + b.natAbs := by
 cases s
 ·have := h.2 rfl; have := k.2 rfl
  exact ⟨⟨fun h => by simp at h, fun _ => by omega⟩, by omega⟩
 ·have := h.1 rfl; have := k.1 rfl
  exact ⟨⟨fun _ => by omega, fun h => by simp at h⟩, by omega⟩
theorem Sg.add_less {s : Bool} {a b : Int} (h : Sg s a) (k : Sg (!s) b) (hl : (a.natAbs : Int) < b.natAbs) : Sg (!s) (a + b) ∧ ((a + b).natAbs : Int) = b.natAbs - a.natAbs := by
 cases s
 ·have := h.2 rfl; have := k.1 rfl
  exact ⟨⟨fun _ => by omega, fun h => by simp at h⟩, by omega⟩
 ·have := h.1 rfl; have := k.2 rfl
  exact ⟨⟨fun h => by simp at h, fun _ => by omega⟩, by omega⟩
theorem Sg.add_more {s : Bool} {a b : Int} (h : Sg s a) (k : Sg (!s) b) (hl : (b.natAbs : Int) ≤ a.natAbs) : Sg s (a + b) ∧ ((a + b).natAbs : Int) = a.natAbs - b.natAbs := by
 cases s
 ·have := h.2 rfl; have := k.1 rfl
  exact ⟨⟨fun h => by simp at h, fun _ => by omega⟩, by omega⟩
 ·have := h.1 rfl; have := k.2 rfl
  exact ⟨⟨fun _ => by omega, fun h => by simp at h⟩, by omega⟩
end Go.Mono
namespace Go.Proofs.YtdgodcgdlfjpaaaGreatDoor
open Go.RowKit Go.Mono
theorem wplus_sz (s1 s2 : Bool) (p1 p2 : Option Addr) (k1 c1 k2 c2 m : Nat) (n1 n2 : Int) (w wf : World) (hx : Ext wf w) (h1 : Sz m wf (.slice p1 k1 c1) n1.natAbs) (h2 : Sz m wf (.slice p2 k2 c2) n2.natAbs) (g1 : Sg s1 n1) (g2 : Sg s2 n2) (hm : m ≤ 1000000) :
  Calls Tryz.prog 82 #[.agg #[.bool s1, .slice p1 k1 c1], .agg #[.bool s2, .slice p2 k2 c2]] w fun e w' => ∃ s p n c, e = .returned (.agg #[.bool s, .slice p n c]) ∧ Sg s (n1 + n2) ∧ Sz (m + 1) w' (.slice p n c) (n1 + n2).natAbs ∧ Below w.heap.size w w' := by
 by_cases hs12 : s1 = s2
 ·subst hs12
  obtain ⟨e1, e2⟩ := g1.add_same g2
  replace e2 := Lib.hid e2
  clear g1 g2
  go_enter Tryz.func82, Tryz.ntmps82
  go_wp2_with fail
  refine boxes3 fun W hB hs b0 b1 b2 => ?_
  have z1 := h1.ext (hx.below hB)
  have z2 := h2.ext (hx.below hB)
  have c0 := b0.cell
  have c1' := b1.cell
  have l0 := b0.lt
  have l1 := b1.lt
  have r0 : w.heap.size ≠ w.heap.size + 1 + 1 := by omega
  have r1 : w.heap.size + 1 ≠ w.heap.size + 1 + 1 := by omega
  have K0 := KeepBut.refl (w.heap.size + 1 + 1) W
  clear h1 h2 hx
  go_region_held3 (fun w' => (∀ b o, b < W.heap.size → b ≠ (w.heap.size + 1 + 1) → w'.cell? ⟨b, o, none⟩ = W.cell? ⟨b, o, none⟩) ∧ KeepBut (w.heap.size + 1 + 1) W.heap.size W w') ((refine KeepBut.S ?_; first | exact K0.drew | (repeat' (first | exact And.right ‹_› | exact KeepBut.call (And.right ‹_›) ‹_› | refine KeepBut.set ?_ _ _ | refine KeepBut.alloc ?_ _)))) (first | (go_at_call 157; refine (plus_sz m m _ W (KeepBut.ext (And.right ‹_›) b2 (by decide)) _ _ _ _ _ _ _ _ z1 z2 hm hm).mono ?_; rintro e w' ⟨p, n, c, rfl, hv, hb⟩; have b2' := b2.drew.below hb; have k1 := b2'.cell; have f1 := b2'.frozen))
  go_wp2
  have b3 := ((b2'.set 0 (.bool s1)).set 1 (.slice p n c)).cell
  refine bodyPost_ret (v := .agg #[.bool s1, .slice p n c]) (by simp [results, Tryz.results82, go_sem, b3]) rfl ⟨s1, p, n, c, rfl, e1, ?_, ?_⟩
  ·rw [e2.out]
   exact (hv.ext (((Ext.refl _).set b2' (by decide) _ _).set (b2'.set _ _) (by decide) _ _)).mono (by omega)
  ·exact KeepBut.below (And.right ‹_›) hB (by omega) hB.size
 ·obtain rfl : s2 = !s1 := by cases s1 <;> cases s2 <;> simp_all
  have hc := cmp_sz m m
  rcases Int.lt_or_le (n1.natAbs : Int) n2.natAbs with hl | hl
  ·obtain ⟨e1, e2⟩ := g1.add_less g2 hl
   replace e2 := Lib.hid e2
   clear g1 g2 hs12
   go_enter Tryz.func82, Tryz.ntmps82
   go_wp2_with fail
   refine boxes3c fun W hB hs b0 b1 b2 => ?_
   have z1 := h1.ext (hx.below hB)
   have z2 := h2.ext (hx.below hB)
   have HC := hc W W (Ext.refl _) p1 p2 k1 k2 c1 c2 _ _ z1 z2
   refine HC.mono ?_
   rintro e w' ⟨x, ⟨rfl, j, rfl⟩, hc1, hc2⟩
   have hc0 : x < 0 := hc1.2 hl
   clear h1 h2 hx hc HC hc1 hc2
   have x1 : Ext W (W.drewN j) := (Ext.refl _).below (below_drewN (Below.refl _ _) j)
   replace z1 := z1.ext x1
   replace z2 := z2.ext x1
   replace hB := below_drewN hB j
   have b0 : Box (W.drewN j) _ _ _ := ⟨b0.blk⟩
   have b1 : Box (W.drewN j) _ _ _ := ⟨b1.blk⟩
   have b2 : Box (W.drewN j) _ _ _ := ⟨b2.blk⟩
   generalize W.drewN j = W at z1 z2 hB b0 b1 b2 ⊢
   have c0 := b0.cell
   have c1' := b1.cell
   have l0 := b0.lt
   have l1 := b1.lt
   have r0 : w.heap.size ≠ w.heap.size + 1 + 1 := by omega
   have r1 : w.heap.size + 1 ≠ w.heap.size + 1 + 1 := by omega
   have K0 := KeepBut.refl (w.heap.size + 1 + 1) W
   go_wp2_with fail
   go_region_held3 (fun w' => (∀ b o, b < W.heap.size → b ≠ (w.heap.size + 1 + 1) → w'.cell? ⟨b, o, none⟩ = W.cell? ⟨b, o, none⟩) ∧ KeepBut (w.heap.size + 1 + 1) W.heap.size W w') ((refine KeepBut.S ?_; first | exact K0.drew | (repeat' (first | exact And.right ‹_› | exact KeepBut.call (And.right ‹_›) ‹_› | refine KeepBut.set ?_ _ _ | refine KeepBut.alloc ?_ _)))) (first | (go_at_call 159; refine (minus_sz m m _ W (KeepBut.ext (And.right ‹_›) b2 (by decide)) _ _ _ _ _ _ _ _ z2 z1 hm (Int.le_of_lt hl)).mono ?_; rintro e w' ⟨p, n, c, rfl, hv, hb⟩; have b2' := b2.drew.below hb; have k1 := b2'.cell; have f1 := b2'.frozen))
   go_wp2
   have b3 := ((b2'.set 0 (.bool !s1)).set 1 (.slice p n c)).cell
   refine bodyPost_ret (v := .agg #[.bool !s1, .slice p n c]) (by simp [results, Tryz.results82, go_sem, b3]) rfl ⟨!s1, p, n, c, rfl, e1, ?_, ?_⟩
   ·rw [e2.out]
    exact (hv.ext (((Ext.refl _).set b2' (by decide) _ _).set (b2'.set _ _) (by decide) _ _)).mono (by omega)
   ·exact KeepBut.below (And.right ‹_›) hB (by omega) hB.size
  ·obtain ⟨e1, e2⟩ := g1.add_more g2 hl
   replace e2 := Lib.hid e2
   clear g1 g2 hs12
   go_enter Tryz.func82, Tryz.ntmps82
   go_wp2_with fail
   refine boxes3c fun W hB hs b0 b1 b2 => ?_
   have z1 := h1.ext (hx.below hB)
   have z2 := h2.ext (hx.below hB)
   have HC := hc W W (Ext.refl _) p1 p2 k1 k2 c1 c2 _ _ z1 z2
   refine HC.mono ?_
   rintro e w' ⟨x, ⟨rfl, j, rfl⟩, hc1, hc2⟩
   have hc0 : ¬ x < 0 := fun h => by have := hc1.1 h; omega
   clear h1 h2 hx hc HC hc1 hc2
   have x1 : Ext W (W.drewN j) := (Ext.refl _).below (below_drewN (Below.refl _ _) j)
   replace z1 := z1.ext x1
   replace z2 := z2.ext x1
   replace hB := below_drewN hB j
   have b0 : Box (W.drewN j) _ _ _ := ⟨b0.blk⟩
   have b1 : Box (W.drewN j) _ _ _ := ⟨b1.blk⟩
   have b2 : Box (W.drewN j) _ _ _ := ⟨b2.blk⟩
   generalize W.drewN j = W at z1 z2 hB b0 b1 b2 ⊢
   have c0 := b0.cell
   have c1' := b1.cell
   have l0 := b0.lt
   have l1 := b1.lt
   have r0 : w.heap.size ≠ w.heap.size + 1 + 1 := by omega
   have r1 : w.heap.size + 1 ≠ w.heap.size + 1 + 1 := by omega
   have K0 := KeepBut.refl (w.heap.size + 1 + 1) W
   go_wp2_with fail
   go_region_held3 (fun w' => (∀ b o, b < W.heap.size → b ≠ (w.heap.size + 1 + 1) → w'.cell? ⟨b, o, none⟩ = W.cell? ⟨b, o, none⟩) ∧ KeepBut (w.heap.size + 1 + 1) W.heap.size W w') ((refine KeepBut.S ?_; first | exact K0.drew | (repeat' (first | exact And.right ‹_› | exact KeepBut.call (And.right ‹_›) ‹_› | refine KeepBut.set ?_ _ _ | refine KeepBut.alloc ?_ _)))) (first | (go_at_call 159; refine (minus_sz m m _ W (KeepBut.ext (And.right ‹_›) b2 (by decide)) _ _ _ _ _ _ _ _ z1 z2 hm hl).mono ?_; rintro e w' ⟨p, n, c, rfl, hv, hb⟩; have b2' := b2.drew.below hb; have k1 := b2'.cell; have f1 := b2'.frozen))
   go_wp2
   have b3 := ((b2'.set 0 (.bool s1)).set 1 (.slice p n c)).cell
   refine bodyPost_ret (v := .agg #[.bool s1, .slice p n c]) (by simp [results, Tryz.results82, go_sem, b3]) rfl ⟨s1, p, n, c, rfl, e1, ?_, ?_⟩
   ·rw [e2.out]
    exact (hv.ext (((Ext.refl _).set b2' (by decide) _ _).set (b2'.set _ _) (by decide) _ _)).mono (by omega)
   ·exact KeepBut.below (And.right ‹_›) hB (by omega) hB.size
end Go.Proofs.YtdgodcgdlfjpaaaGreatDoor
