/- A verified evaluator of the model, and the references of layer 40 by it. Part 4 of 8. No condition beside the row. -/
import Derived.Test.YtdgodcgdlfjpaaaGreatDoorE03
set_option linter.unusedVariables false
set_option linter.unusedSimpArgs false
set_option maxRecDepth 100000
set_option maxHeartbeats 4000000
namespace Go.Ev
open Go.RowKit Go.Mono
section
def sargs (get : Operand → Option SV) : List Operand → Option (List SA)
 | [] => some []
 | x :: r => match get x with
   | some (.a s) => (sargs get r).map (s :: ·)
   | _ => none
def capsA (caps : List (Nat × Nat)) : List SA := caps.map fun p => .one (.ptr p.1 p.2)
def entersB (P : Program) (f : FuncId) : Bool :=
 match P.funcs[f]? with
 | some fn => !(fn.name == "runtime.NumGoroutine") && fn.body.isSome
 | none => false
theorem enters_run {P : Program} {f : FuncId} (h : entersB P f = true) (args : Array Value) (w : World) : (callFunc f args).run P w = .ok (.enter f args) w := by
 unfold entersB at h
 split at h
 ·rename_i fn hf
  rw [Bool.and_eq_true] at h
  obtain ⟨h1, h2⟩ := h
  unfold callFunc
  have e1 : (fn.name == "runtime.NumGoroutine") = false := by simpa using h1
  have e2 : fn.body.isNone = false := by cases hb : fn.body <;> simp_all
  simp only [Sem.run_bind, run_program, Result.andThen_ok, hf, e1, e2, Bool.false_eq_true, if_false, Sem.run_pure]
 ·cases h
section
variable {D : Den} {P : Program} {ρ : Nm} {wc w : World} {get : Operand → Option SV} {ev : Operand → Value}
theorem denAs.append : ∀ {l m : List SA} {vs us : List Value}, denAs D ρ w l vs → denAs D ρ w m us → denAs D ρ w (l ++ m) (vs ++ us)
 | [], m, vs, us, e, hm => by rw [show vs = [] from e]; exact hm
 | x :: l, m, _, us, ⟨v, r, e, hv, hr⟩, hm => ⟨v, r ++ us, by rw [e, List.cons_append], hv, denAs.append hr hm⟩
theorem sargs_ok (hg : ∀ x z, get x = some z → denV D ρ wc z (ev x)) : ∀ {l : List Operand} {s : List SA}, sargs get l = some s → denAs D ρ wc s (l.map ev)
 | [], s, h => by cases h; rfl
 | x :: r, s, h => by
   unfold sargs at h
   split at h
   ·rename_i y hy
    obtain ⟨q, hq, rfl⟩ := Option.map_eq_some_iff.1 h
    exact ⟨_, _, rfl, hg _ _ hy, sargs_ok hg hq⟩
   ·cases h
theorem capsA_ok : ∀ {l : List (Nat × Nat)} {vs : List Value}, adrs ρ l vs → denAs D ρ w (capsA l) vs
 | [], vs, e => e
 | p :: r, vs, ⟨B, v', hB, e, hr⟩ => ⟨_, v', e, ⟨B, hB, rfl⟩, capsA_ok hr⟩
end
def ans (b : Bool) : List (Option Bool) → Bool × List Prop × List (Option Bool)
 | some x :: r => (x, [b = x], r)
 | none :: r => (b, [], r)
 | [] => (b, [], [])
theorem ans_ok {b : Bool} {orc : List (Option Bool)} (h : ∀ p ∈ (ans b orc).2.1, p) : (ans b orc).1 = b := by
 match orc, h with
 | some x :: r, h => exact (h (b = x) (by simp [ans])).symm
 | none :: r, h => rfl
 | [], h => rfl
def fixB (x : SV) (orc : List (Option Bool)) : SV × List Prop × List (Option Bool) :=
 match x with
 | .a (.one (.tst b)) => (.a (.one (.val (.bool (ans b orc).1))), (ans b orc).2.1, (ans b orc).2.2)
 | x => (x, [], orc)
theorem fixB_ok {D : Den} {ρ : Nm} {w : World} {x : SV} {orc : List (Option Bool)} {v : Value} (h : ∀ p ∈ (fixB x orc).2.1, p) (hv : denV D ρ w x v) : denV D ρ w (fixB x orc).1 v := by
 unfold fixB at h ⊢
 split
 ·rename_i b
  dsimp only at h ⊢
  rw [ans_ok h]
  exact ⟨hv, rfl⟩
 ·exact hv
def inR (z : Int) : Prop := -9223372036854775808 ≤ z ∧ z ≤ 9223372036854775807
theorem wrap_inR {z : Int} (h : inR z) : IntKind.i64.wrap z = z := by
 rw [IntKind.wrap_i64]
 have := h.1
 have := h.2
 omega
def intOf : Option SV → Option (Int × Bool)
 | some (.a (.one (.val (.int .i64 n)))) => some (n, false)
 | some (.a (.one (.sym z))) => some (z, true)
 | _ => none
theorem intOf_ok {D : Den} {ρ : Nm} {w : World} {x : SV} {z : Int} {b : Bool} {v : Value} (h : intOf (some x) = some (z, b)) (hv : denV D ρ w x v) : v = .int .i64 z := by
 unfold intOf at h
 split at h
 ·rename_i n e
  cases h
  cases e
  simpa using hv.1
 ·rename_i z' e
  cases h
  cases e
  simpa [denV, denA, denU] using hv
 ·cases h
def arith (op : BinOp) (a b : Int) : Option (SV × List Prop) :=
 match op with
 | .add => some (.a (.one (.sym (a + b))), [inR (a + b)])
 | .sub => some (.a (.one (.sym (a - b))), [inR (a - b)])
 | .mul => some (.a (.one (.sym (a * b))), [inR (a * b)])
 | .quo => some (.a (.one (.sym (a.tdiv b))), [b ≠ 0, inR (a.tdiv b)])
 | .rem => some (.a (.one (.sym (a.tmod b))), [b ≠ 0])
 | .eql => some (.a (.one (.tst (a == b))), [])
 | .neq => some (.a (.one (.tst (a != b))), [])
 | .lss => some (.a (.one (.tst (decide (a < b)))), [])
 | .leq => some (.a (.one (.tst (decide (a ≤ b)))), [])
 | .gtr => some (.a (.one (.tst (decide (a > b)))), [])
 | .geq => some (.a (.one (.tst (decide (a ≥ b)))), [])
 | _ => none
def symS (o : Oper) (get : Operand → Option SV) : Option (SV × List Prop) :=
 match o.op with
 | .binOp op _ x y _ => match intOf (get x), intOf (get y) with
   | some (a, s), some (b, s') => if s || s' then arith op a b else none
   | _, _ => none
 | .unOp .neg _ x => match intOf (get x) with
   | some (a, true) => some (.a (.one (.sym (0 - a))), [inR (0 - a)])
   | _ => none
 | _ => none
theorem arith_ok {D : Den} {P : Program} {ρ : Nm} {wc w : World} {op : BinOp} {t : TypeId} {x y : Operand} {a b : Int} {r : SV} {ps : List Prop} (h : arith op a b = some (r, ps)) (hp : ∀ p ∈ ps, p) :
  ∃ v, (do eqGuard op t x y (.int .i64 a) (.int .i64 b); binOp op t (.int .i64 a) (.int .i64 b) : Sem Value).run P w = .ok v w ∧ denV D ρ wc r v := by
 have hg : ∀ (s : Sem Value), (do eqGuard op t x y (.int .i64 a) (.int .i64 b); s : Sem Value).run P w = s.run P w := by
  intro s
  unfold eqGuard
  cases op <;> rfl
 rw [hg]
 unfold arith at h
 split at h <;> cases h
 ·exact ⟨.int .i64 (a + b), by simp [binOp, Op.intArith, wrap_inR (hp (inR (a + b)) (by simp))], rfl⟩
 ·exact ⟨.int .i64 (a - b), by simp [binOp, Op.intArith, wrap_inR (hp (inR (a - b)) (by simp))], rfl⟩
 ·exact ⟨.int .i64 (a * b), by simp [binOp, Op.intArith, wrap_inR (hp (inR (a * b)) (by simp))], rfl⟩
 ·exact ⟨.int .i64 (a.tdiv b), by simp [binOp, Op.intDiv, hp (b ≠ 0) (by simp), wrap_inR (hp (inR (a.tdiv b)) (by simp))], rfl⟩
 ·exact ⟨.int .i64 (a.tmod b), by simp [binOp, Op.intDiv, hp (b ≠ 0) (by simp)], rfl⟩
 ·exact ⟨.bool (a == b), by simp [binOp, Op.intCmp], rfl⟩
 ·exact ⟨.bool (a != b), by simp [binOp, Op.intCmp], rfl⟩
 ·exact ⟨.bool (decide (a < b)), by simp [binOp, Op.intCmp], rfl⟩
 ·exact ⟨.bool (decide (a ≤ b)), by simp [binOp, Op.intCmp], rfl⟩
 ·exact ⟨.bool (decide (a > b)), by simp [binOp, Op.intCmp], rfl⟩
 ·exact ⟨.bool (decide (a ≥ b)), by simp [binOp, Op.intCmp], rfl⟩
theorem symS_ok {D : Den} {P : Program} {ρ : Nm} {wc w : World} {get : Operand → Option SV} {ev : Operand → Value} (hg : ∀ x z, get x = some z → denV D ρ wc z (ev x)) {o : Oper} {r : SV} {ps : List Prop} (h : symS o get = some (r, ps)) (hp : ∀ p ∈ ps, p) :
  ∃ v, (execOp ev o).run P w = .ok (.value v) w ∧ denV D ρ wc r v := by
 have ofInt : ∀ {x : Operand} {z : Int} {b : Bool}, intOf (get x) = some (z, b) → ev x = .int .i64 z := by
  intro x z b hx
  cases hgx : get x with
  | none => rw [hgx] at hx; simp [intOf] at hx
  | some s => rw [hgx] at hx; exact intOf_ok hx (hg _ _ hgx)
 have viaV : ∀ {s : Sem Value}, (∃ v, s.run P w = .ok v w ∧ denV D ρ wc r v) → ∃ v, (do pure (Next.value (← s)) : Sem Next).run P w = .ok (.value v) w ∧ denV D ρ wc r v := by
  rintro s ⟨v, h1, h2⟩
  exact ⟨v, by simp only [Sem.run_bind, h1, Result.andThen_ok, Sem.run_pure], h2⟩
 unfold symS at h
 split at h
 ·rename_i op t x y ty ho
  split at h
  ·rename_i a s b s' ha hb
   split at h
   ·unfold execOp
    rw [ho]
    refine viaV ?_
    rw [ofInt ha, ofInt hb]
    exact arith_ok h hp
   ·cases h
  ·cases h
 ·rename_i t x ho
  split at h
  ·rename_i a ha
   cases h
   unfold execOp
   rw [ho]
   refine viaV ⟨.int .i64 (0 - a), ?_, rfl⟩
   rw [ofInt ha]
   have := wrap_inR (hp (inR (0 - a)) (by simp))
   simp only [Op.unary, Op.intArith, Sem.run_pure, this]
  ·cases h
 ·cases h
def callOf (P : Program) (o : Oper) (get : Operand → Option SV) : Option (FuncId × List SA) :=
 match o.op with
 | .call c => match c.callee with
   | .value fv => match get fv, sargs get c.args.toList with
     | some (.a (.one (.clo f caps))), some args => if entersB P f then some (f, args ++ capsA caps) else none
     | _, _ => none
   | _ => none
 | _ => none
def opS (P : Program) (cs : CallS) (o : Oper) (get : Operand → Option SV) (bk : List (Nat × Blk)) (th c : Nat) (orc : List (Option Bool)) : Option (OpR × Bool) :=
 match callOf P o get with
 | some (f, args) => if bk.all (fun p => Nat.blt p.1 c) then (match cs f args bk c orc with
   | some r => if Nat.ble c r.c then some (⟨(fixB r.v r.orc).1, r.wr, r.obl ++ (fixB r.v r.orc).2.1, (fixB r.v r.orc).2.2, r.c⟩, true) else none
   | none => none) else none
 | none => match symS o get with
   | some (x, ps) => some (⟨(fixB x orc).1, [], ps ++ (fixB x orc).2.1, (fixB x orc).2.2, c⟩, false)
   | none => match effS P o get bk th c with
     | some (x, wr, c') => if Nat.ble c c' then some (⟨x, wr, [], orc, c'⟩, false) else none
     | none => none
theorem lookup_all {α : Type} {l : List (Nat × α)} {c : Nat} (h : l.all (fun p => Nat.blt p.1 c) = true) : ∀ k b, l.lookup k = some b → k < c := by
 induction l with
 | nil => intro k b hk; simp at hk
 | cons p r ih =>
   obtain ⟨k', x⟩ := p
   intro k b hk
   rw [List.all_cons, Bool.and_eq_true] at h
   rw [lookup_cons] at hk
   split at hk
   ·rename_i e
    subst e
    exact of_eq_true (by rw [← Nat.blt_eq]; simpa using h.1)
   ·exact ih h.2 k b hk
theorem Sat.reth {D : Den} {w0 : World} {X : Nat → Prop} {th t : Nat} {ρ : Nm} {wc w : World} {bk : List (Nat × Blk)} (h : Sat D w0 X th ρ wc w bk) (hf : ∀ k b, bk.lookup k = some b → k < t) : Sat D w0 X t ρ wc w bk :=
 ⟨h.fr, h.ext, h.inj, h.lt, fun k b hk => let ⟨B, cs, h1, h2, h3, h4, _, h6⟩ := h.box k b hk; ⟨B, cs, h1, h2, h3, h4, fun hh => absurd hh (Nat.not_le.2 (hf k b hk)), h6⟩⟩
section
variable {D : Den} {P : Program} {w0 : World} {X : Nat → Prop} {th : Nat} {ρ : Nm} {wc w : World} {bk bkR : List (Nat × Blk)} {c : Nat} {get : Operand → Option SV} {a : Act} {cs : CallS}
theorem opS_cc {o : Oper} {orc : List (Option Bool)} {r : OpR} {cl : Bool} (he : opS P cs o get bkR th c orc = some (r, cl)) : c ≤ r.c := by
 unfold opS at he
 split at he
 ·split at he
  ·split at he
   ·split at he
    ·rename_i h
     cases he
     exact Nat.le_of_ble_eq_true h
    ·cases he
   ·cases he
  ·cases he
 ·split at he
  ·cases he
   exact Nat.le_refl _
  ·split at he
   ·split at he
    ·rename_i h
     cases he
     exact Nat.le_of_ble_eq_true h
    ·cases he
   ·cases he
theorem opS_ids {o : Oper} {orc : List (Option Bool)} {r : OpR} (he : opS P cs o get bkR th c orc = some (r, true)) : ∀ k b, bkR.lookup k = some b → k < c := by
 unfold opS at he
 split at he
 ·split at he
  ·rename_i h
   exact lookup_all h
  ·cases he
 ·split at he
  ·cases he
  ·split at he
   ·split at he
    ·cases he
    ·cases he
   ·cases he
theorem opS_ok (hcs : CallOk D P w0 X cs) (h : Sat D w0 X th ρ wc w bk) (hs : Sub bkR bk) (hg : ∀ x z, get x = some z → denV D ρ wc z (a.eval x)) {o : Oper} {orc : List (Option Bool)} {r : OpR} {cl : Bool}
  (he : opS P cs o get bkR th c orc = some (r, cl)) (hobl : ∀ p ∈ r.obl, p) (hn : ∀ k, c ≤ k → k < r.c → ρ k = none) (hcl : cl = true → (∀ k b, bk.lookup k = some b → k < th) ∧ r.c ≤ th)
  {K : Act → World → Prop} {Q : Exit → Act → World → Prop}
  (hK : ∀ ρ' wc' w' v, denV D ρ' wc' r.v v → Sat D w0 X th ρ' wc' w' (r.wr ++ bk) → Evo ρ wc w bk c r.c ρ' wc' w' (r.wr ++ bk) → K (a.put o.dst v) w') : o.wp P a w K Q := by
 unfold opS at he
 split at he
 ·rename_i f args hcall
  split at he
  ·rename_i hall
   split at he
   ·rename_i r' hr
    split at he
    ·cases he
     obtain ⟨hf, hrc⟩ := hcl rfl
     unfold callOf at hcall
     split at hcall
     ·rename_i cc ho
      split at hcall
      ·rename_i fv hcal
       split at hcall
       ·rename_i gf caps sa hfv hsa
        split at hcall
        ·rename_i hen
         obtain ⟨rfl, rfl⟩ : gf = f ∧ sa ++ capsA caps = args := by simpa using hcall
         obtain ⟨vs, hvs, e1⟩ := hg _ _ hfv
         have e2 : a.eval fv = .func (.func gf) #[] vs.toArray := by simpa using e1
         have hargs := (sargs_ok hg hsa).append (capsA_ok (D := D) (w := wc) hvs)
         have hlt := lookup_all hall
         have hx : (execOp a.eval o).run P w = .ok (.enter gf (cc.args.toList.map a.eval ++ vs).toArray) w := by
          unfold execOp
          simp only [ho, resolve, hcal, Deferred.ofValue, e2, Sem.run_bind, Sem.run_pure, Result.andThen_ok, invoke]
          rw [enters_run hen]
          congr 2
          apply Array.toList_inj.1
          simp
         unfold Oper.wp
         rw [hx, Oper.upon_enter]
         refine (hcs _ _ _ _ _ _ hr (fun p hp => hobl p (List.mem_append_left _ hp)) ρ wc w _ ((h.sub hs).reth hlt) hlt hn hargs).mono ?_
         rintro e w' ⟨v, ρ', wc', rfl, hv, hS, hE⟩
         obtain ⟨k1, k2⟩ := h.frame hs hf hS hE hrc
         exact hK ρ' wc' w' v (fixB_ok (fun p hp => hobl p (List.mem_append_right _ hp)) hv) k1 k2
        ·cases hcall
       ·cases hcall
      ·cases hcall
     ·cases hcall
    ·cases he
   ·cases he
  ·cases he
 ·split at he
  ·rename_i x ps hsym
   cases he
   obtain ⟨v, h1, h2⟩ := symS_ok (P := P) (w := w) hg hsym (fun p hp => hobl p (List.mem_append_left _ hp))
   unfold Oper.wp
   rw [h1, Oper.upon_value]
   exact hK ρ wc w v (fixB_ok (fun p hp => hobl p (List.mem_append_right _ hp)) h2) h (Evo.refl _ _ _ _ _)
  ·split at he
   ·rename_i x wr c' heff
    split at he
    ·cases he
     exact effS_ok h hs hg heff hn fun ρ' w' v h1 h2 h3 => hK ρ' wc w' v h1 h2 h3
    ·cases he
   ·cases he
end
/-! ### slots -/
def putT (tm : List (Nat × SV)) (d : Option Tmp) (x : SV) : List (Nat × SV) :=
 match d with
 | some t => (t, x) :: tm
 | none => tm
def dstOk (n : Nat) (d : Option Tmp) : Bool :=
 match d with
 | some t => Nat.blt t n
 | none => true
theorem TSat.put {D : Den} {ρ : Nm} {w : World} {n : Nat} {tm : List (Nat × SV)} {a : Act} (h : TSat D ρ w n tm a) {d : Option Tmp} (hd : dstOk n d = true) {x : SV} {v : Value} (hv : denV D ρ w x v) :
  TSat D ρ w n (putT tm d x) (a.put d v) := by
 cases d with
 | none => exact h
 | some t =>
   have ht : t < a.tmps.size := by rw [h.size]; exact Nat.blt_eq ▸ (show Nat.blt t n = true from hd)
   refine ⟨by simp [Act.put, h.size], fun s y hs => ?_⟩
   unfold putT at hs
   dsimp only at hs
   rw [lookup_cons] at hs
   show ∃ v', (a.tmps.setIfInBounds t v)[s]? = some v' ∧ _
   by_cases e : s = t
   ·rw [if_pos e] at hs
    cases hs
    subst e
    exact ⟨v, by simp [ht], hv⟩
   ·rw [if_neg e] at hs
    obtain ⟨v', h1, h2⟩ := h.at_ s y hs
    exact ⟨v', by rw [Array.getElem?_setIfInBounds, if_neg (fun h => e h.symm)]; exact h1, h2⟩
def wantS (ops : Array Oper) (o : Oper) (tm : List (Nat × SV)) (orc : List (Option Bool)) : Option (Bool × List Prop × List (Option Bool)) :=
 match o.guard with
 | none => some (true, [], orc)
 | some (j, want) => match (ops[j]?).bind (·.dst) with
   | some d => match tm.lookup d with
     | some (.a (.one (.val (.bool b)))) => some (b == want, [], orc)
     | some (.tup _) => some (false, [], orc)
     | _ => none
   | none => none
theorem wantS_ok {D : Den} {ρ : Nm} {w : World} {n : Nat} {tm : List (Nat × SV)} {a : Act} (h : TSat D ρ w n tm a) {ops : Array Oper} {o : Oper} {orc orc' : List (Option Bool)} {b : Bool} {ps : List Prop}
  (hw : wantS ops o tm orc = some (b, ps, orc')) (hps : ∀ p ∈ ps, p) : Region.wanted o (yielded ops a.tmps) = b := by
 unfold wantS at hw
 unfold Region.wanted
 split at hw
 ·rename_i hg
  cases hw
  rw [hg]
 ·rename_i j want hg
  rw [hg]
  dsimp only
  split at hw
  ·rename_i d hd
   split at hw
   ·rename_i b' hb
    obtain ⟨v, hv, hden⟩ := h.at_ d _ hb
    have hvb : v = .bool b' := by simpa using hden.1
    subst hvb
    cases hw
    unfold yielded
    rw [hd, Option.bind_some, hv]
    cases b' <;> cases want <;> rfl
   ·rename_i l hb
    cases hw
    obtain ⟨v, hv, vs, rfl, _⟩ := h.at_ d _ hb
    unfold yielded
    rw [hd, Option.bind_some, hv]
    rfl
   ·cases hw
  ·cases hw
end
end Go.Ev
namespace Go.Proofs.YtdgodcgdlfjpaaaGreatDoor
open Go.RowKit Go.Mono
theorem r3diff_digits (s : Bool) (p q : Option Addr) (n m c1 c2 : Nat) (f g : Nat → Int) (w : World) (h1 : SlF w (.slice p n c1) n f) (h2 : SlF w (.slice q m c2) m g) (d1 : Digs f n) (d2 : Digs g m) (hn0 : 0 < n) (hm0 : 0 < m) (hn6 : n ≤ 100000) (hge : vf g m ≤ vf f n) :
  Calls Tryz.prog 274 #[.agg #[.bool s, .slice p n c1], .agg #[.bool s, .slice q m c2]] w fun e w' => ∃ p k c h, e = .returned (.agg #[.bool (s && decide (0 < vf f n - vf g m)), .slice p k c]) ∧ SlF w' (.slice p k c) k h ∧ Digs h k ∧ vf h k = vf f n - vf g m ∧ k ≤ n ∧ Below w.heap.size w w' := by
 obtain ⟨hc1, hn1, hx1⟩ := h1.opens
 obtain ⟨hc2, hn2, _⟩ := h2.opens
 have hmn : m ≤ n := d2.len_le d1 hge
 have hn0' : ((n : Int) == 0) = false := by simp; omega
 have hm0' : ((m : Int) == 0) = false := by simp; omega
 have hless := fun (W : World) (hW : Below w.heap.size w W) => r3less_ok p q n m c1 c2 f g W (h1.ext (.of_below hW)) (h2.ext (.of_below hW)) d1 d2
 rw [decide_eq_false (by omega)] at hless
 obtain ⟨sg, hsg⟩ : ∃ sg : Bool, (s && decide (0 < vf f n - vf g m)) = sg := ⟨_, rfl⟩
 rw [hsg]
 go_enter Tryz.func274, Tryz.ntmps274
 go_wp2_with fail
 refine boxes3c fun W hB hs b0 b1 b2 => ?_
 refine (hless W hB).mono ?_
 rintro e Wl ⟨rfl, kl, rfl⟩
 have hBl := below_drewN hB kl
 replace b0 : Box (W.drewN kl) w.heap.size 35 #[.bool s, .slice p n c1] := ⟨b0.blk⟩
 replace b1 : Box (W.drewN kl) (w.heap.size + 1) 35 #[.bool s, .slice q m c2] := ⟨b1.blk⟩
 replace b2 : Box (W.drewN kl) (w.heap.size + 1 + 1) 35 #[.bool false, .slice none 0 0] := ⟨b2.blk⟩
 have hsl : w.heap.size + 1 + 1 + 1 ≤ (W.drewN kl).heap.size := hs
 clear hless hB hs
 generalize W.drewN kl = V at *
 go_wp2
 go_loopw [5, 6, 7] (fun v x y wr => ∃ (i : Nat) (c : Int) (h : Nat → Int), i ≤ n ∧ x = .int .i64 c ∧ y = .int .i64 (i : Int) ∧ OwnF wr (w.heap.size + 1 + 1 + 1) v i h ∧ DifI f (xt g m) i h c ∧ Box wr w.heap.size 35 #[.bool s, .slice p n c1] ∧ Box wr (w.heap.size + 1) 35 #[.bool s, .slice q m c2] ∧ Box wr (w.heap.size + 1 + 1) 35 #[.bool false, .slice none 0 0] ∧ Below w.heap.size w wr ∧ w.heap.size + 1 + 1 + 1 ≤ wr.heap.size) (fun _ _ y _ => (n - intOf y).toNat)
 case atStart => exact ⟨0, 0, _, Nat.zero_le _, rfl, rfl, OwnF.nil _ _ _, DifI.start _ _ (fun _ => 0), b0, b1, b2, hBl, hsl⟩
 case round =>
  clear b0 b1 b2 hBl hsl
  obtain ⟨i, c, h, hi, rfl, rfl, ho, hI, b0, b1, b2, hB, hs⟩ := hrel
  obtain ⟨pv, cv, rfl⟩ := ho.shape
  by_cases hlt : i < n
  ·have hlt' : (i : Int) < n := by omega
   obtain ⟨b, off, rfl, hb, hcell⟩ := hx1 hn0
   have hci := hcell i hlt
   have x0 := d1.lo i hlt
   have x1 := d1.hi i hlt
   have y0 := xt_lo d2.lo i
   have y1 := xt_hi d2.hi i
   have hat2 := fun X (hX : Below w.heap.size w X) => r3at_ok q m c2 i g X (h2.ext (.of_below hX))
   have hbel := fun e => hI.below x0 y1 e
   have habo := fun e => hI.above x1 y0 e
   have k0 := hI.c0
   have k1 := hI.c1
   generalize hX : f i = x at *
   generalize hY : xt g m i = y at *
   have cb0 := b0.cell
   have lb0 := b0.lt
   have fb0 := b0.frozen
   have cb1 := b1.cell
   have lb1 := b1.lt
   have fb1 := b1.frozen
   have hck : ∀ w', Below w.heap.size w w' → w'.cell? ⟨b, off + i, none⟩ = some (.int .i64 x) := fun w' hw' => (hw'.cell (p := ⟨b, off + i, none⟩) hb).trans hci
   clear hcell hci hI
   by_cases hneg : x - y - c < 0
   all_goals
    go_wp2
    refine wp_region_held_drew (S := fun w' => (∀ i, w'.cell? ⟨w.heap.size, i, none⟩ = (#[.bool s, .slice (some ⟨b, off, none⟩) n c1] : Array Value)[i]?) ∧ (∀ i, w'.cell? ⟨w.heap.size + 1, i, none⟩ = (#[.bool s, .slice q m c2] : Array Value)[i]?) ∧ w'.cell? ⟨b, off + i, none⟩ = some (.int .i64 x) ∧ Below w.heap.size w w') (by as_aux_lemma => kernel_rfl) ⟨cb0, cb1, hck _ hB.drew, hB.drew⟩ (fun hHeld => ?_)
    have hoX := ho.below (Below.refl wr.heap.size wr).drew
    have bX0 := b0.drew
    have bX1 := b1.drew
    have bX2 := b2.drew
    have hsX : w.heap.size + 1 + 1 + 1 ≤ wr.drew.heap.size := hs
    generalize wr.drew = X0 at *
    refine tk 0 (some 45) ?_
    refine tk 1 (some 46) ?_
    refine tk 2 (some 47) ?_
    refine tk 3 (some 48) ?_
    refine tk 4 (some 49) ?_
    refine tk 5 (some 50) ?_
    refine tk 6 (some 51) ?_
    refine tk 7 (some 52) ?_
    refine tk 10 (some 55) ?_
    refine Mono.stc 8 (some 53) (hat2 X0 hHeld.2.2.2) (fun e X2 hR => ?_)
    obtain ⟨rfl, rfl⟩ := hR
    refine ⟨(hHeld), fun hHeld => Mono.pt ?_⟩
    refine tk 9 (some 54) ?_
    refine tk 11 (some 56) ?_
    refine tk 12 (some 8) ?_
    refine wpAnyH_done (by as_aux_lemma => kernel_rfl) ?_ _
    have hB2 := hHeld.2.2.2
    clear hHeld hat2 cb0 cb1 fb0 fb1 lb0 lb1 b0 b1 b2 ho hck
    rw [wrapId (z := x - y) (by omega) (by omega), wrapId (z := x - y - c) (by omega) (by omega)]
    go_wp2_with (at_builtin; (refine wpList_append_ints _ rfl _ _ 33 rfl Tryz.underlying33 infoInt (w.heap.size + 1 + 1 + 1) (.slice pv i cv) i h rfl ?_ (some ⟨X2.heap.size, 0, none⟩) 1 1 (fun _ => if x - y - c < 0 then x - y - c + 1000000000 else x - y - c) rfl ?_ ?_ ?_ ?_); (exact (hoX.below (belowAlloc (Below.refl _ _) _))); (exact (slF_lit X2 _ _ (by split <;> omega))); omega; (simp; omega); (intro v' w1 ho' hg))
    obtain ⟨p', c', rfl⟩ := ho'.shape
    have hz := ((Below.refl (w.heap.size + 1 + 1 + 1) X2).alloc hsX (.cells _ 3)).grown hg (by simp; omega) (fun k hk => hoX.low k hk)
    replace bX0 := bX0.low hz (by omega)
    replace bX1 := bX1.low hz (by omega)
    replace bX2 := bX2.low hz (by omega)
    have hB3 := hB2.trans (hz.mono (by omega))
    have hs3 := hz.size
    clear hoX hB2 hg hz hB hs
    go_wp2
    go_roundw
    case rel =>
     refine ⟨i + 1, _, _, hlt, rfl, by simp, ho'.congr (f' := fun j => if j = i then (if x - y - c < 0 then x - y - c + 1000000000 else x - y - c) else h j) (fun j hj => ?_), ?_, bX0, bX1, bX2, hB3, by omega⟩
     ·by_cases hji : j = i
      ·subst hji; simp
      ·rw [if_pos (by omega), if_neg hji]
     ·by_cases hq : x - y - c < 0
      ·simp only [if_pos hq]
       first | (exfalso; omega) | exact hbel hq
      ·simp only [if_neg hq]
       first | (exfalso; omega) | exact habo (by omega)
    case measure => simp [intOf]; omega
  ·obtain rfl : i = n := by omega
   have hval := hI.done hmn hge
   have hw1 : ¬ (i : Int) < i := by omega
   have cb0 := b0.cell
   have lb0 := b0.lt
   have fb0 := b0.frozen
   have cb1 := b1.cell
   have lb1 := b1.lt
   have fb1 := b1.frozen
   have hmm := fun W1 hW1 => r3made_ok s pv i cv h W1 ((ho.sl (by omega)).ext hW1) (by omega) hI.lo hI.hi
   rw [hval, hsg] at hmm
   replace hval := Lib.hid hval
   replace hsg := Lib.hid hsg
   clear hI ho hx1
   go_wp2_with fail
   refine (hmm wr (Ext.refl _)).mono ?_
   rintro e W1 ⟨v', rfl, ho2, d3, e3, hb⟩
   replace b2 := b2.below hb
   have hB1 := belowCall hB hb
   obtain ⟨p', c', rfl⟩ := ho2.shape
   have hsl := ho2.sl (by have := trimN_le h i; omega)
   clear hmm ho2 b0 b1 cb0 cb1 fb0 fb1 lb0 lb1 hB
   go_wp2_with first | (refine wpList_store_box rfl 35 _ _ rfl (w.heap.size + 1 + 1) 0 35 _ #[.bool sg, .slice p' (trimN h i) c'] #[.bool sg, .slice p' (trimN h i) c'] rfl rfl b2 sizeLong (Nat.le_of_ble_eq_true rfl) (long_ones _ _ _ _) (whole_new rfl) ?_; intro W2 hk b4)
   have hb2 := hk.below hB1 (by omega) hB1.size
   refine bodyPost_ret (b4.results rfl _ _ rfl Tryz.underlying35 rfl sizeLong) rfl ⟨p', _, c', h, rfl, hsl.ext (hk.ext b2 (by decide)), d3, e3, trimN_le h i, hb2⟩
end Go.Proofs.YtdgodcgdlfjpaaaGreatDoor
namespace Go.Ev
open Go.RowKit Go.Mono
section
structure Stt where
 tm : List (Nat × SV)
 bk : List (Nat × Blk)
 c : Nat
 th : Nat
 orc : List (Option Bool)
def seqS (P : Program) (cs : CallS) (ops : Array Oper) (n : Nat) : List Oper → Stt → Option (Stt × List Prop)
 | [], s => some (s, [])
 | o :: rest, s => match wantS ops o s.tm s.orc with
   | some (true, ps, orc) => if dstOk n o.dst then (match opS P cs o (getS s.tm) s.bk s.th s.c orc with
     | some (r, cl) => (match seqS P cs ops n rest ⟨putT s.tm o.dst r.v, r.wr ++ s.bk, r.c, if cl then r.c else s.th, r.orc⟩ with
       | some (s', q) => some (s', ps ++ (r.obl ++ q))
       | none => none)
     | none => none) else none
   | some (false, ps, orc) => if dstOk n o.dst then (match seqS P cs ops n rest ⟨putT s.tm o.dst (.tup []), s.bk, s.c, s.th, orc⟩ with
     | some (s', q) => some (s', ps ++ q)
     | none => none) else none
   | none => none
section
variable {D : Den} {P : Program} {w0 : World} {X : Nat → Prop} {cs : CallS}
theorem opS_th {o : Oper} {get : Operand → Option SV} {bk : List (Nat × Blk)} {th t c : Nat} {orc : List (Option Bool)} {r : OpR} (he : opS P cs o get bk th c orc = some (r, true)) : opS P cs o get bk t c orc = some (r, true) := by
 unfold opS at he ⊢
 split at he
 ·exact he
 ·split at he
  ·cases he
  ·split at he
   ·split at he
    ·cases he
    ·cases he
   ·cases he
theorem seqS_cc {ops : Array Oper} {n : Nat} : ∀ {l : List Oper} {s s' : Stt} {q : List Prop}, seqS P cs ops n l s = some (s', q) → s.c ≤ s'.c
 | [], s, s', q, h => by cases h; exact Nat.le_refl _
 | o :: rest, s, s', q, h => by
   unfold seqS at h
   split at h
   ·split at h
    ·split at h
     ·rename_i r cl hr
      split at h
      ·rename_i s2 q2 h2
       cases h
       exact Nat.le_trans (opS_cc hr) (seqS_cc h2)
      ·cases h
     ·cases h
    ·cases h
   ·split at h
    ·split at h
     ·rename_i s2 q2 h2
      cases h
      have k := seqS_cc h2
      exact k
     ·cases h
    ·cases h
   ·cases h
theorem undef_den {ρ : Nm} {w : World} : denV D ρ w (.tup []) undef := ⟨[], rfl, rfl⟩
theorem seqS_ok (hcs : CallOk D P w0 X cs) {ops : Array Oper} {n : Nat} {Q : Exit → Act → World → Prop} : ∀ {l : List Oper} {s s' : Stt} {q : List Prop} {ρ : Nm} {wc w : World} {a : Act}, seqS P cs ops n l s = some (s', q) → (∀ p ∈ q, p) →
  Sat D w0 X s.th ρ wc w s.bk → TSat D ρ wc n s.tm a → (∀ k, s.c ≤ k → k < s'.c → ρ k = none) →
  (∀ ρ' wc' w' a', Sat D w0 X s'.th ρ' wc' w' s'.bk → TSat D ρ' wc' n s'.tm a' → a'.defers = a.defers → Evo ρ wc w s.bk s.c s'.c ρ' wc' w' s'.bk → Q .normal a' w') → wpList P ops Q l a w
 | [], s, s', q, ρ, wc, w, a, h, hq, hS, hT, hn, hK => by
   cases h
   exact hK ρ wc w a hS hT rfl (Evo.refl _ _ _ _ _)
 | o :: rest, s, s', q, ρ, wc, w, a, h, hq, hS, hT, hn, hK => by
   unfold seqS at h
   unfold wpList
   split at h
   ·rename_i ps orc hw
    split at h
    ·rename_i hd
     split at h
     ·rename_i r cl hr
      split at h
      ·rename_i s2 q2 h2
       cases h
       rw [if_pos (wantS_ok hT hw fun p hp => hq p (by simp [hp]))]
       left
       have hcc := seqS_cc h2
       have hrc := opS_cc hr
       have step : ∀ (th : Nat), opS P cs o (getS s.tm) s.bk th s.c orc = some (r, cl) → Sat D w0 X th ρ wc w s.bk → (cl = true → (∀ k b, s.bk.lookup k = some b → k < th) ∧ r.c ≤ th) → th = (if cl then r.c else s.th) → o.wp P a w (wpList P ops Q rest) Q := by
        intro th hr hS hcl hth
        refine opS_ok hcs hS (fun k b hk => hk) (fun x z hz => hT.get hz) hr (fun p hp => hq p (by simp [hp])) (fun k h1 h2 => hn k h1 (by dsimp only at hcc; omega)) hcl ?_
        intro ρ' wc' w' v hv hS' hE
        subst hth
        refine seqS_ok hcs h2 (fun p hp => hq p (by simp [hp])) hS' ((hT.mono hE.rho hE.ext).put hd hv) (fun k h1 h2 => ?_) ?_
        ·dsimp only at h1
         rw [hE.dom k (.inr h1)]
         exact hn k (by omega) h2
        ·intro ρ2 wc2 w2 a2 k1 k2 k3 k4
         refine hK ρ2 wc2 w2 a2 k1 k2 (k3.trans ?_) (hE.trans k4 hS.named)
         cases o.dst <;> rfl
       cases cl with
       | false => exact step s.th hr hS (fun hh => by cases hh) (by simp)
       | true =>
         have hids := opS_ids hr
         exact step r.c (opS_th hr) (hS.reth fun k b hk => Nat.lt_of_lt_of_le (hids k b hk) hrc) (fun _ => ⟨fun k b hk => Nat.lt_of_lt_of_le (hids k b hk) hrc, Nat.le_refl _⟩) (by simp)
      ·cases h
     ·cases h
    ·cases h
   ·rename_i ps orc hw
    split at h
    ·rename_i hd
     split at h
     ·rename_i s2 q2 h2
      cases h
      rw [if_neg (by rw [wantS_ok hT hw fun p hp => hq p (by simp [hp])]; simp)]
      refine seqS_ok hcs h2 (fun p hp => hq p (by simp [hp])) hS (hT.put hd undef_den) hn ?_
      intro ρ2 wc2 w2 a2 k1 k2 k3 k4
      refine hK ρ2 wc2 w2 a2 k1 k2 (k3.trans ?_) k4
      cases o.dst <;> rfl
     ·cases h
    ·cases h
   ·cases h
end
/-! ### any order: lists of what was written, by those that came up -/
def accAt {α : Type} (ws : List (List (Nat × α))) (L : Nat → Bool) (l0 : List (Nat × α)) : Nat → List (Nat × α)
 | 0 => l0
 | m + 1 => (if L m then ws.getD m [] else []) ++ accAt ws L l0 m
section
variable {α : Type} {ws : List (List (Nat × α))} {l0 : List (Nat × α)}
abbrev wrote (ws : List (List (Nat × α))) (j k : Nat) : Prop := ((ws.getD j []).lookup k).isSome = true
theorem accAt_cons (x : List (Nat × α)) (L : Nat → Bool) : ∀ m, accAt (x :: ws) L l0 (m + 1) = accAt ws (fun j => L (j + 1)) ((if L 0 then x else []) ++ l0) m
 | 0 => rfl
 | m + 1 => by
   have ih := accAt_cons x L m
   show (if L (m + 1) then (x :: ws).getD (m + 1) [] else []) ++ accAt (x :: ws) L l0 (m + 1) = _
   rw [ih]
   rfl
theorem acc_step (L : Nat → Bool) (m k : Nat) : (accAt ws L l0 (m + 1)).lookup k = if L m = true ∧ wrote ws m k then (ws.getD m []).lookup k else (accAt ws L l0 m).lookup k := by
 show ((if L m then ws.getD m [] else []) ++ accAt ws L l0 m).lookup k = _
 rw [lookup_append]
 unfold wrote
 cases hL : L m with
 | false => simp
 | true =>
   rw [if_pos rfl]
   generalize ws.getD m [] = x
   cases hw : x.lookup k with
   | none => rw [if_neg (by simp)]; rfl
   | some b => rw [if_pos ⟨rfl, rfl⟩]; rfl
theorem acc_read {L : Nat → Bool} {i k : Nat} (hi : L i = false) (hlo : ∀ j, j < i → wrote ws j k → L j = true) (hhi : ∀ j, i < j → wrote ws j k → L j = false) :
  ∀ N, i ≤ N → (accAt ws L l0 N).lookup k = (accAt ws (fun _ => true) l0 i).lookup k := by
 have lo : ∀ m, m ≤ i → (accAt ws L l0 m).lookup k = (accAt ws (fun _ => true) l0 m).lookup k := by
  intro m
  induction m with
  | zero => intro _; rfl
  | succ m ih =>
    intro hm
    rw [acc_step, acc_step, ih (by omega)]
    by_cases hw : wrote ws m k
    ·rw [if_pos ⟨hlo m (by omega) hw, hw⟩, if_pos ⟨rfl, hw⟩]
    ·rw [if_neg (fun h => hw h.2), if_neg (fun h => hw h.2)]
 intro N
 induction N with
 | zero => intro hN; obtain rfl : i = 0 := by omega
           exact lo 0 (by omega)
 | succ N ih =>
   intro hN
   by_cases he : i = N + 1
   ·subst he; exact lo _ (Nat.le_refl _)
   ·rw [acc_step, if_neg, ih (by omega)]
    rintro ⟨h1, h2⟩
    by_cases h3 : i = N
    ·subst h3; rw [hi] at h1; cases h1
    ·rw [hhi N (by omega) h2] at h1; cases h1
theorem acc_add {L : Nat → Bool} {i k : Nat} (hi : L i = false) (hhi : ∀ j, i < j → wrote ws i k → wrote ws j k → L j = false) :
  ∀ N, i < N → (accAt ws (fun j => j == i || L j) l0 N).lookup k = ((ws.getD i []).lookup k).or ((accAt ws L l0 N).lookup k) := by
 have lo : ∀ m, m ≤ i → (accAt ws (fun j => j == i || L j) l0 m).lookup k = (accAt ws L l0 m).lookup k := by
  intro m
  induction m with
  | zero => intro _; rfl
  | succ m ih =>
    intro hm
    have e : (m == i) = false := by simp; omega
    rw [acc_step, acc_step, ih (by omega)]
    simp only [e, Bool.false_or]
 intro N
 induction N with
 | zero => intro h; omega
 | succ N ih =>
   intro hN
   by_cases he : i = N
   ·subst he
    rw [acc_step, acc_step, lo i (Nat.le_refl _), if_neg (show ¬ (L i = true ∧ wrote ws i k) from fun h => by rw [hi] at h; cases h.1)]
    by_cases hw : wrote ws i k
    ·rw [if_pos ⟨by simp, hw⟩]
     obtain ⟨b, hb⟩ := Option.isSome_iff_exists.1 hw
     rw [hb]; rfl
    ·rw [if_neg (fun h => hw h.2)]
     have : (ws.getD i []).lookup k = none := by
      unfold wrote at hw
      cases h : (ws.getD i []).lookup k with
      | none => rfl
      | some b => rw [h] at hw; simp at hw
     rw [this]; rfl
   ·have e : (N == i) = false := by simp; omega
    rw [acc_step, acc_step, ih (by omega)]
    simp only [e, Bool.false_or]
    by_cases hw : L N = true ∧ wrote ws N k
    ·rw [if_pos hw, if_pos hw]
     have : (ws.getD i []).lookup k = none := by
      cases h : (ws.getD i []).lookup k with
      | none => rfl
      | some b =>
        have := hhi N (by omega) (by unfold wrote; rw [h]; rfl) hw.2
        rw [this] at hw
        cases hw.1
     rw [this, Option.none_or]
    ·rw [if_neg hw, if_neg hw]
end
end
end Go.Ev
namespace Go.Proofs.YtdgodcgdlfjpaaaGreatDoor
open Go.RowKit Go.Mono
theorem r3diff_ge {m1 m2 : Nat} {v1 v2 : Value} {z y : Int} (w : World) (h1 : LgV m1 w v1 z) (h2 : LgV m2 w v2 y) (hz : z ≠ 0) (hy : y ≠ 0) (hs : decide (z < 0) = decide (y < 0)) (hge : y.natAbs ≤ z.natAbs) (hm1 : m1 ≤ 100000) :
  Calls Tryz.prog 274 #[v1, v2] w fun e w' => ∃ v, e = .returned v ∧ LgV m1 w' v (z - y) ∧ Below w.heap.size w w' := by
 obtain ⟨p, n, c, f, rfl, s1, d1, e1, l1⟩ := h1
 obtain ⟨q, m, c', g, rfl, s2, d2, e2, l2⟩ := h2
 have hn0 : 0 < n := d1.pos.1 (by omega)
 have hm0 : 0 < m := d2.pos.1 (by omega)
 have hsg : (z < 0 ↔ y < 0) := by simpa using hs
 rw [← hs]
 refine (r3diff_digits _ p q n m c c' f g w s1 s2 d1 d2 hn0 hm0 (by omega) (by omega)).mono ?_
 rintro e w' ⟨p', k, c2, h, rfl, hsl, hd, hv, hk, hb⟩
 rw [e1, e2] at hv ⊢
 have hneg : (decide (z < 0) && decide (0 < (z.natAbs : Int) - y.natAbs)) = decide (z - y < 0) := by
  rw [Bool.eq_iff_iff, Bool.and_eq_true, decide_eq_true_eq, decide_eq_true_eq, decide_eq_true_eq]; omega
 rw [hneg]
 exact ⟨_, rfl, ⟨p', k, c2, h, rfl, hsl, hd, by omega, by omega⟩, hb⟩
theorem r3diff_lt {m1 m2 : Nat} {v1 v2 : Value} {z y : Int} (w : World) (h1 : LgV m1 w v1 z) (h2 : LgV m2 w v2 y) (hz : z ≠ 0) (hy : y ≠ 0) (hs : decide (z < 0) = decide (y < 0)) (hlt : z.natAbs < y.natAbs) (hm2 : m2 ≤ 100000) :
  Calls Tryz.prog 274 #[v1, v2] w fun e w' => ∃ v, e = .returned v ∧ LgV m2 w' v (z - y) ∧ Below w.heap.size w w' := by
 have hd := fun (W : World) (hW : Below w.heap.size w W) => r3diff_ge W (h2.below hW) (h1.below hW) hy hz hs.symm (by omega) hm2
 have hmi := fun (W : World) (v : Value) (h : LgV m2 W v (y - z)) => r3minus_ok W h hm2
 obtain ⟨p, n, c, f, rfl, s1, d1, e1, l1⟩ := h1
 obtain ⟨q, m, c', g, rfl, s2, d2, e2, l2⟩ := h2
 have hn0 : 0 < n := d1.pos.1 (by omega)
 have hm0 : 0 < m := d2.pos.1 (by omega)
 have hn0' : ((n : Int) == 0) = false := by simp; omega
 have hm0' : ((m : Int) == 0) = false := by simp; omega
 have hless := fun (W : World) (hW : Below w.heap.size w W) => r3less_ok p q n m c c' f g W (s1.ext (.of_below hW)) (s2.ext (.of_below hW)) d1 d2
 rw [decide_eq_true (by omega)] at hless
 rw [← hs] at hd ⊢
 clear hs
 generalize decide (z < 0) = s at *
 go_enter Tryz.func274, Tryz.ntmps274
 go_wp2_with fail
 refine boxes3c fun W hB hs b0 b1 b2 => ?_
 refine (hless W hB).mono ?_
 rintro e Wl ⟨rfl, kl, rfl⟩
 have hBl := below_drewN hB kl
 replace b0 : Box (W.drewN kl) w.heap.size 35 #[.bool s, .slice p n c] := ⟨b0.blk⟩
 replace b1 : Box (W.drewN kl) (w.heap.size + 1) 35 #[.bool s, .slice q m c'] := ⟨b1.blk⟩
 replace b2 : Box (W.drewN kl) (w.heap.size + 1 + 1) 35 #[.bool false, .slice none 0 0] := ⟨b2.blk⟩
 have hsl : w.heap.size + 1 + 1 + 1 ≤ (W.drewN kl).heap.size := hs
 clear hless hB hs
 generalize W.drewN kl = V at *
 have cb0 := b0.cell
 have lb0 := b0.lt
 have fb0 := b0.frozen
 have cb1 := b1.cell
 have lb1 := b1.lt
 have fb1 := b1.frozen
 go_wp2_with fail
 refine (hd V hBl).mono ?_
 rintro e W1 ⟨v', rfl, hl1, hb1⟩
 replace b2 := b2.below hb1
 have hB1 := belowCall hBl hb1
 have hs1 := hb1.size
 clear hd cb0 cb1 fb0 fb1 lb0 lb1 b0 b1
 go_wp2_with fail
 refine (hmi W1 v' hl1).mono ?_
 rintro e W2 ⟨v2, rfl, hl2, hb2⟩
 replace b2 := b2.below hb2
 have hB2 := belowCall hB1 hb2
 obtain ⟨C, rfl, hCs, hCo⟩ := hl2.cells
 have hiC : (Tryz.prog.info? 35).map (·.size) = some C.size := by rw [hCs]; exact sizeLong
 clear hmi hl1 hb1 hb2 hB1
 go_wp2_with first | (refine wpList_store_box rfl 35 _ _ rfl (w.heap.size + 1 + 1) 0 35 _ C C rfl rfl b2 hiC (by rw [hCs]; exact Nat.le_of_ble_eq_true rfl) hCo (whole_new (by rw [hCs]; rfl)) ?_; intro W3 hk b4)
 have hb3 := hk.below hB2 (by omega) hB2.size
 refine bodyPost_ret (b4.results rfl _ _ rfl Tryz.underlying35 rfl hiC) rfl ⟨_, rfl, ?_, hb3⟩
 rw [show z - y = -(y - z) by omega]
 exact hl2.ext (hk.ext b2 (by decide))
theorem r3diff_same {m1 m2 : Nat} {v1 v2 : Value} {z y : Int} (w : World) (h1 : LgV m1 w v1 z) (h2 : LgV m2 w v2 y) (hz : z ≠ 0) (hy : y ≠ 0) (hs : decide (z < 0) = decide (y < 0)) (hm1 : m1 ≤ 100000) (hm2 : m2 ≤ 100000) :
  Calls Tryz.prog 274 #[v1, v2] w fun e w' => ∃ v, e = .returned v ∧ LgV (max m1 m2) w' v (z - y) ∧ Below w.heap.size w w' := by
 by_cases h : y.natAbs ≤ z.natAbs
 ·refine (r3diff_ge w h1 h2 hz hy hs h hm1).mono ?_
  rintro e w' ⟨v, rfl, hl, hb⟩
  exact ⟨v, rfl, hl.mono (by omega), hb⟩
 ·refine (r3diff_lt w h1 h2 hz hy hs (by omega) hm2).mono ?_
  rintro e w' ⟨v, rfl, hl, hb⟩
  exact ⟨v, rfl, hl.mono (by omega), hb⟩
theorem r3sum_same {m1 m2 : Nat} {v1 v2 : Value} {z y : Int} (w : World) (h1 : LgV m1 w v1 z) (h2 : LgV m2 w v2 y) (hz : z ≠ 0) (hy : y ≠ 0) (hs : decide (z < 0) = decide (y < 0)) (hm1 : m1 ≤ 100000) (hm2 : m2 ≤ 100000) :
  Calls Tryz.prog 246 #[v1, v2] w fun e w' => ∃ v, e = .returned v ∧ LgV (max m1 m2 + 1) w' v (z + y) ∧ Below w.heap.size w w' := by
 obtain ⟨p, n, c, f, rfl, s1, d1, e1, l1⟩ := h1
 obtain ⟨q, m, c', g, rfl, s2, d2, e2, l2⟩ := h2
 have hn0 : 0 < n := d1.pos.1 (by omega)
 have hm0 : 0 < m := d2.pos.1 (by omega)
 have hsg : (z < 0 ↔ y < 0) := by simpa using hs
 rw [← hs]
 refine (r3sum_digits _ p q n m c c' f g w s1 s2 d1 d2 hn0 hm0 (by omega) (by omega)).mono ?_
 rintro e w' ⟨p', k, c2, h, rfl, hsl, hd, hv, hk, hb⟩
 rw [e1, e2] at hv
 have hneg : decide (z < 0) = decide (z + y < 0) := by rw [decide_eq_decide]; omega
 rw [hneg]
 exact ⟨_, rfl, ⟨p', k, c2, h, rfl, hsl, hd, by omega, by omega⟩, hb⟩
end Go.Proofs.YtdgodcgdlfjpaaaGreatDoor
namespace Go.Ev
open Go.RowKit Go.Mono
structure Rec where
 dst : Option Tmp
 v : SV
 wr : List (Nat × Blk)
 tR : List Nat
 bR : List Nat
 c0 : Nat
 c1 : Nat
def idsU : U → List Nat
 | .ptr k _ => [k]
 | .slc k _ _ _ => [k]
 | .clo _ caps => caps.map (·.1)
 | _ => []
def idsA (x : SA) : List Nat := (unitsA x).flatMap idsU
def reach (bk : List (Nat × Blk)) : Nat → List Nat → List Nat → List Nat
 | 0, _, seen => seen
 | _ + 1, [], seen => seen
 | n + 1, k :: r, seen => if seen.contains k then reach bk n r seen else
   match bk.lookup k with
   | some b => reach bk n (b.cells.flatMap idsU ++ r) (k :: seen)
   | none => reach bk n r seen
def blocksOf (P : Program) (o : Oper) (get : Operand → Option SV) (bk : List (Nat × Blk)) : List Nat :=
 match o.op with
 | .load _ x => match get x with
   | some (.a (.one (.ptr k _))) => [k]
   | _ => []
 | .store _ x _ => match get x with
   | some (.a (.one (.ptr k _))) => [k]
   | _ => []
 | .call _ => match callOf P o get with
   | some (_, args) => reach bk 1000 (args.flatMap idsA) []
   | none => []
 | _ => []
def tmpsOf (ops : Array Oper) (o : Oper) : List Nat :=
 (o.op.operands.toList.filterMap fun | .tmp t => some t | _ => none) ++ (match o.guard with
  | some (j, _) => ((ops[j]?).bind (·.dst)).toList
  | none => [])
def wT (r : Rec) : List (Nat × SV) :=
 match r.dst with
 | some d => [(d, r.v)]
 | none => []
def some_ {α : Type} (ks : List Nat) (l : List (Nat × α)) : List (Nat × α) := l.filter fun p => ks.contains p.1
theorem some_lookup {α : Type} (ks : List Nat) (k : Nat) : ∀ l : List (Nat × α), (some_ ks l).lookup k = if ks.contains k then l.lookup k else none
 | [] => by simp [some_]
 | (k', x) :: r => by
   have ih := some_lookup ks k r
   unfold some_ at ih ⊢
   rw [List.filter_cons]
   dsimp only
   by_cases h : ks.contains k'
   ·rw [if_pos h, lookup_cons, lookup_cons, ih]
    by_cases e : k = k'
    ·subst e; rw [if_pos rfl, if_pos rfl, if_pos h]
    ·rw [if_neg e, if_neg e]
   ·rw [if_neg h, ih, lookup_cons]
    by_cases e : k = k'
    ·subst e; rw [if_neg h, if_neg h]
    ·rw [if_neg e]
def recS (P : Program) (cs : CallS) (ops : Array Oper) (n : Nat) : List Oper → Stt → Option (List Rec × Stt × List Prop)
 | [], s => some ([], s, [])
 | o :: rest, s =>
   let tR := tmpsOf ops o
   let tmr := some_ tR s.tm
   let bR := blocksOf P o (getS tmr) s.bk
   match wantS ops o tmr s.orc with
   | some (true, ps, orc) => if dstOk n o.dst then (match opS P cs o (getS tmr) (some_ bR s.bk) s.th s.c orc with
     | some (r, _) => (match recS P cs ops n rest ⟨putT s.tm o.dst r.v, r.wr ++ s.bk, r.c, s.th, r.orc⟩ with
       | some (rs, s', q) => some (⟨o.dst, r.v, r.wr, tR, bR, s.c, r.c⟩ :: rs, s', ps ++ (r.obl ++ q))
       | none => none)
     | none => none) else none
   | some (false, ps, orc) => if dstOk n o.dst then (match recS P cs ops n rest ⟨putT s.tm o.dst (.tup []), s.bk, s.c, s.th, orc⟩ with
     | some (rs, s', q) => some (⟨o.dst, .tup [], [], tR, [], s.c, s.c⟩ :: rs, s', ps ++ q)
     | none => none) else none
   | none => none
def StepR (P : Program) (cs : CallS) (ops : Array Oper) (n th : Nat) (obl : List Prop) (tm : List (Nat × SV)) (bk : List (Nat × Blk)) (o : Oper) (r : Rec) : Prop :=
 dstOk n o.dst = true ∧ r.dst = o.dst ∧ ∃ orc orc' ps b, wantS ops o (some_ r.tR tm) orc = some (b, ps, orc') ∧ (∀ p ∈ ps, p ∈ obl) ∧
  ((b = true ∧ ∃ (x : OpR) (cl : Bool), opS P cs o (getS (some_ r.tR tm)) (some_ r.bR bk) th r.c0 orc' = some (x, cl) ∧ x.v = r.v ∧ x.wr = r.wr ∧ x.c = r.c1 ∧ ∀ p ∈ x.obl, p ∈ obl) ∨
   (b = false ∧ r.v = .tup [] ∧ r.wr = [] ∧ r.c1 = r.c0))
theorem StepR.more {P : Program} {cs : CallS} {ops : Array Oper} {n th : Nat} {obl obl' : List Prop} {tm : List (Nat × SV)} {bk : List (Nat × Blk)} {o : Oper} {r : Rec} (h : StepR P cs ops n th obl tm bk o r) (hs : ∀ p ∈ obl, p ∈ obl') :
  StepR P cs ops n th obl' tm bk o r := by
 obtain ⟨h1, h2, orc, orc', ps, b, h3, h4, h5⟩ := h
 refine ⟨h1, h2, orc, orc', ps, b, h3, fun p hp => hs p (h4 p hp), ?_⟩
 rcases h5 with ⟨e, x, cl, k1, k2, k3, k4, k5⟩ | h5
 ·exact .inl ⟨e, x, cl, k1, k2, k3, k4, fun p hp => hs p (k5 p hp)⟩
 ·exact .inr h5
theorem putT_wT (tm : List (Nat × SV)) (r : Rec) : putT tm r.dst r.v = wT r ++ tm := by
 unfold putT wT
 cases r.dst <;> rfl
def tt : Nat → Bool := fun _ => true
theorem accAt_head {α : Type} (x : List (Nat × α)) (ws : List (List (Nat × α))) (l0 : List (Nat × α)) (m : Nat) : accAt (x :: ws) tt l0 (m + 1) = accAt ws tt (x ++ l0) m := accAt_cons x tt m
structure RecOk (P : Program) (cs : CallS) (ops : Array Oper) (n : Nat) (l : List Oper) (s : Stt) (rs : List Rec) (s' : Stt) (q : List Prop) : Prop where
 len : rs.length = l.length
 tm : s'.tm = accAt (rs.map wT) tt s.tm l.length
 bk : s'.bk = accAt (rs.map (·.wr)) tt s.bk l.length
 step : ∀ (i : Nat) (r : Rec), rs[i]? = some r → ∃ o, l[i]? = some o ∧ StepR P cs ops n s.th q (accAt (rs.map wT) tt s.tm i) (accAt (rs.map (·.wr)) tt s.bk i) o r
 rng : ∀ (i : Nat) (r : Rec), rs[i]? = some r → s.c ≤ r.c0 ∧ r.c0 ≤ r.c1 ∧ r.c1 ≤ s'.c
 ord : ∀ (i j : Nat) (ri rj : Rec), i < j → rs[i]? = some ri → rs[j]? = some rj → ri.c1 ≤ rj.c0
 cc : s.c ≤ s'.c
theorem recS_ok {P : Program} {cs : CallS} {ops : Array Oper} {n : Nat} : ∀ {l : List Oper} {s s' : Stt} {rs : List Rec} {q : List Prop}, recS P cs ops n l s = some (rs, s', q) → RecOk P cs ops n l s rs s' q
 | [], s, s', rs, q, h => by
   cases h
   exact ⟨rfl, rfl, rfl, fun i r hr => by simp at hr, fun i r hr => by simp at hr, fun i j ri rj _ hr => by simp at hr, Nat.le_refl _⟩
 | o :: rest, s, s', rs, q, h => by
   have cons : ∀ (r : Rec) (rs2 : List Rec) (q2 q : List Prop) (s1 : Stt), RecOk P cs ops n rest s1 rs2 s' q2 → s1.tm = putT s.tm r.dst r.v → s1.bk = r.wr ++ s.bk → s1.c = r.c1 → s1.th = s.th → r.c0 = s.c → r.c0 ≤ r.c1 →
     StepR P cs ops n s.th q s.tm s.bk o r → (∀ p ∈ q2, p ∈ q) → RecOk P cs ops n (o :: rest) s (r :: rs2) s' q := by
    intro r rs2 q2 q s1 ih e1 e2 e3 e4 e5 e6 hst hq
    have hc1 := ih.cc
    refine ⟨by simp [ih.len], ?_, ?_, ?_, ?_, ?_, by omega⟩
    ·rw [ih.tm, e1, putT_wT, List.map_cons, List.length_cons, accAt_head]
    ·rw [ih.bk, e2, List.map_cons, List.length_cons, accAt_head]
    ·intro i r' hr'
     cases i with
     | zero =>
       simp at hr'
       subst hr'
       exact ⟨o, by simp, hst⟩
     | succ i =>
       simp at hr'
       obtain ⟨o', ho', hs'⟩ := ih.step i r' hr'
       refine ⟨o', by simpa using ho', ?_⟩
       rw [List.map_cons, List.map_cons, accAt_head, accAt_head, ← putT_wT, ← e1, ← e2, ← e4]
       exact hs'.more hq
    ·intro i r' hr'
     cases i with
     | zero =>
       simp at hr'
       subst hr'
       omega
     | succ i =>
       simp at hr'
       have := ih.rng i r' hr'
       omega
    ·intro i j ri rj hij hi hj
     cases j with
     | zero => omega
     | succ j =>
       simp at hj
       cases i with
       | zero =>
         simp at hi
         subst hi
         have := ih.rng j rj hj
         omega
       | succ i =>
         simp at hi
         exact ih.ord i j ri rj (by omega) hi hj
   unfold recS at h
   dsimp only at h
   split at h
   ·rename_i ps orc hw
    split at h
    ·rename_i hd
     split at h
     ·rename_i r cl hr
      split at h
      ·rename_i rs2 s2 q2 h2
       cases h
       have ih := recS_ok h2
       refine cons ⟨o.dst, r.v, r.wr, _, _, s.c, r.c⟩ rs2 q2 _ _ ih rfl rfl rfl rfl rfl (opS_cc hr) ?_ (fun p hp => by simp [hp])
       exact ⟨hd, rfl, _, _, _, _, hw, fun p hp => by simp [hp], .inl ⟨rfl, r, cl, hr, rfl, rfl, rfl, fun p hp => by simp [hp]⟩⟩
      ·cases h
     ·cases h
    ·cases h
   ·rename_i ps orc hw
    split at h
    ·rename_i hd
     split at h
     ·rename_i rs2 s2 q2 h2
      cases h
      have ih := recS_ok h2
      refine cons ⟨o.dst, .tup [], [], _, [], s.c, s.c⟩ rs2 q2 _ _ ih rfl rfl rfl rfl rfl (Nat.le_refl _) ?_ (fun p hp => by simp [hp])
      exact ⟨hd, rfl, _, _, _, _, hw, fun p hp => by simp [hp], .inr ⟨rfl, rfl, rfl, rfl⟩⟩
     ·cases h
    ·cases h
   ·cases h
/-! ### who must come before whom -/
def predsOf (o : Oper) : List Nat := (o.after.toList.filter (Region.binds .any)).map (·.on)
def prOf (ops : Array Oper) (j : Nat) : List Nat :=
 match ops[j]? with
 | some o => predsOf o
 | none => []
def bfs (pr : Nat → List Nat) : Nat → List Nat → List Nat → List Nat
 | 0, _, seen => seen
 | _ + 1, [], seen => seen
 | n + 1, q :: r, seen => if seen.contains q then bfs pr n r seen else bfs pr n (pr q ++ r) (q :: seen)
theorem bfs_ok {pr : Nat → List Nat} {L : Nat → Prop} (hc : ∀ j, L j → ∀ q ∈ pr j, L q) : ∀ (n : Nat) (t s : List Nat), (∀ q ∈ t, L q) → (∀ q ∈ s, L q) → ∀ q ∈ bfs pr n t s, L q
 | 0, t, s, ht, hs => hs
 | n + 1, [], s, ht, hs => hs
 | n + 1, x :: r, s, ht, hs => by
   unfold bfs
   split
   ·exact bfs_ok hc n r s (fun q hq => ht q (by simp [hq])) hs
   ·refine bfs_ok hc n _ _ (fun q hq => ?_) (fun q hq => ?_)
    ·rcases List.mem_append.1 hq with h | h
     ·exact hc x (ht x (by simp)) q h
     ·exact ht q (by simp [h])
    ·rcases List.mem_cons.1 hq with h | h
     ·rw [h]; exact ht x (by simp)
     ·exact hs q h
def inD (d : Option Tmp) (l : List Nat) : Bool :=
 match d with
 | some t => l.contains t
 | none => false
def keys {α : Type} (l : List (Nat × α)) : List Nat := l.map (·.1)
def conf (r s : Rec) : Bool :=
 inD r.dst s.tR || inD s.dst r.tR || inD r.dst s.dst.toList || (keys r.wr).any (fun k => s.bR.contains k || (keys s.wr).contains k) || (keys s.wr).any (fun k => r.bR.contains k)
def raceB (pr : Nat → List Nat) (rs : List Rec) : Bool :=
 (List.range rs.length).all fun j => (List.range j).all fun i =>
  match rs[i]?, rs[j]? with
  | some r, some s => !conf r s || (pr j).contains i || (bfs pr 2000 (pr j) []).contains i
  | _, _ => true
theorem raceB_ok {pr : Nat → List Nat} {rs : List Rec} (h : raceB pr rs = true) {i j : Nat} (hij : i < j) {r s : Rec} (hi : rs[i]? = some r) (hj : rs[j]? = some s) (hc : conf r s = true)
  {L : Nat → Prop} (hcl : ∀ j, L j → ∀ q ∈ pr j, L q) (hp : ∀ q ∈ pr j, L q) : L i := by
 have hjl : j < rs.length := (List.getElem?_eq_some_iff.1 hj).1
 have h1 := List.all_eq_true.1 h j (List.mem_range.2 hjl)
 have h2 := List.all_eq_true.1 h1 i (List.mem_range.2 hij)
 rw [hi, hj] at h2
 dsimp only at h2
 rw [hc] at h2
 simp only [Bool.not_true, Bool.false_or, Bool.or_eq_true, List.contains_iff_mem] at h2
 rcases h2 with h2 | h2
 ·exact hp i h2
 ·exact bfs_ok hcl 2000 _ _ hp (by simp) i h2
theorem lookup_key {α : Type} {k : Nat} {b : α} : ∀ {l : List (Nat × α)}, l.lookup k = some b → k ∈ keys l
 | [], h => by simp at h
 | (k', x) :: r, h => by
   rw [lookup_cons] at h
   split at h
   ·rename_i e; subst e; simp [keys]
   ·have := lookup_key h
    simp only [keys, List.map_cons, List.mem_cons]
    exact .inr this
end Go.Ev
namespace Go.Mono
open Go.RowKit
theorem LgV.zero {m : Nat} {w : World} {v : Value} (h : LgV m w v 0) : ∃ p c, v = .agg #[.bool false, .slice p 0 c] := by
 obtain ⟨p, n, c, f, rfl, h1, h2, h3, h4⟩ := h
 have : ¬ 0 < n := fun h => by have := h2.pos.2 h; simp at h3; omega
 obtain rfl : n = 0 := by omega
 exact ⟨p, c, rfl⟩
theorem LgV.nz {m : Nat} {w : World} {v : Value} {z : Int} (h : LgV m w v z) (hz : z ≠ 0) : ∃ p n c, v = .agg #[.bool (decide (z < 0)), .slice p n c] ∧ 0 < n := by
 obtain ⟨p, n, c, f, rfl, h1, h2, h3, h4⟩ := h
 exact ⟨p, n, c, rfl, h2.pos.1 (by omega)⟩
theorem LgV.parts {m : Nat} {w : World} {v : Value} {z : Int} (h : LgV m w v z) : ∃ s p n c, v = .agg #[.bool s, .slice p n c] := by
 obtain ⟨p, n, c, f, rfl, h1, h2, h3, h4⟩ := h
 exact ⟨_, p, n, c, rfl⟩
end Go.Mono
namespace Go.Proofs.YtdgodcgdlfjpaaaGreatDoor
open Go.RowKit Go.Mono
theorem box3_new (w : World) (T0 T1 T2 : TypeId) (c0 c1 c2 : Array Value) : Box (((w.alloc (.cells c0 T0)).alloc (.cells c1 T1)).alloc (.cells c2 T2)) (w.heap.size + 1 + 1) T2 c2 := by
 have b := Box.new ((w.alloc (.cells c0 T0)).alloc (.cells c1 T1)) T2 c2
 simp only [World.size_alloc] at b
 exact b
theorem below3_new (w : World) (a b c : Obj) : Below w.heap.size w (((w.alloc a).alloc b).alloc c) := belowAlloc (belowAlloc (belowAlloc (Below.refl _ _) _) _) _
theorem r3sum_zero1 {m1 m2 : Nat} {v1 v2 : Value} {y : Int} (w : World) (h1 : LgV m1 w v1 0) (h2 : LgV m2 w v2 y) :
  Calls Tryz.prog 246 #[v1, v2] w fun e w' => ∃ v, e = .returned v ∧ LgV m2 w' v y ∧ Below w.heap.size w w' := by
 obtain ⟨p, c, rfl⟩ := h1.zero
 obtain ⟨s, q, m, c', rfl⟩ := h2.parts
 go_enter Tryz.func246, Tryz.ntmps246
 go_wp2_with fail
 exact bodyPost_ret ((box3_new w _ _ _ _ _ _).results rfl _ _ rfl Tryz.underlying35 rfl sizeLong) rfl ⟨_, rfl, h2.below (below3_new w _ _ _), below3_new w _ _ _⟩
theorem r3sum_zero2 {m1 m2 : Nat} {v1 v2 : Value} {z : Int} (w : World) (h1 : LgV m1 w v1 z) (h2 : LgV m2 w v2 0) (hz : z ≠ 0) :
  Calls Tryz.prog 246 #[v1, v2] w fun e w' => ∃ v, e = .returned v ∧ LgV m1 w' v z ∧ Below w.heap.size w w' := by
 obtain ⟨p, c, rfl⟩ := h2.zero
 obtain ⟨q, n, c', rfl, hn⟩ := h1.nz hz
 have hn' : ((n : Int) == 0) = false := by simp; omega
 generalize decide (z < 0) = s at *
 go_enter Tryz.func246, Tryz.ntmps246
 go_wp2_with fail
 exact bodyPost_ret ((box3_new w _ _ _ _ _ _).results rfl _ _ rfl Tryz.underlying35 rfl sizeLong) rfl ⟨_, rfl, h1.below (below3_new w _ _ _), below3_new w _ _ _⟩
theorem r3sum_other {m1 m2 : Nat} {v1 v2 : Value} {z y : Int} (w : World) (h1 : LgV m1 w v1 z) (h2 : LgV m2 w v2 y) (hz : z ≠ 0) (hy : y ≠ 0) (hs : ¬ decide (z < 0) = decide (y < 0)) (hm1 : m1 ≤ 100000) (hm2 : m2 ≤ 100000) :
  Calls Tryz.prog 246 #[v1, v2] w fun e w' => ∃ v, e = .returned v ∧ LgV (max m1 m2) w' v (z + y) ∧ Below w.heap.size w w' := by
 have hmi := fun (W : World) (hW : Below w.heap.size w W) => r3minus_ok W (h2.below hW) hm2
 have hsg : ¬ (z < 0 ↔ y < 0) := by simpa using hs
 have hd := fun (W : World) (v : Value) (hW : Below w.heap.size w W) (h : LgV m2 W v (-y)) => r3diff_same W (h1.below hW) h hz (by omega) (by rw [decide_eq_decide]; omega) hm1 hm2
 obtain ⟨p, n, c, rfl, hn0⟩ := h1.nz hz
 obtain ⟨q, m, c', rfl, hm0⟩ := h2.nz hy
 have hn0' : ((n : Int) == 0) = false := by simp; omega
 have hm0' : ((m : Int) == 0) = false := by simp; omega
 have hst : (decide (z < 0) != decide (y < 0)) = true := by simpa using hs
 clear hs
 generalize decide (z < 0) = s at *
 generalize decide (y < 0) = t at *
 have hst2 : (!s == t) = true := by cases s <;> cases t <;> simp_all
 go_enter Tryz.func246, Tryz.ntmps246
 go_wp2_with fail
 refine boxes3 fun W hB hs b0 b1 b2 => ?_
 refine wp_region_held_drew (S := fun w' => KeepBut (w.heap.size + 1 + 1) W.heap.size W w') (by as_aux_lemma => kernel_rfl) (KeepBut.refl _ _).drew (fun hHeld => ?_)
 generalize hX : W.drew = X0 at *
 have r0 : ∀ X, KeepBut (w.heap.size + 1 + 1) W.heap.size W X → X.rangeAt w.heap.size 0 (#[.bool s, .slice p n c] : Array Value).toList := fun X h => (h.box b0 b0.lt (by omega)).range
 have r1 : ∀ X, KeepBut (w.heap.size + 1 + 1) W.heap.size W X → X.rangeAt (w.heap.size + 1) 0 (#[.bool t, .slice q m c'] : Array Value).toList := fun X h => (h.box b1 b1.lt (by omega)).range
 refine tl 0 (some 24) rfl (.agg #[.bool s, .slice p n c]) (exec_load 35 _ rfl w.heap.size 0 rfl #[.bool s, .slice p n c] r0 _ Tryz.underlying35 rfl sizeLong) ?_
 refine tl 1 (some 25) rfl (.agg #[.bool t, .slice q m c']) (exec_load 35 _ rfl (w.heap.size + 1) 0 rfl #[.bool t, .slice q m c'] r1 _ Tryz.underlying35 rfl sizeLong) ?_
 have hBX : Below w.heap.size w X0 := by rw [← hX]; exact hB.drew
 have b2X : Box X0 (w.heap.size + 1 + 1) 35 #[.bool false, .slice none 0 0] := by rw [← hX]; exact b2.drew
 refine Mono.stc 2 (some 26) (hmi X0 hBX) (fun e X1 hR => ?_)
 obtain ⟨v', rfl, hl1, hb1⟩ := hR
 refine ⟨(hHeld.call hb1), fun hHeld => Mono.pt ?_⟩
 have hBX1 := belowCall hBX hb1
 refine Mono.stc 3 (some 27) (hd X1 v' hBX1 hl1) (fun e X2 hR => ?_)
 obtain ⟨v2, rfl, hl2, hb2⟩ := hR
 refine ⟨(hHeld.call hb2), fun hHeld => Mono.pt ?_⟩
 have hBX2 := belowCall hBX1 hb2
 have b2Y := (b2X.below hb1).below hb2
 obtain ⟨C, rfl, hCs, hCo⟩ := hl2.cells
 have hiC : (Tryz.prog.info? 35).map (·.size) = some C.size := by rw [hCs]; exact sizeLong
 have hn2 : (#[.bool false, .slice none 0 0] : Array Value).size = C.size := by rw [hCs]; rfl
 refine wpAnyH_storeK (w.heap.size + 1 + 1) 35 4 rfl rfl rfl rfl 0 C #[.bool false, .slice none 0 0] C (by as_aux_lemma => kernel_rfl) (fun w i u h => h.set i u) (by as_aux_lemma => kernel_rfl) (by as_aux_lemma => kernel_rfl) b2Y hHeld hiC (by rw [hCs]; exact Nat.le_of_ble_eq_true rfl) hCo (whole_new hn2) (fun Y hk b4 hHeld => ?_)
 refine wpAnyH_done (by as_aux_lemma => kernel_rfl) ?_ _
 have hlg := hl2.ext (hk.ext b2Y (by decide))
 have hb3 := hk.below hBX2 (by omega) hBX2.size
 clear r0 r1 b2X hX hBX hmi hd hl1 hb1 hBX1 hl2 hb2 b2Y hk hHeld b0 b1 b2 hB h1 h2
 go_wp2
 refine bodyPost_ret (b4.results rfl _ _ rfl Tryz.underlying35 rfl hiC) rfl ⟨_, rfl, ?_, hb3⟩
 rw [show z + y = z - -y by omega]
 exact hlg
theorem r3sum_ok {m1 m2 : Nat} {v1 v2 : Value} {z y : Int} (w : World) (h1 : LgV m1 w v1 z) (h2 : LgV m2 w v2 y) (hm1 : m1 ≤ 100000) (hm2 : m2 ≤ 100000) :
  Calls Tryz.prog 246 #[v1, v2] w fun e w' => ∃ v, e = .returned v ∧ LgV (max m1 m2 + 1) w' v (z + y) ∧ Below w.heap.size w w' := by
 by_cases hz : z = 0
 ·subst hz
  refine (r3sum_zero1 w h1 h2).mono ?_
  rintro e w' ⟨v, rfl, hl, hb⟩
  exact ⟨v, rfl, by rw [Int.zero_add]; exact hl.mono (by omega), hb⟩
 ·by_cases hy : y = 0
  ·subst hy
   refine (r3sum_zero2 w h1 h2 hz).mono ?_
   rintro e w' ⟨v, rfl, hl, hb⟩
   exact ⟨v, rfl, by rw [Int.add_zero]; exact hl.mono (by omega), hb⟩
  ·by_cases hs : decide (z < 0) = decide (y < 0)
   ·exact r3sum_same w h1 h2 hz hy hs hm1 hm2
   ·refine (r3sum_other w h1 h2 hz hy hs hm1 hm2).mono ?_
    rintro e w' ⟨v, rfl, hl, hb⟩
    exact ⟨v, rfl, hl.mono (by omega), hb⟩
end Go.Proofs.YtdgodcgdlfjpaaaGreatDoor
namespace Go.Ev
open Go.RowKit Go.Mono
theorem Sat.congr {D : Den} {w0 : World} {X : Nat → Prop} {th : Nat} {ρ : Nm} {wc w : World} {bk bk' : List (Nat × Blk)} (h : Sat D w0 X th ρ wc w bk) (he : ∀ k, bk'.lookup k = bk.lookup k) : Sat D w0 X th ρ wc w bk' :=
 h.sub fun k b hk => by rw [← he]; exact hk
theorem TSat.sub {D : Den} {ρ : Nm} {w : World} {n : Nat} {tm tm' : List (Nat × SV)} {a : Act} (h : TSat D ρ w n tm a) (hs : Sub tm' tm) : TSat D ρ w n tm' a := ⟨h.size, fun t x hl => h.at_ t x (hs t x hl)⟩
theorem Evo.congr {ρ ρ' : Nm} {wc w wc' w' : World} {bk b1 b2 : List (Nat × Blk)} {c c' : Nat} (h : Evo ρ wc w bk c c' ρ' wc' w' b1) (he : ∀ k, b2.lookup k = b1.lookup k) : Evo ρ wc w bk c c' ρ' wc' w' b2 :=
 ⟨h.rho, h.ext, h.size, h.os, h.tape, h.output, h.loc, fun k b hk => h.ids k b (by rw [← he]; exact hk), h.cc, h.dom⟩
theorem Evo.widen {ρ ρ' : Nm} {wc w wc' w' : World} {bk b1 : List (Nat × Blk)} {c c' d d' : Nat} (h : Evo ρ wc w bk c c' ρ' wc' w' b1) (h1 : d ≤ c) (h2 : c' ≤ d') : Evo ρ wc w bk d d' ρ' wc' w' b1 :=
 ⟨h.rho, h.ext, h.size, h.os, h.tape, h.output, h.loc, fun k b hk => (h.ids k b hk).imp id fun ⟨k1, k2, hh⟩ => ⟨by omega, by omega, hh⟩, by have := h.cc; omega, fun k hk => h.dom k (by omega)⟩
theorem Evo.join {ρ ρ1 ρ2 : Nm} {wc w wc1 w1 wc2 w2 : World} {bk bk1 bk2 : List (Nat × Blk)} {c d : Nat}
  (h : Evo ρ wc w bk c d ρ1 wc1 w1 bk1) (g : Evo ρ1 wc1 w1 bk1 c d ρ2 wc2 w2 bk2) (hlt : ∀ k b, bk.lookup k = some b → ∃ B, ρ k = some B) : Evo ρ wc w bk c d ρ2 wc2 w2 bk2 where
 rho := h.rho.trans g.rho
 ext := h.ext.trans g.ext
 size := Nat.le_trans h.size g.size
 os := g.os.trans h.os
 tape := g.tape.trans h.tape
 output := g.output.trans h.output
 loc := fun i hi hn => by
  rw [g.loc i (Nat.lt_of_lt_of_le hi h.size) ?_, h.loc i hi hn]
  intro k b C hk he hro
  rcases h.ids k b hk with h1 | ⟨_, _, B, hB, hle⟩
  ·obtain ⟨b', hb'⟩ := Option.isSome_iff_exists.1 h1
   obtain ⟨B, hB⟩ := hlt k b' hb'
   have := h.rho k B hB
   rw [he] at this
   cases this
   exact hn k b' C hb' hB hro
  ·rw [he] at hB
   cases hB
   rcases hle with hle | hle
   ·rw [hro] at hle; cases hle
   ·omega
 ids := fun k b hk => by
  rcases g.ids k b hk with h1 | ⟨k1, k2, B, hB, hle⟩
  ·obtain ⟨b', hb'⟩ := Option.isSome_iff_exists.1 h1
   rcases h.ids k b' hb' with h2 | ⟨k1, k2, B, hB, hle⟩
   ·exact .inl h2
   ·exact .inr ⟨k1, k2, B, g.rho k B hB, hle⟩
  ·exact .inr ⟨k1, k2, B, hB, hle.imp id fun hle => Nat.le_trans h.size hle⟩
 cc := h.cc
 dom := fun k hk => (g.dom k hk).trans (h.dom k hk)
def left (L : Nat → Bool) : Nat → Nat
 | 0 => 0
 | m + 1 => (if L m then 0 else 1) + left L m
theorem left_le (L : Nat → Bool) (i : Nat) : ∀ m, left (fun j => j == i || L j) m ≤ left L m
 | 0 => Nat.le_refl _
 | m + 1 => by
   have := left_le L i m
   unfold left
   cases hL : L m <;> cases he : (m == i) <;> simp only [hL, he, Bool.or_true, Bool.or_false, Bool.true_or, Bool.false_or, if_true, Bool.false_eq_true, if_false] <;> omega
theorem left_lt {L : Nat → Bool} {i : Nat} (hi : L i = false) : ∀ m, i < m → left (fun j => j == i || L j) m < left L m
 | 0, h => by omega
 | m + 1, h => by
   unfold left
   by_cases e : i = m
   ·subst e
    have := left_le L i i
    simp only [hi, BEq.rfl, Bool.true_or, if_true, Bool.false_eq_true, if_false]
    omega
   ·have := left_lt hi m (by omega)
    have e' : (m == i) = false := by simp; omega
    simp only [e', Bool.false_or]
    omega
theorem left_zero {L : Nat → Bool} : ∀ m, left L m = 0 → ∀ j, j < m → L j = true
 | 0, _, j, hj => by omega
 | m + 1, h, j, hj => by
   unfold left at h
   by_cases e : j = m
   ·subst e
    cases hL : L j with
    | true => rfl
    | false => rw [hL] at h; simp at h; 
   ·exact left_zero m (by omega) j (by omega)
theorem acc_mem {α : Type} {ws : List (List (Nat × α))} {l0 : List (Nat × α)} {L : Nat → Bool} {k : Nat} {b : α} : ∀ N, (accAt ws L l0 N).lookup k = some b → l0.lookup k = some b ∨ ∃ j, ((ws.getD j []).lookup k) = some b
 | 0, h => .inl h
 | N + 1, h => by
   rw [acc_step] at h
   split at h
   ·exact .inr ⟨N, h⟩
   ·exact acc_mem N h
theorem acc_all {α : Type} {ws : List (List (Nat × α))} {l0 : List (Nat × α)} {L : Nat → Bool} {N : Nat} (h : ∀ j, j < N → L j = true) : ∀ m, m ≤ N → accAt ws L l0 m = accAt ws tt l0 m
 | 0, _ => rfl
 | m + 1, hm => by
   show (if L m then _ else _) ++ accAt ws L l0 m = (if tt m then _ else _) ++ accAt ws tt l0 m
   rw [acc_all h m (by omega), h m (by omega)]
   rfl
theorem wrote_wT {rs : List Rec} {i t : Nat} (h : wrote (rs.map wT) i t) : ∃ r, rs[i]? = some r ∧ r.dst = some t := by
 unfold wrote at h
 rw [List.getD_eq_getElem?_getD, List.getElem?_map] at h
 cases hr : rs[i]? with
 | none => rw [hr] at h; simp at h
 | some r =>
   rw [hr] at h
   simp only [Option.map_some, Option.getD_some] at h
   unfold wT at h
   cases hd : r.dst with
   | none => rw [hd] at h; simp at h
   | some d =>
     rw [hd] at h
     dsimp only at h
     rw [lookup_cons] at h
     split at h
     ·rename_i e; subst e; exact ⟨r, rfl, hd⟩
     ·simp at h
theorem wrote_wr {rs : List Rec} {i k : Nat} (h : wrote (rs.map (·.wr)) i k) : ∃ r, rs[i]? = some r ∧ k ∈ keys r.wr := by
 unfold wrote at h
 rw [List.getD_eq_getElem?_getD, List.getElem?_map] at h
 cases hr : rs[i]? with
 | none => rw [hr] at h; simp at h
 | some r =>
   rw [hr] at h
   obtain ⟨b, hb⟩ := Option.isSome_iff_exists.1 h
   exact ⟨r, rfl, lookup_key hb⟩
theorem conf_rt {r s : Rec} {t : Nat} (h1 : r.dst = some t) (h2 : t ∈ s.tR) : conf r s = true := by
 unfold conf
 rw [show inD r.dst s.tR = true from by rw [h1]; simpa [inD] using h2]
 simp
theorem conf_tr {r s : Rec} {t : Nat} (h1 : s.dst = some t) (h2 : t ∈ r.tR) : conf r s = true := by
 unfold conf
 rw [show inD s.dst r.tR = true from by rw [h1]; simpa [inD] using h2]
 simp
theorem conf_tt {r s : Rec} {t : Nat} (h1 : r.dst = some t) (h2 : s.dst = some t) : conf r s = true := by
 unfold conf
 rw [show inD r.dst s.dst.toList = true from by rw [h1, h2]; simp [inD]]
 simp
theorem conf_wb {r s : Rec} {k : Nat} (h1 : k ∈ keys r.wr) (h2 : k ∈ s.bR ∨ k ∈ keys s.wr) : conf r s = true := by
 unfold conf
 rw [show (keys r.wr).any (fun k => s.bR.contains k || (keys s.wr).contains k) = true from List.any_eq_true.2 ⟨k, h1, by
  rcases h2 with h2 | h2 <;> simp [h2]⟩]
 simp
theorem conf_bw {r s : Rec} {k : Nat} (h1 : k ∈ keys s.wr) (h2 : k ∈ r.bR) : conf r s = true := by
 unfold conf
 rw [show (keys s.wr).any (fun k => r.bR.contains k) = true from List.any_eq_true.2 ⟨k, h1, by simp [h2]⟩]
 simp
end Go.Ev
