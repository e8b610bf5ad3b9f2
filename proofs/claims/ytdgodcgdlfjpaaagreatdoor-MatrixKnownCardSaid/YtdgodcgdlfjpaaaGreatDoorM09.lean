/- The law MatrixKnown: the examples of the ray transfer matrices, afocal lenses, mirrors and the order of errors; its walk by a verified evaluator of the model, and its card. Part 9 of 36. No condition beside the row. -/
import Derived.Test.YtdgodcgdlfjpaaaGreatDoorM08
set_option linter.unusedVariables false
set_option linter.unusedSimpArgs false
set_option maxRecDepth 100000
set_option maxHeartbeats 4000000
namespace Go.Ex
open Go.RowKit Go.Mono
section
structure Ctr (D : Den) (P : Program) (w0 : World) (X : Nat → Prop) where
 f : FuncId
 run : List SA → List (Nat × Blk) → Nat → List (Option Bool) → Option OpR
 cc : ∀ args bk c orc r, run args bk c orc = some r → c ≤ r.c
 sound : ∀ args bk c orc r, run args bk c orc = some r → (∀ p ∈ r.obl, p) → ∀ th ρ wc w vals, Sat D w0 X th ρ wc w bk → (∀ k b, bk.look k = some b → k < c) → (∀ k, c ≤ k → k < r.c → ρ k = none) → denAs D ρ wc args vals →
  Calls P f vals.toArray w (Post D w0 X ρ wc w bk c r)
def Ctr.plain {D : Den} {P : Program} {w0 : World} {X : Nat → Prop} (f : FuncId) (run : List SA → List (Nat × Blk) → List (Option Bool) → Option (SV × List Prop × List (Option Bool)))
    (sound : ∀ args bk orc v obl orc', run args bk orc = some (v, obl, orc') → (∀ p ∈ obl, p) → ∀ ρ w vals, Frm w0 X w → BkOk D ρ w w bk → denAs D ρ w args vals →
     Calls P f vals.toArray w fun e w' => ∃ u, e = .returned u ∧ denV D ρ w' v u ∧ Below w.heap.size w w') : Ctr D P w0 X where
 f := f
 run := fun args bk c orc => match run args bk orc with
  | some (v, obl, orc') => some ⟨v, [], obl, orc', c, c, none⟩
  | none => none
 cc := by
  intro args bk c orc r h
  split at h
  ·cases h; exact Nat.le_refl _
  ·cases h
 sound := by
  intro args bk c orc r h hobl th ρ wc w vals hS hlt hn hargs
  split at h
  ·rename_i v obl orc' hr
   cases h
   refine (sound _ _ _ _ _ _ hr hobl ρ w vals hS.fr (fun k b hk hd => ?_) (hargs.mono (Nm.le.refl _) hS.ext)).mono ?_
   ·obtain ⟨B, cs, h1, h2, h3, h4⟩ := hS.bkOk k b hk hd
    exact ⟨B, cs, h1, h2, h3.mono (Nm.le.refl _) hS.ext, h4⟩
   ·rintro e w' ⟨u, rfl, hu, hb⟩
    obtain ⟨k1, k2⟩ := hS.call hb c c (fun k b hk => Nat.not_le.2 (hlt k b hk))
    exact ⟨u, ρ, w', rfl, hu, k1, k2⟩
  ·cases h
section
variable {D : Den} {P : Program} {w0 : World} {X : Nat → Prop}
def specOf (f : FuncId) : List (Ctr D P w0 X) → Option (Ctr D P w0 X)
 | [] => none
 | p :: r => if Nat.beq p.f f then some p else specOf f r
theorem specOf_ok {f : FuncId} : ∀ {l : List (Ctr D P w0 X)} {p : Ctr D P w0 X}, specOf f l = some p → p.f = f
 | [], p, h => by cases h
 | q :: r, p, h => by
   unfold specOf at h
   split at h
   ·rename_i e
    cases h
    exact Nat.eq_of_beq_eq_true e
   ·exact specOf_ok h
def frame0 (i : Nat) : List SA → List (Nat × SV)
 | [] => []
 | x :: r => (i, .a x) :: frame0 (i + 1) r
def resS (P : Program) (s : Stt) : List ResultVar → Option (List SA)
 | [] => some []
 | .tmp t :: r => match s.tm.look t with
   | some (.a x) => (resS P s r).map (x :: ·)
   | _ => none
 | .cell ad ty :: r => match loadS P ty (s.tm.look ad) s.bk with
   | some (.a x) => (resS P s r).map (x :: ·)
   | _ => none
def resV : List SA → SV
 | [x] => .a x
 | l => .tup l
def FU : Nat := 100000
def specRun (sp : List (Ctr D P w0 X)) (f : FuncId) (args : List SA) (bk : List (Nat × Blk)) (c : Nat) (orc : List (Option Bool)) : Option OpR :=
 match specOf f sp with
 | some p => p.run args bk c orc
 | none => none
def dedup (keep : Nat → Bool) : List (Nat × Blk) → List Nat → List (Nat × Blk)
 | [], _ => []
 | p :: r, seen => if mem seen p.1 then dedup keep r seen else if keep p.1 then p :: dedup keep r (p.1 :: seen) else dedup keep r seen
theorem look_dedup (keep : Nat → Bool) (k : Nat) : ∀ (l : List (Nat × Blk)) (seen : List Nat), (dedup keep l seen).look k = if mem seen k = true then none else if keep k = true then l.look k else none
 | [], seen => by simp [dedup]
 | (k', x) :: r, seen => by
   unfold dedup
   dsimp only
   split
   ·rename_i hm
    rw [look_dedup keep k r seen, look_cons]
    by_cases e : k = k'
    ·subst e; rw [if_pos hm, if_pos hm]
    ·rw [if_neg e]
   ·rename_i hm
    split
    ·rename_i hk
     rw [look_cons, look_cons, look_dedup keep k r (k' :: seen)]
     by_cases e : k = k'
     ·subst e; rw [if_pos rfl, if_pos rfl, if_neg hm, if_pos hk]
     ·rw [if_neg e, if_neg e]
      have : (mem (k' :: seen) k = true) ↔ (mem seen k = true) := by
       rw [mem_iff, mem_iff, List.mem_cons]
       constructor
       ·rintro (h | h)
        ·exact absurd h e
        ·exact h
       ·exact .inr
      simp only [this]
    ·rename_i hk
     rw [look_dedup keep k r seen, look_cons]
     by_cases e : k = k'
     ·subst e; rw [if_neg hk, if_neg hk]
     ·rw [if_neg e]
def tomb : Blk := ⟨0, [], false, true, true⟩
def tombs (m : List (Nat × Blk)) : List (Nat × Blk) → List (Nat × Blk)
 | [] => []
 | p :: r => match m.look p.1 with
   | none => (p.1, tomb) :: tombs m r
   | some _ => tombs m r
theorem look_tombs (m : List (Nat × Blk)) (k : Nat) : ∀ l : List (Nat × Blk), (∀ b, (tombs m l).look k = some b → b.dead = true) ∧ (m.look k = none → (l.look k).isSome = true → ((tombs m l).look k).isSome = true) ∧ (l.look k = none → (tombs m l).look k = none)
 | [] => ⟨fun b h => by simp [tombs] at h, fun _ h => by simp at h, fun _ => rfl⟩
 | (k', x) :: r => by
   obtain ⟨h1, h2, h3⟩ := look_tombs m k r
   unfold tombs
   dsimp only
   cases hm : m.look k' with
   | none =>
     dsimp only
     rw [look_cons, look_cons]
     by_cases e : k = k'
     ·rw [if_pos e, if_pos e]
      exact ⟨(fun b h => by cases h; rfl), fun _ _ => rfl, fun h => by cases h⟩
     ·rw [if_neg e, if_neg e]; exact ⟨h1, h2, h3⟩
   | some y =>
     dsimp only
     rw [look_cons]
     by_cases e : k = k'
     ·subst e
      exact ⟨h1, (fun hh => by rw [hm] at hh; cases hh), fun h => by rw [if_pos rfl] at h; cases h⟩
     ·rw [if_neg e]; exact ⟨h1, h2, h3⟩
def isRec (o : Oper) : Bool :=
 match o.op, o.guard with
 | .call ⟨.builtin .recover, ⟨[]⟩, _⟩, none => true
 | _, _ => false
def purS (P : Program) (n : Nat) : List Oper → List (Nat × SV) → Option (List (Nat × SV))
 | [], tm => some tm
 | o :: r, tm => match o.guard, evPure P o (getS tm) [] with
   | none, some x => if dstOk n o.dst then purS P n r (putT tm o.dst x) else none
   | _, _ => none
def defS (P : Program) (cs : CallS) (ys : YEnv) (u : Option Value) (f : FuncId) (caps : List (Nat × Nat)) (s : Stt) : Option (Stt × List Prop) :=
 match P.funcs[f]? with
 | some fn => match fn.body with
   | some (.seq (.region _ ops false) rest) => match ops.toList with
     | o :: os => if isRec o && dstOk ((capsA caps).length + (fn.ntmps - (capsA caps).length)) o.dst && (u.getD .nilIface).oneCell' then
         match purS P ((capsA caps).length + (fn.ntmps - (capsA caps).length)) os (putT (frame0 0 (capsA caps)) o.dst (.a (.one (.val (u.getD .nilIface))))) with
         | some tm => (match evC P cs ys ((capsA caps).length + (fn.ntmps - (capsA caps).length)) FU false rest ⟨tm, s.bk, s.c, s.th, s.orc, []⟩ with
           | some (.norm, s2, q) => (match s2.df, resS P s2 fn.results.toList with
             | [], some _ => some (⟨s.tm, s2.bk, s2.c, s2.th, s2.orc, s.df⟩, q)
             | _, _ => none)
           | some (.ret, s2, q) => (match s2.df, resS P s2 fn.results.toList with
             | [], some _ => some (⟨s.tm, s2.bk, s2.c, s2.th, s2.orc, s.df⟩, q)
             | _, _ => none)
           | _ => none)
         | none => none
       else none
     | [] => none
   | _ => none
 | none => none
def leaveS (P : Program) (cs : CallS) (ys : YEnv) : List DF → Option Value → Stt → Option (Option Value × Stt × List Prop)
 | [], u, s => some (u, s, [])
 | .col _ :: r, u, s => leaveS P cs ys r u s
 | .clo f caps :: r, u, s => match defS P cs ys u f caps s with
   | some (s1, q) => (match leaveS P cs ys r none s1 with
     | some (u', s2, q2) => some (u', s2, q ++ q2)
     | none => none)
   | none => none
def keepS' (c : Nat) (l : List SA) (p m : List (Nat × Blk)) : Nat → Bool :=
 let rs := reach m 100000 (l.flatMap idsA ++ p.flatMap fun e => if Nat.blt e.1 c then e.2.cells.flatMap idsU else []) []
 fun k => Nat.blt k c || mem rs k
def endS (P : Program) (cs : CallS) (ys : YEnv) (fn : Func) (bk : List (Nat × Blk)) (c : Nat) (u : Option Value) (s' : Stt) (q : List Prop) : Option OpR :=
 match leaveS P cs ys s'.df u s' with
 | some (some v, s2, q2) => some ⟨.no, s2.bk, q ++ q2, s2.orc, s2.c, s2.th, some v⟩
 | some (none, s2, q2) => (match resS P s2 fn.results.toList with
   | some l => some ⟨resV l, (match u with
     | none => dedup (keepS' c l (s2.bk.take (s2.bk.length - bk.length)) s2.bk) (s2.bk.take (s2.bk.length - bk.length)) []
     | some _ => dedup (keepS' c l s2.bk s2.bk) s2.bk [] ++ tombs s2.bk bk), q ++ q2, s2.orc, s2.c, s2.th, none⟩
   | none => none)
 | none => none
structure Fct (D : Den) (P : Program) (w0 : World) (X : Nat → Prop) where
 run : Oper → (Operand → Option SV) → Option SV
 sound : ∀ o get x, run o get = some x → ∀ ρ wc w ev, Frm w0 X w → (∀ y z, get y = some z → denV D ρ wc z (ev y)) → ∃ v, (execOp ev o).run P w = .ok (.value v) w ∧ denV D ρ wc x v
def fctRun : List (Fct D P w0 X) → Oper → (Operand → Option SV) → Option SV
 | [], _, _ => none
 | x :: l, o, get => match x.run o get with
   | some v => some v
   | none => fctRun l o get
theorem fctRun_ok : ∀ {l : List (Fct D P w0 X)} {o : Oper} {get : Operand → Option SV} {x : SV}, fctRun l o get = some x → ∀ ρ wc w ev, Frm w0 X w → (∀ y z, get y = some z → denV D ρ wc z (ev y)) → ∃ v, (execOp ev o).run P w = .ok (.value v) w ∧ denV D ρ wc x v
 | [], o, get, x, h => by unfold fctRun at h; cases h
 | y :: l, o, get, x, h => by
   unfold fctRun at h
   split at h
   ·rename_i v hv
    cases h
    exact y.sound o get x hv
   ·exact fctRun_ok h
def evF (P : Program) (sp : List (Ctr D P w0 X)) (fx : List (Fct D P w0 X)) : Nat → CallF
 | 0 => fun _ _ _ _ _ _ _ => none
 | d + 1 => fun ys f args bk c th orc =>
   match specRun sp f args bk c orc with
   | some r => some r
   | none => (match P.funcs[f]? with
     | some fn => (match fn.body with
       | some code => (match evC P ⟨evF P sp fx d, fctRun fx⟩ ys (args.length + (fn.ntmps - args.length)) FU false code ⟨frame0 0 args, bk, c, th, orc, []⟩ with
         | some (.exit _, _, _) => none
         | some (.norm, s', q) => endS P ⟨evF P sp fx d, fctRun fx⟩ ys fn bk c none s' q
         | some (.ret, s', q) => endS P ⟨evF P sp fx d, fctRun fx⟩ ys fn bk c none s' q
         | some (.pan v, s', q) => endS P ⟨evF P sp fx d, fctRun fx⟩ ys fn bk c (some v) s' q
         | none => none)
       | none => none)
     | none => none)
theorem frame0_at {ρ : Nm} {w : World} : ∀ {l : List SA} {vs : List Value} {i t : Nat} {x : SV}, denAs D ρ w l vs → (frame0 i l).look t = some x → ∃ v, i ≤ t ∧ vs[t - i]? = some v ∧ denV D ρ w x v
 | [], vs, i, t, x, h, hx => by simp [frame0] at hx
 | y :: l, vs, i, t, x, ⟨v, r, e, hv, hr⟩, hx => by
   subst e
   unfold frame0 at hx
   rw [look_cons] at hx
   split at hx
   ·rename_i e
    cases hx
    subst e
    exact ⟨v, Nat.le_refl _, by simp, hv⟩
   ·obtain ⟨v', h1, h2, h3⟩ := frame0_at hr hx
    refine ⟨v', by omega, ?_, h3⟩
    rw [show t - i = (t - (i + 1)) + 1 by omega, List.getElem?_cons_succ]
    exact h2
theorem frame0_ok {ρ : Nm} {w : World} {l : List SA} {vs : List Value} (h : denAs D ρ w l vs) (m : Nat) :
  TSat D ρ w (l.length + m) (frame0 0 l) { tmps := vs.toArray ++ Array.replicate m undef, defers := [] } := by
 refine ⟨by simp [h.len], fun t x hx => ?_⟩
 obtain ⟨v, h1, h2, h3⟩ := frame0_at h hx
 refine ⟨v, ?_, h3⟩
 have ht : t < vs.length := by
  have := (List.getElem?_eq_some_iff.1 h2).1
  omega
 show (vs.toArray ++ Array.replicate m undef)[t]? = some v
 rw [Array.getElem?_append_left (by simpa using ht)]
 simpa using h2
def resOf (a : Act) : ResultVar → Sem Value
 | .tmp t => pure (a.tmps.getD t undef)
 | .cell ad t => do loadVar t (← asAddr (a.tmps.getD ad undef))
theorem resS_ok {ρ : Nm} {wc w : World} {n : Nat} {s : Stt} {a : Act} (hT : TSat D ρ wc n s.tm a) (hB : BkOk D ρ wc w s.bk) : ∀ {l : List ResultVar} {xs : List SA}, resS P s l = some xs →
  ∃ vs, (l.mapM (resOf a)).run P w = .ok vs w ∧ denAs D ρ wc xs vs
 | [], xs, h => by cases h; exact ⟨[], rfl, rfl⟩
 | .tmp t :: r, xs, h => by
   unfold resS at h
   split at h
   ·rename_i x hx
    obtain ⟨ys, hy, rfl⟩ := Option.map_eq_some_iff.1 h
    obtain ⟨vs, h1, h2⟩ := resS_ok hT hB hy
    refine ⟨a.tmps.getD t undef :: vs, ?_, _, _, rfl, hT.get (x := .tmp t) hx, h2⟩
    have h6 : (resOf a (.tmp t)).run P w = .ok (a.tmps.getD t undef) w := rfl
    rw [List.mapM_cons]
    simp only [Sem.run_bind, h6, h1, Result.andThen_ok, Sem.run_pure]
   ·cases h
 | .cell ad ty :: r, xs, h => by
   unfold resS at h
   split at h
   ·rename_i x hx
    obtain ⟨ys, hy, rfl⟩ := Option.map_eq_some_iff.1 h
    obtain ⟨vs, h1, h2⟩ := resS_ok hT hB hy
    obtain ⟨v, h3, h4⟩ := loadS_ok (P := P) (get := getS s.tm) (ev := a.eval) (x := .tmp ad) (fun x z hz => hT.get hz) hB hx
    refine ⟨v :: vs, ?_, _, _, rfl, h4, h2⟩
    have e : ∃ p, a.tmps.getD ad undef = .pointer (some p) := by
     have hx' := hx
     unfold loadS at hx'
     split at hx'
     ·rename_i k off hk
      obtain ⟨B, hB, e⟩ := hT.get (x := .tmp ad) hk
      have e2 : a.eval (.tmp ad) = .pointer (some ⟨B.blk, B.base + off, none⟩) := by simpa using e
      exact ⟨_, e2⟩
     ·cases hx'
    obtain ⟨p, e⟩ := e
    have h5 : (loadVar ty p).run P w = .ok v w := by
     have : a.eval (.tmp ad) = .pointer (some p) := e
     rw [this] at h3
     exact h3
    have h6 : (resOf a (.cell ad ty)).run P w = .ok v w := by
     show (do loadVar ty (← asAddr (a.tmps.getD ad undef)) : Sem Value).run P w = _
     rw [e]
     exact h5
    rw [List.mapM_cons]
    simp only [Sem.run_bind, h6, h1, Result.andThen_ok, Sem.run_pure]
   ·cases h
theorem results_ok {ρ : Nm} {wc w : World} {n : Nat} {s : Stt} {a : Act} (hT : TSat D ρ wc n s.tm a) (hB : BkOk D ρ wc w s.bk) {fn : Func} {xs : List SA} (h : resS P s fn.results.toList = some xs) :
  ∃ v, (results fn a.tmps).run P w = .ok v w ∧ denV D ρ wc (resV xs) v := by
 obtain ⟨vs, h1, h2⟩ := resS_ok (P := P) hT hB h
 have hres : results fn a.tmps = (do
   let vs ← fn.results.mapM (resOf a)
   pure (if h : vs.size = 1 then vs[0] else .tuple vs)) := by
  unfold results
  congr 1
 rw [hres, Array.mapM_eq_mapM_toList]
 refine ⟨if h : vs.toArray.size = 1 then vs.toArray[0] else .tuple vs.toArray, ?_, ?_⟩
 ·simp only [Sem.run_bind, map_eq_pure_bind, h1, Result.andThen_ok, Sem.run_pure]
 ·match xs, vs, h2 with
  | [], vs, h2 =>
    obtain rfl : vs = [] := h2
    exact ⟨[], rfl, rfl⟩
  | [x], vs, h2 =>
    obtain ⟨v, r, e, hv, hr⟩ := h2
    obtain rfl : r = [] := hr
    subst e
    exact hv
  | x :: y :: l, vs, h2 =>
    have h3 := h2.len
    rw [dif_neg (by simp [h3])]
    exact ⟨vs, rfl, h2⟩
variable {cs : CallS} {ys : YEnv} {n : Nat}
theorem defS_pre (hcc : ∀ ys f args bk c th orc r, cs.call ys f args bk c th orc = some r → c ≤ r.c) {u : Option Value} {f : FuncId} {caps : List (Nat × Nat)} {s s' : Stt} {q : List Prop} (h : defS P cs ys u f caps s = some (s', q)) : s.c ≤ s'.c ∧ ∃ l, s'.bk = l ++ s.bk := by
 unfold defS at h
 split at h
 ·split at h
  ·split at h
   ·split at h
    ·split at h
     ·split at h
      ·rename_i hev
       split at h
       ·cases h
        have := evC_pre hcc hev
        exact ⟨this.1, this.2 (fun v => by simp)⟩
       ·cases h
      ·rename_i hev
       split at h
       ·cases h
        have := evC_pre hcc hev
        exact ⟨this.1, this.2 (fun v => by simp)⟩
       ·cases h
      ·cases h
     ·cases h
    ·cases h
   ·cases h
  ·cases h
 ·cases h
theorem leaveS_pre (hcc : ∀ ys f args bk c th orc r, cs.call ys f args bk c th orc = some r → c ≤ r.c) : ∀ {df : List DF} {u u' : Option Value} {s s' : Stt} {q : List Prop}, leaveS P cs ys df u s = some (u', s', q) → s.c ≤ s'.c ∧ ∃ l, s'.bk = l ++ s.bk
 | [], u, u', s, s', q, h => by cases h; exact ⟨Nat.le_refl _, [], rfl⟩
 | .col _ :: r, u, u', s, s', q, h => leaveS_pre hcc (df := r) h
 | .clo f caps :: r, u, u', s, s', q, h => by
   unfold leaveS at h
   split at h
   ·rename_i s1 q1 h1
    split at h
    ·rename_i u2 s2 q2 h2
     cases h
     obtain ⟨c1, l1, e1⟩ := defS_pre hcc h1
     obtain ⟨c2, l2, e2⟩ := leaveS_pre hcc h2
     exact ⟨Nat.le_trans c1 c2, l2 ++ l1, by rw [e2, e1, List.append_assoc]⟩
    ·cases h
   ·cases h
def modeOf : Option Value → FrameMode
 | none => .returning
 | some v => .panicking [{ v := v, recovered := false }]
theorem purS_ok {ops : Array Oper} {Q : Exit → Act → List Frame → World → Prop} {D : Den} {ρ : Nm} {wc w : World} {c0 : List Frame} : ∀ {l : List Oper} {k : Nat} {tm tm' : List (Nat × SV)} {a : Act}, purS P n l tm = some tm' → (∀ j, l[j]? = ops[k + j]?) → TSat D ρ wc n tm a →
  (∀ a', TSat D ρ wc n tm' a' → a'.defers = a.defers → Q .normal a' c0 w) → wpOpsSIn (WF none) 0 P ops Q (List.range' k l.length) a c0 w
 | [], k, tm, tm', a, h, hl, hT, hK => by cases h; exact hK a hT rfl
 | o :: r, k, tm, tm', a, h, hl, hT, hK => by
   unfold purS at h
   split at h
   ·rename_i x hg hx
    split at h
    ·rename_i hd
     have h0 : ops[k]? = some o := by simpa using (hl 0).symm
     obtain ⟨v, h1, h2⟩ := evPure_ok (P := P) (D := D) (ρ := ρ) (wc := wc) (w := w) (bk := []) (ev := a.eval) (fun x z hz => hT.get hz) (fun k b hk => by simp at hk) hx
     simp only [List.length_cons, List.range'_succ, wpOpsSIn, h0]
     refine ⟨fun _ _ => trivial, ?_⟩
     rw [if_pos (by simp [Region.wanted, hg]), h1]
     refine purS_ok h (fun j => by have := hl (j + 1); simpa [Nat.add_assoc, Nat.add_comm 1 j] using this) (hT.put hd h2) fun a' k1 k2 => hK a' k1 (k2.trans ?_)
     cases o.dst <;> rfl
    ·cases h
   ·cases h
theorem recover_run {P : Program} {o : Oper} {ev : Operand → Value} {w : World} (h : isRec o = true) : (execOp ev o).run P w = .ok .recover w ∧ o.guard = none := by
 unfold isRec at h
 split at h
 ·rename_i ts ho hg
  refine ⟨?_, hg⟩
  unfold execOp
  simp only [ho, resolve, Sem.run_bind, Sem.run_pure, Result.andThen_ok, invoke, builtin]
 ·cases h
theorem defS_ok (hcs : CallOk D P w0 X cs) (hcc : ∀ ys f args bk c th orc r, cs.call ys f args bk c th orc = some r → c ≤ r.c) (hm : P.follows .mixedOrders = true) {u : Option Value} {f : FuncId} {caps : List (Nat × Nat)} {s s' : Stt} {q : List Prop} (h : defS P cs ys u f caps s = some (s', q)) (hq : ∀ p ∈ q, p)
  {bd : Nat} {ρ : Nm} {wc w : World} (hS : Sat D w0 X s.th ρ wc w s.bk) (hY : YOk D P w0 X bd ys ρ wc w) (hn : ∀ k, s.c ≤ k → k < s'.c → ρ k = none) {vs : List Value} (hvs : adrs ρ caps vs) {R : Ending → FrameMode → World → Prop}
  (hR : ∀ v u' ρ' wc' w', settle u' = .returning → Sat D w0 X s'.th ρ' wc' w' s'.bk → Evo ρ wc w s.bk s.c s'.c ρ' wc' w' s'.bk → R (.returned v) u' w') : CallsDIn (WF none) 0 P f vs.toArray (modeOf u) w R := by
 unfold defS at h
 split at h
 ·rename_i fn hf
  split at h
  ·rename_i id ops rest hb
   split at h
   ·rename_i o os hops
    split at h
    ·rename_i hc
     rw [Bool.and_eq_true, Bool.and_eq_true] at hc
     obtain ⟨⟨hrec, hdst⟩, hone⟩ := hc
     split at h
     ·rename_i tm htm
      have hargs : denAs D ρ wc (capsA caps) vs := capsA_ok hvs
      have hsz : vs.toArray.size = (capsA caps).length := by simp [hargs.len]
      refine callsDIn_of_wpSIn hf hb trivial fun c₀ cs0 hu => ?_
      rw [hsz]
      have hT0 := frame0_ok (D := D) (ρ := ρ) (w := wc) hargs (fn.ntmps - (capsA caps).length)
      have hoo : ops[0]? = some o := by rw [← Array.getElem?_toList, hops]; rfl
      have hlen : ops.size = os.length + 1 := by rw [← Array.length_toList, hops]; rfl
      have fin : ∀ u', settle u' = .returning → wpOpsSIn (WF none) 0 P ops (Exit.thenS (rest.wpSIn (WF none) 0 P (bodyPostS P fn c₀ cs0 R)) (bodyPostS P fn c₀ cs0 R)) (List.range' 1 os.length)
        (({ tmps := vs.toArray ++ Array.replicate (fn.ntmps - (capsA caps).length) undef, defers := [] } : Act).put o.dst (u.getD .nilIface)) ({ c₀ with mode := u' } :: cs0) w := by
       intro u' hu'
       refine purS_ok (D := D) (ρ := ρ) (wc := wc) htm (fun j => ?_) (hT0.put hdst ⟨rfl, hone⟩) fun a' k1 k2 => ?_
       ·rw [← Array.getElem?_toList, hops, Nat.add_comm 1 j, List.getElem?_cons_succ]
       ·have hd0 : a'.defers = [] := k2.trans (by cases o.dst <;> rfl)
        show rest.wpSIn (WF none) 0 P _ a' _ w
        refine wpSIn_of_wpIn rfl ?_
        split at h
        ·rename_i s2 q2 hev
         split at h
         ·rename_i xs hdf hres
          cases h
          refine evC_ok hcs hcc hm FU false rest _ s2 .norm _ bd 0 ρ wc w a' _ none (Nat.zero_le _) (fun _ => rfl) hev hq hS hY k1 hd0 hn ?_
          intro ρ' wc' w' a2 m1 m2 m3 m4
          rw [hdf] at m3
          obtain ⟨v, hv1, hv2⟩ := results_ok (P := P) m2 m1.bkOk hres
          exact ⟨m3, u', rfl, v, hv1, hR v u' ρ' wc' w' hu' m1 m4⟩
         ·cases h
        ·rename_i s2 q2 hev
         split at h
         ·rename_i xs hdf hres
          cases h
          refine evC_ok hcs hcc hm FU false rest _ s2 .ret _ bd 0 ρ wc w a' _ none (Nat.zero_le _) (fun _ => rfl) hev hq hS hY k1 hd0 hn ?_
          intro ρ' wc' w' a2 m1 m2 m3 m4
          rw [hdf] at m3
          obtain ⟨v, hv1, hv2⟩ := results_ok (P := P) m2 m1.bkOk hres
          exact ⟨m3, u', rfl, v, hv1, hR v u' ρ' wc' w' hu' m1 m4⟩
         ·cases h
        ·cases h
      apply wpSIn_seq
      apply wpSIn_region
      rw [hlen, List.range_eq_range', List.range'_succ]
      simp only [wpOpsSIn, hoo]
      obtain ⟨hrun, hg⟩ := recover_run (P := P) (ev := ({ tmps := vs.toArray ++ Array.replicate (fn.ntmps - (capsA caps).length) undef, defers := [] } : Act).eval) (w := w) hrec
      refine ⟨fun _ _ => trivial, ?_⟩
      rw [if_pos (by simp [Region.wanted, hg]), hrun]
      dsimp only
      cases u with
      | none =>
        have hr : recoverD (c₀ :: cs0) = none := by simp only [recoverD, hu, modeOf]
        rw [hr]
        have := fin .returning rfl
        rw [show ({ c₀ with mode := .returning } : Frame) = c₀ from by
         cases c₀; simp only [modeOf] at hu; subst hu; rfl] at this
        exact this
      | some v =>
        have hr : recoverD (c₀ :: cs0) = some (v, { c₀ with mode := .panicking [{ v := v, recovered := true }] } :: cs0) := by simp only [recoverD, hu, modeOf]
        rw [hr]
        exact fin _ rfl
     ·cases h
    ·cases h
   ·cases h
  ·cases h
 ·cases h
theorem leaveS_ok (hcs : CallOk D P w0 X cs) (hcc : ∀ ys f args bk c th orc r, cs.call ys f args bk c th orc = some r → c ≤ r.c) (hm : P.follows .mixedOrders = true) {fn : Func} {tmps : Array Value} {R : Ending → World → Prop} {ρB : Nm} {wcB wB : World} {bkB : List (Nat × Blk)} {cB : Nat}
  (hB : ∀ k b, Liv bkB k b → ∃ B, ρB k = some B) (h0 : w0.heap.size ≤ wB.heap.size) : ∀ {df : List DF} {u u' : Option Value} {s s' : Stt} {q : List Prop} {bd : Nat} {ρ : Nm} {wc w : World} {ds : List Deferred},
  leaveS P cs ys df u s = some (u', s', q) → (∀ p ∈ q, p) → Sat D w0 X s.th ρ wc w s.bk → YOk D P w0 X bd ys ρ wc w → DfOk P wB.heap.size ρ w df ds → (∀ k, s.c ≤ k → k < s'.c → ρ k = none) → Evo ρB wcB wB bkB cB s.c ρ wc w s.bk →
  (∀ ρ' wc' w', ρ.le ρ' → Ext wc wc' → Sat D w0 X s'.th ρ' wc' w' s'.bk → Evo ρB wcB wB bkB cB s'.c ρ' wc' w' s'.bk → LeavesInM (WF none) 0 P fn tmps R [] (modeOf u') w') → LeavesInM (WF none) 0 P fn tmps R ds (modeOf u) w
 | [], u, u', s, s', q, bd, ρ, wc, w, ds, h, hq, hS, hY, hD, hn, hE, hK => by
   cases h
   rw [show ds = [] from hD]
   exact hK ρ wc w (Nm.le.refl _) (Ext.refl _) hS hE
 | .col k :: r, u, u', s, s', q, bd, ρ, wc, w, ds, h, hq, hS, hY, ⟨B, d, h1, h2, hm0, hb, h3, h4⟩, hn, hE, hK => by
   unfold leaveS at h
   subst h1
   refine ⟨by cases u <;> simp [modeOf], .inl ⟨B.blk, _, rfl, run_takeDeferred h3, ?_⟩⟩
   refine leaveS_ok hcs hcc hm hB h0 h hq (hS.putObj h3 rfl (by omega) _) (hY.step (Nm.le.refl _) (Ext.refl _) fun l lp _ hl => ?_) (h4.step (Nm.le.refl _) fun l ⟨x, hx, e⟩ hl => ?_) hn (hE.putNew hm0 _) hK
   ·rw [World.putObj_heap_other ?_]
    ·exact hl
    ·intro e; subst e; rw [h3] at hl; cases hl
   ·rw [World.putObj_heap_other ?_]
    ·exact hl
    ·have := hb x hx l e
     omega
 | .clo f caps :: r, u, u', s, s', q, bd, ρ, wc, w, ds, h, hq, hS, hY, ⟨vs, d, h1, h2, h3, h4⟩, hn, hE, hK => by
   unfold leaveS at h
   subst h1
   split at h
   ·rename_i s1 q1 hd
    split at h
    ·rename_i u2 s2 q2 hl
     cases h
     have c1 := (defS_pre hcc hd).1
     have c2 := (leaveS_pre hcc hl).1
     refine ⟨by cases u <;> simp [modeOf], .inr ⟨(fun hh => by cases hh), .func f, vs.toArray, f, vs.toArray, rfl, ?_, fun _ _ => trivial, ?_⟩⟩
     ·simp [invoke, enters_run h3]
     ·refine defS_ok hcs hcc hm hd (fun p hp => hq p (by simp [hp])) hS hY (fun k k1 k2 => hn k k1 (by omega)) h2 ?_
      intro v u3 ρ' wc' w' hset k1 k2
      dsimp only
      rw [hset]
      refine leaveS_ok (u := none) hcs hcc hm hB h0 hl (fun p hp => hq p (by simp [hp])) k1 (hY.evo hS k2) (h4.evo hS k2) (fun k j1 j2 => ?_) (hE.trans k2 hB) fun ρ2 wc2 w2 g1 g2 g3 g4 => hK ρ2 wc2 w2 (k2.rho.trans g1) (k2.ext.trans g2) g3 g4
      rw [k2.dom k (.inr j1)]
      exact hn k (by omega) j2
    ·cases h
   ·cases h
theorem specRun_cc {sp : List (Ctr D P w0 X)} {f : FuncId} {args : List SA} {bk : List (Nat × Blk)} {c : Nat} {orc : List (Option Bool)} {r : OpR} (h : specRun sp f args bk c orc = some r) : c ≤ r.c := by
 unfold specRun at h
 split at h
 ·rename_i p hp
  exact p.cc _ _ _ _ _ h
 ·cases h
theorem endS_cc {cs : CallS} (hcc : ∀ ys f args bk c th orc r, cs.call ys f args bk c th orc = some r → c ≤ r.c) {fn : Func} {bk : List (Nat × Blk)} {c : Nat} {u : Option Value} {s' : Stt} {q : List Prop} {r : OpR} (h : endS P cs ys fn bk c u s' q = some r) : s'.c ≤ r.c := by
 unfold endS at h
 split at h
 ·rename_i hl
  cases h
  exact (leaveS_pre hcc hl).1
 ·rename_i hl
  split at h
  ·cases h
   exact (leaveS_pre hcc hl).1
  ·cases h
 ·cases h
theorem evF_cc (sp : List (Ctr D P w0 X)) (fx : List (Fct D P w0 X)) : ∀ d, ∀ ys f args bk c th orc r, evF P sp fx d ys f args bk c th orc = some r → c ≤ r.c
 | 0, ys, f, args, bk, c, th, orc, r, h => by simp [evF] at h
 | d + 1, ys, f, args, bk, c, th, orc, r, h => by
   have hcc := evF_cc sp fx d
   simp only [evF] at h
   split at h
   ·rename_i hs
    cases h
    exact specRun_cc hs
   ·split at h
    ·split at h
     ·split at h
      ·cases h
      ·rename_i hev
       exact Nat.le_trans (evC_pre (cs := ⟨evF P sp fx d, fctRun fx⟩) hcc hev).1 (endS_cc (cs := ⟨evF P sp fx d, fctRun fx⟩) hcc h)
      ·rename_i hev
       exact Nat.le_trans (evC_pre (cs := ⟨evF P sp fx d, fctRun fx⟩) hcc hev).1 (endS_cc (cs := ⟨evF P sp fx d, fctRun fx⟩) hcc h)
      ·rename_i hev
       exact Nat.le_trans (evC_pre (cs := ⟨evF P sp fx d, fctRun fx⟩) hcc hev).1 (endS_cc (cs := ⟨evF P sp fx d, fctRun fx⟩) hcc h)
      ·cases h
     ·cases h
    ·cases h
theorem endS_ok (hcs : CallOk D P w0 X cs) (hcc : ∀ ys f args bk c th orc r, cs.call ys f args bk c th orc = some r → c ≤ r.c) (hm : P.follows .mixedOrders = true) {fn : Func} {bk : List (Nat × Blk)} {c : Nat} {u : Option Value} {s' : Stt} {q : List Prop} {r : OpR} (h : endS P cs ys fn bk c u s' q = some r) (hq : ∀ p ∈ r.obl, p)
  (hlt : ∀ k b, bk.look k = some b → k < c) (hsuf : u = none → ∃ l, s'.bk = l ++ bk) {th : Nat} {ρ : Nm} {wc w : World} (hS : Sat D w0 X th ρ wc w bk) (hn : ∀ k, c ≤ k → k < r.c → ρ k = none) (hcs' : c ≤ s'.c)
  {bd : Nat} {ρ' : Nm} {wc' w' : World} {a : Act} (k1 : Sat D w0 X s'.th ρ' wc' w' s'.bk) (hY : YOk D P w0 X bd ys ρ' wc' w') (k2 : TSat D ρ' wc' n s'.tm a) (k3 : DfOk P w.heap.size ρ' w' s'.df a.defers) (k4 : Evo ρ wc w bk c s'.c ρ' wc' w' s'.bk) :
  LeavesInM (WF none) 0 P fn a.tmps (Post D w0 X ρ wc w bk c r) a.defers (modeOf u) w' := by
 have tmS : ∀ {df : List DF} {u u' : Option Value} {s s2 : Stt} {q : List Prop}, leaveS P cs ys df u s = some (u', s2, q) → s2.tm = s.tm := by
  intro df
  induction df with
  | nil => intro u u' s s2 q h; cases h; rfl
  | cons x r ih =>
    intro u u' s s2 q h
    cases x with
    | col k => exact ih (by unfold leaveS at h; exact h)
    | clo f caps =>
      unfold leaveS at h
      split at h
      ·rename_i s1 q1 hd
       split at h
       ·rename_i hl
        cases h
        rw [ih hl]
        unfold defS at hd
        repeat' (split at hd)
        all_goals first | contradiction | (cases hd; rfl)
       ·cases h
      ·cases h
 unfold endS at h
 split at h
 ·rename_i v s2 q2 hl
  cases h
  have c2 := (leaveS_pre hcc hl).1
  refine leaveS_ok hcs hcc hm hS.named hS.fr.size hl (fun p hp => hq p (by simp [hp])) k1 hY k3 (fun k j1 j2 => by rw [k4.dom k (.inr j1)]; exact hn k (by omega) j2) k4 ?_
  intro ρ2 wc2 w2 g1 g2 g3 g4
  exact ⟨undef, ρ2, wc2, rfl, trivial, g3, g4⟩
 ·rename_i s2 q2 hl
  split at h
  ·rename_i xs hres
   cases h
   obtain ⟨c2, l2, hl2⟩ := leaveS_pre hcc hl
   refine leaveS_ok hcs hcc hm hS.named hS.fr.size hl (fun p hp => hq p (by simp [hp])) k1 hY k3 (fun k j1 j2 => by rw [k4.dom k (.inr j1)]; exact hn k (by omega) j2) k4 ?_
   intro ρ2 wc2 w2 g1 g2 g3 g4
   have hT2 : TSat D ρ2 wc2 n s2.tm { tmps := a.tmps, defers := [] } := by
    rw [tmS hl]
    exact ⟨k2.size, (k2.mono g1 g2).at_⟩
   obtain ⟨v, hv1, hv2⟩ := results_ok (P := P) hT2 g3.bkOk hres
   refine ⟨v, hv1, v, ρ2, wc2, rfl, hv2, ?_⟩
   have hsub : ∀ keep : Nat → Bool, (∀ k, k < c → keep k = true) → Sub' ((match u with
     | none => dedup keep (s2.bk.take (s2.bk.length - bk.length)) []
     | some _ => dedup keep s2.bk [] ++ tombs s2.bk bk) ++ bk) s2.bk := by
    intro keep hkeep k b hk
    obtain ⟨hk, hdd⟩ := hk
    refine ⟨?_, hdd⟩
    rw [look_append] at hk
    cases u with
    | none =>
      dsimp only at hk
      obtain ⟨l, hl'⟩ := hsuf rfl
      have e : s2.bk = (l2 ++ l) ++ bk := by rw [hl2, hl', List.append_assoc]
      have e2 : s2.bk.take (s2.bk.length - bk.length) = l2 ++ l := by rw [e, List.length_append, Nat.add_sub_cancel, List.take_left]
      rw [e2, look_dedup] at hk
      rw [e, look_append]
      simp only [mem, List.any_nil, Bool.false_eq_true, if_false] at hk
      by_cases hkp : keep k = true
      ·rw [if_pos hkp] at hk; exact hk
      ·rw [if_neg hkp, Option.none_or] at hk
       exact absurd (hkeep k (hlt k b hk)) hkp
    | some v =>
      dsimp only at hk
      obtain ⟨t1, t2, t3⟩ := look_tombs s2.bk k bk
      rw [look_append, look_dedup] at hk
      simp only [mem, List.any_nil, Bool.false_eq_true, if_false] at hk
      have lateT : ∀ {z : Option Blk}, (z.or ((tombs s2.bk bk).look k)).or (bk.look k) = some b → z = none → s2.bk.look k = none ∨ keep k ≠ true → False := by
       intro z hz hzn hor
       subst hzn
       rw [Option.none_or] at hz
       cases ht : (tombs s2.bk bk).look k with
       | some y =>
         rw [ht, Option.some_or] at hz
         cases hz
         rw [t1 _ ht] at hdd
         cases hdd
       | none =>
         rw [ht, Option.none_or] at hz
         rcases hor with h | h
         ·have := t2 h (by rw [hz]; rfl)
          rw [ht] at this
          cases this
         ·exact h (hkeep k (hlt k b hz))
      by_cases hkp : keep k = true
      ·rw [if_pos hkp] at hk
       cases hsk : s2.bk.look k with
       | some y =>
         rw [hsk, Option.some_or, Option.some_or] at hk
         exact hk
       | none =>
         rw [hsk] at hk
         exact (lateT hk rfl (.inl hsk)).elim
      ·rw [if_neg hkp] at hk
       exact (lateT hk rfl (.inr hkp)).elim
   have hkc : ∀ (l : List SA) (p m : List (Nat × Blk)) k, k < c → keepS' c l p m k = true := by
    intro l p m k hk
    unfold keepS'
    rw [Bool.or_eq_true]
    exact .inl (by rw [Nat.blt_eq]; exact hk)
   cases u with
   | none =>
     have hs := hsub _ (hkc xs (s2.bk.take (s2.bk.length - bk.length)) s2.bk)
     exact ⟨g3.sub' hs, g4.sub' hs⟩
   | some v =>
     have hs := hsub _ (hkc xs s2.bk s2.bk)
     exact ⟨g3.sub' hs, g4.sub' hs⟩
  ·cases h
 ·cases h
theorem evF_ok (hm : P.follows .mixedOrders = true) (sp : List (Ctr D P w0 X)) (fx : List (Fct D P w0 X)) : ∀ d, CallFOk D P w0 X (evF P sp fx d)
 | 0 => fun ys f args bk c th orc r h => by simp [evF] at h
 | d + 1 => by
   have ih : CallOk D P w0 X ⟨evF P sp fx d, fctRun fx⟩ := ⟨evF_ok hm sp fx d, fun o get x h => fctRun_ok h⟩
   have hcc := evF_cc sp fx d
   intro ys f args bk c th orc r h hobl bd ρ wc w vals hS hY hlt hth hn hargs
   simp only [evF] at h
   split at h
   ·rename_i r' hsr
    cases h
    unfold specRun at hsr
    split at hsr
    ·rename_i p hp
     obtain rfl := specOf_ok hp
     exact p.sound _ _ _ _ _ hsr hobl th ρ wc w vals hS hlt hn hargs
    ·cases hsr
   ·split at h
    ·rename_i fn hf
     split at h
     ·rename_i code hb
      have hsz : vals.toArray.size = args.length := by simp [hargs.len]
      have main : ∀ {o : Ot} {s' : Stt} {q : List Prop} {u : Option Value}, evC P ⟨evF P sp fx d, fctRun fx⟩ ys (args.length + (fn.ntmps - args.length)) FU false code ⟨frame0 0 args, bk, c, th, orc, []⟩ = some (o, s', q) → endS P ⟨evF P sp fx d, fctRun fx⟩ ys fn bk c u s' q = some r →
        (∀ a w', LeavesInM (WF none) 0 P fn a.tmps (Post D w0 X ρ wc w bk c r) a.defers (modeOf u) w' → bodyPostM (WF none) 0 P fn (Post D w0 X ρ wc w bk c r) o.ex a w') → (u = none → ∀ v, o ≠ .pan v) → Calls P f vals.toArray w (Post D w0 X ρ wc w bk c r) := by
       intro o s' q u hev hend hex hou
       obtain ⟨p1, p2⟩ := evC_pre (cs := ⟨evF P sp fx d, fctRun fx⟩) hcc hev
       have c2 := endS_cc (cs := ⟨evF P sp fx d, fctRun fx⟩) hcc hend
       have hq : ∀ p ∈ q, p := fun p hp => hobl p (by
        unfold endS at hend
        split at hend
        ·cases hend; simp [hp]
        ·split at hend
         ·cases hend; simp [hp]
         ·cases hend
        ·cases hend)
       refine callsIn_WF (ro := none) (n := 0) |>.1 (callsIn_of_wp_marks hf hb trivial ?_ rfl)
       rw [hsz]
       refine evC_ok ih hcc hm FU false code _ s' o q bd w.heap.size ρ wc w _ _ none (Nat.le_refl _) (fun _ => rfl) hev hq hS hY (frame0_ok hargs _) rfl (fun k j1 j2 => hn k j1 (by omega)) ?_
       intro ρ' wc' w' a' k1 k2 k3 k4
       exact hex a' w' (endS_ok ih hcc hm hend hobl hlt (fun hu => p2 (hou hu)) hS hn p1 k1 (hY.evo hS k4) k2 k3 k4)
      split at h
      ·cases h
      ·rename_i s' q hev
       exact main hev h (fun a w' hl => hl) (fun _ v => by simp)
      ·rename_i s' q hev
       exact main hev h (fun a w' hl => hl) (fun _ v => by simp)
      ·rename_i v s' q hev
       exact main hev h (fun a w' hl => hl) (fun hu => by cases hu)
      ·cases h
     ·cases h
    ·cases h
end
end
section
def AllP : List Prop → Prop
 | [] => True
 | p :: r => p ∧ AllP r
theorem AllP.all : ∀ {l : List Prop}, AllP l → ∀ p ∈ l, p
 | [], _, p, h => by cases h
 | x :: r, ⟨hx, hr⟩, p, h => by
   rcases List.mem_cons.1 h with rfl | h
   ·exact hx
   ·exact AllP.all hr p h
theorem evRun0 {D : Den} {P : Program} (hm : P.follows .mixedOrders = true) {w : World} (sp : List (Ctr D P w (fun _ => False))) (fx : List (Fct D P w (fun _ => False))) {f : FuncId} {d : Nat} {args : List SA} {orc : List (Option Bool)} (V : SV) (L : List Prop)
  (hev : (evF P sp fx d [] f args [] 0 0 orc).map (fun r => (r.v, r.obl, r.pan)) = some (V, L, none)) (hL : AllP L) {vals : List Value} (hargs : denAs D (fun _ => none) w args vals) :
  Calls P f vals.toArray w fun e w' => ∃ v ρ', e = .returned v ∧ denV D ρ' w' V v ∧ Below w.heap.size w w' := by
 obtain ⟨r, hr, he⟩ := Option.map_eq_some_iff.1 hev
 simp only [Prod.mk.injEq] at he
 obtain ⟨rfl, rfl, hpan⟩ := he
 have hS : Sat D w (fun _ => False) 0 (fun _ => none) w w [] := ⟨Frm.refl _ _, Ext.refl _, (fun _ _ _ _ _ _ h => by have := h.1; simp at this), (fun _ _ h => by cases h), fun _ _ h => by have := h.1; simp at this⟩
 refine (evF_ok hm sp fx d [] f args [] 0 0 orc _ hr hL.all 0 (fun _ => none) w w vals hS trivial (fun k b hk => by simp at hk) (Nat.le_refl _) (fun _ _ _ => rfl) hargs).mono ?_
 rintro e w' ⟨u, ρ', wc', hend, hu, k1, k2⟩
 unfold OpR.ends at hend
 rw [hpan] at hend
 exact ⟨u, ρ', hend, hu.mono (Nm.le.refl _) k1.ext, ⟨k2.os, k2.tape, k2.output, k2.size, fun i hi => k2.loc i hi fun k b B hk => by have := hk.1; simp at this⟩⟩
section
variable {D : Den} {w0 : World} {X : Nat → Prop} {th : Nat} {ρ : Nm} {wc w : World} {bk : List (Nat × Blk)}
end
end
end Go.Ex
namespace Go.Proofs.YtdgodcgdlfjpaaaGreatDoor
open Go.RowKit Go.Mono
theorem less_closure (m0 : Nat) (w wf : World) (hx : Ext wf w) (p q : Option Addr) (n m c1 c2 B : Nat) (N M : Int) (h1 : Sz m0 wf (.slice p n c1) N) (h2 : Sz m0 wf (.slice q m c2) M) (hM : 0 < M) (hm0 : m0 ≤ 1000000) (b0 : Box w B 147 #[.slice q m c2]) :
  Calls Tryz.prog 227 #[.slice p n c1, .pointer (some ⟨B, 0, none⟩)] w fun e w' => ∃ p1 k1 c1, e = .returned (.slice p1 k1 c1) ∧ Sz m0 w' (.slice p1 k1 c1) (N / M) ∧ Below w.heap.size w w' := by
 have ho := without_sz m0 w wf hx p q n m c1 c2 N M h1 h2 hM hm0
 have cb := b0.cell
 go_enter Tryz.func227, Tryz.ntmps227
 go_wp2_with (go_at_call 166; refine ho.mono ?_; rintro e w' ⟨p1, k1, c3, rfl, z1, hb2⟩)
 go_ret
 exact ⟨_, _, _, rfl, z1, hb2⟩
theorem reduced_sz (s : Bool) (p q : Option Addr) (k c l d m : Nat) (N D : Int) (w wf : World) (hx : Ext wf w) (z : Sz m wf (.slice p k c) N) (y : Sz m wf (.slice q l d) D) (hD : 0 < D) (hm : m ≤ 1000000) :
  Calls Tryz.prog 169 #[.agg #[.bool s, .slice p k c, .slice q l d]] w fun e w' => ∃ p n c q l d, e = .returned (.agg #[.bool s, .slice p n c, .slice q l d]) ∧ Sz m w' (.slice p n c) (N / gcdZ N D) ∧ Sz m w' (.slice q l d) (D / gcdZ N D) ∧ Below w.heap.size w w' := by
 replace z := z.ext hx
 replace y := y.ext hx
 have hG : 0 < gcdZ N D := by
  have : 0 < Nat.gcd N.toNat D.toNat := Nat.gcd_pos_of_pos_right _ (by omega)
  unfold gcdZ; omega
 clear hx
 go_enter Tryz.func169, Tryz.ntmps169
 go_wp2_with fail
 refine boxes2c fun W hB hs b0 b1 => ?_
 have x0 := Ext.of_below hB
 refine (common_sz m W w x0 p q k l c d _ _ z y hm).mono ?_
 rintro e W1 ⟨pg, kg, cg, rfl, zg, hb⟩
 replace z := z.ext x0
 replace y := y.ext x0
 replace hB := belowCall hB hb
 replace z := z.ext (.of_below hb)
 replace y := y.ext (.of_below hb)
 replace b0 := b0.below hb
 try clear cb0 lb0 fb0
 have cb0 := b0.cell
 have lb0 := b0.lt
 have fb0 := b0.frozen
 replace b1 := b1.below hb
 try clear cb1 lb1 fb1
 have cb1 := b1.cell
 have lb1 := b1.lt
 have fb1 := b1.frozen
 generalize hGe : gcdZ N D = G at zg hG
 replace hGe := Lib.hid hGe
 clear x0 hb
 have hmf : ∀ (fn : Fn) (first cap : Array Value) (w : World), (Instr.makeFunc fn first cap).run Tryz.prog w = .ok (.func fn first cap) w := fun _ _ _ _ => rfl
 go_wp2_with fail
 refine boxes1 fun W2 hb2 hs2 bg => ?_
 have ng : W1.heap.size ≠ w.heap.size + 1 := by omega
 replace hB := belowCall hB hb2
 replace z := z.ext (.of_below hb2)
 replace y := y.ext (.of_below hb2)
 replace zg := zg.ext (.of_below hb2)
 replace b0 := b0.below hb2
 try clear cb0 lb0 fb0
 have cb0 := b0.cell
 have lb0 := b0.lt
 have fb0 := b0.frozen
 replace b1 := b1.below hb2
 try clear cb1 lb1 fb1
 have cb1 := b1.cell
 have lb1 := b1.lt
 have fb1 := b1.frozen
 have cbg := bg.cell
 have lbg := bg.lt
 have fbg := bg.frozen
 have K0 := KeepBut.refl (w.heap.size + 1) W2
 have n0 : w.heap.size ≠ w.heap.size + 1 := by omega
 clear hb2
 go_region_held3 (fun w' => (∀ b o, b < W2.heap.size → b ≠ (w.heap.size + 1) → w'.cell? ⟨b, o, none⟩ = W2.cell? ⟨b, o, none⟩) ∧ KeepBut (w.heap.size + 1) W2.heap.size W2 w') ((refine KeepBut.S ?_; first | exact K0.drew | (repeat' (first | exact And.right ‹_› | exact KeepBut.call (And.right ‹_›) ‹_› | refine KeepBut.set ?_ _ _ | refine KeepBut.alloc ?_ _)))) (first | (go_at_call 227; (with_reducible refine (less_closure m _ W2 (KeepBut.ext (And.right ‹_›) b1 (by decide)) p pg k kg c cg W1.heap.size _ _ z zg hG hm (KeepBut.box (And.right ‹_›) bg (by assumption) (by assumption))).mono ?_); rintro e W3 ⟨p3, k3, c3, rfl, z3, hb3⟩; have b13 := b1.drew.below hb3; have cb13 := b13.cell; have fb13 := b13.frozen) | (go_at_call 227; (with_reducible refine (less_closure m _ W2 (KeepBut.ext (And.right ‹_›) b1 (by decide)) q pg l kg d cg W1.heap.size _ _ y zg hG hm (KeepBut.box (And.right ‹_›) bg (by assumption) (by assumption))).mono ?_); rintro e W4 ⟨p4, k4, c4, rfl, z4, hb4⟩; replace z3 := z3.ext (.of_below hb4); have b14 := b13.below hb4; have cb14 := b14.cell; have fb14 := b14.frozen))
 go_wp2
 have b3' := ((((b14.set 0 (.bool s)).set 1 (.slice p3 k3 c3)).set 2 (.slice p4 k4 c4))).cell
 have xE : Ext W4 _ := ((((Ext.refl W4).set b14 (by decide) 0 (.bool s)).set (b14.set 0 (.bool s)) (by decide) 1 (.slice p3 k3 c3))).set ((b14.set 0 (.bool s)).set 1 (.slice p3 k3 c3)) (by decide) 2 (.slice p4 k4 c4)
 refine bodyPost_ret (v := .agg #[.bool s, .slice p3 k3 c3, .slice p4 k4 c4]) (by simp [results, Tryz.results169, go_sem, b3']) rfl ⟨_, _, _, _, _, _, rfl, ?_, ?_, ?_⟩
 ·rw [hGe.out]; exact z3.ext xE
 ·rw [hGe.out]; exact z4.ext xE
 ·exact KeepBut.below (And.right ‹_›) hB (by omega) hB.size
end Go.Proofs.YtdgodcgdlfjpaaaGreatDoor
