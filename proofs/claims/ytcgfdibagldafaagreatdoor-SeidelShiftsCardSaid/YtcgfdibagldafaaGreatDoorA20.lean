/- Contracts of the program's fractions, lenses and rays, and a verified evaluator of the model. Part 20 of 30. No condition beside the row. -/
import Derived.Scope
import Derived.Deep.MidRow
import Derived.Test.YtcgfdibagldafaaGreatDoorA19
set_option linter.unusedVariables false
set_option linter.unusedSimpArgs false
set_option maxRecDepth 100000
set_option maxHeartbeats 4000000
namespace Go.Ex
open Go.RowKit Go.Mono
theorem Sat.congr {D : Den} {w0 : World} {X : Nat → Prop} {th : Nat} {ρ : Nm} {wc w : World} {bk bk' : List (Nat × Blk)} (h : Sat D w0 X th ρ wc w bk) (he : ∀ k, bk'.look k = bk.look k) : Sat D w0 X th ρ wc w bk' :=
 h.sub fun k b hk => by rw [← he]; exact hk
theorem TSat.sub {D : Den} {ρ : Nm} {w : World} {n : Nat} {tm tm' : List (Nat × SV)} {a : Act} (h : TSat D ρ w n tm a) (hs : Sub tm' tm) : TSat D ρ w n tm' a := ⟨h.size, fun t x hl => h.at_ t x (hs t x hl)⟩
theorem Evo.congr {ρ ρ' : Nm} {wc w wc' w' : World} {bk b1 b2 : List (Nat × Blk)} {c c' : Nat} (h : Evo ρ wc w bk c c' ρ' wc' w' b1) (he : ∀ k, b2.look k = b1.look k) : Evo ρ wc w bk c c' ρ' wc' w' b2 :=
 h.sub fun k b hk => by rw [← he]; exact hk
theorem Evo.widen {ρ ρ' : Nm} {wc w wc' w' : World} {bk b1 : List (Nat × Blk)} {c c' d d' : Nat} (h : Evo ρ wc w bk c c' ρ' wc' w' b1) (h1 : d ≤ c) (h2 : c' ≤ d') : Evo ρ wc w bk d d' ρ' wc' w' b1 :=
 ⟨h.rho, h.ext, h.size, h.os, h.tape, h.output, h.loc, fun k b hk => (h.ids k b hk).imp id fun ⟨k1, k2, hh⟩ => ⟨by omega, by omega, hh⟩, by have := h.cc; omega, fun k hk => h.dom k (by omega)⟩
theorem Evo.join {ρ ρ1 ρ2 : Nm} {wc w wc1 w1 wc2 w2 : World} {bk bk1 bk2 : List (Nat × Blk)} {c d : Nat}
  (h : Evo ρ wc w bk c d ρ1 wc1 w1 bk1) (g : Evo ρ1 wc1 w1 bk1 c d ρ2 wc2 w2 bk2) (hlt : ∀ k b, Liv bk k b → ∃ B, ρ k = some B) : Evo ρ wc w bk c d ρ2 wc2 w2 bk2 where
 rho := h.rho.trans g.rho
 ext := h.ext.trans g.ext
 size := Nat.le_trans h.size g.size
 os := g.os.trans h.os
 tape := g.tape.trans h.tape
 output := g.output.trans h.output
 loc := fun i hi hn => by
  rw [g.loc i (Nat.lt_of_lt_of_le hi h.size) ?_, h.loc i hi hn]
  intro k b C hk he hro
  rcases h.ids k b hk with ⟨b', hb'⟩ | ⟨_, _, B, hB, hle⟩
  ·obtain ⟨B, hB⟩ := hlt k b' hb'
   have := h.rho k B hB
   rw [he] at this
   cases this
   exact hn k b' C hb' hB hro
  ·rw [he] at hB
   cases hB
   rcases hle with hle | ⟨k0, b0, B0, h1, h2, h3, h4⟩
   ·omega
   ·rw [← h4]; exact hn k0 b0 B0 h1 h2 h3
 ids := fun k b hk => by
  rcases g.ids k b hk with ⟨b', hb'⟩ | ⟨k1, k2, B, hB, hle⟩
  ·rcases h.ids k b' hb' with h2 | ⟨k1, k2, B, hB, hle⟩
   ·exact .inl h2
   ·exact .inr ⟨k1, k2, B, g.rho k B hB, hle⟩
  ·refine .inr ⟨k1, k2, B, hB, ?_⟩
   rcases hle with hle | ⟨k0, b0, B0, h1, h2, h3, h4⟩
   ·exact .inl (Nat.le_trans h.size hle)
   ·rcases h.ids k0 b0 h1 with ⟨b', hb'⟩ | ⟨_, _, B1, hB1, hle⟩
    ·obtain ⟨B1, hB1⟩ := hlt k0 b' hb'
     have := h.rho k0 B1 hB1
     rw [h2] at this
     cases this
     exact .inr ⟨k0, b', B0, hb', hB1, h3, h4⟩
    ·rw [h2] at hB1
     cases hB1
     rw [← h4]
     exact hle
 cc := h.cc
 dom := fun k hk => (g.dom k hk).trans (h.dom k hk)
theorem look_filter {α : Type} (f : Nat → Bool) (k : Nat) : ∀ l : List (Nat × α), (l.filter fun q => f q.1).look k = if f k = true then l.look k else none
 | [] => by simp
 | (k', x) :: r => by
   have ih := look_filter f k r
   rw [List.filter_cons]
   dsimp only
   by_cases h : f k' = true
   ·rw [if_pos h, look_cons, look_cons, ih]
    by_cases e : k = k'
    ·subst e; rw [if_pos rfl, if_pos rfl, if_pos h]
    ·rw [if_neg e, if_neg e]
   ·rw [if_neg h, ih, look_cons]
    by_cases e : k = k'
    ·subst e; rw [if_neg h, if_neg h]
    ·rw [if_neg e]
def left (L : Nat → Bool) : Nat → Nat
 | 0 => 0
 | m + 1 => (if L m then 0 else 1) + left L m
theorem left_le (L : Nat → Bool) (i : Nat) : ∀ m, left (fun j => j == i || L j) m ≤ left L m
 | 0 => Nat.le_refl _
 | m + 1 => by
   have := left_le L i m
   unfold left
   cases hL : L m <;> cases he : (m == i) <;> simp only [hL, he, Bool.or_true, Bool.or_false, Bool.true_or, Bool.false_or, if_true, Bool.false_eq_true, if_false] <;> omega
theorem left_lt {L : Nat → Bool} {i : Nat} (hi : L i = false) : ∀ m, i < m → left (fun j => j == i || L j) m < left L m
 | 0, h => by omega
 | m + 1, h => by
   unfold left
   by_cases e : i = m
   ·subst e
    have := left_le L i i
    simp only [hi, BEq.rfl, Bool.true_or, if_true, Bool.false_eq_true, if_false]
    omega
   ·have := left_lt hi m (by omega)
    have e' : (m == i) = false := by simp; omega
    simp only [e', Bool.false_or]
    omega
theorem left_zero {L : Nat → Bool} : ∀ m, left L m = 0 → ∀ j, j < m → L j = true
 | 0, _, j, hj => by omega
 | m + 1, h, j, hj => by
   unfold left at h
   by_cases e : j = m
   ·subst e
    cases hL : L j with
    | true => rfl
    | false => rw [hL] at h; simp at h; 
   ·exact left_zero m (by omega) j (by omega)
theorem acc_mem {α : Type} {ws : List (List (Nat × α))} {l0 : List (Nat × α)} {L : Nat → Bool} {k : Nat} {b : α} : ∀ N, (accAt ws L l0 N).look k = some b → l0.look k = some b ∨ ∃ j, ((ws.getD j []).look k) = some b
 | 0, h => .inl h
 | N + 1, h => by
   rw [acc_step] at h
   split at h
   ·exact .inr ⟨N, h⟩
   ·exact acc_mem N h
theorem acc_all {α : Type} {ws : List (List (Nat × α))} {l0 : List (Nat × α)} {L : Nat → Bool} {N : Nat} (h : ∀ j, j < N → L j = true) : ∀ m, m ≤ N → accAt ws L l0 m = accAt ws tt l0 m
 | 0, _ => rfl
 | m + 1, hm => by
   show (if L m then _ else _) ++ accAt ws L l0 m = (if tt m then _ else _) ++ accAt ws tt l0 m
   rw [acc_all h m (by omega), h m (by omega)]
   rfl
theorem wrote_wT {rs : List Rec} {i t : Nat} (h : wrote (rs.map wT) i t) : ∃ r, rs[i]? = some r ∧ r.dst = some t := by
 unfold wrote at h
 rw [List.getD_eq_getElem?_getD, List.getElem?_map] at h
 cases hr : rs[i]? with
 | none => rw [hr] at h; simp at h
 | some r =>
   rw [hr] at h
   simp only [Option.map_some, Option.getD_some] at h
   unfold wT at h
   cases hd : r.dst with
   | none => rw [hd] at h; simp at h
   | some d =>
     rw [hd] at h
     dsimp only at h
     rw [look_cons] at h
     split at h
     ·rename_i e; subst e; exact ⟨r, rfl, hd⟩
     ·simp at h
theorem wrote_wr {rs : List Rec} {i k : Nat} (h : wrote (rs.map (·.wr)) i k) : ∃ r, rs[i]? = some r ∧ k ∈ keys r.wr := by
 unfold wrote at h
 rw [List.getD_eq_getElem?_getD, List.getElem?_map] at h
 cases hr : rs[i]? with
 | none => rw [hr] at h; simp at h
 | some r =>
   rw [hr] at h
   obtain ⟨b, hb⟩ := Option.isSome_iff_exists.1 h
   exact ⟨r, rfl, look_key hb⟩
theorem conf_rt {r s : Rec} {t : Nat} (h1 : r.dst = some t) (h2 : t ∈ s.tR) : conf r s = true := by
 unfold conf
 rw [show inD r.dst s.tR = true from by rw [h1]; exact mem_iff.2 h2]
 simp
theorem conf_tr {r s : Rec} {t : Nat} (h1 : s.dst = some t) (h2 : t ∈ r.tR) : conf r s = true := by
 unfold conf
 rw [show inD s.dst r.tR = true from by rw [h1]; exact mem_iff.2 h2]
 simp
theorem conf_tt {r s : Rec} {t : Nat} (h1 : r.dst = some t) (h2 : s.dst = some t) : conf r s = true := by
 unfold conf
 rw [show inD r.dst s.dst.toList = true from by rw [h1, h2]; exact mem_iff.2 (by simp)]
 simp
theorem conf_wb {r s : Rec} {k : Nat} (h1 : k ∈ keys r.wr) (h2 : k ∈ s.bR ∨ k ∈ keys s.wr) : conf r s = true := by
 unfold conf
 rw [show (keys r.wr).any (fun k => mem s.bR k || mem (keys s.wr) k) = true from List.any_eq_true.2 ⟨k, h1, by
  rw [Bool.or_eq_true, mem_iff, mem_iff]; exact h2⟩]
 simp
theorem conf_bw {r s : Rec} {k : Nat} (h1 : k ∈ keys s.wr) (h2 : k ∈ r.bR) : conf r s = true := by
 unfold conf
 rw [show (keys s.wr).any (fun k => mem r.bR k) = true from List.any_eq_true.2 ⟨k, h1, mem_iff.2 h2⟩]
 simp
section
def isCall (o : Oper) : Bool :=
 match o.op with
 | .call c => match c.callee with
   | .value _ => true
   | _ => false
 | _ => false
theorem opS_isCall {P : Program} {cs : CallS} {ys : YEnv} {o : Oper} {get : Operand → Option SV} {bk : List (Nat × Blk)} {th c : Nat} {orc : List (Option Bool)} {r : OpR} (he : opS P cs ys o get bk th c orc = some (r, true)) : isCall o = true := by
 unfold opS at he
 split at he
 ·cases he
 ·split at he
  ·cases he
  split at he
  ·rename_i f args hc
   unfold callOf at hc
   unfold isCall
   split at hc
   ·rename_i c ho
    split at hc
    ·rename_i fv hcc
     rw [ho]
     dsimp only
     rw [hcc]
    ·cases hc
   ·cases hc
  ·split at he
   ·rename_i k args hc
    unfold yldOf at hc
    unfold isCall
    split at hc
    ·rename_i c ho
     split at hc
     ·rename_i fv hcc
      rw [ho]
      dsimp only
      rw [hcc]
     ·cases hc
    ·cases hc
   ·split at he
    ·cases he
    ·split at he
     ·cases he
     split at he
     ·cases he
     ·split at he
      ·split at he
       ·cases he
       ·cases he
      ·cases he
theorem opS_same {P : Program} {cs : CallS} {ys : YEnv} {o : Oper} {get : Operand → Option SV} {bk : List (Nat × Blk)} {th c : Nat} {orc : List (Option Bool)} {r : OpR} (he : opS P cs ys o get bk th c orc = some (r, false)) : r.th = th := by
 unfold opS at he
 split at he
 ·cases he
 ·split at he
  ·cases he; rfl
  split at he
  ·repeat' (split at he)
   all_goals first | contradiction | (simp at he)
  ·split at he
   ·repeat' (split at he)
    all_goals first | contradiction | (simp at he)
   ·split at he
    ·cases he; rfl
    ·split at he
     ·cases he; rfl
     split at he
     ·cases he; rfl
     ·split at he
      ·split at he
       ·cases he; rfl
       ·cases he
      ·cases he
def stB (rs : List Rec) (bk pw : List (Nat × Blk)) (bR : List Nat) : List (Nat × Blk) := pw ++ bk.filter fun q => !mem bR q.1 && rs.all fun r => !mem (keys r.wr) q.1
def stT (rs : List Rec) (tm : List (Nat × SV)) : List (Nat × SV) := tm.filter fun q => rs.all fun r => !inD r.dst [q.1]
theorem acc_none {α : Type} {ws : List (List (Nat × α))} {l0 : List (Nat × α)} {L : Nat → Bool} {k : Nat} (h : ∀ j, ¬ wrote ws j k) : ∀ N, (accAt ws L l0 N).look k = l0.look k
 | 0 => rfl
 | N + 1 => by rw [acc_step, if_neg (fun hh => h N hh.2), acc_none h N]
structure DrawOk (ops : Array Oper) (s : Stt) (rs : List Rec) (s' : Stt) : Prop where
 race : raceB (prOf ops) rs = true
 pre : ∀ j, ∀ q ∈ prOf ops j, q < j
 call : (∃ o ∈ ops.toList, isCall o = true) → (∀ k b, s.bk.look k = some b → k < s.th) ∧ (∀ r ∈ rs, r.c1 ≤ s.th ∧ ∀ k b, r.wr.look k = some b → k < s.th)
section
variable {D : Den} {P : Program} {w0 : World} {X : Nat → Prop} {cs : CallS} {ys : YEnv}
theorem wpAny_ev (hcs : CallOk D P w0 X cs) {bd : Nat} {ro : Option Nat} {m : Nat} {ops : Array Oper} {n : Nat} {s s' : Stt} {rs : List Rec} {q : List Prop} {pn : Option Value} (hR : RecOk P cs ys ops n ops.toList 0 [] s rs s' q pn) (hD : DrawOk ops s rs s') (hq : ∀ p ∈ q, p)
  {Q : Exit → Act → World → Prop} {ρ0 : Nm} {wc0 w00 : World} {d0 : List Deferred} (hnm : ∀ k b, Liv s.bk k b → ∃ B, ρ0 k = some B) (hY0 : ∀ ρ' wc' w' bk', Evo ρ0 wc0 w00 s.bk s.c s'.c ρ' wc' w' bk' → YOk D P w0 X bd ys ρ' wc' w')
  (hK : pn = none → ∀ ρ' wc' w' a', Sat D w0 X s.th ρ' wc' w' s'.bk → TSat D ρ' wc' n s'.tm a' → a'.defers = d0 → Evo ρ0 wc0 w00 s.bk s.c s'.c ρ' wc' w' s'.bk → Q .normal a' w')
  (hP : ∀ p pw bR, panRec rs = some (p, pw, bR) → ∀ ρ' wc' w' a', Sat D w0 X s.th ρ' wc' w' (stB rs s.bk pw bR) → TSat D ρ' wc' n (stT rs s.tm) a' → a'.defers = d0 → Evo ρ0 wc0 w00 s.bk s.c s'.c ρ' wc' w' (stB rs s.bk pw bR) → Q (.panic [{ v := p, recovered := false }]) a' w') :
  ∀ (fuel : Nat) (L : Array Bool) (a : Act) (w : World) (ρ : Nm) (wc : World), L.size = ops.size → left (fun j => L.getD j false) ops.size ≤ fuel →
    (∀ j, L.getD j false = true → ∀ p ∈ prOf ops j, L.getD p false = true) → (∀ (i : Nat) (r : Rec), rs[i]? = some r → r.kd ≠ .go → L.getD i false = false) →
    Sat D w0 X s.th ρ wc w (accAt (rs.map (·.wr)) (fun j => L.getD j false) s.bk ops.size) → TSat D ρ wc n (accAt (rs.map wT) (fun j => L.getD j false) s.tm ops.size) a → a.defers = d0 →
    Evo ρ0 wc0 w00 s.bk s.c s'.c ρ wc w (accAt (rs.map (·.wr)) (fun j => L.getD j false) s.bk ops.size) →
    (∀ (i : Nat) (r : Rec), rs[i]? = some r → L.getD i false = false → ∀ k, r.c0 ≤ k → k < r.c1 → ρ k = none) → wpAnyIn (WF ro) m P .any ops Q fuel L a w := by
 have hlen : rs.length = ops.size := by rw [hR.len, Array.length_toList]
 -- a record of nothing that comes up: there is one that panics
 have allgo : pn = none → ∀ (i : Nat) (r : Rec), rs[i]? = some r → r.kd = .go := by
  intro hpn i
  induction i using Nat.strongRecOn with
  | _ i ih =>
    intro r hr
    cases hk : r.kd with
    | go => rfl
    | pan p pw =>
      have := hR.uniq i r p pw hr hk
      rw [hR.pn0 hpn] at this
      cases this
    | never =>
      obtain ⟨_, _, o, p, ho, hp, hh⟩ := hR.nev i r hr hk
      rcases hh with hh | ⟨j, rj, hj, hrj, hkj⟩
      ·cases hh
      ·have hin : p ∈ prOf ops i := by
        unfold prOf
        rw [Array.getElem?_toList] at ho
        rw [ho]
        exact hp
       have hlt := hD.pre i p hin
       exact absurd (ih j (by omega) rj hrj) hkj
 -- all are listed: the end
 have done : ∀ (L : Array Bool) (a : Act) (w : World) (ρ : Nm) (wc : World), (∀ j, j < ops.size → L.getD j false = true) → (∀ (i : Nat) (r : Rec), rs[i]? = some r → r.kd ≠ .go → L.getD i false = false) →
   Sat D w0 X s.th ρ wc w (accAt (rs.map (·.wr)) (fun j => L.getD j false) s.bk ops.size) → TSat D ρ wc n (accAt (rs.map wT) (fun j => L.getD j false) s.tm ops.size) a → a.defers = d0 →
   Evo ρ0 wc0 w00 s.bk s.c s'.c ρ wc w (accAt (rs.map (·.wr)) (fun j => L.getD j false) s.bk ops.size) → Q .normal a w := by
  intro L a w ρ wc hall hgo hS hT hd hE
  have e1 : accAt (rs.map (·.wr)) (fun j => L.getD j false) s.bk ops.size = s'.bk := by
   rw [acc_all (N := ops.size) hall _ (Nat.le_refl _), hR.bk, Array.length_toList]
  have e2 : accAt (rs.map wT) (fun j => L.getD j false) s.tm ops.size = s'.tm := by
   rw [acc_all (N := ops.size) hall _ (Nat.le_refl _), hR.tm, Array.length_toList]
  rw [e1] at hS hE
  rw [e2] at hT
  refine hK ?_ ρ wc w a hS hT hd hE
  cases hpn : pn with
  | none => rfl
  | some v =>
    exfalso
    obtain ⟨pw, bR, hpr⟩ := hR.pn1 v hpn
    have : ∀ l : List Rec, panRec l = some (v, pw, bR) → ∃ (i : Nat) (r : Rec), l[i]? = some r ∧ r.kd ≠ .go := by
     intro l
     induction l with
     | nil => intro h; cases h
     | cons r l ih =>
       intro h
       unfold panRec at h
       split at h
       ·rename_i p pw' hk
        exact ⟨0, r, by simp, by rw [hk]; intro hh; cases hh⟩
       ·obtain ⟨i, r', h1, h2⟩ := ih h
        exact ⟨i + 1, r', by simpa using h1, h2⟩
    obtain ⟨i, r, h1, h2⟩ := this rs hpr
    have h3 := hgo i r h1 h2
    have h4 := (List.getElem?_eq_some_iff.1 h1).1
    rw [hall i (by omega)] at h3
    cases h3
 -- nothing is ready: all are listed
 have none_ : ∀ (L : Array Bool), L.size = ops.size → Region.ready .any ops L = [] → ∀ j, j < ops.size → L.getD j false = true := by
  intro L hsz hr j
  induction j using Nat.strongRecOn with
  | _ j ih =>
    intro hj
    cases hL : L.getD j false with
    | true => rfl
    | false =>
      exfalso
      have hmem : j ∈ Region.ready .any ops L := by
       rw [mem_ready]
       refine ⟨?_, ops[j], by simp [hj], ?_⟩
       ·have : j < L.size := by omega
        simp [Array.getD, this] at hL ⊢
        exact hL
       ·intro e he hb
        have hin : e.on ∈ prOf ops j := by
         unfold prOf
         rw [Array.getElem?_eq_getElem hj]
         unfold predsOf
         exact List.mem_map.2 ⟨e, List.mem_filter.2 ⟨by simpa using he, hb⟩, rfl⟩
        have hlt := hD.pre j _ hin
        exact ih e.on hlt (by omega)
      rw [hr] at hmem
      cases hmem
 intro fuel
 induction fuel with
 | zero =>
   intro L a w ρ wc hsz hleft hcl hgo hS hT hd hE hun
   have hall := left_zero ops.size (Nat.le_zero.1 hleft)
   refine ⟨?_, done L a w ρ wc hall hgo hS hT hd hE⟩
   apply List.eq_nil_iff_forall_not_mem.2
   intro j hj
   obtain ⟨h1, o, ho, _⟩ := mem_ready.1 hj
   have hjs := (Array.getElem?_eq_some_iff.1 ho).1
   have h2 := hall j hjs
   have hjl : j < L.size := by omega
   simp [Array.getD, hjl] at h1 h2
   rw [h1] at h2
   cases h2
 | succ fuel ih =>
   intro L a w ρ wc hsz hleft hcl hgo hS hT hd hE hun
   refine ⟨fun hr => done L a w ρ wc (none_ L hsz hr) hgo hS hT hd hE, fun i hi => ?_⟩
   obtain ⟨h1, o, ho, hpre⟩ := mem_ready.1 hi
   have his := (Array.getElem?_eq_some_iff.1 ho).1
   have hil : i < L.size := by omega
   have hLi : L.getD i false = false := by simp [Array.getD, hil] at h1 ⊢; exact h1
   have hpr : ∀ p ∈ prOf ops i, L.getD p false = true := by
    intro p hp
    unfold prOf at hp
    rw [ho] at hp
    obtain ⟨e, he, rfl⟩ := List.mem_map.1 hp
    obtain ⟨he1, he2⟩ := List.mem_filter.1 he
    exact hpre e (by simpa using he1) he2
   have hir : i < rs.length := by omega
   obtain ⟨r, hr⟩ : ∃ r, rs[i]? = some r := ⟨rs[i], by simp [hir]⟩
   by_cases hnv : r.kd = .never
   ·exfalso
    obtain ⟨_, _, o', p, ho', hp, hh⟩ := hR.nev i r hr hnv
    rcases hh with hh | ⟨j, rj, hj, hrj, hkj⟩
    ·cases hh
    ·have hin : p ∈ prOf ops i := by
      unfold prOf
      rw [Array.getElem?_toList] at ho'
      rw [ho']
      exact hp
     have h3 := hpr p hin
     have h4 := hgo j rj hrj hkj
     rw [Nat.zero_add] at hj
     rw [hj, h4] at h3
     cases h3
   obtain ⟨o', ho', hst⟩ := hR.step i r hr hnv
   have hoo : o' = o := by
    rw [Array.getElem?_toList, ho] at ho'
    cases ho'
    rfl
   subst hoo
   obtain ⟨hdok, orc, orc', ps, b, hw, hps, hcase⟩ := hst
   -- who touches what this one touches
   have before : ∀ j s2, j < i → rs[j]? = some s2 → conf s2 r = true → L.getD j false = true := fun j s2 hj hs2 hc =>
    raceB_ok (L := fun j => L.getD j false = true) hD.race hj hs2 hr hc hcl hpr
   have after : ∀ j s2, i < j → rs[j]? = some s2 → conf r s2 = true → L.getD j false = false := fun j s2 hj hs2 hc => by
    cases hLj : L.getD j false with
    | false => rfl
    | true =>
      have := raceB_ok (L := fun j => L.getD j false = true) hD.race hj hr hs2 hc hcl (hcl j hLj)
      rw [hLi] at this
      cases this
   have subT : Sub (some_ r.tR (accAt (rs.map wT) tt s.tm i)) (accAt (rs.map wT) (fun j => L.getD j false) s.tm ops.size) := by
    intro t x hx
    rw [some_lookup] at hx
    split at hx
    ·rename_i ht
     have ht' : t ∈ r.tR := mem_iff.1 ht
     rw [acc_read hLi ?_ ?_ _ (Nat.le_of_lt his)]
     ·exact hx
     ·intro j hj hwr
      obtain ⟨s2, hs2, hd2⟩ := wrote_wT hwr
      exact before j s2 hj hs2 (conf_rt hd2 ht')
     ·intro j hj hwr
      obtain ⟨s2, hs2, hd2⟩ := wrote_wT hwr
      exact after j s2 hj hs2 (conf_tr hd2 ht')
    ·cases hx
   have subB : Sub (some_ r.bR (accAt (rs.map (·.wr)) tt s.bk i)) (accAt (rs.map (·.wr)) (fun j => L.getD j false) s.bk ops.size) := by
    intro t x hx
    rw [some_lookup] at hx
    split at hx
    ·rename_i ht
     have ht' : t ∈ r.bR := mem_iff.1 ht
     rw [acc_read hLi ?_ ?_ _ (Nat.le_of_lt his)]
     ·exact hx
     ·intro j hj hwr
      obtain ⟨s2, hs2, hd2⟩ := wrote_wr hwr
      exact before j s2 hj hs2 (conf_wb hd2 (.inl ht'))
     ·intro j hj hwr
      obtain ⟨s2, hs2, hd2⟩ := wrote_wr hwr
      exact after j s2 hj hs2 (conf_bw hd2 ht')
    ·cases hx
   have addT : ∀ k, (accAt (rs.map wT) (fun j => j == i || L.getD j false) s.tm ops.size).look k = (wT r ++ accAt (rs.map wT) (fun j => L.getD j false) s.tm ops.size).look k := by
    intro k
    rw [acc_add hLi ?_ _ his, look_append]
    ·rw [List.getD_eq_getElem?_getD, List.getElem?_map, hr]; rfl
    ·intro j hj h1 h2
     obtain ⟨s1, hs1, hd1⟩ := wrote_wT h1
     obtain ⟨s2, hs2, hd2⟩ := wrote_wT h2
     rw [hr] at hs1
     cases hs1
     exact after j s2 hj hs2 (conf_tt hd1 hd2)
   have addB : ∀ k, (accAt (rs.map (·.wr)) (fun j => j == i || L.getD j false) s.bk ops.size).look k = (r.wr ++ accAt (rs.map (·.wr)) (fun j => L.getD j false) s.bk ops.size).look k := by
    intro k
    rw [acc_add hLi ?_ _ his, look_append]
    ·rw [List.getD_eq_getElem?_getD, List.getElem?_map, hr]; rfl
    ·intro j hj h1 h2
     obtain ⟨s1, hs1, hd1⟩ := wrote_wr h1
     obtain ⟨s2, hs2, hd2⟩ := wrote_wr h2
     rw [hr] at hs1
     cases hs1
     exact after j s2 hj hs2 (conf_wb hd1 (.inr hd2))
   have hL' : ∀ j, (L.setIfInBounds i true).getD j false = (j == i || L.getD j false) := by
    intro j
    by_cases e : j = i
    ·subst e; simp [Array.getD, hil]
    ·have e' : (j == i) = false := by simpa using e
     rw [getD_set_ne false (fun h => e h.symm), e', Bool.false_or]
   have hLf : (fun j => (L.setIfInBounds i true).getD j false) = fun j => j == i || L.getD j false := funext hL'
   have hTr : TSat D ρ wc n (some_ r.tR (accAt (rs.map wT) tt s.tm i)) a := hT.sub subT
   have hwant := wantS_ok hTr hw (fun p hp => hq p (hps p hp))
   have hrng := hR.rng i r hr
   have hY := hY0 ρ wc w _ hE
   -- what follows, once it is done
   have next : r.kd = .go → r.dst = o'.dst → ∀ (ρ' : Nm) (wc' w' : World) (v : Value), denV D ρ' wc' r.v v → Sat D w0 X s.th ρ' wc' w' (r.wr ++ accAt (rs.map (·.wr)) (fun j => L.getD j false) s.bk ops.size) →
     Evo ρ wc w (accAt (rs.map (·.wr)) (fun j => L.getD j false) s.bk ops.size) r.c0 r.c1 ρ' wc' w' (r.wr ++ accAt (rs.map (·.wr)) (fun j => L.getD j false) s.bk ops.size) →
     wpAnyIn (WF ro) m P .any ops Q fuel (L.setIfInBounds i true) (a.put o'.dst v) w' := by
    intro hkd hrd ρ' wc' w' v hv hS' hE'
    refine ih _ _ w' ρ' wc' (by simpa using hsz) ?_ ?_ ?_ ?_ ?_ ?_ ?_ ?_
    ·rw [hLf]
     have := left_lt (L := fun j => L.getD j false) hLi ops.size his
     omega
    ·intro j hj p hp
     rw [hL'] at hj ⊢
     by_cases e : j = i
     ·subst e; rw [hpr p hp, Bool.or_true]
     ·have e' : (j == i) = false := by simpa using e
      rw [e', Bool.false_or] at hj
      rw [hcl j hj p hp, Bool.or_true]
    ·intro j rj hj hk
     rw [hL', hgo j rj hj hk, Bool.or_false]
     by_cases e : j = i
     ·subst e
      rw [hr] at hj
      cases hj
      exact absurd hkd hk
     ·simpa using e
    ·rw [hLf]; exact hS'.congr addB
    ·rw [hLf]
     have h3 := (hT.mono hE'.rho hE'.ext).put hdok hv
     rw [← hrd, putT_wT] at h3
     rw [← hrd]
     exact h3.sub fun k x hk => by rw [← addT]; exact hk
    ·rw [← hd]; cases o'.dst <;> rfl
    ·rw [hLf]; exact (hE.join (hE'.widen hrng.1 hrng.2.2) hnm).congr addB
    ·intro j rj hj hLj k h1 h2
     rw [hL'] at hLj
     have e : j ≠ i := by intro e; subst e; simp at hLj
     have e' : (j == i) = false := by simpa using e
     rw [e', Bool.false_or] at hLj
     rw [hE'.dom k ?_]
     ·exact hun j rj hj hLj k h1 h2
     ·rcases Nat.lt_or_gt_of_ne e with h | h
      ·have := hR.ord j i rj r h hj hr; left; omega
      ·have := hR.ord i j r rj h hr hj; right; omega
   have names : isCall o' = true → (∀ k b, (accAt (rs.map (·.wr)) (fun j => L.getD j false) s.bk ops.size).look k = some b → k < s.th) ∧ r.c1 ≤ s.th := by
    intro hic
    obtain ⟨c1, c2⟩ := hD.call ⟨o', by rw [Array.mem_toList_iff]; exact Array.mem_of_getElem? ho, hic⟩
    refine ⟨fun k b hk => ?_, (c2 r (List.mem_of_getElem? hr)).1⟩
    rcases acc_mem _ hk with h | ⟨j, h⟩
    ·exact c1 k b h
    ·rw [List.getD_eq_getElem?_getD, List.getElem?_map] at h
     cases hrj : rs[j]? with
     | none => rw [hrj] at h; simp at h
     | some rj => rw [hrj] at h; exact (c2 rj (List.mem_of_getElem? hrj)).2 k b h
   unfold wpOpIn
   rw [ho]
   dsimp only
   rw [hwant]
   rcases hcase with ⟨hkd, hrd, rfl, x, cl, hop, e0, e1, e2, e3, hob⟩ | ⟨hkd, hrd, rfl, e1, e2, e3⟩ | ⟨pv, pw, hkd, hdn, hwn, rfl, x, cl, hop, e0, e2, e3, hob⟩
   ·rw [if_pos rfl]
    have ef : x.fin (accAt (rs.map (·.wr)) (fun j => L.getD j false) s.bk ops.size) = r.wr ++ accAt (rs.map (·.wr)) (fun j => L.getD j false) s.bk ops.size := by
     unfold OpR.fin; rw [e0, ← e2]
    have efR : x.fin (some_ r.bR (accAt (rs.map (·.wr)) tt s.bk i)) = r.wr ++ some_ r.bR (accAt (rs.map (·.wr)) tt s.bk i) := by
     unfold OpR.fin; rw [e0, ← e2]
    refine opS_ok (G := r.wr ++ accAt (rs.map (·.wr)) (fun j => L.getD j false) s.bk ops.size) (th' := s.th) hcs hY hS subB (fun x z hz => hTr.get hz) hop (fun p hp => hq p (hob p hp)) (fun k h1 h2 => hun i r hr hLi k h1 (by rw [← e3]; exact h2)) ?_ (fun _ ht => ⟨rfl, .inl ⟨e0, by rw [e2]⟩⟩) ?_ (fun p hp => by rw [e0] at hp; cases hp)
    ·intro hcl' _ ρ' wc' w' hS' hE'
     subst hcl'
     obtain ⟨n1, n2⟩ := names (opS_isCall hop)
     rw [efR] at hS' hE'
     exact hS.frame subB n1 hS' hE' (by rw [e3]; exact n2) fun k b hk => by
      obtain ⟨hk, hdd⟩ := hk
      rw [look_append] at hk
      cases hwk : r.wr.look k with
      | some b' =>
        rw [hwk, Option.some_or] at hk
        exact .inl ⟨by rw [look_append, hwk, Option.some_or]; exact hk, hdd⟩
      | none =>
        rw [hwk, Option.none_or] at hk
        cases hR' : (some_ r.bR (accAt (rs.map (·.wr)) tt s.bk i)).look k with
        | some b' =>
          have := subB k b' hR'
          rw [hk] at this
          cases this
          exact .inl ⟨by rw [look_append, hwk, Option.none_or]; exact hR', hdd⟩
        | none => exact .inr ⟨⟨hk, hdd⟩, rfl⟩
    ·intro _ ρ' wc' w' v hv hS' hE'
     rw [e1] at hv
     rw [e3] at hE'
     exact next hkd hrd ρ' wc' w' v hv hS' hE'
   ·rw [if_neg (by simp)]
    refine ⟨fun _ _ => trivial, ?_⟩
    refine next hkd hrd ρ wc w undef (by rw [e1]; exact undef_den) (by rw [e2]; exact hS) ?_
    rw [e2, e3]
    exact Evo.refl _ _ _ _ _
   ·rw [if_pos rfl]
    have hpan := hR.uniq i r pv pw hr hkd
    have efR : x.fin (some_ r.bR (accAt (rs.map (·.wr)) tt s.bk i)) = pw := by
     unfold OpR.fin; rw [e0]; exact e2
    have hsubst : Sub' (stB rs s.bk pw r.bR) (pw ++ (accAt (rs.map (·.wr)) (fun j => L.getD j false) s.bk ops.size).filter fun q => !mem r.bR q.1) := by
     intro k b hk
     obtain ⟨hk, hdd⟩ := hk
     refine ⟨?_, hdd⟩
     unfold stB at hk
     rw [look_append] at hk ⊢
     cases hwk : pw.look k with
     | some b' => rw [hwk, Option.some_or] at hk; rw [Option.some_or]; exact hk
     | none =>
       rw [hwk, Option.none_or] at hk
       rw [Option.none_or]
       rw [look_filter (fun k => !mem r.bR k && rs.all fun r => !mem (keys r.wr) k)] at hk
       rw [look_filter (fun k => !mem r.bR k)]
       split at hk
       ·rename_i hc
        rw [Bool.and_eq_true] at hc
        rw [if_pos hc.1, acc_none]
        ·exact hk
        ·intro j hwr
         obtain ⟨rj, hrj, hkj⟩ := wrote_wr hwr
         have := List.all_eq_true.1 hc.2 rj (List.mem_of_getElem? hrj)
         rw [mem_iff.2 hkj] at this
         cases this
       ·cases hk
    refine opS_ok (G := pw ++ (accAt (rs.map (·.wr)) (fun j => L.getD j false) s.bk ops.size).filter fun q => !mem r.bR q.1) (th' := s.th) hcs hY hS subB (fun x z hz => hTr.get hz) hop (fun p hp => hq p (hob p hp)) (fun k h1 h2 => hun i r hr hLi k h1 (by rw [← e3]; exact h2)) ?_ (fun _ ht => ⟨rfl, .inr ⟨by rw [e0]; simp, fun hw k b hk => ?_⟩⟩) (fun hn => by rw [e0] at hn; cases hn) ?_
    ·intro hcl' _ ρ' wc' w' hS' hE'
     subst hcl'
     obtain ⟨n1, n2⟩ := names (opS_isCall hop)
     rw [efR] at hS' hE'
     exact hS.frame subB n1 hS' hE' (by rw [e3]; exact n2) fun k b hk => by
      obtain ⟨hk, hdd⟩ := hk
      rw [look_append] at hk
      cases hwk : pw.look k with
      | some b' =>
        rw [hwk, Option.some_or] at hk
        exact .inl ⟨hwk.trans hk, hdd⟩
      | none =>
        rw [hwk, Option.none_or, look_filter (fun k => !mem r.bR k)] at hk
        split at hk
        ·rename_i hc
         refine .inr ⟨⟨hk, hdd⟩, ?_⟩
         rw [some_lookup, if_neg]
         intro hm
         rw [hm] at hc
         cases hc
        ·cases hk
    ·rw [e2] at hw
     obtain ⟨hk, hdd⟩ := hk
     refine ⟨?_, hdd⟩
     rw [look_append] at hk
     cases hwk : pw.look k with
     | some b' =>
       first | rw [hwk, Option.some_or] at hk | rw [Option.some_or] at hk
       rw [hw] at hwk
       rw [← hk]
       exact subB k b' hwk
     | none =>
       first | rw [hwk, Option.none_or, look_filter (fun k => !mem r.bR k)] at hk | rw [Option.none_or, look_filter (fun k => !mem r.bR k)] at hk
       split at hk
       ·exact hk
       ·cases hk
    ·intro p' hp' ρ' wc' w' hS' hE'
     rw [e0] at hp'
     cases hp'
     rw [e3] at hE'
     refine hP pv pw r.bR hpan ρ' wc' w' a (hS'.sub' hsubst) ((hT.mono hE'.rho hE'.ext).sub fun t y hy => ?_) hd ((hE.join (hE'.widen hrng.1 hrng.2.2) hnm).sub' hsubst)
     unfold stT at hy
     rw [look_filter (fun t => rs.all fun r => !inD r.dst [t])] at hy
     split at hy
     ·rename_i hc
      rw [acc_none]
      ·exact hy
      ·intro j hwr
       obtain ⟨rj, hrj, hdj⟩ := wrote_wT hwr
       have := List.all_eq_true.1 hc rj (List.mem_of_getElem? hrj)
       rw [hdj] at this
       simp [inD, mem] at this
     ·cases hy
end
end
section
section
variable {D : Den} {P : Program} {w0 : World} {X : Nat → Prop} {th : Nat} {ρ ρ1 ρ2 : Nm} {wc w wc1 w1 wc2 w2 w3 : World} {bk bk1 bk2 : List (Nat × Blk)} {c c1 c2 : Nat}
theorem Sat.obj (h : Sat D w0 X th ρ wc w bk) {k : Nat} (hk : ρ k = none) (hkb : bk.look k = none) (o : Obj) :
  Sat D w0 X th (addNm ρ k ⟨w.heap.size, 0, false, 0, 0⟩) wc (w.alloc o) bk ∧ Evo ρ wc w bk k (k + 1) (addNm ρ k ⟨w.heap.size, 0, false, 0, 0⟩) wc (w.alloc o) bk := by
 have hle := addNm_le (B := ⟨w.heap.size, 0, false, 0, 0⟩) hk
 have hb : Below w.heap.size w (w.alloc o) := belowAlloc (Below.refl _ _) _
 have ne : ∀ {j b}, Liv bk j b → j ≠ k := fun hj e => by subst e; rw [hj.1] at hkb; cases hkb
 refine ⟨⟨⟨h.fr.os, h.fr.tape, h.fr.output, Nat.le_trans h.fr.size hb.size, fun i hi hx => (hb.block i (Nat.lt_of_lt_of_le hi h.fr.size)).trans (h.fr.block i hi hx)⟩,
  h.ext.alloc _, ?_, ?_, ?_⟩, ⟨hle, Ext.refl _, hb.size, rfl, rfl, rfl, fun i hi _ => hb.block i hi, fun j b hj => .inl ⟨b, hj⟩, by omega, fun j hj => addNm_old _ _ (by omega)⟩⟩
 ·intro j j' b b' B B' hj hj' h1 h2 he
  rw [addNm_old _ _ (ne hj)] at h1; rw [addNm_old _ _ (ne hj')] at h2
  exact h.inj j j' b b' B B' hj hj' h1 h2 he
 ·intro j B h1
  by_cases e1 : j = k
  ·subst e1; rw [addNm_new] at h1; cases h1; simp
  ·rw [addNm_old _ _ e1] at h1
   exact Nat.lt_of_lt_of_le (h.lt j B h1) hb.size
 ·intro j b hj
  obtain ⟨B, cs', h1, h2, h3, h4, h5, h6⟩ := h.box j b hj
  exact ⟨B, cs', hle j B h1, h2.of_block (hb.block _ (h.lt j B h1)), h3.mono hle (Ext.refl _), h4, h5, h6⟩
theorem Sat.putObj (h : Sat D w0 X th ρ wc w bk) {l : Nat} {o : Obj} (hl : w.heap[l]? = some o) (ho : o.isCells = false) (h0 : w0.heap.size ≤ l) (o' : Obj) : Sat D w0 X th ρ wc (w.putObj l o') bk := by
 refine ⟨⟨h.fr.os, h.fr.tape, h.fr.output, by simpa using h.fr.size, fun i hi hx => ?_⟩, ⟨by simpa using h.ext.size, fun j ds fr hj => ?_⟩, h.inj, fun k B hB => by simpa using h.lt k B hB, fun k b hk => ?_⟩
 ·rw [World.putObj_heap_other (by omega)]
  exact h.fr.block i hi hx
 ·have h7 := h.ext.kept j ds fr hj
  rw [World.putObj_heap_other ?_]
  ·exact h7
  ·intro e
   subst e
   rw [h7] at hl
   cases hl
   cases ho
 ·obtain ⟨B, cs', h1, h2, h3, h4, h5, h6⟩ := h.box k b hk
  refine ⟨B, cs', h1, ?_, h3, h4, h5, h6⟩
  by_cases e : B.blk = l
  ·rcases h2 with ⟨g, hr⟩ | ⟨g, h00, rest, q1, q2, hb⟩
   ·refine .inl ⟨g, fun j v hj => ?_⟩
    have := hr j v hj
    unfold World.cell? at this
    rw [show ((⟨B.blk, B.base + j, none⟩ : Addr).block) = B.blk from rfl, e, hl] at this
    cases o <;> first | cases this | cases ho
   ·have := hb.blk
    rw [e, hl] at this
    cases this
    cases ho
  ·exact h2.of_block (World.putObj_heap_other e)
theorem Evo.putNew (h : Evo ρ wc w bk c c1 ρ1 wc1 w1 bk1) {l : Nat} (hl : w.heap.size ≤ l) (o : Obj) : Evo ρ wc w bk c c1 ρ1 wc1 (w1.putObj l o) bk1 :=
 ⟨h.rho, h.ext, by simpa using h.size, h.os, h.tape, h.output, fun i hi hn => (World.putObj_heap_other (by omega)).trans (h.loc i hi hn), h.ids, h.cc, h.dom⟩
theorem Evo.round {l : Nat} {o o1 : Obj} (h : Evo ρ wc (w.putObj l o) bk c c1 ρ1 wc1 w1 bk1) (hl : w.heap[l]? = some o1) : Evo ρ wc w bk c c1 ρ1 wc1 (w1.putObj l o1) bk1 := by
 have hlt := lt_of_some hl
 refine ⟨h.rho, h.ext, by simpa using h.size, h.os, h.tape, h.output, fun i hi hn => ?_, fun k b hk => ?_, h.cc, h.dom⟩
 ·by_cases e : i = l
  ·subst e
   rw [World.putObj_heap_same (by have := h.size; rw [World.putObj_size] at this; omega), hl]
  ·rw [World.putObj_heap_other e, h.loc i (by simpa using hi) hn, World.putObj_heap_other e]
 ·have := h.ids k b hk
  rwa [World.putObj_size] at this
end
def TH : Nat := 2 ^ 200
def preOk (ops : Array Oper) : Bool := (List.range ops.size).all fun j => (prOf ops j).all fun q => Nat.blt q j
def drawS (P : Program) (cs : CallS) (ys : YEnv) (ops : Array Oper) (n : Nat) (s : Stt) : Option (Stt × List Prop × Option Value) :=
 let hc := ops.toList.any isCall
 match recS P cs ys ops n ops.toList 0 [] ⟨s.tm, s.bk, s.c, if hc then TH else s.th, s.orc, s.df⟩ with
 | some (rs, s', q, pn) => if raceB (prOf ops) rs && preOk ops && (!hc || (s.bk.all (fun p => Nat.blt p.1 TH) && rs.all (fun r => Nat.ble r.c1 TH && r.wr.all (fun p => Nat.blt p.1 TH)) && s'.bk.all (fun p => Nat.blt p.1 s'.c))) then
   (match panRec rs with
   | none => some (⟨s'.tm, s'.bk, s'.c, if hc then s'.c else s.th, s'.orc, s.df⟩, q, none)
   | some (p, pw, bR) => if !hc || (stB rs s.bk pw bR).all (fun p => Nat.blt p.1 s'.c) then some (⟨stT rs s.tm, stB rs s.bk pw bR, s'.c, if hc then s'.c else s.th, s'.orc, s.df⟩, q, some p) else none) else none
 | none => none
inductive Ot where
 | norm
 | exit (id : Nat)
 | ret
 | pan (v : Value)
def Ot.ex : Ot → Exit
 | .norm => .normal
 | .exit id => .exit id
 | .ret => .ret
 | .pan v => .panic [{ v := v, recovered := false }]
def otP : Option Value → Ot
 | none => .norm
 | some v => .pan v
theorem otP_ex (p : Option Value) : (otP p).ex = exP p := by cases p <;> rfl
def setPs : List Tmp → List SA → List (Nat × SV) → List (Nat × SV)
 | p :: ps, x :: xs, tm => setPs ps xs ((p, .a x) :: tm)
 | _, _, tm => tm
def hndS (n : Nat) (ps : Array Tmp) (tm : List (Nat × SV)) (A B : Stt → Option (Ot × Stt × List Prop)) : YS := fun args bk c th orc =>
 if Nat.beq args.length ps.size && ps.toList.all (fun p => Nat.blt p n) then
  match A ⟨setPs ps.toList args tm, bk, c, th, orc, []⟩ with
  | some (.norm, s1, p) => (match B s1 with
    | some (.norm, s2, q) => (match s2.df with
      | [] => some ⟨.a (.one (.val (.bool true))), s2.bk.take (s2.bk.length - bk.length), p ++ q, s2.orc, s2.c, s2.th, none⟩
      | _ :: _ => none)
    | _ => none)
  | _ => none
 else none
def evC (P : Program) (cs : CallS) (ys : YEnv) (n : Nat) : Nat → Bool → Code → Stt → Option (Ot × Stt × List Prop)
 | 0, _, _, _ => none
 | _ + 1, _, .skip, s => some (.norm, s, [])
 | _ + 1, _, .label _, s => some (.norm, s, [])
 | _ + 1, rd, .region _ ops draw, s => match (if draw then drawS P cs ys ops n s else seqS P cs ys rd ops n ops.toList s) with
   | some (s', q, p) => some (otP p, s', q)
   | none => none
 | f + 1, rd, .seq x y, s => match evC P cs ys n f rd x s with
   | some (.norm, s1, p) => (match evC P cs ys n f rd y s1 with
     | some (o, s2, q) => some (o, s2, p ++ q)
     | none => none)
   | some (.exit id, s1, p) => some (.exit id, s1, p)
   | some (.ret, s1, p) => some (.ret, s1, p)
   | some (.pan v, s1, p) => some (.pan v, s1, p)
   | none => none
 | f + 1, rd, .cond c t e, s => match getS s.tm c with
   | some (.a (.one (.val (.bool b)))) => evC P cs ys n f rd (if b then t else e) s
   | _ => none
 | f + 1, rd, .block id x, s => match evC P cs ys n f rd x s with
   | some (.exit j, s', q) => some (if Nat.beq j id then .norm else .exit j, s', q)
   | some (.norm, s', q) => some (.norm, s', q)
   | some (.ret, s', q) => some (.ret, s', q)
   | some (.pan v, s', q) => some (.pan v, s', q)
   | none => none
 | f + 1, rd, .scope x, s => evC P cs ys n f rd x s
 | f + 1, rd, .loop x, s => match evC P cs ys n f rd x s with
   | some (.norm, s1, p) => (match evC P cs ys n f rd (.loop x) s1 with
     | some (o, s2, q) => some (o, s2, p ++ q)
     | none => none)
   | some (.exit id, s1, p) => some (.exit id, s1, p)
   | some (.ret, s1, p) => some (.ret, s1, p)
   | some (.pan v, s1, p) => some (.pan v, s1, p)
   | none => none
 | _ + 1, _, .exit id, s => some (.exit id, s, [])
 | _ + 1, _, .ret, s => some (.ret, s, [])
 | f + 1, false, .rangeFunc g ps assign body, s => match rngOf (getS s.tm g) with
   | some (gf, fs, caps) => if entersB P gf && s.bk.all (fun p => Nat.blt p.1 s.c) then
     (match cs.call ((s.c, hndS n ps s.tm (evC P cs ys n f true assign) (evC P cs ys n f true body)) :: ys) gf (fs ++ (.one (.yld s.c) :: capsA caps)) s.bk (s.c + 2) (tmin s.th (s.c + 2)) s.orc with
     | some r => (match r.pan with
       | none => some (.norm, ⟨s.tm, r.wr ++ s.bk, r.c, r.th, r.orc, .col (s.c + 1) :: s.df⟩, r.obl)
       | some p => some (.pan p, ⟨s.tm, r.wr, r.c, r.th, r.orc, .col (s.c + 1) :: s.df⟩, r.obl))
     | none => none) else none
   | _ => none
 | _, _, _, _ => none
end
end Go.Ex
namespace Go.Proofs.YtcgfdibagldafaaGreatDoor
open Go.RowKit Go.Mono
theorem lall_ok (n c : Nat) (p : Option Addr) (g : Nat → Nat) (fi ca : Nat → Array Value) (w : World) (hr : RdC w p n c 1 (fun i _ => .func (.func (g i)) (fi i) (ca i)))
  (eg : ∀ i, i < n → ∀ args w, (callFunc (g i) args).run Tryz.prog w = .ok (.enter (g i) args) w)
  (hc : ∀ i, i < n → ∀ W, Below w.heap.size w W → Calls Tryz.prog (g i) (fi i ++ ca i) W fun e w' => e = .returned (.bool true) ∧ Below W.heap.size W w') :
  Calls Tryz.prog 239 #[.slice p n c] w fun e w' => e = .returned (.bool true) ∧ Below w.heap.size w w' := by
 obtain ⟨hc1, hn1, hx⟩ := hr
 go_enter Tryz.func239, Tryz.ntmps239
 go_wp2
 go_step3
 go_wp2
 go_step3
 go_wp2
 go_loopw [3, 8] (fun l a wr => ∃ k : Nat, k ≤ n ∧ l = .bool true ∧ a = .int .i64 (k : Int) ∧ Below w.heap.size w wr) (fun _ a _ => (n - intOf a).toNat)
 case atStart => exact ⟨0, Nat.zero_le _, rfl, rfl, Below.refl _ _⟩
 case round =>
  obtain ⟨k, hk, rfl, rfl, hB⟩ := hrel
  by_cases h0 : k < n
  ·obtain ⟨b, off, rfl, hb, hcell⟩ := hx (by omega)
   have a1 := (hB.cell hb).trans (hcell k 0 h0 (by omega))
   simp only [Nat.mul_one, Nat.add_zero] at a1
   have hck := hc k h0 wr hB
   have egk := eg k h0
   generalize g k = G at *
   generalize fi k = FI at *
   generalize ca k = CA at *
   clear hcell hx hc eg
   have h0' : (k : Int) < n := by omega
   go_wp2
   refine hck.mono ?_
   rintro e w' ⟨rfl, hb'⟩
   go_wp2
   go_roundw
   case rel => exact ⟨k + 1, by omega, rfl, by simp, belowCall hB hb'⟩
   case measure => simp [intOf]; omega
  ·obtain rfl : k = n := by omega
   clear hx hc eg
   go_wp2
   rw [Exit.noGoto_ret]
   go_ret
   exact ⟨rfl, hB⟩
theorem valid1_ok (A B : Nat) (nm : ByteArray) (w : World) (a0 : Box w A 312 #[.pointer (some ⟨B, 0, none⟩)]) (hn : w.cell? ⟨B, 0, none⟩ = some (.string nm))
  (h0 : 1 ≤ nm.size) (h1 : nm.size ≤ 16) (hl : ∀ i (hi : i < nm.size), isLetter (nm[i].toNat : Int)) :
  Calls Tryz.prog 240 #[.pointer (some ⟨A, 0, none⟩)] w fun e w' => e = .returned (.bool true) ∧ Below w.heap.size w w' := by
 have ca0 := a0.cell
 have hk := name_ok nm h0 h1 hl w
 clear hl h0 h1
 go_enter Tryz.func240, Tryz.ntmps240
 go_wp2_with (go_at_call 241; refine hk.mono ?_; rintro e w' ⟨rfl, rfl⟩)
 go_ret
 exact ⟨rfl, Below.refl _ _⟩
theorem valid2_ok (A B : Nat) (di pu : Int) (w : World) (a0 : Box w A 312 #[.pointer (some ⟨B, 0, none⟩)]) (h1 : w.cell? ⟨B, 1, none⟩ = some (.int .i64 di)) (h2 : w.cell? ⟨B, 2, none⟩ = some (.int .i64 pu))
  (d0 : 0 ≤ di) (d1 : di ≤ 1000000000) (p0 : 1 ≤ pu) (p1 : pu ≤ 1000000000) :
  Calls Tryz.prog 242 #[.pointer (some ⟨A, 0, none⟩)] w fun e w' => e = .returned (.bool true) ∧ Below w.heap.size w w' := by
 have ca0 := a0.cell
 go_enter Tryz.func242, Tryz.ntmps242
 go_wp2_with first | (go_at_call 243; (with_reducible refine (lbetween_ok di _ _ d0 d1 _).mono ?_); rintro e w' ⟨rfl, rfl⟩) | (go_at_call 243; (with_reducible refine (lbetween_ok pu _ _ p0 p1 _).mono ?_); rintro e w' ⟨rfl, rfl⟩)
 go_ret
 exact ⟨rfl, Below.refl _ _⟩
end Go.Proofs.YtcgfdibagldafaaGreatDoor
namespace Go.Ex
open Go.RowKit Go.Mono
section
section
variable {F : Fence} {m : Nat} {P : Program} {b : Frame} {a : Act} {k : List Item} {cs : List Frame} {w : World} {Q : Exit → Act → World → Prop}
theorem stepR_scope {c : Code} : step P (lone (b.atR a (.code (.scope c) :: k)) cs w) = .next (lone (b.atR a (.code c :: .inScope c :: k)) cs w) :=
 step_lone_go (by simp [stepG, stepG.exec, Frame.atR])
theorem stepR_inScope {c : Code} : step P (lone (b.atR a (.inScope c :: k)) cs w) = .next (lone (b.atR a k) cs w) :=
 step_lone_go (by simp [stepG, stepG.exec, Frame.atR])
theorem wpIn_scope {c : Code} (h : c.wpIn F m P (Exit.noGoto Q) a w) : (Code.scope c).wpIn F m P Q a w := by
 intro b k cs hro hb hr
 have h0 : (lone (b.atR a (.code (.scope c) :: k)) cs w).fenced P F := fenced_calm hb hr rfl
 obtain ⟨e, a₁, w₁, hq, harr⟩ := h b (.inScope c :: k) cs hro hb hr
 have hx : ∀ id, exitTo id (.inScope c :: k) = exitTo id k := fun id => by simp [exitTo]
 cases e with
 | normal => exact ⟨.normal, a₁, w₁, hq, .head h0 stepR_scope (StepsIn.trans harr (.one (fenced_calm hb hr rfl) stepR_inScope))⟩
 | exit id =>
   exact ⟨.exit id, a₁, w₁, hq, fun k' hk => .head h0 stepR_scope (harr.1 k' (by rw [hx]; exact hk)),
    fun hr' hk => let ⟨k₁, h1, h2⟩ := harr.2 hr' (by rw [hx]; exact hk); ⟨k₁, h1, .head h0 stepR_scope h2⟩⟩
 | goto l => exact hq.elim
 | ret => exact ⟨_, a₁, w₁, hq, .of_steps (.one h0 stepR_scope) harr⟩
 | panic ch => exact ⟨_, a₁, w₁, hq, .of_steps (.one h0 stepR_scope) harr⟩
 | outgrown => exact ⟨_, a₁, w₁, hq, .of_steps (.one h0 stepR_scope) harr⟩
end
def Pre (o : Ot) (s s' : Stt) : Prop := s.c ≤ s'.c ∧ ((∀ v, o ≠ .pan v) → ∃ l, s'.bk = l ++ s.bk)
theorem Pre.refl (o : Ot) (s : Stt) : Pre o s s := ⟨Nat.le_refl _, fun _ => ⟨[], rfl⟩⟩
theorem Pre.trans {o o' : Ot} {a b c : Stt} (h : Pre o a b) (ho : ∀ v, o ≠ .pan v) (g : Pre o' b c) : Pre o' a c := by
 obtain ⟨h1, hl⟩ := h
 obtain ⟨g1, hm⟩ := g
 refine ⟨Nat.le_trans h1 g1, fun hh => ?_⟩
 obtain ⟨l, hl⟩ := hl ho
 obtain ⟨m, hm⟩ := hm hh
 exact ⟨m ++ l, by rw [hm, hl, List.append_assoc]⟩
section
variable {D : Den} {P : Program} {w0 : World} {X : Nat → Prop} {cs : CallS} {ys : YEnv} {n : Nat}
theorem seqS_pre {rd : Bool} {ops : Array Oper} : ∀ {l : List Oper} {s s' : Stt} {q : List Prop} {p : Option Value}, seqS P cs ys rd ops n l s = some (s', q, p) → Pre (otP p) s s'
 | [], s, s', q, p, h => by cases h; exact .refl _ _
 | o :: rest, s, s', q, p, h => by
   have hcc := seqS_cc h
   refine ⟨hcc, ?_⟩
   unfold seqS at h
   split at h
   ·split at h
    ·split at h
     ·split at h
      ·cases h
      ·split at h
       ·rename_i s2 q2 p2 h2
        cases h
        have k := (seqS_pre h2).2
        exact k
       ·cases h
     ·split at h
      ·rename_i r cl hr
       split at h
       ·cases h
        exact fun hh => absurd rfl (hh _)
       ·split at h
        ·rename_i s2 q2 p2 h2
         cases h
         intro hh
         obtain ⟨l, hl⟩ := (seqS_pre h2).2 hh
         exact ⟨l ++ r.wr, by rw [hl, List.append_assoc]⟩
        ·cases h
      ·cases h
    ·cases h
   ·split at h
    ·split at h
     ·rename_i s2 q2 p2 h2
      cases h
      have k := (seqS_pre h2).2
      exact k
     ·cases h
    ·cases h
   ·cases h
theorem accAt_pre {α : Type} (ws : List (List (Nat × α))) (L : Nat → Bool) (l0 : List (Nat × α)) : ∀ m, ∃ l, accAt ws L l0 m = l ++ l0
 | 0 => ⟨[], rfl⟩
 | m + 1 => by
   obtain ⟨l, hl⟩ := accAt_pre ws L l0 m
   exact ⟨(if L m then ws.getD m [] else []) ++ l, by show _ ++ accAt ws L l0 m = _; rw [hl, List.append_assoc]⟩
theorem drawS_pre {ops : Array Oper} {s s' : Stt} {q : List Prop} {p : Option Value} (h : drawS P cs ys ops n s = some (s', q, p)) : Pre (otP p) s s' := by
 unfold drawS at h
 dsimp only at h
 split at h
 ·rename_i rs s2 q2 pn h2
  split at h
  ·have k := recS_ok h2
   split at h
   ·cases h
    obtain ⟨l, hl⟩ := accAt_pre (rs.map (·.wr)) tt s.bk ops.toList.length
    exact ⟨k.cc, fun _ => ⟨l, by rw [← hl]; exact k.bk⟩⟩
   ·split at h
    ·cases h
     exact ⟨k.cc, fun hh => absurd rfl (hh _)⟩
    ·cases h
  ·cases h
 ·cases h
theorem evC_pre : ∀ {f : Nat} {rd : Bool} {c : Code} {s s' : Stt} {o : Ot} {q : List Prop}, (∀ ys f args bk c th orc r, cs.call ys f args bk c th orc = some r → c ≤ r.c) → evC P cs ys n f rd c s = some (o, s', q) → Pre o s s' := by
 intro f rd c s s' o q hcs
 induction f generalizing rd c s s' o q with
 | zero => intro h; cases c <;> cases rd <;> simp [evC] at h
 | succ f ih =>
   intro h
   cases c with
   | skip => simp only [evC, Option.some.injEq, Prod.mk.injEq] at h; obtain ⟨_, rfl, _⟩ := h; exact .refl _ _
   | label l => simp only [evC, Option.some.injEq, Prod.mk.injEq] at h; obtain ⟨_, rfl, _⟩ := h; exact .refl _ _
   | exit id => simp only [evC, Option.some.injEq, Prod.mk.injEq] at h; obtain ⟨_, rfl, _⟩ := h; exact .refl _ _
   | ret => simp only [evC, Option.some.injEq, Prod.mk.injEq] at h; obtain ⟨_, rfl, _⟩ := h; exact .refl _ _
   | region id ops draw =>
     simp only [evC] at h
     split at h
     ·rename_i s2 q2 p2 h2
      cases h
      split at h2
      ·exact drawS_pre h2
      ·exact seqS_pre h2
     ·cases h
   | seq x y =>
     simp only [evC] at h
     split at h
     ·rename_i s1 p h1
      split at h
      ·rename_i o2 s2 q2 h2
       cases h
       exact (ih h1).trans (fun v => by simp) (ih h2)
      ·cases h
     ·rename_i h1; cases h; exact ih h1
     ·rename_i h1; cases h; exact ih h1
     ·rename_i h1; cases h; exact ih h1
     ·cases h
   | cond c t e =>
     simp only [evC] at h
     split at h
     ·exact ih h
     ·cases h
   | block id x =>
     simp only [evC] at h
     split at h
     ·rename_i h1; cases h
      have := ih h1
      exact ⟨this.1, fun _ => this.2 (fun v => by simp)⟩
     ·rename_i h1; cases h; exact ih h1
     ·rename_i h1; cases h; exact ih h1
     ·rename_i h1; cases h; exact ih h1
     ·cases h
   | scope x => simp only [evC] at h; exact ih h
   | loop x =>
     simp only [evC] at h
     split at h
     ·rename_i s1 p h1
      split at h
      ·rename_i o2 s2 q2 h2
       cases h
       exact (ih h1).trans (fun v => by simp) (ih h2)
      ·cases h
     ·rename_i h1; cases h; exact ih h1
     ·rename_i h1; cases h; exact ih h1
     ·rename_i h1; cases h; exact ih h1
     ·cases h
   | rangeFunc g ps assign body =>
     cases rd with
     | true => simp [evC] at h
     | false =>
       simp only [evC] at h
       split at h
       ·split at h
        ·split at h
         ·rename_i r hr
          have := hcs _ _ _ _ _ _ _ _ hr
          split at h
          ·cases h
           exact ⟨by dsimp only; omega, fun _ => ⟨r.wr, rfl⟩⟩
          ·cases h
           exact ⟨by dsimp only; omega, fun hh => absurd rfl (hh _)⟩
         ·cases h
        ·cases h
       ·cases h
   | goto => cases rd <;> simp [evC] at h
   | refuse => cases rd <;> simp [evC] at h
theorem drawS_ok (hcs : CallOk D P w0 X cs) {bd mm : Nat} (hm : P.follows .mixedOrders = true) {ro : Option Nat} {m : Nat} {ops : Array Oper} {s s' : Stt} {q : List Prop} {pn : Option Value} (h : drawS P cs ys ops n s = some (s', q, pn)) (hq : ∀ p ∈ q, p) {ρ : Nm} {wc w : World} {a : Act}
  (hS : Sat D w0 X s.th ρ wc w s.bk) (hY : YOk D P w0 X bd ys ρ wc w) (hT : TSat D ρ wc n s.tm a) (hDf : DfOk P mm ρ w s.df a.defers) (hn : ∀ k, s.c ≤ k → k < s'.c → ρ k = none) {Q : Exit → Act → World → Prop}
  (hK : Goes D P w0 X mm n ρ wc w s s' (Q (exP pn))) (id : Nat) : (Code.region id ops true).wpIn (WF ro) m P Q a w := by
 unfold drawS at h
 dsimp only at h
 split at h
 ·rename_i rs s2 q2 pn2 h2
  split at h
  ·rename_i hc
   simp only [Bool.and_eq_true, Bool.or_eq_true, Bool.not_eq_true'] at hc
   obtain ⟨⟨hrace, hpre⟩, hcall⟩ := hc
   have hR := recS_ok h2
   have hlen : rs.length = ops.size := by rw [hR.len, Array.length_toList]
   have hD : DrawOk ops ⟨s.tm, s.bk, s.c, if ops.toList.any isCall then TH else s.th, s.orc, s.df⟩ rs s2 := by
    refine ⟨hrace, fun j p hp => ?_, fun ⟨o, ho, hoc⟩ => ?_⟩
    ·by_cases hj : j < ops.size
     ·have h1 := List.all_eq_true.1 hpre j (List.mem_range.2 hj)
      have h2 := List.all_eq_true.1 h1 p hp
      exact Nat.blt_eq ▸ h2
     ·unfold prOf at hp
      rw [Array.getElem?_eq_none (by omega)] at hp
      cases hp
    ·have hany : ops.toList.any isCall = true := List.any_eq_true.2 ⟨o, ho, hoc⟩
     rcases hcall with h | h
     ·rw [hany] at h; cases h
     ·obtain ⟨⟨c1, c2⟩, c3⟩ := h
      rw [hany]
      simp only [if_true]
      refine ⟨look_all c1, fun r hr => ?_⟩
      have h3 := List.all_eq_true.1 c2 r hr
      rw [Bool.and_eq_true] at h3
      exact ⟨Nat.le_of_ble_eq_true h3.1, look_all h3.2⟩
   have hS1 : Sat D w0 X (if ops.toList.any isCall then TH else s.th) ρ wc w.drew s.bk := by
    cases hany : ops.toList.any isCall with
    | false => exact hS.drew
    | true =>
      rcases hcall with h | h
      ·rw [hany] at h; cases h
      ·exact hS.drew.reth (look_all h.1.1)
   have hacc : ∀ {α : Type} (ws : List (List (Nat × α))) (l0 : List (Nat × α)) (m : Nat), accAt ws (fun j => (Array.replicate ops.size false).getD j false) l0 m = l0 := by
    intro α ws l0 m
    induction m with
    | zero => rfl
    | succ m ih =>
      show (if _ then _ else _) ++ accAt ws _ l0 m = l0
      rw [ih, if_neg]
      ·rfl
      ·by_cases hm : m < ops.size <;> simp [Array.getD, hm]
   obtain ⟨hcc, hqq⟩ : s2.c = s'.c ∧ q2 = q := by
    split at h
    ·cases h; exact ⟨rfl, rfl⟩
    ·split at h
     ·cases h; exact ⟨rfl, rfl⟩
     ·cases h
   rw [← hqq] at hq
   have hdw : Evo ρ wc w s.bk s.c s2.c ρ wc w.drew s.bk := (Evo.drew ρ wc w s.bk s.c).widen (Nat.le_refl _) hR.cc
   refine wpIn_region_any hm ?_
   refine wpAny_ev (n := n) hcs hR hD hq (ρ0 := ρ) (wc0 := wc) (w00 := w) (d0 := a.defers) hS.named (fun ρ' wc' w' bk' e => hY.evo hS e) ?_ ?_ ops.size _ a _ ρ wc (by simp) ?_ ?_ ?_ ?_ ?_ rfl ?_ ?_
   ·intro hpn ρ' wc' w' a' k1 k2 k3 k4
    have hpr := hR.pn0 hpn
    rw [hpr] at h
    cases h
    refine hK ρ' wc' w' a' ?_ k2 (by rw [k3]; exact hDf.evo hS k4) k4
    cases hany : ops.toList.any isCall with
    | false => simpa [hany] using k1
    | true =>
      rcases hcall with h | h
      ·rw [hany] at h; cases h
      ·exact k1.reth (look_all h.2)
   ·intro p pw bR hpr ρ' wc' w' a' k1 k2 k3 k4
    rw [hpr] at h
    dsimp only at h
    split at h
    ·rename_i hall
     cases h
     refine hK ρ' wc' w' a' ?_ k2 (by rw [k3]; exact hDf.evo hS k4) k4
     rw [Bool.or_eq_true] at hall
     cases hany : ops.toList.any isCall with
     | false => simpa [hany] using k1
     | true =>
       rcases hall with h | h
       ·rw [hany] at h; cases h
       ·exact k1.reth (look_all h)
    ·cases h
   ·have : ∀ m, left (fun j => (Array.replicate ops.size false).getD j false) m ≤ m := by
     intro m
     induction m with
     | zero => exact Nat.le_refl _
     | succ m ih => unfold left; split <;> omega
    exact this _
   ·intro j hj
    by_cases hm : j < ops.size <;> simp [Array.getD, hm] at hj
   ·intro i r _ _
    by_cases hm : i < ops.size <;> simp [Array.getD, hm]
   ·rw [hacc]; exact hS1
   ·rw [hacc]; exact hT
   ·rw [hacc]; exact hdw
   ·intro i r hr _ k h1 h2
    have h3 := hR.rng i r hr
    exact hn k (by dsimp only at h3; omega) (by dsimp only at h3 ⊢; omega)
  ·cases h
 ·cases h
end
end
section
theorem exists_least {p : Nat → Prop} (h : ∃ n, p n) : ∃ n, p n ∧ ∀ m, p m → n ≤ m := by
 obtain ⟨n, hn⟩ := h
 induction n using Nat.strongRecOn with
 | _ n ih =>
   by_cases hm : ∃ m, m < n ∧ p m
   ·obtain ⟨m, h1, h2⟩ := hm
    exact ih m h1 h2
   ·exact ⟨n, hn, fun m h2 => Nat.le_of_not_lt fun h1 => hm ⟨m, h1, h2⟩⟩
section
variable {D : Den} {P : Program} {w0 : World} {X : Nat → Prop} {cs : CallS} {ys : YEnv} {n : Nat}
theorem denAs.len {ρ : Nm} {w : World} : ∀ {l : List SA} {vs : List Value}, denAs D ρ w l vs → vs.length = l.length
 | [], vs, e => by rw [show vs = [] from e]; rfl
 | y :: l, vs, ⟨v, r, e, hv, hr⟩ => by rw [e, List.length_cons, denAs.len hr]; rfl
theorem setPs_ok {ρ : Nm} {w : World} : ∀ {ps : List Tmp} {args : List SA} {vals : List Value} {tm : List (Nat × SV)} {T : Array Value} {d : List Deferred}, TSat D ρ w n tm { tmps := T, defers := d } → denAs D ρ w args vals → (ps.all fun p => Nat.blt p n) = true → ps.length = args.length →
  TSat D ρ w n (setPs ps args tm) { tmps := (ps.zip vals).foldl (fun t (q : Tmp × Value) => t.setIfInBounds q.1 q.2) T, defers := d }
 | [], args, vals, tm, T, d, h, ha, hp, hl => by
   cases args with
   | nil => exact h
   | cons => cases hl
 | p :: ps, args, vals, tm, T, d, h, ha, hp, hl => by
   cases args with
   | nil => cases hl
   | cons x xs =>
     obtain ⟨v, r, rfl, hv, hr⟩ := ha
     rw [List.all_cons, Bool.and_eq_true] at hp
     rw [List.zip_cons_cons, List.foldl_cons]
     exact setPs_ok (h.put (d := some p) hp.1 (x := .a x) hv) hr hp.2 (by simpa using hl)
theorem evC_ok (hcs : CallOk D P w0 X cs) (hcc : ∀ ys f args bk c th orc r, cs.call ys f args bk c th orc = some r → c ≤ r.c) (hm : P.follows .mixedOrders = true) : ∀ (f : Nat) (rd : Bool) (c : Code) (s s' : Stt) (o : Ot) (q : List Prop) (bd mm : Nat) (ρ : Nm) (wc w : World) (a : Act) (Q : Exit → Act → World → Prop) (ro : Option Nat),
  mm ≤ w.heap.size → (rd = false → ro = none) → evC P cs ys n f rd c s = some (o, s', q) → (∀ p ∈ q, p) → Sat D w0 X s.th ρ wc w s.bk → YOk D P w0 X bd ys ρ wc w → TSat D ρ wc n s.tm a → DfOk P mm ρ w s.df a.defers → (∀ k, s.c ≤ k → k < s'.c → ρ k = none) →
  Goes D P w0 X mm n ρ wc w s s' (Q o.ex) → c.wpIn (WF ro) 0 P Q a w := by
 intro f
 induction f using Nat.strongRecOn with
 | _ f ih =>
   intro rd c s s' o q bd mm ρ wc w a Q ro hmm0 hrd h hq hS hY hT hDf hn hK
   cases f with
   | zero => cases c <;> cases rd <;> simp [evC] at h
   | succ f =>
     have ih' := ih f (Nat.lt_succ_self f)
     cases c with
     | skip =>
       simp only [evC, Option.some.injEq, Prod.mk.injEq] at h; obtain ⟨rfl, rfl, rfl⟩ := h
       exact wpIn_skip (hK ρ wc w a hS hT hDf (Evo.refl _ _ _ _ _))
     | label l =>
       simp only [evC, Option.some.injEq, Prod.mk.injEq] at h; obtain ⟨rfl, rfl, rfl⟩ := h
       exact wpIn_label (hK ρ wc w a hS hT hDf (Evo.refl _ _ _ _ _))
     | exit id =>
       simp only [evC, Option.some.injEq, Prod.mk.injEq] at h; obtain ⟨rfl, rfl, rfl⟩ := h
       exact wpIn_exit (hK ρ wc w a hS hT hDf (Evo.refl _ _ _ _ _))
     | ret =>
       simp only [evC, Option.some.injEq, Prod.mk.injEq] at h; obtain ⟨rfl, rfl, rfl⟩ := h
       exact wpIn_ret (hK ρ wc w a hS hT hDf (Evo.refl _ _ _ _ _))
     | region id ops draw =>
       simp only [evC] at h
       split at h
       ·rename_i s2 q2 p2 h2
        cases h
        rw [otP_ex] at hK
        cases draw with
        | true => exact drawS_ok hcs hm (by simpa using h2) hq hS hY hT hDf hn hK id
        | false => exact wpIn_region_list (seqS_ok hcs hrd (by simpa using h2) hq hS hY hT hDf hn hK)
       ·cases h
     | seq x y =>
       simp only [evC] at h
       split at h
       ·rename_i s1 p h1
        split at h
        ·rename_i o2 s2 q2 h2
         cases h
         have p1 := evC_pre hcc h1
         have p2 := evC_pre hcc h2
         refine wpIn_seq (ih' rd x s s1 .norm p bd mm ρ wc w a _ ro hmm0 hrd h1 (fun p hp => hq p (by simp [hp])) hS hY hT hDf (fun k k1 k2 => hn k k1 (Nat.lt_of_lt_of_le k2 p2.1)) ?_)
         intro ρ' wc' w' a' k1 k2 k3 k4
         refine ih' rd y s1 _ _ _ bd mm ρ' wc' w' a' Q ro (Nat.le_trans hmm0 k4.size) hrd h2 (fun p hp => hq p (by simp [hp])) k1 (hY.evo hS k4) k2 k3 (fun k j1 j2 => ?_) ?_
         ·rw [k4.dom k (.inr j1)]; exact hn k (Nat.le_trans p1.1 j1) j2
         ·intro ρ2 wc2 w2 a2 m1 m2 m3 m4
          exact hK ρ2 wc2 w2 a2 m1 m2 m3 (k4.trans m4 hS.named)
        ·cases h
       ·rename_i id s1 p h1
        cases h
        exact wpIn_seq (ih' rd x s _ (.exit id) _ bd mm ρ wc w a _ ro hmm0 hrd h1 hq hS hY hT hDf hn hK)
       ·rename_i s1 p h1
        cases h
        exact wpIn_seq (ih' rd x s _ .ret _ bd mm ρ wc w a _ ro hmm0 hrd h1 hq hS hY hT hDf hn hK)
       ·rename_i v s1 p h1
        cases h
        exact wpIn_seq (ih' rd x s _ (.pan v) _ bd mm ρ wc w a _ ro hmm0 hrd h1 hq hS hY hT hDf hn hK)
       ·cases h
     | cond c t e =>
       simp only [evC] at h
       split at h
       ·rename_i b hb
        have hden := hT.get hb
        have hev : a.eval c = .bool b := by simpa using hden.1
        exact wpIn_cond hev (ih' rd (if b then t else e) s _ _ _ bd mm ρ wc w a Q ro hmm0 hrd h hq hS hY hT hDf hn hK)
       ·cases h
     | block id x =>
       simp only [evC] at h
       split at h
       ·rename_i j s1 p h1
        cases h
        refine wpIn_block (ih' rd x s _ (.exit j) _ bd mm ρ wc w a _ ro hmm0 hrd h1 hq hS hY hT hDf hn ?_)
        intro ρ2 wc2 w2 a2 m1 m2 m3 m4
        show (if j = id then Q .normal a2 w2 else Q (.exit j) a2 w2)
        have := hK ρ2 wc2 w2 a2 m1 m2 m3 m4
        by_cases e : j = id
        ·subst e
         simp only [Nat.beq_refl, if_true] at this
         rw [if_pos rfl]
         exact this
        ·have hb : Nat.beq j id = false := by
          cases hb : Nat.beq j id with
          | false => rfl
          | true => exact absurd (Nat.eq_of_beq_eq_true hb) e
         rw [hb] at this
         rw [if_neg e]
         exact this
       ·rename_i s1 p h1
        cases h
        exact wpIn_block (ih' rd x s _ .norm _ bd mm ρ wc w a _ ro hmm0 hrd h1 hq hS hY hT hDf hn hK)
       ·rename_i s1 p h1
        cases h
        exact wpIn_block (ih' rd x s _ .ret _ bd mm ρ wc w a _ ro hmm0 hrd h1 hq hS hY hT hDf hn hK)
       ·rename_i v s1 p h1
        cases h
        exact wpIn_block (ih' rd x s _ (.pan v) _ bd mm ρ wc w a _ ro hmm0 hrd h1 hq hS hY hT hDf hn hK)
       ·cases h
     | scope x =>
       simp only [evC] at h
       refine wpIn_scope (ih' rd x s _ o _ bd mm ρ wc w a _ ro hmm0 hrd h hq hS hY hT hDf hn ?_)
       intro ρ2 wc2 w2 a2 m1 m2 m3 m4
       have := hK ρ2 wc2 w2 a2 m1 m2 m3 m4
       cases o <;> exact this
     | loop x =>
       -- the least number of rounds' fuel that leads from a state to the end
       let J : Nat → Act → World → Prop := fun m a w => m ≤ f + 1 ∧ mm ≤ w.heap.size ∧ ∃ (s s' : Stt) (o : Ot) (q : List Prop) (ρ : Nm) (wc : World), evC P cs ys n m rd (.loop x) s = some (o, s', q) ∧ (∀ p ∈ q, p) ∧ Sat D w0 X s.th ρ wc w s.bk ∧ YOk D P w0 X bd ys ρ wc w ∧ TSat D ρ wc n s.tm a ∧ DfOk P mm ρ w s.df a.defers ∧ (∀ k, s.c ≤ k → k < s'.c → ρ k = none) ∧
        Goes D P w0 X mm n ρ wc w s s' (Q o.ex)
       have least : ∀ a w, ∃ m, (∃ m, J m a w) → J m a w ∧ ∀ m', J m' a w → m ≤ m' := fun a w => by
        by_cases hJ : ∃ m, J m a w
        ·obtain ⟨m, h1, h2⟩ := exists_least hJ
         exact ⟨m, fun _ => ⟨h1, h2⟩⟩
        ·exact ⟨0, fun h => absurd h hJ⟩
       refine wpIn_loop (fun a w => ∃ m, J m a w) (fun a w => Classical.choose (least a w)) ⟨f + 1, Nat.le_refl _, hmm0, s, s', o, q, ρ, wc, h, hq, hS, hY, hT, hDf, hn, hK⟩ ?_
       intro a w hI
       obtain ⟨⟨hle, hmm0, s, s', o, q, ρ, wc, h, hq, hS, hY, hT, hDf, hn, hK⟩, _⟩ := Classical.choose_spec (least a w) hI
       generalize hmmm : Classical.choose (least a w) = m at *
       cases m with
       | zero => cases rd <;> simp [evC] at h
       | succ m =>
         have ihm := ih m (by omega)
         simp only [evC] at h
         split at h
         ·rename_i s1 p h1
          split at h
          ·rename_i o2 s2 q2 h2
           cases h
           have p1 := evC_pre hcc h1
           have p2 := evC_pre hcc h2
           refine ihm rd x s s1 .norm p bd mm ρ wc w a _ ro hmm0 hrd h1 (fun p hp => hq p (by simp [hp])) hS hY hT hDf (fun k k1 k2 => hn k k1 (Nat.lt_of_lt_of_le k2 p2.1)) ?_
           intro ρ' wc' w' a' k1 k2 k3 k4
           have hJ : J m a' w' := ⟨by omega, Nat.le_trans hmm0 k4.size, s1, _, _, _, ρ', wc', h2, fun p hp => hq p (by simp [hp]), k1, hY.evo hS k4, k2, k3, fun k j1 j2 => by
            rw [k4.dom k (.inr j1)]; exact hn k (Nat.le_trans p1.1 j1) j2, fun ρ2 wc2 w2 a2 m1 m2 m3 m4 => hK ρ2 wc2 w2 a2 m1 m2 m3 (k4.trans m4 hS.named)⟩
           refine ⟨⟨m, hJ⟩, ?_⟩
           have := (Classical.choose_spec (least a' w') ⟨m, hJ⟩).2 m hJ
           omega
          ·cases h
         ·rename_i id s1 p h1
          cases h
          exact ihm rd x s _ (.exit id) _ bd mm ρ wc w a _ ro hmm0 hrd h1 hq hS hY hT hDf hn hK
         ·rename_i s1 p h1
          cases h
          exact ihm rd x s _ .ret _ bd mm ρ wc w a _ ro hmm0 hrd h1 hq hS hY hT hDf hn hK
         ·rename_i v s1 p h1
          cases h
          exact ihm rd x s _ (.pan v) _ bd mm ρ wc w a _ ro hmm0 hrd h1 hq hS hY hT hDf hn hK
         ·cases h
     | rangeFunc g ps assign body =>
       cases rd with
       | true => simp [evC] at h
       | false =>
         obtain rfl := hrd rfl
         simp only [evC] at h
         split at h
         ·rename_i gf fs caps hg
          split at h
          ·rename_i hc
           rw [Bool.and_eq_true] at hc
           obtain ⟨hen, hall⟩ := hc
           split at h
           ·rename_i r hr
            have hbkn := look_all hall
            have hcr := hcc _ _ _ _ _ _ _ _ hr
            have hsc : s'.c = r.c ∧ s'.df = .col (s.c + 1) :: s.df ∧ q = r.obl := by
             split at h <;> (cases h; exact ⟨rfl, rfl, rfl⟩)
            obtain ⟨hsc, hsdf, hqo⟩ := hsc
            subst hqo
            obtain ⟨us, vs, e2, hus, hvs⟩ := rngOf_ok (D := D) (ρ := ρ) (w := wc) (v := a.eval g) hg (fun x hx => hT.get hx)
            have eg := fun args w => enters_run (P := P) hen args w
            obtain ⟨k1, E1⟩ := hS.obj (k := s.c + 1) (hn (s.c + 1) (by omega) (by omega)) (by
             cases hl : s.bk.look (s.c + 1) with
             | none => rfl
             | some b => have := hbkn _ _ hl; omega) (.deferred (some []))
            refine wpIn_rangeFunc fun fn hfn => ?_
            obtain ⟨lp, hlp⟩ : ∃ lp : Loop, lp = { state := .ready, pending := none, fn, tmps := a.tmps, params := ps, assign, body, defers := w.heap.size } := ⟨_, rfl⟩
            obtain ⟨k2, E2⟩ := k1.obj (k := s.c) (by rw [addNm_old _ _ (by omega)]; exact hn s.c (by omega) (by omega)) (by
             cases hl : s.bk.look s.c with
             | none => rfl
             | some b => have := hbkn _ _ hl; omega) (.loop lp)
            rw [World.size_alloc] at k2 E2
            have E12 := (E1.widen (d := s.c) (d' := s.c + 2) (by omega) (by omega)).join (E2.widen (d := s.c) (d' := s.c + 2) (by omega) (by omega)) hS.named
            generalize hρ2 : addNm (addNm ρ (s.c + 1) ⟨w.heap.size, 0, false, 0, 0⟩) s.c ⟨w.heap.size + 1, 0, false, 0, 0⟩ = ρ2 at k2 E12
            have r1 : ρ2 s.c = some ⟨w.heap.size + 1, 0, false, 0, 0⟩ := by rw [← hρ2]; exact addNm_new _ _ _
            have r2 : ρ2 (s.c + 1) = some ⟨w.heap.size, 0, false, 0, 0⟩ := by rw [← hρ2, addNm_old _ _ (by omega)]; exact addNm_new _ _ _
            have hW : (w.alloc (.deferred (some []))).alloc (.loop { state := .ready, pending := none, fn, tmps := a.tmps, params := ps, assign, body, defers := w.heap.size }) = (w.alloc (.deferred (some []))).alloc (.loop lp) := by rw [hlp]
            generalize hW1 : (w.alloc (.deferred (some []))).alloc (.loop lp) = W1 at k2 E12 hW
            have hL1 : W1.heap[w.heap.size + 1]? = some (.loop lp) := by
             rw [← hW1]
             have := World.alloc_heap_new (w.alloc (.deferred (some []))) (.loop lp)
             rwa [World.size_alloc] at this
            have hK1 : W1.heap[w.heap.size]? = some (.deferred (some [])) := by
             rw [← hW1]
             exact (Below.heap_alloc _ _ _ (by simp)).trans (World.alloc_heap_new w _)
            refine ⟨w.heap.size + 1, [{ target := .collected w.heap.size, args := #[] }], W1, { target := .fn (.func gf) vs.toArray, args := us.toArray ++ #[.func (.yield (w.heap.size + 1)) #[] #[]] }, W1, gf,
             us.toArray ++ #[.func (.yield (w.heap.size + 1)) #[] #[]] ++ vs.toArray, W1, ?_, ?_, ?_, ?_, (fun hh => by cases hh), ?_⟩
            ·rw [← hW]; exact run_enterLoop_outer _ _ _ _ _
            ·simp only [resolve, e2]
             simp [go_sem]
            ·intro f' hf'; trivial
            ·simp [invoke, go_sem, eg]
            ·-- the function, with what it yields to
             have hY2 : YOk D P w0 X (w.heap.size + 2) ((s.c, hndS n ps s.tm (evC P cs ys n f true assign) (evC P cs ys n f true body)) :: ys) ρ2 wc W1 := ⟨_, lp, r1, hL1, by have := hS.fr.size; dsimp only; omega, Nat.lt_succ_self _,
              (hY.bound (b := w.heap.size + 1) (fun k B hB => by have := hS.lt k B hB; omega)).evo hS E12, ?_⟩
             ·have hargs : denAs D ρ2 wc (fs ++ (.one (.yld s.c) :: capsA caps)) (us ++ (.func (.yield (w.heap.size + 1)) #[] #[] :: vs)) := (hus.mono E12.rho (Ext.refl _)).append ⟨_, vs, rfl, ⟨_, r1, rfl⟩, capsA_ok (hvs.mono E12.rho)⟩
              have hcall := hcs.call _ _ _ _ _ _ _ _ hr hq (w.heap.size + 2) ρ2 wc W1 _ ((k2.tmin (c := s.c + 2) (fun k b hk => by have := hbkn k b hk; omega))) hY2 (fun k b hk => by have := hbkn k b hk; omega) (tmin_le _ _) (fun k h1 h2 => by
               rw [E12.dom k (.inr h1)]; exact hn k (by omega) (by omega)) hargs
              refine callsIn_WF.2 ?_
              have ea : (us.toArray ++ #[.func (.yield (w.heap.size + 1)) #[] #[]] ++ vs.toArray : Array Value) = (us ++ (.func (.yield (w.heap.size + 1)) #[] #[] :: vs) : List Value).toArray := by apply Array.toList_inj.1; simp
              rw [ea]
              refine hcall.mono ?_
              rintro e W2 ⟨v, ρ', wc', hend, hv, hS2, hE2⟩
              have E := E12.trans hE2 hS.named
              have hl2 : W2.heap[w.heap.size + 1]? = some (.loop lp) := k2.stays hE2 hL1 rfl
              have hk2 : W2.heap[w.heap.size]? = some (.deferred (some [])) := k2.stays hE2 hK1 rfl
              have hT' : TSat D ρ' wc' n s.tm { a with defers := [{ target := .collected w.heap.size, args := #[] }] ++ a.defers } := ⟨hT.size, (hT.mono E.rho E.ext).at_⟩
              have hsz0 := hS.fr.size
              unfold OpR.ends at hend
              split at hend
              ·rename_i hp
               subst hend
               rw [hp] at h
               cases h
               have he := run_endLoop (P := P) hl2 (by rw [hlp]; simp)
               have ef : r.fin s.bk = r.wr ++ s.bk := by unfold OpR.fin; rw [hp]
               rw [ef] at hS2 E
               refine ⟨_, _, he, ?_⟩
               rw [show lp.pending = none from by rw [hlp]]
               refine hK ρ' wc' _ _ (hS2.putObj hl2 rfl (by omega) _) hT' ?_ (E.putNew (by omega) _)
               refine ⟨_, a.defers, rfl, hE2.rho _ _ r2, hmm0, hDf.low hS.lt, (World.putObj_heap_other (by dsimp only; omega)).trans hk2, (hDf.evo hS E).step (Nm.le.refl _) fun l _ hl => ?_⟩
               rw [World.putObj_heap_other ?_]
               ·exact hl
               ·intro e; subst e; rw [hl2] at hl; cases hl
              ·rename_i p hp
               subst hend
               rw [hp] at h
               cases h
               have ef : r.fin s.bk = r.wr := by unfold OpR.fin; rw [hp]
               rw [ef] at hS2 E
               exact hK ρ' wc' _ _ hS2 hT' ⟨_, a.defers, rfl, hE2.rho _ _ r2, hmm0, hDf.low hS.lt, hk2, hDf.evo hS E⟩ E
             ·-- the loop's body, as it is yielded to
              intro args bk' c' th' orc' r' hh ho ρ' wc' w' vals hle hext hSat hYs hnames hth hfresh hargs hheap
              dsimp only at hYs hheap ⊢
              unfold hndS at hh
              split at hh
              ·rename_i hps
               rw [Bool.and_eq_true] at hps
               have hlen := Nat.eq_of_beq_eq_true hps.1
               split at hh
               ·rename_i s1 p1 h1
                split at hh
                ·rename_i s2 p2 h2
                 split at hh
                 ·rename_i hdf
                  cases hh
                  have q1 := evC_pre hcc h1
                  have q2 := evC_pre hcc h2
                  obtain ⟨b1, hb1⟩ := q1.2 (fun v => by simp)
                  obtain ⟨b2, hb2⟩ := q2.2 (fun v => by simp)
                  have htake : s2.bk.take (s2.bk.length - bk'.length) ++ bk' = s2.bk := by
                   rw [hb2, hb1, ← List.append_assoc, List.length_append, Nat.add_sub_cancel, List.take_left]
                  refine ⟨_, _, _, _, run_yield (P := P) hheap (by rw [hlp]; simp [hargs.len, hlen]), ?_⟩
                  rw [hlp] at hheap
                  rw [hlp]
                  refine roundIn_of_wpIn trivial ?_
                  have hT0 : TSat D ρ' wc' n s.tm { tmps := a.tmps, defers := [] } := ⟨hT.size, (hT.mono (E12.rho.trans hle) (E12.ext.trans hext)).at_⟩
                  have hT1 := setPs_ok hT0 hargs hps.2 (by rw [Array.length_toList]; exact hlen.symm)
                  have hfold : ((ps.zip vals.toArray).foldl (fun tmps (q : Tmp × Value) => tmps.setIfInBounds q.1 q.2) a.tmps) = (ps.toList.zip vals).foldl (fun t (q : Tmp × Value) => t.setIfInBounds q.1 q.2) a.tmps := by
                   rw [← Array.foldl_toList, Array.toList_zip]
                  show Code.wpIn (WF (some (w.heap.size + 1))) 0 P assign _ { tmps := (ps.zip vals.toArray).foldl (fun tmps (q : Tmp × Value) => tmps.setIfInBounds q.1 q.2) a.tmps, defers := [] } w'
                  rw [hfold]
                  have hc2 : s2.c = s2.c := rfl
                  refine ih' true assign _ s1 .norm p1 _ 0 ρ' wc' w' _ _ (some (w.heap.size + 1)) (Nat.zero_le _) (fun hh => by cases hh) h1 (fun p hp => ho p (List.mem_append_left _ hp)) hSat hYs hT1 rfl (fun k j1 j2 => hfresh k j1 (Nat.lt_of_lt_of_le j2 q2.1)) ?_
                  intro ρ1 wc1 w1 a1 S1 T1 D1 Ev1
                  have hl1 := hSat.stays Ev1 hheap rfl
                  refine ⟨_, run_beginRound hl1 rfl, ?_⟩
                  have hz0 : w0.heap.size ≤ w.heap.size + 1 := by have := hS.fr.size; omega
                  have S1' := S1.putObj hl1 rfl hz0 (.loop { state := .busy, pending := none, fn, tmps := a.tmps, params := ps, assign, body, defers := w.heap.size })
                  refine ih' true body s1 s2 .norm p2 _ 0 ρ1 wc1 _ a1 _ (some (w.heap.size + 1)) (Nat.zero_le _) (fun hh => by cases hh) h2 (fun p hp => ho p (List.mem_append_right _ hp)) S1' ((hYs.evo hSat Ev1).step (Nm.le.refl _) (Ext.refl _) fun l lp hlt hl => ?_) T1 (D1.step (Nm.le.refl _) fun l _ hl => ?_) (fun k j1 j2 => ?_) ?_
                  ·rw [World.putObj_heap_other (by omega)]; exact hl
                  ·rw [World.putObj_heap_other ?_]
                   ·exact hl
                   ·intro e; subst e; rw [hl1] at hl; cases hl
                  ·rw [Ev1.dom k (.inr j1)]; exact hfresh k (Nat.le_trans q1.1 j1) j2
                  ·intro ρ3 wc3 w3 a3 S3 T3 D3 Ev3
                   have hl3 := S1'.stays Ev3 (World.putObj_heap_same (lt_of_some hl1)) rfl
                   refine ⟨_, _, run_endRound (P := P) none hl3, ?_⟩
                   have S3' := S3.putObj hl3 rfl hz0 (.loop { state := .ready, pending := none, fn, tmps := a.tmps, params := ps, assign, body, defers := w.heap.size })
                   refine ⟨⟨.bool true, ρ3, wc3, rfl, ⟨rfl, rfl⟩, ?_, ?_⟩, World.putObj_heap_same (lt_of_some hl3)⟩
                   ·show Sat D w0 X s2.th ρ3 wc3 _ (s2.bk.take (s2.bk.length - bk'.length) ++ bk')
                    rw [htake]; exact S3'
                   ·show Evo ρ' wc' w' bk' c' s2.c ρ3 wc3 _ (s2.bk.take (s2.bk.length - bk'.length) ++ bk')
                    rw [htake]
                    exact Ev1.trans (Ev3.round hl1) hSat.named
                 ·cases hh
                ·cases hh
               ·cases hh
              ·cases hh
           ·cases h
          ·cases h
         ·cases h
     | goto => cases rd <;> simp [evC] at h
     | refuse => cases rd <;> simp [evC] at h
end
end
end Go.Ex
namespace Go.Proofs.YtcgfdibagldafaaGreatDoor
open Go.RowKit Go.Mono
theorem isurf_none (n c : Nat) (p : Option Addr) (A : Nat → Array Value) (hA : ∀ i, (A i).size = 22) (g : Nat) (eg : ∀ args w, (callFunc g args).run Tryz.prog w = .ok (.enter g args) w) (w : World)
  (h : RdC w p n c 22 (fun i j => (A i).getD j undef))
  (hf : ∀ i, i < n → ∀ W, Below w.heap.size w W → Calls Tryz.prog g #[.agg (A i)] W fun e w' => e = .returned (.bool false) ∧ Below W.heap.size W w') :
  Calls Tryz.prog 292 #[.slice p n c, .func (.func g) #[] #[]] w fun e w' => e = .returned (.int .i64 (-1)) ∧ Below w.heap.size w w' := by
 obtain ⟨hc1, hn1, hx1⟩ := h
 have hsz : (Tryz.prog.info? 91).map (·.size) = some 22 := by kernel_rfl
 go_enter Tryz.func292, Tryz.ntmps292
 go_wp2
 go_loopw [8] (fun a wr => ∃ k : Nat, k ≤ n ∧ a = .int .i64 (k : Int) ∧ Below w.heap.size w wr) (fun a _ => (n - intOf a).toNat)
 case atStart => exact ⟨0, Nat.zero_le _, rfl, Below.refl _ _⟩
 case round =>
  obtain ⟨k, hk, rfl, hB⟩ := hrel
  by_cases h0 : k < n
  ·obtain ⟨b, off, rfl, hb, hcell⟩ := hx1 (by omega)
   have hAk := hA k
   have hrange : wr.rangeAt b (off + k * 22) (A k).toList := fun j v hv => by
    have hj : j < 22 := by
     have := (List.getElem?_eq_some_iff.1 hv).1
     simpa [hAk] using this
    refine ((hB.cell hb).trans (hcell k j h0 hj)).trans ?_
    rw [Array.getElem?_toList] at hv
    rw [Array.getD_eq_getD_getElem?, hv]
    rfl
   have hfk := hf k h0 wr hB
   have hi : (Tryz.prog.info? 91).map (·.size) = some (A k).toList.length := by rw [hsz]; simp [hAk]
   clear hcell hx1 hf hA hAk
   generalize A k = AK at *
   have h0' : (k : Int) < n := by omega
   go_wp2_with (refine wpList_load_mid rfl 91 _ rfl b (off + k * 22) rfl AK.toList _ hrange Tryz.underlying91 rfl hi ?_)
   refine hfk.mono ?_
   rintro e w' ⟨rfl, hb'⟩
   go_wp2
   go_roundw
   case rel => exact ⟨k + 1, by omega, by simp, belowCall hB hb'⟩
   case measure => simp [intOf]; omega
  ·obtain rfl : k = n := by omega
   clear hx1 hf
   go_wp2
   go_ret
   exact ⟨rfl, hB⟩
theorem csurf_none (n c : Nat) (p : Option Addr) (A : Nat → Array Value) (hA : ∀ i, (A i).size = 22) (g : Nat) (eg : ∀ args w, (callFunc g args).run Tryz.prog w = .ok (.enter g args) w) (w : World)
  (h : RdC w p n c 22 (fun i j => (A i).getD j undef))
  (hf : ∀ i, i < n → ∀ W, Below w.heap.size w W → Calls Tryz.prog g #[.agg (A i)] W fun e w' => e = .returned (.bool false) ∧ Below W.heap.size W w') :
  Calls Tryz.prog 270 #[.slice p n c, .func (.func g) #[] #[]] w fun e w' => e = .returned (.bool false) ∧ Below w.heap.size w w' := by
 have hi := isurf_none n c p A hA g eg w h hf
 clear h hf hA
 go_enter Tryz.func270, Tryz.ntmps270
 go_wp2_with (go_at_call 292; refine hi.mono ?_; rintro e w' ⟨rfl, hb⟩)
 go_ret
 exact ⟨rfl, hb⟩
theorem enters_surfaces1 : ∀ args w, (callFunc 268 args).run Tryz.prog w = .ok (.enter 268 args) w := Go.Proofs.enters_of Tryz.func268 (by kernel_rfl) rfl
theorem Box.range {w : World} {B : Nat} {T : TypeId} {cs : Array Value} (b : Box w B T cs) : w.rangeAt B 0 cs.toList := fun j v hv => by
 rw [Nat.zero_add, b.cell, ← Array.getElem?_toList]
 exact hv
theorem surfaces1_ok (A : Array Value) (hA : A.size = 22) (w : World) (hc : ∀ W, Below w.heap.size w W → Calls Tryz.prog 269 #[.agg A] W fun e w' => e = .returned (.int .i64 0) ∧ Below W.heap.size W w') :
  Calls Tryz.prog 268 #[.agg A] w fun e w' => e = .returned (.bool false) ∧ Below w.heap.size w w' := by
 have hsz : (Tryz.prog.info? 91).map (·.size) = some 22 := by kernel_rfl
 have hi : (Tryz.prog.info? 91).map (·.size) = some A.toList.length := by rw [hsz]; simp [hA]
 go_enter Tryz.func268, Tryz.ntmps268
 go_wp2_with (refine wpList_load_mid rfl 91 _ rfl w.heap.size 0 rfl A.toList _ (Box.range (Box.new w 91 A)) Tryz.underlying91 rfl hi ?_)
 refine (hc _ (belowAlloc (Below.refl _ _) _)).mono ?_
 rintro e w' ⟨rfl, hb⟩
 go_wp2
 go_ret
 exact ⟨rfl, belowCall (belowAlloc (Below.refl _ _) _) hb⟩
end Go.Proofs.YtcgfdibagldafaaGreatDoor
namespace Go.Ex
open Go.RowKit Go.Mono
section
structure Ctr (D : Den) (P : Program) (w0 : World) (X : Nat → Prop) where
 f : FuncId
 run : List SA → List (Nat × Blk) → Nat → List (Option Bool) → Option OpR
 cc : ∀ args bk c orc r, run args bk c orc = some r → c ≤ r.c
 sound : ∀ args bk c orc r, run args bk c orc = some r → (∀ p ∈ r.obl, p) → ∀ th ρ wc w vals, Sat D w0 X th ρ wc w bk → (∀ k b, bk.look k = some b → k < c) → (∀ k, c ≤ k → k < r.c → ρ k = none) → denAs D ρ wc args vals →
  Calls P f vals.toArray w (Post D w0 X ρ wc w bk c r)
def Ctr.plain {D : Den} {P : Program} {w0 : World} {X : Nat → Prop} (f : FuncId) (run : List SA → List (Nat × Blk) → List (Option Bool) → Option (SV × List Prop × List (Option Bool)))
    (sound : ∀ args bk orc v obl orc', run args bk orc = some (v, obl, orc') → (∀ p ∈ obl, p) → ∀ ρ w vals, Frm w0 X w → BkOk D ρ w w bk → denAs D ρ w args vals →
     Calls P f vals.toArray w fun e w' => ∃ u, e = .returned u ∧ denV D ρ w' v u ∧ Below w.heap.size w w') : Ctr D P w0 X where
 f := f
 run := fun args bk c orc => match run args bk orc with
  | some (v, obl, orc') => some ⟨v, [], obl, orc', c, c, none⟩
  | none => none
 cc := by
  intro args bk c orc r h
  split at h
  ·cases h; exact Nat.le_refl _
  ·cases h
 sound := by
  intro args bk c orc r h hobl th ρ wc w vals hS hlt hn hargs
  split at h
  ·rename_i v obl orc' hr
   cases h
   refine (sound _ _ _ _ _ _ hr hobl ρ w vals hS.fr (fun k b hk hd => ?_) (hargs.mono (Nm.le.refl _) hS.ext)).mono ?_
   ·obtain ⟨B, cs, h1, h2, h3, h4⟩ := hS.bkOk k b hk hd
    exact ⟨B, cs, h1, h2, h3.mono (Nm.le.refl _) hS.ext, h4⟩
   ·rintro e w' ⟨u, rfl, hu, hb⟩
    obtain ⟨k1, k2⟩ := hS.call hb c c (fun k b hk => Nat.not_le.2 (hlt k b hk))
    exact ⟨u, ρ, w', rfl, hu, k1, k2⟩
  ·cases h
section
variable {D : Den} {P : Program} {w0 : World} {X : Nat → Prop}
def specOf (f : FuncId) : List (Ctr D P w0 X) → Option (Ctr D P w0 X)
 | [] => none
 | p :: r => if Nat.beq p.f f then some p else specOf f r
theorem specOf_ok {f : FuncId} : ∀ {l : List (Ctr D P w0 X)} {p : Ctr D P w0 X}, specOf f l = some p → p.f = f
 | [], p, h => by cases h
 | q :: r, p, h => by
   unfold specOf at h
   split at h
   ·rename_i e
    cases h
    exact Nat.eq_of_beq_eq_true e
   ·exact specOf_ok h
def frame0 (i : Nat) : List SA → List (Nat × SV)
 | [] => []
 | x :: r => (i, .a x) :: frame0 (i + 1) r
def resS (P : Program) (s : Stt) : List ResultVar → Option (List SA)
 | [] => some []
 | .tmp t :: r => match s.tm.look t with
   | some (.a x) => (resS P s r).map (x :: ·)
   | _ => none
 | .cell ad ty :: r => match loadS P ty (s.tm.look ad) s.bk with
   | some (.a x) => (resS P s r).map (x :: ·)
   | _ => none
def resV : List SA → SV
 | [x] => .a x
 | l => .tup l
def FU : Nat := 100000
def specRun (sp : List (Ctr D P w0 X)) (f : FuncId) (args : List SA) (bk : List (Nat × Blk)) (c : Nat) (orc : List (Option Bool)) : Option OpR :=
 match specOf f sp with
 | some p => p.run args bk c orc
 | none => none
def dedup (keep : Nat → Bool) : List (Nat × Blk) → List Nat → List (Nat × Blk)
 | [], _ => []
 | p :: r, seen => if mem seen p.1 then dedup keep r seen else if keep p.1 then p :: dedup keep r (p.1 :: seen) else dedup keep r seen
theorem look_dedup (keep : Nat → Bool) (k : Nat) : ∀ (l : List (Nat × Blk)) (seen : List Nat), (dedup keep l seen).look k = if mem seen k = true then none else if keep k = true then l.look k else none
 | [], seen => by simp [dedup]
 | (k', x) :: r, seen => by
   unfold dedup
   dsimp only
   split
   ·rename_i hm
    rw [look_dedup keep k r seen, look_cons]
    by_cases e : k = k'
    ·subst e; rw [if_pos hm, if_pos hm]
    ·rw [if_neg e]
   ·rename_i hm
    split
    ·rename_i hk
     rw [look_cons, look_cons, look_dedup keep k r (k' :: seen)]
     by_cases e : k = k'
     ·subst e; rw [if_pos rfl, if_pos rfl, if_neg hm, if_pos hk]
     ·rw [if_neg e, if_neg e]
      have : (mem (k' :: seen) k = true) ↔ (mem seen k = true) := by
       rw [mem_iff, mem_iff, List.mem_cons]
       constructor
       ·rintro (h | h)
        ·exact absurd h e
        ·exact h
       ·exact .inr
      simp only [this]
    ·rename_i hk
     rw [look_dedup keep k r seen, look_cons]
     by_cases e : k = k'
     ·subst e; rw [if_neg hk, if_neg hk]
     ·rw [if_neg e]
def tomb : Blk := ⟨0, [], false, true, true⟩
def tombs (m : List (Nat × Blk)) : List (Nat × Blk) → List (Nat × Blk)
 | [] => []
 | p :: r => match m.look p.1 with
   | none => (p.1, tomb) :: tombs m r
   | some _ => tombs m r
theorem look_tombs (m : List (Nat × Blk)) (k : Nat) : ∀ l : List (Nat × Blk), (∀ b, (tombs m l).look k = some b → b.dead = true) ∧ (m.look k = none → (l.look k).isSome = true → ((tombs m l).look k).isSome = true) ∧ (l.look k = none → (tombs m l).look k = none)
 | [] => ⟨fun b h => by simp [tombs] at h, fun _ h => by simp at h, fun _ => rfl⟩
 | (k', x) :: r => by
   obtain ⟨h1, h2, h3⟩ := look_tombs m k r
   unfold tombs
   dsimp only
   cases hm : m.look k' with
   | none =>
     dsimp only
     rw [look_cons, look_cons]
     by_cases e : k = k'
     ·rw [if_pos e, if_pos e]
      exact ⟨(fun b h => by cases h; rfl), fun _ _ => rfl, fun h => by cases h⟩
     ·rw [if_neg e, if_neg e]; exact ⟨h1, h2, h3⟩
   | some y =>
     dsimp only
     rw [look_cons]
     by_cases e : k = k'
     ·subst e
      exact ⟨h1, (fun hh => by rw [hm] at hh; cases hh), fun h => by rw [if_pos rfl] at h; cases h⟩
     ·rw [if_neg e]; exact ⟨h1, h2, h3⟩
def isRec (o : Oper) : Bool :=
 match o.op, o.guard with
 | .call ⟨.builtin .recover, ⟨[]⟩, _⟩, none => true
 | _, _ => false
def purS (P : Program) (n : Nat) : List Oper → List (Nat × SV) → Option (List (Nat × SV))
 | [], tm => some tm
 | o :: r, tm => match o.guard, evPure P o (getS tm) [] with
   | none, some x => if dstOk n o.dst then purS P n r (putT tm o.dst x) else none
   | _, _ => none
def defS (P : Program) (cs : CallS) (ys : YEnv) (u : Option Value) (f : FuncId) (caps : List (Nat × Nat)) (s : Stt) : Option (Stt × List Prop) :=
 match P.funcs[f]? with
 | some fn => match fn.body with
   | some (.seq (.region _ ops false) rest) => match ops.toList with
     | o :: os => if isRec o && dstOk ((capsA caps).length + (fn.ntmps - (capsA caps).length)) o.dst && (u.getD .nilIface).oneCell' then
         match purS P ((capsA caps).length + (fn.ntmps - (capsA caps).length)) os (putT (frame0 0 (capsA caps)) o.dst (.a (.one (.val (u.getD .nilIface))))) with
         | some tm => (match evC P cs ys ((capsA caps).length + (fn.ntmps - (capsA caps).length)) FU false rest ⟨tm, s.bk, s.c, s.th, s.orc, []⟩ with
           | some (.norm, s2, q) => (match s2.df, resS P s2 fn.results.toList with
             | [], some _ => some (⟨s.tm, s2.bk, s2.c, s2.th, s2.orc, s.df⟩, q)
             | _, _ => none)
           | some (.ret, s2, q) => (match s2.df, resS P s2 fn.results.toList with
             | [], some _ => some (⟨s.tm, s2.bk, s2.c, s2.th, s2.orc, s.df⟩, q)
             | _, _ => none)
           | _ => none)
         | none => none
       else none
     | [] => none
   | _ => none
 | none => none
def leaveS (P : Program) (cs : CallS) (ys : YEnv) : List DF → Option Value → Stt → Option (Option Value × Stt × List Prop)
 | [], u, s => some (u, s, [])
 | .col _ :: r, u, s => leaveS P cs ys r u s
 | .clo f caps :: r, u, s => match defS P cs ys u f caps s with
   | some (s1, q) => (match leaveS P cs ys r none s1 with
     | some (u', s2, q2) => some (u', s2, q ++ q2)
     | none => none)
   | none => none
def keepS' (c : Nat) (l : List SA) (p m : List (Nat × Blk)) : Nat → Bool :=
 let rs := reach m 100000 (l.flatMap idsA ++ p.flatMap fun e => if Nat.blt e.1 c then e.2.cells.flatMap idsU else []) []
 fun k => Nat.blt k c || mem rs k
def endS (P : Program) (cs : CallS) (ys : YEnv) (fn : Func) (bk : List (Nat × Blk)) (c : Nat) (u : Option Value) (s' : Stt) (q : List Prop) : Option OpR :=
 match leaveS P cs ys s'.df u s' with
 | some (some v, s2, q2) => some ⟨.no, s2.bk, q ++ q2, s2.orc, s2.c, s2.th, some v⟩
 | some (none, s2, q2) => (match resS P s2 fn.results.toList with
   | some l => some ⟨resV l, (match u with
     | none => dedup (keepS' c l (s2.bk.take (s2.bk.length - bk.length)) s2.bk) (s2.bk.take (s2.bk.length - bk.length)) []
     | some _ => dedup (keepS' c l s2.bk s2.bk) s2.bk [] ++ tombs s2.bk bk), q ++ q2, s2.orc, s2.c, s2.th, none⟩
   | none => none)
 | none => none
structure Fct (D : Den) (P : Program) (w0 : World) (X : Nat → Prop) where
 run : Oper → (Operand → Option SV) → Option SV
 sound : ∀ o get x, run o get = some x → ∀ ρ wc w ev, Frm w0 X w → (∀ y z, get y = some z → denV D ρ wc z (ev y)) → ∃ v, (execOp ev o).run P w = .ok (.value v) w ∧ denV D ρ wc x v
def fctRun : List (Fct D P w0 X) → Oper → (Operand → Option SV) → Option SV
 | [], _, _ => none
 | x :: l, o, get => match x.run o get with
   | some v => some v
   | none => fctRun l o get
theorem fctRun_ok : ∀ {l : List (Fct D P w0 X)} {o : Oper} {get : Operand → Option SV} {x : SV}, fctRun l o get = some x → ∀ ρ wc w ev, Frm w0 X w → (∀ y z, get y = some z → denV D ρ wc z (ev y)) → ∃ v, (execOp ev o).run P w = .ok (.value v) w ∧ denV D ρ wc x v
 | [], o, get, x, h => by unfold fctRun at h; cases h
 | y :: l, o, get, x, h => by
   unfold fctRun at h
   split at h
   ·rename_i v hv
    cases h
    exact y.sound o get x hv
   ·exact fctRun_ok h
def evF (P : Program) (sp : List (Ctr D P w0 X)) (fx : List (Fct D P w0 X)) : Nat → CallF
 | 0 => fun _ _ _ _ _ _ _ => none
 | d + 1 => fun ys f args bk c th orc =>
   match specRun sp f args bk c orc with
   | some r => some r
   | none => (match P.funcs[f]? with
     | some fn => (match fn.body with
       | some code => (match evC P ⟨evF P sp fx d, fctRun fx⟩ ys (args.length + (fn.ntmps - args.length)) FU false code ⟨frame0 0 args, bk, c, th, orc, []⟩ with
         | some (.exit _, _, _) => none
         | some (.norm, s', q) => endS P ⟨evF P sp fx d, fctRun fx⟩ ys fn bk c none s' q
         | some (.ret, s', q) => endS P ⟨evF P sp fx d, fctRun fx⟩ ys fn bk c none s' q
         | some (.pan v, s', q) => endS P ⟨evF P sp fx d, fctRun fx⟩ ys fn bk c (some v) s' q
         | none => none)
       | none => none)
     | none => none)
theorem frame0_at {ρ : Nm} {w : World} : ∀ {l : List SA} {vs : List Value} {i t : Nat} {x : SV}, denAs D ρ w l vs → (frame0 i l).look t = some x → ∃ v, i ≤ t ∧ vs[t - i]? = some v ∧ denV D ρ w x v
 | [], vs, i, t, x, h, hx => by simp [frame0] at hx
 | y :: l, vs, i, t, x, ⟨v, r, e, hv, hr⟩, hx => by
   subst e
   unfold frame0 at hx
   rw [look_cons] at hx
   split at hx
   ·rename_i e
    cases hx
    subst e
    exact ⟨v, Nat.le_refl _, by simp, hv⟩
   ·obtain ⟨v', h1, h2, h3⟩ := frame0_at hr hx
    refine ⟨v', by omega, ?_, h3⟩
    rw [show t - i = (t - (i + 1)) + 1 by omega, List.getElem?_cons_succ]
    exact h2
theorem frame0_ok {ρ : Nm} {w : World} {l : List SA} {vs : List Value} (h : denAs D ρ w l vs) (m : Nat) :
  TSat D ρ w (l.length + m) (frame0 0 l) { tmps := vs.toArray ++ Array.replicate m undef, defers := [] } := by
 refine ⟨by simp [h.len], fun t x hx => ?_⟩
 obtain ⟨v, h1, h2, h3⟩ := frame0_at h hx
 refine ⟨v, ?_, h3⟩
 have ht : t < vs.length := by
  have := (List.getElem?_eq_some_iff.1 h2).1
  omega
 show (vs.toArray ++ Array.replicate m undef)[t]? = some v
 rw [Array.getElem?_append_left (by simpa using ht)]
 simpa using h2
def resOf (a : Act) : ResultVar → Sem Value
 | .tmp t => pure (a.tmps.getD t undef)
 | .cell ad t => do loadVar t (← asAddr (a.tmps.getD ad undef))
theorem resS_ok {ρ : Nm} {wc w : World} {n : Nat} {s : Stt} {a : Act} (hT : TSat D ρ wc n s.tm a) (hB : BkOk D ρ wc w s.bk) : ∀ {l : List ResultVar} {xs : List SA}, resS P s l = some xs →
  ∃ vs, (l.mapM (resOf a)).run P w = .ok vs w ∧ denAs D ρ wc xs vs
 | [], xs, h => by cases h; exact ⟨[], rfl, rfl⟩
 | .tmp t :: r, xs, h => by
   unfold resS at h
   split at h
   ·rename_i x hx
    obtain ⟨ys, hy, rfl⟩ := Option.map_eq_some_iff.1 h
    obtain ⟨vs, h1, h2⟩ := resS_ok hT hB hy
    refine ⟨a.tmps.getD t undef :: vs, ?_, _, _, rfl, hT.get (x := .tmp t) hx, h2⟩
    have h6 : (resOf a (.tmp t)).run P w = .ok (a.tmps.getD t undef) w := rfl
    rw [List.mapM_cons]
    simp only [Sem.run_bind, h6, h1, Result.andThen_ok, Sem.run_pure]
   ·cases h
 | .cell ad ty :: r, xs, h => by
   unfold resS at h
   split at h
   ·rename_i x hx
    obtain ⟨ys, hy, rfl⟩ := Option.map_eq_some_iff.1 h
    obtain ⟨vs, h1, h2⟩ := resS_ok hT hB hy
    obtain ⟨v, h3, h4⟩ := loadS_ok (P := P) (get := getS s.tm) (ev := a.eval) (x := .tmp ad) (fun x z hz => hT.get hz) hB hx
    refine ⟨v :: vs, ?_, _, _, rfl, h4, h2⟩
    have e : ∃ p, a.tmps.getD ad undef = .pointer (some p) := by
     have hx' := hx
     unfold loadS at hx'
     split at hx'
     ·rename_i k off hk
      obtain ⟨B, hB, e⟩ := hT.get (x := .tmp ad) hk
      have e2 : a.eval (.tmp ad) = .pointer (some ⟨B.blk, B.base + off, none⟩) := by simpa using e
      exact ⟨_, e2⟩
     ·cases hx'
    obtain ⟨p, e⟩ := e
    have h5 : (loadVar ty p).run P w = .ok v w := by
     have : a.eval (.tmp ad) = .pointer (some p) := e
     rw [this] at h3
     exact h3
    have h6 : (resOf a (.cell ad ty)).run P w = .ok v w := by
     show (do loadVar ty (← asAddr (a.tmps.getD ad undef)) : Sem Value).run P w = _
     rw [e]
     exact h5
    rw [List.mapM_cons]
    simp only [Sem.run_bind, h6, h1, Result.andThen_ok, Sem.run_pure]
   ·cases h
theorem results_ok {ρ : Nm} {wc w : World} {n : Nat} {s : Stt} {a : Act} (hT : TSat D ρ wc n s.tm a) (hB : BkOk D ρ wc w s.bk) {fn : Func} {xs : List SA} (h : resS P s fn.results.toList = some xs) :
  ∃ v, (results fn a.tmps).run P w = .ok v w ∧ denV D ρ wc (resV xs) v := by
 obtain ⟨vs, h1, h2⟩ := resS_ok (P := P) hT hB h
 have hres : results fn a.tmps = (do
   let vs ← fn.results.mapM (resOf a)
   pure (if h : vs.size = 1 then vs[0] else .tuple vs)) := by
  unfold results
  congr 1
 rw [hres, Array.mapM_eq_mapM_toList]
 refine ⟨if h : vs.toArray.size = 1 then vs.toArray[0] else .tuple vs.toArray, ?_, ?_⟩
 ·simp only [Sem.run_bind, map_eq_pure_bind, h1, Result.andThen_ok, Sem.run_pure]
 ·match xs, vs, h2 with
  | [], vs, h2 =>
    obtain rfl : vs = [] := h2
    exact ⟨[], rfl, rfl⟩
  | [x], vs, h2 =>
    obtain ⟨v, r, e, hv, hr⟩ := h2
    obtain rfl : r = [] := hr
    subst e
    exact hv
  | x :: y :: l, vs, h2 =>
    have h3 := h2.len
    rw [dif_neg (by simp [h3])]
    exact ⟨vs, rfl, h2⟩
variable {cs : CallS} {ys : YEnv} {n : Nat}
theorem defS_pre (hcc : ∀ ys f args bk c th orc r, cs.call ys f args bk c th orc = some r → c ≤ r.c) {u : Option Value} {f : FuncId} {caps : List (Nat × Nat)} {s s' : Stt} {q : List Prop} (h : defS P cs ys u f caps s = some (s', q)) : s.c ≤ s'.c ∧ ∃ l, s'.bk = l ++ s.bk := by
 unfold defS at h
 split at h
 ·split at h
  ·split at h
   ·split at h
    ·split at h
     ·split at h
      ·rename_i hev
       split at h
       ·cases h
        have := evC_pre hcc hev
        exact ⟨this.1, this.2 (fun v => by simp)⟩
       ·cases h
      ·rename_i hev
       split at h
       ·cases h
        have := evC_pre hcc hev
        exact ⟨this.1, this.2 (fun v => by simp)⟩
       ·cases h
      ·cases h
     ·cases h
    ·cases h
   ·cases h
  ·cases h
 ·cases h
theorem leaveS_pre (hcc : ∀ ys f args bk c th orc r, cs.call ys f args bk c th orc = some r → c ≤ r.c) : ∀ {df : List DF} {u u' : Option Value} {s s' : Stt} {q : List Prop}, leaveS P cs ys df u s = some (u', s', q) → s.c ≤ s'.c ∧ ∃ l, s'.bk = l ++ s.bk
 | [], u, u', s, s', q, h => by cases h; exact ⟨Nat.le_refl _, [], rfl⟩
 | .col _ :: r, u, u', s, s', q, h => leaveS_pre hcc (df := r) h
 | .clo f caps :: r, u, u', s, s', q, h => by
   unfold leaveS at h
   split at h
   ·rename_i s1 q1 h1
    split at h
    ·rename_i u2 s2 q2 h2
     cases h
     obtain ⟨c1, l1, e1⟩ := defS_pre hcc h1
     obtain ⟨c2, l2, e2⟩ := leaveS_pre hcc h2
     exact ⟨Nat.le_trans c1 c2, l2 ++ l1, by rw [e2, e1, List.append_assoc]⟩
    ·cases h
   ·cases h
def modeOf : Option Value → FrameMode
 | none => .returning
 | some v => .panicking [{ v := v, recovered := false }]
theorem purS_ok {ops : Array Oper} {Q : Exit → Act → List Frame → World → Prop} {D : Den} {ρ : Nm} {wc w : World} {c0 : List Frame} : ∀ {l : List Oper} {k : Nat} {tm tm' : List (Nat × SV)} {a : Act}, purS P n l tm = some tm' → (∀ j, l[j]? = ops[k + j]?) → TSat D ρ wc n tm a →
  (∀ a', TSat D ρ wc n tm' a' → a'.defers = a.defers → Q .normal a' c0 w) → wpOpsSIn (WF none) 0 P ops Q (List.range' k l.length) a c0 w
 | [], k, tm, tm', a, h, hl, hT, hK => by cases h; exact hK a hT rfl
 | o :: r, k, tm, tm', a, h, hl, hT, hK => by
   unfold purS at h
   split at h
   ·rename_i x hg hx
    split at h
    ·rename_i hd
     have h0 : ops[k]? = some o := by simpa using (hl 0).symm
     obtain ⟨v, h1, h2⟩ := evPure_ok (P := P) (D := D) (ρ := ρ) (wc := wc) (w := w) (bk := []) (ev := a.eval) (fun x z hz => hT.get hz) (fun k b hk => by simp at hk) hx
     simp only [List.length_cons, List.range'_succ, wpOpsSIn, h0]
     refine ⟨fun _ _ => trivial, ?_⟩
     rw [if_pos (by simp [Region.wanted, hg]), h1]
     refine purS_ok h (fun j => by have := hl (j + 1); simpa [Nat.add_assoc, Nat.add_comm 1 j] using this) (hT.put hd h2) fun a' k1 k2 => hK a' k1 (k2.trans ?_)
     cases o.dst <;> rfl
    ·cases h
   ·cases h
theorem recover_run {P : Program} {o : Oper} {ev : Operand → Value} {w : World} (h : isRec o = true) : (execOp ev o).run P w = .ok .recover w ∧ o.guard = none := by
 unfold isRec at h
 split at h
 ·rename_i ts ho hg
  refine ⟨?_, hg⟩
  unfold execOp
  simp only [ho, resolve, Sem.run_bind, Sem.run_pure, Result.andThen_ok, invoke, builtin]
 ·cases h
theorem defS_ok (hcs : CallOk D P w0 X cs) (hcc : ∀ ys f args bk c th orc r, cs.call ys f args bk c th orc = some r → c ≤ r.c) (hm : P.follows .mixedOrders = true) {u : Option Value} {f : FuncId} {caps : List (Nat × Nat)} {s s' : Stt} {q : List Prop} (h : defS P cs ys u f caps s = some (s', q)) (hq : ∀ p ∈ q, p)
  {bd : Nat} {ρ : Nm} {wc w : World} (hS : Sat D w0 X s.th ρ wc w s.bk) (hY : YOk D P w0 X bd ys ρ wc w) (hn : ∀ k, s.c ≤ k → k < s'.c → ρ k = none) {vs : List Value} (hvs : adrs ρ caps vs) {R : Ending → FrameMode → World → Prop}
  (hR : ∀ v u' ρ' wc' w', settle u' = .returning → Sat D w0 X s'.th ρ' wc' w' s'.bk → Evo ρ wc w s.bk s.c s'.c ρ' wc' w' s'.bk → R (.returned v) u' w') : CallsDIn (WF none) 0 P f vs.toArray (modeOf u) w R := by
 unfold defS at h
 split at h
 ·rename_i fn hf
  split at h
  ·rename_i id ops rest hb
   split at h
   ·rename_i o os hops
    split at h
    ·rename_i hc
     rw [Bool.and_eq_true, Bool.and_eq_true] at hc
     obtain ⟨⟨hrec, hdst⟩, hone⟩ := hc
     split at h
     ·rename_i tm htm
      have hargs : denAs D ρ wc (capsA caps) vs := capsA_ok hvs
      have hsz : vs.toArray.size = (capsA caps).length := by simp [hargs.len]
      refine callsDIn_of_wpSIn hf hb trivial fun c₀ cs0 hu => ?_
      rw [hsz]
      have hT0 := frame0_ok (D := D) (ρ := ρ) (w := wc) hargs (fn.ntmps - (capsA caps).length)
      have hoo : ops[0]? = some o := by rw [← Array.getElem?_toList, hops]; rfl
      have hlen : ops.size = os.length + 1 := by rw [← Array.length_toList, hops]; rfl
      have fin : ∀ u', settle u' = .returning → wpOpsSIn (WF none) 0 P ops (Exit.thenS (rest.wpSIn (WF none) 0 P (bodyPostS P fn c₀ cs0 R)) (bodyPostS P fn c₀ cs0 R)) (List.range' 1 os.length)
        (({ tmps := vs.toArray ++ Array.replicate (fn.ntmps - (capsA caps).length) undef, defers := [] } : Act).put o.dst (u.getD .nilIface)) ({ c₀ with mode := u' } :: cs0) w := by
       intro u' hu'
       refine purS_ok (D := D) (ρ := ρ) (wc := wc) htm (fun j => ?_) (hT0.put hdst ⟨rfl, hone⟩) fun a' k1 k2 => ?_
       ·rw [← Array.getElem?_toList, hops, Nat.add_comm 1 j, List.getElem?_cons_succ]
       ·have hd0 : a'.defers = [] := k2.trans (by cases o.dst <;> rfl)
        show rest.wpSIn (WF none) 0 P _ a' _ w
        refine wpSIn_of_wpIn rfl ?_
        split at h
        ·rename_i s2 q2 hev
         split at h
         ·rename_i xs hdf hres
          cases h
          refine evC_ok hcs hcc hm FU false rest _ s2 .norm _ bd 0 ρ wc w a' _ none (Nat.zero_le _) (fun _ => rfl) hev hq hS hY k1 hd0 hn ?_
          intro ρ' wc' w' a2 m1 m2 m3 m4
          rw [hdf] at m3
          obtain ⟨v, hv1, hv2⟩ := results_ok (P := P) m2 m1.bkOk hres
          exact ⟨m3, u', rfl, v, hv1, hR v u' ρ' wc' w' hu' m1 m4⟩
         ·cases h
        ·rename_i s2 q2 hev
         split at h
         ·rename_i xs hdf hres
          cases h
          refine evC_ok hcs hcc hm FU false rest _ s2 .ret _ bd 0 ρ wc w a' _ none (Nat.zero_le _) (fun _ => rfl) hev hq hS hY k1 hd0 hn ?_
          intro ρ' wc' w' a2 m1 m2 m3 m4
          rw [hdf] at m3
          obtain ⟨v, hv1, hv2⟩ := results_ok (P := P) m2 m1.bkOk hres
          exact ⟨m3, u', rfl, v, hv1, hR v u' ρ' wc' w' hu' m1 m4⟩
         ·cases h
        ·cases h
      apply wpSIn_seq
      apply wpSIn_region
      rw [hlen, List.range_eq_range', List.range'_succ]
      simp only [wpOpsSIn, hoo]
      obtain ⟨hrun, hg⟩ := recover_run (P := P) (ev := ({ tmps := vs.toArray ++ Array.replicate (fn.ntmps - (capsA caps).length) undef, defers := [] } : Act).eval) (w := w) hrec
      refine ⟨fun _ _ => trivial, ?_⟩
      rw [if_pos (by simp [Region.wanted, hg]), hrun]
      dsimp only
      cases u with
      | none =>
        have hr : recoverD (c₀ :: cs0) = none := by simp only [recoverD, hu, modeOf]
        rw [hr]
        have := fin .returning rfl
        rw [show ({ c₀ with mode := .returning } : Frame) = c₀ from by
         cases c₀; simp only [modeOf] at hu; subst hu; rfl] at this
        exact this
      | some v =>
        have hr : recoverD (c₀ :: cs0) = some (v, { c₀ with mode := .panicking [{ v := v, recovered := true }] } :: cs0) := by simp only [recoverD, hu, modeOf]
        rw [hr]
        exact fin _ rfl
     ·cases h
    ·cases h
   ·cases h
  ·cases h
 ·cases h
theorem leaveS_ok (hcs : CallOk D P w0 X cs) (hcc : ∀ ys f args bk c th orc r, cs.call ys f args bk c th orc = some r → c ≤ r.c) (hm : P.follows .mixedOrders = true) {fn : Func} {tmps : Array Value} {R : Ending → World → Prop} {ρB : Nm} {wcB wB : World} {bkB : List (Nat × Blk)} {cB : Nat}
  (hB : ∀ k b, Liv bkB k b → ∃ B, ρB k = some B) (h0 : w0.heap.size ≤ wB.heap.size) : ∀ {df : List DF} {u u' : Option Value} {s s' : Stt} {q : List Prop} {bd : Nat} {ρ : Nm} {wc w : World} {ds : List Deferred},
  leaveS P cs ys df u s = some (u', s', q) → (∀ p ∈ q, p) → Sat D w0 X s.th ρ wc w s.bk → YOk D P w0 X bd ys ρ wc w → DfOk P wB.heap.size ρ w df ds → (∀ k, s.c ≤ k → k < s'.c → ρ k = none) → Evo ρB wcB wB bkB cB s.c ρ wc w s.bk →
  (∀ ρ' wc' w', ρ.le ρ' → Ext wc wc' → Sat D w0 X s'.th ρ' wc' w' s'.bk → Evo ρB wcB wB bkB cB s'.c ρ' wc' w' s'.bk → LeavesInM (WF none) 0 P fn tmps R [] (modeOf u') w') → LeavesInM (WF none) 0 P fn tmps R ds (modeOf u) w
 | [], u, u', s, s', q, bd, ρ, wc, w, ds, h, hq, hS, hY, hD, hn, hE, hK => by
   cases h
   rw [show ds = [] from hD]
   exact hK ρ wc w (Nm.le.refl _) (Ext.refl _) hS hE
 | .col k :: r, u, u', s, s', q, bd, ρ, wc, w, ds, h, hq, hS, hY, ⟨B, d, h1, h2, hm0, hb, h3, h4⟩, hn, hE, hK => by
   unfold leaveS at h
   subst h1
   refine ⟨by cases u <;> simp [modeOf], .inl ⟨B.blk, _, rfl, run_takeDeferred h3, ?_⟩⟩
   refine leaveS_ok hcs hcc hm hB h0 h hq (hS.putObj h3 rfl (by omega) _) (hY.step (Nm.le.refl _) (Ext.refl _) fun l lp _ hl => ?_) (h4.step (Nm.le.refl _) fun l ⟨x, hx, e⟩ hl => ?_) hn (hE.putNew hm0 _) hK
   ·rw [World.putObj_heap_other ?_]
    ·exact hl
    ·intro e; subst e; rw [h3] at hl; cases hl
   ·rw [World.putObj_heap_other ?_]
    ·exact hl
    ·have := hb x hx l e
     omega
 | .clo f caps :: r, u, u', s, s', q, bd, ρ, wc, w, ds, h, hq, hS, hY, ⟨vs, d, h1, h2, h3, h4⟩, hn, hE, hK => by
   unfold leaveS at h
   subst h1
   split at h
   ·rename_i s1 q1 hd
    split at h
    ·rename_i u2 s2 q2 hl
     cases h
     have c1 := (defS_pre hcc hd).1
     have c2 := (leaveS_pre hcc hl).1
     refine ⟨by cases u <;> simp [modeOf], .inr ⟨(fun hh => by cases hh), .func f, vs.toArray, f, vs.toArray, rfl, ?_, fun _ _ => trivial, ?_⟩⟩
     ·simp [invoke, enters_run h3]
     ·refine defS_ok hcs hcc hm hd (fun p hp => hq p (by simp [hp])) hS hY (fun k k1 k2 => hn k k1 (by omega)) h2 ?_
      intro v u3 ρ' wc' w' hset k1 k2
      dsimp only
      rw [hset]
      refine leaveS_ok (u := none) hcs hcc hm hB h0 hl (fun p hp => hq p (by simp [hp])) k1 (hY.evo hS k2) (h4.evo hS k2) (fun k j1 j2 => ?_) (hE.trans k2 hB) fun ρ2 wc2 w2 g1 g2 g3 g4 => hK ρ2 wc2 w2 (k2.rho.trans g1) (k2.ext.trans g2) g3 g4
      rw [k2.dom k (.inr j1)]
      exact hn k (by omega) j2
    ·cases h
   ·cases h
theorem specRun_cc {sp : List (Ctr D P w0 X)} {f : FuncId} {args : List SA} {bk : List (Nat × Blk)} {c : Nat} {orc : List (Option Bool)} {r : OpR} (h : specRun sp f args bk c orc = some r) : c ≤ r.c := by
 unfold specRun at h
 split at h
 ·rename_i p hp
  exact p.cc _ _ _ _ _ h
 ·cases h
theorem endS_cc {cs : CallS} (hcc : ∀ ys f args bk c th orc r, cs.call ys f args bk c th orc = some r → c ≤ r.c) {fn : Func} {bk : List (Nat × Blk)} {c : Nat} {u : Option Value} {s' : Stt} {q : List Prop} {r : OpR} (h : endS P cs ys fn bk c u s' q = some r) : s'.c ≤ r.c := by
 unfold endS at h
 split at h
 ·rename_i hl
  cases h
  exact (leaveS_pre hcc hl).1
 ·rename_i hl
  split at h
  ·cases h
   exact (leaveS_pre hcc hl).1
  ·cases h
 ·cases h
theorem evF_cc (sp : List (Ctr D P w0 X)) (fx : List (Fct D P w0 X)) : ∀ d, ∀ ys f args bk c th orc r, evF P sp fx d ys f args bk c th orc = some r → c ≤ r.c
 | 0, ys, f, args, bk, c, th, orc, r, h => by simp [evF] at h
 | d + 1, ys, f, args, bk, c, th, orc, r, h => by
   have hcc := evF_cc sp fx d
   simp only [evF] at h
   split at h
   ·rename_i hs
    cases h
    exact specRun_cc hs
   ·split at h
    ·split at h
     ·split at h
      ·cases h
      ·rename_i hev
       exact Nat.le_trans (evC_pre (cs := ⟨evF P sp fx d, fctRun fx⟩) hcc hev).1 (endS_cc (cs := ⟨evF P sp fx d, fctRun fx⟩) hcc h)
      ·rename_i hev
       exact Nat.le_trans (evC_pre (cs := ⟨evF P sp fx d, fctRun fx⟩) hcc hev).1 (endS_cc (cs := ⟨evF P sp fx d, fctRun fx⟩) hcc h)
      ·rename_i hev
       exact Nat.le_trans (evC_pre (cs := ⟨evF P sp fx d, fctRun fx⟩) hcc hev).1 (endS_cc (cs := ⟨evF P sp fx d, fctRun fx⟩) hcc h)
      ·cases h
     ·cases h
    ·cases h
theorem endS_ok (hcs : CallOk D P w0 X cs) (hcc : ∀ ys f args bk c th orc r, cs.call ys f args bk c th orc = some r → c ≤ r.c) (hm : P.follows .mixedOrders = true) {fn : Func} {bk : List (Nat × Blk)} {c : Nat} {u : Option Value} {s' : Stt} {q : List Prop} {r : OpR} (h : endS P cs ys fn bk c u s' q = some r) (hq : ∀ p ∈ r.obl, p)
  (hlt : ∀ k b, bk.look k = some b → k < c) (hsuf : u = none → ∃ l, s'.bk = l ++ bk) {th : Nat} {ρ : Nm} {wc w : World} (hS : Sat D w0 X th ρ wc w bk) (hn : ∀ k, c ≤ k → k < r.c → ρ k = none) (hcs' : c ≤ s'.c)
  {bd : Nat} {ρ' : Nm} {wc' w' : World} {a : Act} (k1 : Sat D w0 X s'.th ρ' wc' w' s'.bk) (hY : YOk D P w0 X bd ys ρ' wc' w') (k2 : TSat D ρ' wc' n s'.tm a) (k3 : DfOk P w.heap.size ρ' w' s'.df a.defers) (k4 : Evo ρ wc w bk c s'.c ρ' wc' w' s'.bk) :
  LeavesInM (WF none) 0 P fn a.tmps (Post D w0 X ρ wc w bk c r) a.defers (modeOf u) w' := by
 have tmS : ∀ {df : List DF} {u u' : Option Value} {s s2 : Stt} {q : List Prop}, leaveS P cs ys df u s = some (u', s2, q) → s2.tm = s.tm := by
  intro df
  induction df with
  | nil => intro u u' s s2 q h; cases h; rfl
  | cons x r ih =>
    intro u u' s s2 q h
    cases x with
    | col k => exact ih (by unfold leaveS at h; exact h)
    | clo f caps =>
      unfold leaveS at h
      split at h
      ·rename_i s1 q1 hd
       split at h
       ·rename_i hl
        cases h
        rw [ih hl]
        unfold defS at hd
        repeat' (split at hd)
        all_goals first | contradiction | (cases hd; rfl)
       ·cases h
      ·cases h
 unfold endS at h
 split at h
 ·rename_i v s2 q2 hl
  cases h
  have c2 := (leaveS_pre hcc hl).1
  refine leaveS_ok hcs hcc hm hS.named hS.fr.size hl (fun p hp => hq p (by simp [hp])) k1 hY k3 (fun k j1 j2 => by rw [k4.dom k (.inr j1)]; exact hn k (by omega) j2) k4 ?_
  intro ρ2 wc2 w2 g1 g2 g3 g4
  exact ⟨undef, ρ2, wc2, rfl, trivial, g3, g4⟩
 ·rename_i s2 q2 hl
  split at h
  ·rename_i xs hres
   cases h
   obtain ⟨c2, l2, hl2⟩ := leaveS_pre hcc hl
   refine leaveS_ok hcs hcc hm hS.named hS.fr.size hl (fun p hp => hq p (by simp [hp])) k1 hY k3 (fun k j1 j2 => by rw [k4.dom k (.inr j1)]; exact hn k (by omega) j2) k4 ?_
   intro ρ2 wc2 w2 g1 g2 g3 g4
   have hT2 : TSat D ρ2 wc2 n s2.tm { tmps := a.tmps, defers := [] } := by
    rw [tmS hl]
    exact ⟨k2.size, (k2.mono g1 g2).at_⟩
   obtain ⟨v, hv1, hv2⟩ := results_ok (P := P) hT2 g3.bkOk hres
   refine ⟨v, hv1, v, ρ2, wc2, rfl, hv2, ?_⟩
   have hsub : ∀ keep : Nat → Bool, (∀ k, k < c → keep k = true) → Sub' ((match u with
     | none => dedup keep (s2.bk.take (s2.bk.length - bk.length)) []
     | some _ => dedup keep s2.bk [] ++ tombs s2.bk bk) ++ bk) s2.bk := by
    intro keep hkeep k b hk
    obtain ⟨hk, hdd⟩ := hk
    refine ⟨?_, hdd⟩
    rw [look_append] at hk
    cases u with
    | none =>
      dsimp only at hk
      obtain ⟨l, hl'⟩ := hsuf rfl
      have e : s2.bk = (l2 ++ l) ++ bk := by rw [hl2, hl', List.append_assoc]
      have e2 : s2.bk.take (s2.bk.length - bk.length) = l2 ++ l := by rw [e, List.length_append, Nat.add_sub_cancel, List.take_left]
      rw [e2, look_dedup] at hk
      rw [e, look_append]
      simp only [mem, List.any_nil, Bool.false_eq_true, if_false] at hk
      by_cases hkp : keep k = true
      ·rw [if_pos hkp] at hk; exact hk
      ·rw [if_neg hkp, Option.none_or] at hk
       exact absurd (hkeep k (hlt k b hk)) hkp
    | some v =>
      dsimp only at hk
      obtain ⟨t1, t2, t3⟩ := look_tombs s2.bk k bk
      rw [look_append, look_dedup] at hk
      simp only [mem, List.any_nil, Bool.false_eq_true, if_false] at hk
      have lateT : ∀ {z : Option Blk}, (z.or ((tombs s2.bk bk).look k)).or (bk.look k) = some b → z = none → s2.bk.look k = none ∨ keep k ≠ true → False := by
       intro z hz hzn hor
       subst hzn
       rw [Option.none_or] at hz
       cases ht : (tombs s2.bk bk).look k with
       | some y =>
         rw [ht, Option.some_or] at hz
         cases hz
         rw [t1 _ ht] at hdd
         cases hdd
       | none =>
         rw [ht, Option.none_or] at hz
         rcases hor with h | h
         ·have := t2 h (by rw [hz]; rfl)
          rw [ht] at this
          cases this
         ·exact h (hkeep k (hlt k b hz))
      by_cases hkp : keep k = true
      ·rw [if_pos hkp] at hk
       cases hsk : s2.bk.look k with
       | some y =>
         rw [hsk, Option.some_or, Option.some_or] at hk
         exact hk
       | none =>
         rw [hsk] at hk
         exact (lateT hk rfl (.inl hsk)).elim
      ·rw [if_neg hkp] at hk
       exact (lateT hk rfl (.inr hkp)).elim
   have hkc : ∀ (l : List SA) (p m : List (Nat × Blk)) k, k < c → keepS' c l p m k = true := by
    intro l p m k hk
    unfold keepS'
    rw [Bool.or_eq_true]
    exact .inl (by rw [Nat.blt_eq]; exact hk)
   cases u with
   | none =>
     have hs := hsub _ (hkc xs (s2.bk.take (s2.bk.length - bk.length)) s2.bk)
     exact ⟨g3.sub' hs, g4.sub' hs⟩
   | some v =>
     have hs := hsub _ (hkc xs s2.bk s2.bk)
     exact ⟨g3.sub' hs, g4.sub' hs⟩
  ·cases h
 ·cases h
theorem evF_ok (hm : P.follows .mixedOrders = true) (sp : List (Ctr D P w0 X)) (fx : List (Fct D P w0 X)) : ∀ d, CallFOk D P w0 X (evF P sp fx d)
 | 0 => fun ys f args bk c th orc r h => by simp [evF] at h
 | d + 1 => by
   have ih : CallOk D P w0 X ⟨evF P sp fx d, fctRun fx⟩ := ⟨evF_ok hm sp fx d, fun o get x h => fctRun_ok h⟩
   have hcc := evF_cc sp fx d
   intro ys f args bk c th orc r h hobl bd ρ wc w vals hS hY hlt hth hn hargs
   simp only [evF] at h
   split at h
   ·rename_i r' hsr
    cases h
    unfold specRun at hsr
    split at hsr
    ·rename_i p hp
     obtain rfl := specOf_ok hp
     exact p.sound _ _ _ _ _ hsr hobl th ρ wc w vals hS hlt hn hargs
    ·cases hsr
   ·split at h
    ·rename_i fn hf
     split at h
     ·rename_i code hb
      have hsz : vals.toArray.size = args.length := by simp [hargs.len]
      have main : ∀ {o : Ot} {s' : Stt} {q : List Prop} {u : Option Value}, evC P ⟨evF P sp fx d, fctRun fx⟩ ys (args.length + (fn.ntmps - args.length)) FU false code ⟨frame0 0 args, bk, c, th, orc, []⟩ = some (o, s', q) → endS P ⟨evF P sp fx d, fctRun fx⟩ ys fn bk c u s' q = some r →
        (∀ a w', LeavesInM (WF none) 0 P fn a.tmps (Post D w0 X ρ wc w bk c r) a.defers (modeOf u) w' → bodyPostM (WF none) 0 P fn (Post D w0 X ρ wc w bk c r) o.ex a w') → (u = none → ∀ v, o ≠ .pan v) → Calls P f vals.toArray w (Post D w0 X ρ wc w bk c r) := by
       intro o s' q u hev hend hex hou
       obtain ⟨p1, p2⟩ := evC_pre (cs := ⟨evF P sp fx d, fctRun fx⟩) hcc hev
       have c2 := endS_cc (cs := ⟨evF P sp fx d, fctRun fx⟩) hcc hend
       have hq : ∀ p ∈ q, p := fun p hp => hobl p (by
        unfold endS at hend
        split at hend
        ·cases hend; simp [hp]
        ·split at hend
         ·cases hend; simp [hp]
         ·cases hend
        ·cases hend)
       refine callsIn_WF (ro := none) (n := 0) |>.1 (callsIn_of_wp_marks hf hb trivial ?_ rfl)
       rw [hsz]
       refine evC_ok ih hcc hm FU false code _ s' o q bd w.heap.size ρ wc w _ _ none (Nat.le_refl _) (fun _ => rfl) hev hq hS hY (frame0_ok hargs _) rfl (fun k j1 j2 => hn k j1 (by omega)) ?_
       intro ρ' wc' w' a' k1 k2 k3 k4
       exact hex a' w' (endS_ok ih hcc hm hend hobl hlt (fun hu => p2 (hou hu)) hS hn p1 k1 (hY.evo hS k4) k2 k3 k4)
      split at h
      ·cases h
      ·rename_i s' q hev
       exact main hev h (fun a w' hl => hl) (fun _ v => by simp)
      ·rename_i s' q hev
       exact main hev h (fun a w' hl => hl) (fun _ v => by simp)
      ·rename_i v s' q hev
       exact main hev h (fun a w' hl => hl) (fun hu => by cases hu)
      ·cases h
     ·cases h
    ·cases h
end
end
section
def AllP : List Prop → Prop
 | [] => True
 | p :: r => p ∧ AllP r
theorem AllP.all : ∀ {l : List Prop}, AllP l → ∀ p ∈ l, p
 | [], _, p, h => by cases h
 | x :: r, ⟨hx, hr⟩, p, h => by
   rcases List.mem_cons.1 h with rfl | h
   ·exact hx
   ·exact AllP.all hr p h
theorem evRun0 {D : Den} {P : Program} (hm : P.follows .mixedOrders = true) {w : World} (sp : List (Ctr D P w (fun _ => False))) (fx : List (Fct D P w (fun _ => False))) {f : FuncId} {d : Nat} {args : List SA} {orc : List (Option Bool)} (V : SV) (L : List Prop)
  (hev : (evF P sp fx d [] f args [] 0 0 orc).map (fun r => (r.v, r.obl, r.pan)) = some (V, L, none)) (hL : AllP L) {vals : List Value} (hargs : denAs D (fun _ => none) w args vals) :
  Calls P f vals.toArray w fun e w' => ∃ v ρ', e = .returned v ∧ denV D ρ' w' V v ∧ Below w.heap.size w w' := by
 obtain ⟨r, hr, he⟩ := Option.map_eq_some_iff.1 hev
 simp only [Prod.mk.injEq] at he
 obtain ⟨rfl, rfl, hpan⟩ := he
 have hS : Sat D w (fun _ => False) 0 (fun _ => none) w w [] := ⟨Frm.refl _ _, Ext.refl _, (fun _ _ _ _ _ _ h => by have := h.1; simp at this), (fun _ _ h => by cases h), fun _ _ h => by have := h.1; simp at this⟩
 refine (evF_ok hm sp fx d [] f args [] 0 0 orc _ hr hL.all 0 (fun _ => none) w w vals hS trivial (fun k b hk => by simp at hk) (Nat.le_refl _) (fun _ _ _ => rfl) hargs).mono ?_
 rintro e w' ⟨u, ρ', wc', hend, hu, k1, k2⟩
 unfold OpR.ends at hend
 rw [hpan] at hend
 exact ⟨u, ρ', hend, hu.mono (Nm.le.refl _) k1.ext, ⟨k2.os, k2.tape, k2.output, k2.size, fun i hi => k2.loc i hi fun k b B hk => by have := hk.1; simp at this⟩⟩
section
variable {D : Den} {w0 : World} {X : Nat → Prop} {th : Nat} {ρ : Nm} {wc w : World} {bk : List (Nat × Blk)}
theorem Sat.view (h : Sat D w0 X th ρ wc w bk) {k : Nat} (hk : ρ k = none) (T : TypeId) {l : List U} {cs : List Value} {b off : Nat} (hb : b < w.heap.size) (hne : ∀ j B, ρ j = some B → B.ro = false → B.blk ≠ b)
  (hr : w.rangeAt b off cs) (hl : denL D ρ wc l cs) (hth : ∀ j x, bk.look j = some x → j < k) :
  Sat D w0 X (k + 1) (addNm ρ k ⟨b, off, true, 0, 0⟩) wc w ((k, ⟨T, l, true, false, false⟩) :: bk) := by
 have hle := addNm_le (B := ⟨b, off, true, 0, 0⟩) hk
 have hnew := addNm_new ρ k ⟨b, off, true, 0, 0⟩
 refine ⟨h.fr, h.ext, ?_, ?_, ?_⟩
 ·intro j j' x x' B B' hj hj' h1 h2 he
  rcases liv_cons hj with ⟨e1, _, _⟩ | ⟨e1, hj⟩ <;> rcases liv_cons hj' with ⟨e2, _, _⟩ | ⟨e2, hj'⟩
  ·exact .inl (by rw [e1, e2])
  ·subst e1
   rw [hnew] at h1; rw [addNm_old _ _ e2] at h2; cases h1
   refine .inr ⟨rfl, ?_⟩
   cases hro : B'.ro with
   | true => rfl
   | false => exact absurd he.symm (hne j' B' h2 hro)
  ·subst e2
   rw [addNm_old _ _ e1] at h1; rw [hnew] at h2; cases h2
   refine .inr ⟨?_, rfl⟩
   cases hro : B.ro with
   | true => rfl
   | false => exact absurd he (hne j B h1 hro)
  ·rw [addNm_old _ _ e1] at h1; rw [addNm_old _ _ e2] at h2
   exact h.inj j j' x x' B B' hj hj' h1 h2 he
 ·intro j B h1
  by_cases e1 : j = k
  ·subst e1; rw [hnew] at h1; cases h1; exact hb
  ·rw [addNm_old _ _ e1] at h1
   exact h.lt j B h1
 ·intro j x hj
  rcases liv_cons hj with ⟨rfl, rfl, _⟩ | ⟨e1, hj⟩
  ·exact ⟨_, cs, hnew, .inl ⟨rfl, hr⟩, hl.mono hle (Ext.refl _), (fun hh => by cases hh), (fun _ hh => by omega), rfl⟩
  ·obtain ⟨B, cs', h1, h2, h3, h4, h5, h6⟩ := h.box j x hj
   exact ⟨B, cs', hle j B h1, h2, h3.mono hle (Ext.refl _), h4, (fun _ hh => by have := hth j x hj.1; omega), h6⟩
end
def Ctr.list {D : Den} {P : Program} {w0 : World} {X : Nat → Prop} (f : FuncId) (T : TypeId) (run : List SA → List (Nat × Blk) → List (Option Bool) → Option (Nat × List U × List Prop × List (Option Bool)))
    (sound : ∀ args bk orc m l obl orc', run args bk orc = some (m, l, obl, orc') → (∀ p ∈ obl, p) → ∀ ρ w vals, Frm w0 X w → BkOk D ρ w w bk → denAs D ρ w args vals →
     Calls P f vals.toArray w fun e w' => ∃ b off cp cs, e = .returned (.slice (some ⟨b, off, none⟩) m cp) ∧ m ≤ cp ∧ w.heap.size ≤ b ∧ b < w'.heap.size ∧ w'.rangeAt b off cs ∧ denL D ρ w' l cs ∧ Below w.heap.size w w') : Ctr D P w0 X where
 f := f
 run := fun args bk c orc => match run args bk orc with
  | some (m, l, obl, orc') => some ⟨.a (.one (.sli c 0 m)), [(c, ⟨T, l, true, false, false⟩)], obl, orc', c + 1, c + 1, none⟩
  | none => none
 cc := by
  intro args bk c orc r h
  split at h
  ·cases h; exact Nat.le_succ _
  ·cases h
 sound := by
  intro args bk c orc r h hobl th ρ wc w vals hS hlt hn hargs
  split at h
  ·rename_i m l obl orc' hr
   cases h
   refine (sound _ _ _ _ _ _ _ hr hobl ρ w vals hS.fr (fun k b hk hd => ?_) (hargs.mono (Nm.le.refl _) hS.ext)).mono ?_
   ·obtain ⟨B, cs, h1, h2, h3, h4⟩ := hS.bkOk k b hk hd
    exact ⟨B, cs, h1, h2, h3.mono (Nm.le.refl _) hS.ext, h4⟩
   ·rintro e w' ⟨b, off, cp, cs, rfl, hm, hwb, hbw, hrg, hl, hb⟩
    obtain ⟨k1, k2⟩ := hS.call hb c c (fun k b hk => Nat.not_le.2 (hlt k b hk))
    have hc := hn c (Nat.le_refl _) (Nat.lt_succ_self c)
    have g1 := k1.view hc T hbw (fun j B hj _ => by have := hS.lt j B hj; omega) hrg hl hlt
    refine ⟨_, _, w', rfl, ⟨_, cp, addNm_new _ _ _, hm, rfl⟩, g1, ⟨addNm_le hc, k2.ext, k2.size, k2.os, k2.tape, k2.output, k2.loc, fun j x hj => ?_, Nat.le_succ _, fun j hj => addNm_old _ _ (by dsimp only at hj; omega)⟩⟩
    rcases liv_cons hj with ⟨rfl, rfl, _⟩ | ⟨e1, hj⟩
    ·exact .inr ⟨Nat.le_refl _, Nat.lt_succ_self _, _, addNm_new _ _ _, .inl hwb⟩
    ·exact .inl ⟨x, hj⟩
  ·cases h
end
end Go.Ex
namespace Go.Proofs.YtcgfdibagldafaaGreatDoor
open Go.RowKit Go.Mono
theorem enters_valid : (∀ args w, (callFunc 240 args).run Tryz.prog w = .ok (.enter 240 args) w) ∧ (∀ args w, (callFunc 242 args).run Tryz.prog w = .ok (.enter 242 args) w) ∧ (∀ args w, (callFunc 244 args).run Tryz.prog w = .ok (.enter 244 args) w) ∧ (∀ args w, (callFunc 245 args).run Tryz.prog w = .ok (.enter 245 args) w) ∧ (∀ args w, (callFunc 246 args).run Tryz.prog w = .ok (.enter 246 args) w) ∧ (∀ args w, (callFunc 247 args).run Tryz.prog w = .ok (.enter 247 args) w) :=
 ⟨Go.Proofs.enters_of Tryz.func240 (by kernel_rfl) rfl, Go.Proofs.enters_of Tryz.func242 (by kernel_rfl) rfl, Go.Proofs.enters_of Tryz.func244 (by kernel_rfl) rfl, Go.Proofs.enters_of Tryz.func245 (by kernel_rfl) rfl, Go.Proofs.enters_of Tryz.func246 (by kernel_rfl) rfl, Go.Proofs.enters_of Tryz.func247 (by kernel_rfl) rfl⟩
def vG : Nat → Nat := fun i => if i = 0 then 240 else if i = 1 then 242 else if i = 2 then 244 else if i = 3 then 245 else if i = 4 then 246 else 247
def vF (B : Nat) : Nat → Array Value := fun i => if i < 2 then #[] else #[.pointer (some ⟨B, 0, none⟩)]
def vC (A : Nat) : Nat → Array Value := fun i => if i < 2 then #[.pointer (some ⟨A, 0, none⟩)] else #[]
theorem valid_ok (B : Nat) (w : World)
  (h1 : ∀ A W, Below w.heap.size w W → Box W A 312 #[.pointer (some ⟨B, 0, none⟩)] → Calls Tryz.prog 240 #[.pointer (some ⟨A, 0, none⟩)] W fun e w' => e = .returned (.bool true) ∧ Below W.heap.size W w')
  (h2 : ∀ A W, Below w.heap.size w W → Box W A 312 #[.pointer (some ⟨B, 0, none⟩)] → Calls Tryz.prog 242 #[.pointer (some ⟨A, 0, none⟩)] W fun e w' => e = .returned (.bool true) ∧ Below W.heap.size W w')
  (h3 : ∀ W, Below w.heap.size w W → Calls Tryz.prog 244 #[.pointer (some ⟨B, 0, none⟩)] W fun e w' => e = .returned (.bool true) ∧ Below W.heap.size W w')
  (h4 : ∀ W, Below w.heap.size w W → Calls Tryz.prog 245 #[.pointer (some ⟨B, 0, none⟩)] W fun e w' => e = .returned (.bool true) ∧ Below W.heap.size W w')
  (h5 : ∀ W, Below w.heap.size w W → Calls Tryz.prog 246 #[.pointer (some ⟨B, 0, none⟩)] W fun e w' => e = .returned (.bool true) ∧ Below W.heap.size W w')
  (h6 : ∀ W, Below w.heap.size w W → Calls Tryz.prog 247 #[.pointer (some ⟨B, 0, none⟩)] W fun e w' => e = .returned (.bool true) ∧ Below W.heap.size W w') :
  Calls Tryz.prog 205 #[.pointer (some ⟨B, 0, none⟩)] w fun e w' => e = .returned (.bool true) ∧ Below w.heap.size w w' := by
 have hmf : ∀ (fn : Fn) (first cap : Array Value) (w : World), (Instr.makeFunc fn first cap).run Tryz.prog w = .ok (.func fn first cap) w := fun _ _ _ _ => rfl
 go_enter Tryz.func205, Tryz.ntmps205
 go_wp2_with fail
 refine boxes2c fun W hB hs b0 b1 => ?_
 obtain ⟨e1, e2, e3, e4, e5, e6⟩ := enters_valid
 refine (lall_ok 6 6 _ vG (vF B) (vC w.heap.size) W ⟨by omega, by omega, fun _ => ⟨_, _, rfl, b1.lt, fun i j hi hj => ?_⟩⟩ (fun i hi => ?_) (fun i hi W' hW => ?_)).mono ?_
 ·obtain rfl : j = 0 := by omega
  rw [b1.cell]
  rcases (by omega : i = 0 ∨ i = 1 ∨ i = 2 ∨ i = 3 ∨ i = 4 ∨ i = 5) with rfl | rfl | rfl | rfl | rfl | rfl <;> rfl
 ·rcases (by omega : i = 0 ∨ i = 1 ∨ i = 2 ∨ i = 3 ∨ i = 4 ∨ i = 5) with rfl | rfl | rfl | rfl | rfl | rfl
  ·exact e1
  ·exact e2
  ·exact e3
  ·exact e4
  ·exact e5
  ·exact e6
 ·have hBW := belowCall hB hW
  rcases (by omega : i = 0 ∨ i = 1 ∨ i = 2 ∨ i = 3 ∨ i = 4 ∨ i = 5) with rfl | rfl | rfl | rfl | rfl | rfl
  ·exact h1 _ W' hBW (b0.below hW)
  ·exact h2 _ W' hBW (b0.below hW)
  ·exact h3 W' hBW
  ·exact h4 W' hBW
  ·exact h5 W' hBW
  ·exact h6 W' hBW
 rintro e w' ⟨rfl, hb⟩
 go_wp2
 go_ret
 exact ⟨rfl, belowCall hB hb⟩
end Go.Proofs.YtcgfdibagldafaaGreatDoor
