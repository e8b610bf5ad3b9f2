/- Contracts of the program's fractions, lenses and rays, and a verified evaluator of the model. Part 14 of 30. No condition beside the row. -/
import Derived.Shelf.Abstract
import Derived.Great.BuildSlice
import Derived.Test.YtcgfdibagldafaaGreatDoorA02
import Derived.Test.YtcgfdibagldafaaGreatDoorA13
set_option linter.unusedVariables false
set_option linter.unusedSimpArgs false
set_option maxRecDepth 100000
set_option maxHeartbeats 4000000
def List.look {α : Type} : List (Nat × α) → Nat → Option α
 | [], _ => none
 | p :: r, k => bif Nat.beq k p.1 then some p.2 else List.look r k
namespace Go.Ex
open Go.RowKit Go.Mono
@[simp] theorem look_nil {α : Type} (k : Nat) : ([] : List (Nat × α)).look k = none := rfl
theorem look_cons {α : Type} (k k' : Nat) (x : α) (l : List (Nat × α)) : List.look ((k', x) :: l) k = if k = k' then some x else List.look l k := by
 unfold List.look
 by_cases h : k = k'
 ·subst h
  simp
 ·have e : Nat.beq k k' = false := by
   cases hb : Nat.beq k k' with
   | false => rfl
   | true => exact absurd (Nat.eq_of_beq_eq_true hb) h
  rw [if_neg h]
  dsimp only
  rw [e]
  cases l <;> rfl
inductive U where
 | val (v : Value)
 | raw (n : Nat) (cs : List Value)
 | ptr (k off : Nat)
 | slc (k off len cap : Nat)
 | clo (f : FuncId) (caps : List (Nat × Nat))
 | quo (q : Rat)
 | sym (z : Int)
 | tst (b : Bool)
 | sli (k off len : Nat)
 | own (k len size : Nat)
 | yld (k : Nat)
 | dig (n : Nat)
 | tok (i : Nat)
 | emp
 | bnd (f : FuncId) (ag : Bool) (l : List U)
 | bad
 | sml (k : IntKind) (z : Int)
 | qb
 | qe (p : Pol)
 | slx (k off m n : Nat)
 | unk
def U.w : U → Nat
 | .quo _ => 4
 | .qb => 4
 | .qe _ => 4
 | .bad => 4
 | .raw n _ => n
 | _ => 1
inductive SA where
 | one (u : U)
 | agg (l : List U)
def bndA (ag : Bool) (l : List U) : SA :=
 match ag, l with
 | false, [u] => .one u
 | _, l => .agg l
inductive SV where
 | a (x : SA)
 | tup (l : List SA)
 | no
structure Blk where
 T : TypeId
 cells : List U
 ro : Bool
 sp : Bool := false
 dead : Bool := false
structure Den where
 R : World → Rat → List Value → Prop
 ext : ∀ {w w' : World} {q : Rat} {cs : List Value}, R w q cs → Ext w w' → R w' q cs
 len : ∀ {w : World} {q : Rat} {cs : List Value}, R w q cs → cs.length = 4
 one : ∀ {w : World} {q : Rat} {cs : List Value}, R w q cs → ∀ v ∈ cs, v.oneCell' = true
 K : Nat → Value
 kone : ∀ i, (K i).oneCell' = true
 S : World → Nat → Value → Prop
 sext : ∀ {w w' : World} {n : Nat} {v : Value}, S w n v → Ext w w' → S w' n v
 sone : ∀ {w : World} {n : Nat} {v : Value}, S w n v → v.oneCell' = true
 env : Nat → Rat
 B : World → List Value → Prop
 bext : ∀ {w w' : World} {cs : List Value}, B w cs → Ext w w' → B w' cs
 blen : ∀ {w : World} {cs : List Value}, B w cs → cs.length = 4
 bone : ∀ {w : World} {cs : List Value}, B w cs → ∀ v ∈ cs, v.oneCell' = true
 split : ∀ {w : World} {q : Rat} {cs : List Value}, R w q cs → ∃ v1 v2, cs = [.bool (decide (q.num < 0)), v1, .bool false, v2] ∧ S w q.num.natAbs v1 ∧ S w q.den v2
structure Pl where
 blk : Nat
 base : Nat
 ro : Bool
 cap : Nat := 0
 tot : Nat := 0
abbrev Nm := Nat → Option Pl
def Nm.le (ρ ρ' : Nm) : Prop := ∀ k B, ρ k = some B → ρ' k = some B
theorem Nm.le.refl (ρ : Nm) : ρ.le ρ := fun _ _ h => h
theorem Nm.le.trans {a b c : Nm} (h : a.le b) (g : b.le c) : a.le c := fun k B hk => g k B (h k B hk)
section
variable (D : Den) (ρ : Nm) (w : World)
def adrs : List (Nat × Nat) → List Value → Prop
 | [], vs => vs = []
 | p :: r, vs => ∃ B v', ρ p.1 = some B ∧ vs = .pointer (some ⟨B.blk, B.base + p.2, none⟩) :: v' ∧ adrs r v'
def denU0 : U → List Value → Prop
 | .val v, cs => cs = [v] ∧ v.oneCell' = true
 | .raw n c, cs => cs = c ∧ c.length = n ∧ ∀ v ∈ c, v.oneCell' = true
 | .ptr k o, cs => ∃ B, ρ k = some B ∧ cs = [.pointer (some ⟨B.blk, B.base + o, none⟩)]
 | .slc k o n c, cs => ∃ B, ρ k = some B ∧ cs = [.slice (some ⟨B.blk, B.base + o, none⟩) n c]
 | .clo f caps, cs => ∃ vs, adrs ρ caps vs ∧ cs = [.func (.func f) #[] vs.toArray]
 | .quo q, cs => D.R w q cs
 | .sym z, cs => cs = [.int .i64 z]
 | .tst b, cs => cs = [.bool b]
 | .emp, cs => ∃ p c, (p = none → c = 0) ∧ cs = [.slice p 0 c]
 | .sli k o n, cs => ∃ B c, ρ k = some B ∧ n ≤ c ∧ cs = [.slice (some ⟨B.blk, B.base + o, none⟩) n c]
 | .own k n s, cs => ∃ B, ρ k = some B ∧ n ≤ B.cap ∧ B.tot = B.cap * s ∧ B.base = 0 ∧ cs = [.slice (some ⟨B.blk, 0, none⟩) n B.cap]
 | .yld k, cs => ∃ B, ρ k = some B ∧ cs = [.func (.yield B.blk) #[] #[]]
 | .dig n, cs => ∃ v, D.S w n v ∧ cs = [v]
 | .tok i, cs => cs = [D.K i]
 | .bad, cs => D.B w cs
 | .sml k z, cs => cs = [.int k z]
 | .qb, cs => (∃ q, D.R w q cs) ∨ D.B w cs
 | .qe p, cs => D.R w (polEv D.env p) cs
 | .unk, cs => ∃ v, cs = [v] ∧ v.oneCell' = true
 | .slx k o m n, cs => ∃ B c, ρ k = some B ∧ m ≤ n ∧ n ≤ c ∧ cs = [.slice (some ⟨B.blk, B.base + o, none⟩) n c]
 | .bnd _ _ _, _ => False
def denL0 : List U → List Value → Prop
 | [], cs => cs = []
 | u :: l, cs => ∃ c d, cs = c ++ d ∧ denU0 D ρ w u c ∧ denL0 l d
def denA0 : SA → Value → Prop
 | .one u, v => denU0 D ρ w u [v]
 | .agg l, v => ∃ cs : List Value, v = .agg cs.toArray ∧ denL0 D ρ w l cs
def denU : U → List Value → Prop
 | .val v, cs => cs = [v] ∧ v.oneCell' = true
 | .raw n c, cs => cs = c ∧ c.length = n ∧ ∀ v ∈ c, v.oneCell' = true
 | .ptr k o, cs => ∃ B, ρ k = some B ∧ cs = [.pointer (some ⟨B.blk, B.base + o, none⟩)]
 | .slc k o n c, cs => ∃ B, ρ k = some B ∧ cs = [.slice (some ⟨B.blk, B.base + o, none⟩) n c]
 | .clo f caps, cs => ∃ vs, adrs ρ caps vs ∧ cs = [.func (.func f) #[] vs.toArray]
 | .quo q, cs => D.R w q cs
 | .sym z, cs => cs = [.int .i64 z]
 | .tst b, cs => cs = [.bool b]
 | .emp, cs => ∃ p c, (p = none → c = 0) ∧ cs = [.slice p 0 c]
 | .sli k o n, cs => ∃ B c, ρ k = some B ∧ n ≤ c ∧ cs = [.slice (some ⟨B.blk, B.base + o, none⟩) n c]
 | .own k n s, cs => ∃ B, ρ k = some B ∧ n ≤ B.cap ∧ B.tot = B.cap * s ∧ B.base = 0 ∧ cs = [.slice (some ⟨B.blk, 0, none⟩) n B.cap]
 | .yld k, cs => ∃ B, ρ k = some B ∧ cs = [.func (.yield B.blk) #[] #[]]
 | .dig n, cs => ∃ v, D.S w n v ∧ cs = [v]
 | .tok i, cs => cs = [D.K i]
 | .bad, cs => D.B w cs
 | .sml k z, cs => cs = [.int k z]
 | .qb, cs => (∃ q, D.R w q cs) ∨ D.B w cs
 | .qe p, cs => D.R w (polEv D.env p) cs
 | .unk, cs => ∃ v, cs = [v] ∧ v.oneCell' = true
 | .slx k o m n, cs => ∃ B c, ρ k = some B ∧ m ≤ n ∧ n ≤ c ∧ cs = [.slice (some ⟨B.blk, B.base + o, none⟩) n c]
 | .bnd f ag l, cs => ∃ v, cs = [.func (.func f) #[v] #[]] ∧ denA0 D ρ w (bndA ag l) v
def denL : List U → List Value → Prop
 | [], cs => cs = []
 | u :: l, cs => ∃ c d, cs = c ++ d ∧ denU D ρ w u c ∧ denL l d
def denA : SA → Value → Prop
 | .one u, v => denU D ρ w u [v]
 | .agg l, v => ∃ cs : List Value, v = .agg cs.toArray ∧ denL D ρ w l cs
def denAs : List SA → List Value → Prop
 | [], vs => vs = []
 | x :: l, vs => ∃ v r, vs = v :: r ∧ denA D ρ w x v ∧ denAs l r
def denV : SV → Value → Prop
 | .a x, v => denA D ρ w x v
 | .tup l, v => ∃ vs : List Value, v = .tuple vs.toArray ∧ denAs D ρ w l vs
 | .no, _ => True
end
section
variable {D : Den} {ρ ρ' : Nm} {w w' : World}
theorem adrs.mono (h : ρ.le ρ') : ∀ {l : List (Nat × Nat)} {vs : List Value}, adrs ρ l vs → adrs ρ' l vs
 | [], _, e => e
 | p :: r, vs, ⟨B, v', hB, e, hr⟩ => ⟨B, v', h _ _ hB, e, adrs.mono h hr⟩
theorem adrs.one : ∀ {l : List (Nat × Nat)} {vs : List Value}, adrs ρ l vs → vs.length = l.length
 | [], _, e => by rw [show _ = [] from e]; rfl
 | p :: r, vs, ⟨B, v', hB, e, hr⟩ => by rw [e, List.length_cons, adrs.one hr]; rfl
theorem denU0.mono (h : ρ.le ρ') (hx : Ext w w') : ∀ {u : U} {cs : List Value}, denU0 D ρ w u cs → denU0 D ρ' w' u cs
 | .val _, _, e => e
 | .raw _ _, _, e => e
 | .ptr _ _, _, ⟨B, hB, e⟩ => ⟨B, h _ _ hB, e⟩
 | .slc _ _ _ _, _, ⟨B, hB, e⟩ => ⟨B, h _ _ hB, e⟩
 | .clo _ _, _, ⟨vs, hv, e⟩ => ⟨vs, hv.mono h, e⟩
 | .quo _, _, e => D.ext e hx
 | .sym _, _, e => e
 | .tst _, _, e => e
 | .sli _ _ _, _, ⟨B, c, hB, hc, e⟩ => ⟨B, c, h _ _ hB, hc, e⟩
 | .own _ _ _, _, ⟨B, hB, e⟩ => ⟨B, h _ _ hB, e⟩
 | .yld _, _, ⟨B, hB, e⟩ => ⟨B, h _ _ hB, e⟩
 | .dig _, _, ⟨v, hv, e⟩ => ⟨v, D.sext hv hx, e⟩
 | .tok _, _, e => e
 | .bad, _, e => D.bext e hx
 | .sml _ _, _, e => e
 | .qb, _, e => e.imp (fun ⟨q, h⟩ => ⟨q, D.ext h hx⟩) fun h => D.bext h hx
 | .qe _, _, e => D.ext e hx
 | .slx _ _ _ _, _, ⟨B, c, hB, e⟩ => ⟨B, c, h _ _ hB, e⟩
 | .unk, _, e => e
 | .emp, _, e => e
theorem denL0.mono (h : ρ.le ρ') (hx : Ext w w') : ∀ {l : List U} {cs : List Value}, denL0 D ρ w l cs → denL0 D ρ' w' l cs
 | [], _, e => e
 | u :: l, _, ⟨c, d, e, hc, hd⟩ => ⟨c, d, e, hc.mono h hx, denL0.mono h hx hd⟩
theorem denA0.mono (h : ρ.le ρ') (hx : Ext w w') : ∀ {x : SA} {v : Value}, denA0 D ρ w x v → denA0 D ρ' w' x v
 | .one _, _, e => denU0.mono h hx e
 | .agg _, _, ⟨cs, e, hl⟩ => ⟨cs, e, hl.mono h hx⟩
theorem denU.mono (h : ρ.le ρ') (hx : Ext w w') : ∀ {u : U} {cs : List Value}, denU D ρ w u cs → denU D ρ' w' u cs
 | .val _, _, e => e
 | .raw _ _, _, e => e
 | .ptr _ _, _, ⟨B, hB, e⟩ => ⟨B, h _ _ hB, e⟩
 | .slc _ _ _ _, _, ⟨B, hB, e⟩ => ⟨B, h _ _ hB, e⟩
 | .clo _ _, _, ⟨vs, hv, e⟩ => ⟨vs, hv.mono h, e⟩
 | .quo _, _, e => D.ext e hx
 | .sym _, _, e => e
 | .tst _, _, e => e
 | .sli _ _ _, _, ⟨B, c, hB, hc, e⟩ => ⟨B, c, h _ _ hB, hc, e⟩
 | .own _ _ _, _, ⟨B, hB, e⟩ => ⟨B, h _ _ hB, e⟩
 | .yld _, _, ⟨B, hB, e⟩ => ⟨B, h _ _ hB, e⟩
 | .dig _, _, ⟨v, hv, e⟩ => ⟨v, D.sext hv hx, e⟩
 | .tok _, _, e => e
 | .bad, _, e => D.bext e hx
 | .sml _ _, _, e => e
 | .qb, _, e => e.imp (fun ⟨q, h⟩ => ⟨q, D.ext h hx⟩) fun h => D.bext h hx
 | .qe _, _, e => D.ext e hx
 | .slx _ _ _ _, _, ⟨B, c, hB, e⟩ => ⟨B, c, h _ _ hB, e⟩
 | .unk, _, e => e
 | .emp, _, e => e
 | .bnd _ _ _, _, ⟨v, e, hv⟩ => ⟨v, e, hv.mono h hx⟩
theorem denL.mono (h : ρ.le ρ') (hx : Ext w w') : ∀ {l : List U} {cs : List Value}, denL D ρ w l cs → denL D ρ' w' l cs
 | [], _, e => e
 | u :: l, _, ⟨c, d, e, hc, hd⟩ => ⟨c, d, e, hc.mono h hx, denL.mono h hx hd⟩
theorem denA.mono (h : ρ.le ρ') (hx : Ext w w') : ∀ {x : SA} {v : Value}, denA D ρ w x v → denA D ρ' w' x v
 | .one _, _, e => denU.mono h hx e
 | .agg _, _, ⟨cs, e, hl⟩ => ⟨cs, e, hl.mono h hx⟩
theorem denAs.mono (h : ρ.le ρ') (hx : Ext w w') : ∀ {l : List SA} {vs : List Value}, denAs D ρ w l vs → denAs D ρ' w' l vs
 | [], _, e => e
 | x :: l, _, ⟨v, r, e, hv, hr⟩ => ⟨v, r, e, hv.mono h hx, denAs.mono h hx hr⟩
theorem denV.mono (h : ρ.le ρ') (hx : Ext w w') : ∀ {x : SV} {v : Value}, denV D ρ w x v → denV D ρ' w' x v
 | .a _, _, e => denA.mono h hx e
 | .tup _, _, ⟨vs, e, hl⟩ => ⟨vs, e, hl.mono h hx⟩
 | .no, _, _ => trivial
theorem denU0.up {u : U} {cs : List Value} (h : denU0 D ρ w u cs) : denU D ρ w u cs := by
 cases u <;> first | exact h | cases h
theorem denL0.up : ∀ {l : List U} {cs : List Value}, denL0 D ρ w l cs → denL D ρ w l cs
 | [], _, e => e
 | u :: l, _, ⟨c, d, e, hc, hd⟩ => ⟨c, d, e, hc.up, denL0.up hd⟩
theorem denA0.up : ∀ {x : SA} {v : Value}, denA0 D ρ w x v → denA D ρ w x v
 | .one _, _, e => denU0.up e
 | .agg _, _, ⟨cs, e, hl⟩ => ⟨cs, e, hl.up⟩
def U.weak : U → U
 | .bnd _ _ _ => .unk
 | u => u
def SA.weak : SA → SA
 | .one u => .one u.weak
 | .agg l => .agg (l.map U.weak)
theorem denU.weak {u : U} {cs : List Value} (h : denU D ρ w u cs) : denU0 D ρ w u.weak cs := by
 cases u with
 | bnd f g l =>
   obtain ⟨v, e, _⟩ := h
   exact ⟨_, e, by simp [Value.oneCell']⟩
 | _ => exact h
theorem denL.weak : ∀ {l : List U} {cs : List Value}, denL D ρ w l cs → denL0 D ρ w (l.map U.weak) cs
 | [], _, e => e
 | u :: l, _, ⟨c, d, e, hc, hd⟩ => ⟨c, d, e, hc.weak, denL.weak hd⟩
theorem denA.weak : ∀ {x : SA} {v : Value}, denA D ρ w x v → denA0 D ρ w x.weak v
 | .one _, _, e => denU.weak e
 | .agg _, _, ⟨cs, e, hl⟩ => ⟨cs, e, hl.weak⟩
def widths (l : List U) : Nat := l.foldr (fun u n => u.w + n) 0
theorem denU.len : ∀ {u : U} {cs : List Value}, denU D ρ w u cs → cs.length = u.w
 | .val _, _, ⟨e, _⟩ => by rw [e]; rfl
 | .raw _ _, _, ⟨e, hn, _⟩ => by rw [e]; exact hn
 | .ptr _ _, _, ⟨B, hB, e⟩ => by rw [e]; rfl
 | .slc _ _ _ _, _, ⟨B, hB, e⟩ => by rw [e]; rfl
 | .clo _ _, _, ⟨vs, hv, e⟩ => by rw [e]; rfl
 | .quo _, _, e => D.len e
 | .sym _, _, e => by rw [show _ = _ from e]; rfl
 | .tst _, _, e => by rw [show _ = _ from e]; rfl
 | .sli _ _ _, _, ⟨B, c, hB, hc, e⟩ => by rw [e]; rfl
 | .own _ _ _, _, ⟨B, hB, h1, h2, h3, e⟩ => by rw [e]; rfl
 | .yld _, _, ⟨B, hB, e⟩ => by rw [e]; rfl
 | .dig _, _, ⟨v, hv, e⟩ => by rw [e]; rfl
 | .tok _, _, e => by rw [show _ = _ from e]; rfl
 | .emp, _, ⟨p, c, hp, e⟩ => by rw [e]; rfl
 | .bad, _, e => D.blen e
 | .sml _ _, _, e => by rw [show _ = _ from e]; rfl
 | .qb, _, e => e.elim (fun ⟨q, h⟩ => D.len h) D.blen
 | .qe _, _, e => D.len e
 | .slx _ _ _ _, _, ⟨B, c, hB, h1, h2, e⟩ => by rw [e]; rfl
 | .unk, _, ⟨v, e, hv⟩ => by rw [e]; rfl
 | .bnd _ _ _, _, ⟨v, e, hv⟩ => by rw [e]; rfl
theorem denU.ones : ∀ {u : U} {cs : List Value}, denU D ρ w u cs → ∀ v ∈ cs, v.oneCell' = true
 | .val _, _, ⟨e, h⟩ => by rw [e]; simpa using h
 | .raw _ _, _, ⟨e, hn, h⟩ => by rw [e]; exact h
 | .ptr _ _, _, ⟨B, hB, e⟩ => by rw [e]; simp [Value.oneCell']
 | .slc _ _ _ _, _, ⟨B, hB, e⟩ => by rw [e]; simp [Value.oneCell']
 | .clo _ _, _, ⟨vs, hv, e⟩ => by rw [e]; simp [Value.oneCell']
 | .quo _, _, e => D.one e
 | .sym _, _, e => by rw [show _ = _ from e]; simp [Value.oneCell']
 | .tst _, _, e => by rw [show _ = _ from e]; simp [Value.oneCell']
 | .sli _ _ _, _, ⟨B, c, hB, hc, e⟩ => by rw [e]; simp [Value.oneCell']
 | .own _ _ _, _, ⟨B, hB, h1, h2, h3, e⟩ => by rw [e]; simp [Value.oneCell']
 | .yld _, _, ⟨B, hB, e⟩ => by rw [e]; simp [Value.oneCell']
 | .dig _, _, ⟨v, hv, e⟩ => by rw [e]; simpa using D.sone hv
 | .tok _, _, e => by rw [show _ = _ from e]; simpa using D.kone _
 | .emp, _, ⟨p, c, hp, e⟩ => by rw [e]; simp [Value.oneCell']
 | .bad, _, e => D.bone e
 | .sml _ _, _, e => by rw [show _ = _ from e]; simp [Value.oneCell']
 | .qb, _, e => e.elim (fun ⟨q, h⟩ => D.one h) D.bone
 | .qe _, _, e => D.one e
 | .slx _ _ _ _, _, ⟨B, c, hB, h1, h2, e⟩ => by rw [e]; simp [Value.oneCell']
 | .unk, _, ⟨v, e, hv⟩ => by rw [e]; simpa using hv
 | .bnd _ _ _, _, ⟨v, e, hv⟩ => by rw [e]; simp [Value.oneCell']
theorem denL.len : ∀ {l : List U} {cs : List Value}, denL D ρ w l cs → cs.length = widths l
 | [], _, e => by rw [show _ = [] from e]; rfl
 | u :: l, _, ⟨c, d, e, hc, hd⟩ => by rw [e, List.length_append, hc.len, denL.len hd]; rfl
theorem denL.ones : ∀ {l : List U} {cs : List Value}, denL D ρ w l cs → ∀ v ∈ cs, v.oneCell' = true
 | [], _, e => by rw [show _ = [] from e]; simp
 | u :: l, _, ⟨c, d, e, hc, hd⟩ => by
   rw [e]
   intro v hv
   rcases List.mem_append.1 hv with h | h
   ·exact hc.ones v h
   ·exact denL.ones hd v h
theorem denL.append : ∀ {l m : List U} {cs ds : List Value}, denL D ρ w l cs → denL D ρ w m ds → denL D ρ w (l ++ m) (cs ++ ds)
 | [], m, cs, ds, e, hm => by rw [show cs = [] from e]; exact hm
 | u :: l, m, _, ds, ⟨c, d, e, hc, hd⟩, hm => ⟨c, d ++ ds, by rw [e, List.append_assoc], hc, denL.append hd hm⟩
def takeU : List U → Nat → Option (List U)
 | _, 0 => some []
 | [], _ + 1 => none
 | u :: l, n + 1 => if u.w = 0 then none else if u.w ≤ n + 1 then (takeU l (n + 1 - u.w)).map (u :: ·) else none
def dropU : List U → Nat → Option (List U)
 | l, 0 => some l
 | [], _ + 1 => none
 | u :: l, n + 1 => if u.w = 0 then none else if u.w ≤ n + 1 then dropU l (n + 1 - u.w) else none
def subU (l : List U) (off n : Nat) : Option (List U) := (dropU l off).bind fun m => takeU m n
def putU (l : List U) (off : Nat) (us : List U) : Option (List U) :=
 (takeU l off).bind fun a => (dropU l (off + widths us)).map fun b => a ++ (us ++ b)
theorem takeU_den : ∀ {l : List U} {n : Nat} {m : List U} {cs : List Value}, takeU l n = some m → denL D ρ w l cs → denL D ρ w m (cs.take n) ∧ (cs.take n).length = n
 | l, 0, m, cs, h, hd => by
   have : m = [] := by cases l <;> (simp only [takeU, Option.some.injEq] at h; exact h.symm)
   subst this
   exact ⟨by simp [denL], by simp⟩
 | [], n + 1, m, cs, h, hd => by simp [takeU] at h
 | u :: l, n + 1, m, cs, h, hd => by
   simp only [takeU] at h
   split at h
   ·cases h
   ·rename_i h0
    split at h
    ·rename_i hw
     obtain ⟨m', hm, rfl⟩ := Option.map_eq_some_iff.1 h
     obtain ⟨c, d, rfl, hc, hd'⟩ := hd
     have hl := hc.len
     obtain ⟨h1, h2⟩ := takeU_den hm hd'
     have e : (c ++ d).take (n + 1) = c ++ d.take (n + 1 - u.w) := by
      rw [List.take_append, hl, List.take_of_length_le (by omega)]
     rw [e]
     exact ⟨⟨c, _, rfl, hc, h1⟩, by rw [List.length_append, h2, hl]; omega⟩
    ·cases h
theorem dropU_den : ∀ {l : List U} {n : Nat} {m : List U} {cs : List Value}, dropU l n = some m → denL D ρ w l cs → denL D ρ w m (cs.drop n) ∧ n ≤ cs.length
 | l, 0, m, cs, h, hd => by
   have : m = l := by cases l <;> (simp only [dropU, Option.some.injEq] at h; exact h.symm)
   subst this
   exact ⟨by simpa using hd, by simp⟩
 | [], n + 1, m, cs, h, hd => by simp [dropU] at h
 | u :: l, n + 1, m, cs, h, hd => by
   simp only [dropU] at h
   split at h
   ·cases h
   ·split at h
    ·rename_i h0 hw
     obtain ⟨c, d, rfl, hc, hd'⟩ := hd
     have hl := hc.len
     obtain ⟨h1, h2⟩ := dropU_den h hd'
     have e : (c ++ d).drop (n + 1) = d.drop (n + 1 - u.w) := by
      rw [List.drop_append, hl, List.drop_of_length_le (by omega), List.nil_append]
     rw [e]
     exact ⟨h1, by rw [List.length_append, hl]; omega⟩
    ·cases h
theorem subU_den {l : List U} {off n : Nat} {m : List U} {cs : List Value} (h : subU l off n = some m) (hd : denL D ρ w l cs) : denL D ρ w m ((cs.drop off).take n) ∧ ((cs.drop off).take n).length = n := by
 unfold subU at h
 obtain ⟨m', h1, h2⟩ := Option.bind_eq_some_iff.1 h
 exact takeU_den h2 (dropU_den h1 hd).1
theorem putU_den {l : List U} {off : Nat} {us m : List U} {cs ps : List Value} (h : putU l off us = some m) (hd : denL D ρ w l cs) (hp : denL D ρ w us ps) :
  denL D ρ w m (cs.take off ++ ps ++ cs.drop (off + ps.length)) ∧ off + ps.length ≤ cs.length := by
 unfold putU at h
 obtain ⟨a, h1, h2⟩ := Option.bind_eq_some_iff.1 h
 obtain ⟨b, h3, rfl⟩ := Option.map_eq_some_iff.1 h2
 rw [← hp.len] at h3
 obtain ⟨k1, k2⟩ := dropU_den h3 hd
 exact ⟨by rw [List.append_assoc]; exact (takeU_den h1 hd).1.append (hp.append k1), k2⟩
def expU : U → List U
 | .quo q => [.val (.bool (decide (q.num < 0))), .dig q.num.natAbs, .val (.bool false), .dig q.den]
 | u => [u]
def expL : List U → List U
 | [] => []
 | u :: l => expU u ++ expL l
theorem expL_den : ∀ {l : List U} {cs : List Value}, denL D ρ w l cs → denL D ρ w (expL l) cs
 | [], cs, h => h
 | u :: l, _, ⟨c, d, e, hc, hd⟩ => by
   subst e
   refine denL.append ?_ (expL_den hd)
   cases u with
   | quo q =>
     obtain ⟨v1, v2, rfl, h1, h2⟩ := D.split hc
     exact ⟨[_], _, rfl, ⟨rfl, rfl⟩, [v1], _, rfl, ⟨v1, h1, rfl⟩, [_], _, rfl, ⟨rfl, rfl⟩, [v2], [], rfl, ⟨v2, h2, rfl⟩, rfl⟩
   | _ => exact ⟨c, [], (List.append_nil c).symm, hc, rfl⟩
def subX (l : List U) (off n : Nat) : Option (List U) :=
 match subU l off n with
 | some m => some m
 | none => subU (expL l) off n
def putX (l : List U) (off : Nat) (us : List U) : Option (List U) :=
 match putU l off us with
 | some m => some m
 | none => putU (expL l) off us
theorem subX_den {l : List U} {off n : Nat} {m : List U} {cs : List Value} (h : subX l off n = some m) (hd : denL D ρ w l cs) : denL D ρ w m ((cs.drop off).take n) ∧ ((cs.drop off).take n).length = n := by
 unfold subX at h
 split at h
 ·rename_i m' h'
  cases h
  exact subU_den h' hd
 ·exact subU_den h (expL_den hd)
theorem putX_den {l : List U} {off : Nat} {us m : List U} {cs ps : List Value} (h : putX l off us = some m) (hd : denL D ρ w l cs) (hp : denL D ρ w us ps) :
  denL D ρ w m (cs.take off ++ ps ++ cs.drop (off + ps.length)) ∧ off + ps.length ≤ cs.length := by
 unfold putX at h
 split at h
 ·rename_i m' h'
  cases h
  exact putU_den h' hd hp
 ·exact putU_den h (expL_den hd) hp
theorem denL_vals : ∀ (vs : List Value), (∀ v ∈ vs, v.oneCell' = true) → denL D ρ w (vs.map .val) vs
 | [], _ => rfl
 | v :: r, h => ⟨[v], r, rfl, ⟨rfl, h v (List.mem_cons_self ..)⟩, denL_vals r fun u hu => h u (List.mem_cons_of_mem _ hu)⟩
def realU : U → Option (List Value)
 | .val v => some [v]
 | .raw _ cs => some cs
 | .sym z => some [.int .i64 z]
 | .sml k z => some [.int k z]
 | .tst b => some [.bool b]
 | _ => none
def realL : List U → Option (List Value)
 | [] => some []
 | u :: l => (realU u).bind fun a => (realL l).map (a ++ ·)
def realA : SA → Option Value
 | .one (.val v) => some v
 | .one (.sym z) => some (.int .i64 z)
 | .one (.sml k z) => some (.int k z)
 | .one (.tst b) => some (.bool b)
 | .one _ => none
 | .agg l => (realL l).map fun cs => .agg cs.toArray
def realAs : List SA → Option (List Value)
 | [] => some []
 | x :: l => (realA x).bind fun a => (realAs l).map (a :: ·)
def realV : SV → Option Value
 | .a x => realA x
 | .tup l => (realAs l).map fun vs => .tuple vs.toArray
 | .no => none
theorem realU_den : ∀ {u : U} {a cs : List Value}, realU u = some a → denU D ρ w u cs → cs = a
 | .val v, a, cs, h, ⟨e, _⟩ => by cases h; exact e
 | .raw _ _, a, cs, h, ⟨e, _⟩ => by cases h; exact e
 | .sym _, a, cs, h, e => by cases h; exact e
 | .sml _ _, a, cs, h, e => by cases h; exact e
 | .tst _, a, cs, h, e => by cases h; exact e
theorem realL_den : ∀ {l : List U} {a cs : List Value}, realL l = some a → denL D ρ w l cs → cs = a
 | [], a, cs, h, e => by cases h; exact e
 | u :: l, a, cs, h, ⟨c, d, e, hc, hd⟩ => by
   unfold realL at h
   obtain ⟨x, hx, h2⟩ := Option.bind_eq_some_iff.1 h
   obtain ⟨y, hy, rfl⟩ := Option.map_eq_some_iff.1 h2
   rw [e, realU_den hx hc, realL_den hy hd]
theorem realA_den : ∀ {x : SA} {a v : Value}, realA x = some a → denA D ρ w x v → v = a
 | .one (.val u), a, v, h, e => by
   cases h
   have := e.1
   simpa using this
 | .one (.sym z), a, v, h, e => by
   cases h
   simpa [denA, denU] using e
 | .one (.sml k z), a, v, h, e => by
   cases h
   simpa [denA, denU] using e
 | .one (.tst z), a, v, h, e => by
   cases h
   simpa [denA, denU] using e
 | .agg l, a, v, h, ⟨cs, e, hl⟩ => by
   unfold realA at h
   obtain ⟨y, hy, rfl⟩ := Option.map_eq_some_iff.1 h
   rw [e, realL_den hy hl]
theorem realAs_den : ∀ {l : List SA} {a vs : List Value}, realAs l = some a → denAs D ρ w l vs → vs = a
 | [], a, cs, h, e => by cases h; exact e
 | x :: l, a, cs, h, ⟨v, r, e, hv, hr⟩ => by
   unfold realAs at h
   obtain ⟨y, hy, h2⟩ := Option.bind_eq_some_iff.1 h
   obtain ⟨z, hz, rfl⟩ := Option.map_eq_some_iff.1 h2
   rw [e, realA_den hy hv, realAs_den hz hr]
theorem realV_den : ∀ {x : SV} {a v : Value}, realV x = some a → denV D ρ w x v → v = a
 | .a x, a, v, h, e => realA_den h e
 | .tup l, a, v, h, ⟨vs, e, hl⟩ => by
   unfold realV at h
   obtain ⟨y, hy, rfl⟩ := Option.map_eq_some_iff.1 h
   rw [e, realAs_den hy hl]
def ncase {α : Type} (n : Nat) (f : Nat → α) : α :=
 match n with
 | 0 => f 0
 | k + 1 => f (k + 1)
theorem ncase_eq {α : Type} (n : Nat) (f : Nat → α) : ncase n f = f n := by cases n <;> rfl
def icase {α : Type} (z : Int) (f : Int → α) : α :=
 match z with
 | .ofNat n => ncase n fun m => f (.ofNat m)
 | .negSucc n => ncase n fun m => f (.negSucc m)
theorem icase_eq {α : Type} (z : Int) (f : Int → α) : icase z f = f z := by cases z <;> simp only [icase, ncase_eq]
def qcase {α : Type} (q : Rat) (f : Rat → α) : α := icase q.num fun n => ncase q.den fun d => f (mkRat n d)
theorem qcase_eq {α : Type} (q : Rat) (f : Rat → α) : qcase q f = f q := by
 unfold qcase
 rw [icase_eq, ncase_eq, Rat.mkRat_self]
def ofValA : Value → Option SA
 | .int k z => icase z fun z => some (.one (.val (.int k z)))
 | .bool true => some (.one (.val (.bool true)))
 | .bool false => some (.one (.val (.bool false)))
 | .agg cs => if cs.toList.all (·.oneCell') then some (.agg (cs.toList.map .val)) else none
 | v => if v.oneCell' then some (.one (.val v)) else none
def ofVals : List Value → Option (List SA)
 | [] => some []
 | v :: r => (ofValA v).bind fun a => (ofVals r).map (a :: ·)
def ofVal : Value → Option SV
 | .tuple vs => (ofVals vs.toList).map .tup
 | v => (ofValA v).map .a
theorem ofValA_den {v : Value} {x : SA} (h : ofValA v = some x) : denA D ρ w x v := by
 unfold ofValA at h
 split at h
 ·rw [icase_eq] at h
  cases h
  exact ⟨rfl, rfl⟩
 ·cases h
  exact ⟨rfl, rfl⟩
 ·cases h
  exact ⟨rfl, rfl⟩
 ·rename_i cs
  split at h
  ·rename_i hc
   cases h
   exact ⟨cs.toList, rfl, denL_vals _ fun v hv => List.all_eq_true.1 hc v hv⟩
  ·cases h
 ·split at h
  ·rename_i hc
   cases h
   exact ⟨rfl, hc⟩
  ·cases h
theorem ofVals_den : ∀ {vs : List Value} {l : List SA}, ofVals vs = some l → denAs D ρ w l vs
 | [], l, h => by cases h; rfl
 | v :: r, l, h => by
   unfold ofVals at h
   obtain ⟨a, ha, h2⟩ := Option.bind_eq_some_iff.1 h
   obtain ⟨m, hm, rfl⟩ := Option.map_eq_some_iff.1 h2
   exact ⟨v, r, rfl, ofValA_den ha, ofVals_den hm⟩
theorem ofVal_den {v : Value} {x : SV} (h : ofVal v = some x) : denV D ρ w x v := by
 unfold ofVal at h
 split at h
 ·rename_i vs
  obtain ⟨l, hl, rfl⟩ := Option.map_eq_some_iff.1 h
  exact ⟨vs.toList, by simp, ofVals_den hl⟩
 ·obtain ⟨l, hl, rfl⟩ := Option.map_eq_some_iff.1 h
  exact ofValA_den hl
end
end Go.Ex
namespace Go.Proofs.YtcgfdibagldafaaGreatDoor
open Go.RowKit Go.Mono
theorem qof_ok (a b : Int) (h0 : b ≠ 0) (w : World) (a1 : -9223372036854775808 ≤ a) (a2 : a ≤ 9223372036854775807) (b1 : -9223372036854775808 ≤ b) (b2 : b ≤ 9223372036854775807) :
  Calls Tryz.prog 53 #[.int .i64 a, .int .i64 b] w fun e w' => ∃ r, e = .returned (.tuple #[r, .int .i64 0]) ∧ QV w' r (Rat.divInt a b) ∧ Below w.heap.size w w' := by
 go_enter Tryz.func53, Tryz.ntmps53
 go_wp2_with fail
 refine boxes1c fun W hB hs bb => ?_
 refine (lof_ok a W a1 a2).mono ?_
 rintro e W1 ⟨p, k, c, rfl, z1, hb1⟩
 replace hB := belowCall hB hb1
 replace bb := bb.below hb1
 have cbb := bb.cell
 have lbb := bb.lt
 have fbb := bb.frozen
 go_wp2_with fail
 refine (lof_ok b W1 b1 b2).mono ?_
 rintro e W2 ⟨q, l, d, rfl, z2, hb2⟩
 replace hB := belowCall hB hb2
 replace z1 := z1.ext (.of_below hb2)
 replace bb := bb.below hb2
 try clear cbb lbb fbb
 have cbb := bb.cell
 have lbb := bb.lt
 have fbb := bb.frozen
 go_wp2_with fail
 refine (make_ok a b h0 p q k c l d W2 W2 (Ext.refl _) z1 z2).mono ?_
 rintro e W3 ⟨r, rfl, ⟨p7, k7, c7, q7, l7, d7, rfl, z7, y7⟩, hb7⟩
 replace hB := belowCall hB hb7
 replace z1 := z1.ext (.of_below hb7)
 replace bb := bb.below hb7
 try clear cbb lbb fbb
 have cbb := bb.cell
 have lbb := bb.lt
 have fbb := bb.frozen
 go_wp2
 have b3' := ((((bb.set 0 (.bool (decide ((Rat.divInt a b).num < 0)))).set 1 (.slice p7 k7 c7)).set 2 (.bool false)).set 3 (.slice q7 l7 d7)).cell
 have xE : Ext W3 _ := (((((Ext.refl W3).set bb (by decide) 0 (.bool (decide ((Rat.divInt a b).num < 0)))).set (bb.set 0 (.bool (decide ((Rat.divInt a b).num < 0)))) (by decide) 1 (.slice p7 k7 c7))).set ((bb.set 0 (.bool (decide ((Rat.divInt a b).num < 0)))).set 1 (.slice p7 k7 c7)) (by decide) 2 (.bool false)).set (((bb.set 0 (.bool (decide ((Rat.divInt a b).num < 0)))).set 1 (.slice p7 k7 c7)).set 2 (.bool false)) (by decide) 3 (.slice q7 l7 d7)
 refine bodyPost_ret (v := .tuple #[.agg #[.bool (decide ((Rat.divInt a b).num < 0)), .slice p7 k7 c7, .bool false, .slice q7 l7 d7], .int .i64 0]) (by simp [results, Tryz.results53, go_sem, b3']) rfl ⟨_, rfl, ⟨_, _, _, _, _, _, rfl, z7.ext xE, y7.ext xE⟩, ?_⟩
 exact belowSet (belowSet (belowSet (belowSet hB (by omega) _ _) (by omega) _ _) (by omega) _ _) (by omega) _ _
end Go.Proofs.YtcgfdibagldafaaGreatDoor
namespace Go.Ex
open Go.RowKit Go.Mono
section
def pureOf {α : Type} (P : Program) : Sem α → Option α
 | .pure a => some a
 | .program k => pureOf P (k P)
 | .mark _ k => pureOf P k
 | _ => none
theorem pureOf_run {α : Type} {P : Program} : ∀ {s : Sem α} {x : α}, pureOf P s = some x → ∀ w, s.run P w = .ok x w
 | .pure a, x, h, w => by simp only [pureOf, Option.some.injEq] at h; subst h; rfl
 | .program k, x, h, w => by simp only [pureOf] at h; exact pureOf_run h w
 | .mark _ k, x, h, w => by simp only [pureOf] at h; exact pureOf_run h w
def szOf (P : Program) (t : TypeId) : Option Nat := (P.info? t).map (·.size)
def rowT (P : Program) (t : TypeId) : Option Bool := (P.underlying t).map TypeDesc.isRow
section
variable {P : Program} {w : World} {B off : Nat}
theorem run_szOf {t : TypeId} {n : Nat} (h : szOf P t = some n) (w : World) : (sizeOf t).run P w = .ok n w := by
 obtain ⟨i, hi, rfl⟩ := Option.map_eq_some_iff.1 h
 unfold sizeOf typeInfo
 simp [hi]
theorem run_rowT {t : TypeId} {b : Bool} (h : rowT P t = some b) (w : World) : (isAgg t).run P w = .ok b w := by
 obtain ⟨d, hd, rfl⟩ := Option.map_eq_some_iff.1 h
 unfold isAgg
 simp only [Sem.run_bind, run_underlying hd, Result.andThen_ok]
 cases d <;> rfl
theorem run_fieldAt' {s f : Nat} {fs : Array Field} {fl : Field} {n : Nat} (hs : P.underlying s = some (.struct fs)) (hf : fs[f]? = some fl) (hz : szOf P fl.type = some (n + 1)) :
  (Instr.fieldAt s (.pointer (some ⟨B, off, none⟩)) f).run P w = .ok (.pointer (some ⟨B, off + fl.offset, none⟩)) w := by
 unfold Instr.fieldAt
 simp only [Sem.run_bind, run_underlying hs, Result.andThen_ok, hf, Instr.sureAddr, Sem.run_pure, fieldPlace, run_szOf hz]
 simp [Addr.add_mid]
theorem run_indexAt_s {t e len cap : Nat} {k : IntKind} {i : Int} {n : Nat} (hs : P.underlying t = some (.slice e)) (hz : szOf P e = some n) (hi : 0 ≤ i ∧ i < len) :
  (Instr.indexAt t (.slice (some ⟨B, off, none⟩) len cap) (.int k i)).run P w = .ok (.pointer (some ⟨B, off + i.toNat * n, none⟩)) w := by
 unfold Instr.indexAt
 simp only [Sem.run_bind, asIntOf, run_underlying hs, Result.andThen_ok, Sem.run_pure, if_pos hi, run_szOf hz, Addr.add_mid]
theorem run_indexAt_a {t e len : Nat} {k : IntKind} {i : Int} {n : Nat} (hs : P.underlying t = some (.array len e)) (hz : szOf P e = some n) (hi : 0 ≤ i ∧ i < len) :
  (Instr.indexAt t (.pointer (some ⟨B, off, none⟩)) (.int k i)).run P w = .ok (.pointer (some ⟨B, off + i.toNat * n, none⟩)) w := by
 unfold Instr.indexAt
 simp only [Sem.run_bind, asIntOf, run_underlying hs, Result.andThen_ok, Sem.run_pure, Instr.sureAddr, if_pos hi, run_szOf hz, Addr.add_mid]
end
def fieldAddrS (P : Program) (s : TypeId) (x : Option SV) (f : Nat) : Option SV :=
 match x with
 | some (.a (.one (.ptr k off))) => match P.underlying s with
   | some (.struct fs) => match fs[f]? with
     | some fl => match szOf P fl.type with
       | some (_ + 1) => some (.a (.one (.ptr k (off + fl.offset))))
       | _ => none
     | none => none
   | _ => none
 | _ => none
def indexAddrS (P : Program) (t : TypeId) (x ix : Option SV) : Option SV :=
 match x, ix with
 | some (.a (.one (.ptr k off))), some (.a (.one (.val (.int _ i)))) => match P.underlying t with
   | some (.array n e) => match szOf P e with
     | some s => if 0 ≤ i ∧ i < n then some (.a (.one (.ptr k (off + i.toNat * s)))) else none
     | none => none
   | _ => none
 | some (.a (.one (.slc k off len _))), some (.a (.one (.val (.int _ i)))) => match P.underlying t with
   | some (.slice e) => match szOf P e with
     | some s => if 0 ≤ i ∧ i < len then some (.a (.one (.ptr k (off + i.toNat * s)))) else none
     | none => none
   | _ => none
 | some (.a (.one (.sli k off len))), some (.a (.one (.val (.int _ i)))) => match P.underlying t with
   | some (.slice e) => match szOf P e with
     | some s => if 0 ≤ i ∧ i < len then some (.a (.one (.ptr k (off + i.toNat * s)))) else none
     | none => none
   | _ => none
 | some (.a (.one (.own k len _))), some (.a (.one (.val (.int _ i)))) => match P.underlying t with
   | some (.slice e) => match szOf P e with
     | some s => if 0 ≤ i ∧ i < len then some (.a (.one (.ptr k (i.toNat * s)))) else none
     | none => none
   | _ => none
 | some (.a (.one (.slx k off m _))), some (.a (.one (.val (.int _ i)))) => match P.underlying t with
   | some (.slice e) => match szOf P e with
     | some s => if 0 ≤ i ∧ i < m then some (.a (.one (.ptr k (off + i.toNat * s)))) else none
     | none => none
   | _ => none
 | _, _ => none
def partS (P : Program) (t : TypeId) (l : List U) (off : Nat) : Option SV :=
 match rowT P t, szOf P t with
 | some true, some n => (subX l off n).map fun m => .a (.agg m)
 | some false, some _ => match subX l off 1 with
   | some [u] => some (.a (.one u))
   | _ => none
 | _, _ => none
def fieldS (P : Program) (t : TypeId) (x : Option SV) (f : Nat) : Option SV :=
 match x with
 | some (.a (.agg l)) => match P.underlying t with
   | some (.struct fs) => match fs[f]? with
     | some fl => partS P fl.type l fl.offset
     | none => none
   | _ => none
 | _ => none
def indexS (P : Program) (t : TypeId) (x ix : Option SV) : Option SV :=
 match x, ix with
 | some (.a (.agg l)), some (.a (.one (.val (.int _ i)))) => match P.underlying t with
   | some (.array n e) => match szOf P e with
     | some s => if 0 ≤ i ∧ i < n then partS P e l (i.toNat * s) else none
     | none => none
   | _ => none
 | _, _ => none
section
variable {D : Den} {P : Program} {ρ : Nm} {wc w : World}
theorem partS_ok {t : TypeId} {l : List U} {off : Nat} {x : SV} {cs : List Value} (h : partS P t l off = some x) (hl : denL D ρ wc l cs) :
  ∃ v, (part t cs.toArray off).run P w = .ok v w ∧ denV D ρ wc x v := by
 unfold partS at h
 split at h
 ·rename_i n hr hz
  obtain ⟨m, hm, rfl⟩ := Option.map_eq_some_iff.1 h
  obtain ⟨h1, h2⟩ := subX_den hm hl
  refine ⟨.agg ((cs.drop off).take n).toArray, ?_, _, rfl, h1⟩
  unfold part
  simp only [Sem.run_bind, run_rowT hr, Result.andThen_ok, if_true, run_szOf hz, Sem.run_pure]
  congr 2
  apply Array.toList_inj.1
  simp [List.extract_eq_take_drop]
 ·rename_i n hr hz
  split at h
  ·rename_i u hu
   cases h
   obtain ⟨h1, h2⟩ := subX_den hu hl
   obtain ⟨c, d, e, hc, hd⟩ := h1
   obtain rfl : d = [] := hd
   rw [List.append_nil] at e
   rw [e] at h2
   obtain ⟨v, rfl⟩ : ∃ v, c = [v] := List.length_eq_one_iff.1 h2
   refine ⟨v, ?_, hc⟩
   have hv : cs[off]? = some v := by
    have := congrArg (·[0]?) e
    simpa using this
   unfold part
   simp only [Sem.run_bind, run_rowT hr, Result.andThen_ok, Bool.false_eq_true, if_false, List.getElem?_toArray, hv, Sem.run_pure]
  ·cases h
 ·cases h
end
end
end Go.Ex
namespace Go.Mono
open Go.RowKit
def RdF (w : World) (p : Option Addr) (n c : Nat) (f : Nat → Int) : Prop :=
 n ≤ c ∧ n ≤ 140737488351232 ∧ (0 < n → ∃ b off, p = some ⟨b, off, none⟩ ∧ b < w.heap.size ∧ (∀ i, i < n → w.cell? ⟨b, off + i, none⟩ = some (.int .i64 (f i))))
theorem RdF.below {w w' : World} {p : Option Addr} {n c : Nat} {f : Nat → Int} (h : RdF w p n c f) (hB : Below w.heap.size w w') : RdF w' p n c f := by
 obtain ⟨h1, h2, h3⟩ := h
 refine ⟨h1, h2, fun hn => ?_⟩
 obtain ⟨b, off, hp, hb, hc⟩ := h3 hn
 exact ⟨b, off, hp, Nat.lt_of_lt_of_le hb hB.size, fun i hi => (hB.cell hb).trans (hc i hi)⟩
end Go.Mono
namespace Go.Proofs.YtcgfdibagldafaaGreatDoor
open Go.RowKit Go.Mono
theorem between1_ok (z lo hi : Int) (B0 B1 : Nat) (w : World) (b0 : Box w B0 3 #[.int .i64 lo]) (b1 : Box w B1 3 #[.int .i64 hi]) (h1 : lo ≤ z) (h2 : z ≤ hi) :
  Calls Tryz.prog 304 #[.int .i64 z, .pointer (some ⟨B0, 0, none⟩), .pointer (some ⟨B1, 0, none⟩)] w fun e w' => e = .returned (.bool false) ∧ w' = w := by
 have c0 := b0.cell
 have c1 := b1.cell
 have e1 : ¬ (z < lo) := by omega
 have e2 : ¬ (hi < z) := by omega
 go_enter Tryz.func304, Tryz.ntmps304
 go_wp2
 go_ret
 exact ⟨rfl, rfl⟩
theorem index_none (n : Nat) (p : Option Addr) (c : Nat) (f : Nat → Int) (g : Nat) (eg : ∀ args w, (callFunc g args).run Tryz.prog w = .ok (.enter g args) w) (cap : Array Value) (w : World) (h : RdF w p n c f)
  (hf : ∀ i, i < n → Calls Tryz.prog g (#[.int .i64 (f i)] ++ cap) w fun e w' => e = .returned (.bool false) ∧ w' = w) :
  Calls Tryz.prog 321 #[.slice p n c, .func (.func g) #[] cap] w fun e w' => e = .returned (.int .i64 (-1)) ∧ w' = w := by
 obtain ⟨hc1, hn1, hx1⟩ := h
 go_enter Tryz.func321, Tryz.ntmps321
 go_wp2
 go_loopw [8] (fun a wr => ∃ k : Nat, k ≤ n ∧ a = .int .i64 (k : Int) ∧ wr = w) (fun a _ => (n - intOf a).toNat)
 case atStart => exact ⟨0, Nat.zero_le _, rfl, rfl⟩
 case round =>
  obtain ⟨k, hk, rfl, rfl⟩ := hrel
  by_cases h0 : k < n
  ·obtain ⟨b, off, rfl, hb, hcell⟩ := hx1 (by omega)
   have a1 := hcell k (by omega)
   have hfk := hf k h0
   clear hcell hx1 hf
   have h0' : (k : Int) < n := by omega
   go_wp2
   refine hfk.mono ?_
   rintro e w' ⟨rfl, rfl⟩
   go_wp2
   go_roundw
   case rel => refine ⟨k + 1, by omega, ?_⟩; simp
   case measure => simp [intOf]; omega
  ·obtain rfl : k = n := by omega
   go_wp2
   go_ret
   exact ⟨rfl, rfl⟩
theorem contains_none (n : Nat) (p : Option Addr) (c : Nat) (f : Nat → Int) (g : Nat) (eg : ∀ args w, (callFunc g args).run Tryz.prog w = .ok (.enter g args) w) (cap : Array Value) (w : World) (h : RdF w p n c f)
  (hf : ∀ i, i < n → Calls Tryz.prog g (#[.int .i64 (f i)] ++ cap) w fun e w' => e = .returned (.bool false) ∧ w' = w) :
  Calls Tryz.prog 303 #[.slice p n c, .func (.func g) #[] cap] w fun e w' => e = .returned (.bool false) ∧ w' = w := by
 have hi := index_none n p c f g eg cap w h hf
 clear h hf
 go_enter Tryz.func303, Tryz.ntmps303
 go_wp2_with (go_at_call 321; refine hi.mono ?_; rintro e w' ⟨rfl, rfl⟩)
 go_ret
 exact ⟨rfl, rfl⟩
theorem enters_between1 : ∀ args w, (callFunc 304 args).run Tryz.prog w = .ok (.enter 304 args) w := Go.Proofs.enters_of Tryz.func304 (by kernel_rfl) rfl
theorem between_ok (lo hi : Int) (n : Nat) (p : Option Addr) (c : Nat) (f : Nat → Int) (w : World) (h : RdF w p n c f) (h1 : ∀ i, i < n → lo ≤ f i ∧ f i ≤ hi) :
  Calls Tryz.prog 281 #[.int .i64 lo, .int .i64 hi, .slice p n c] w fun e w' => e = .returned (.bool true) ∧ Below w.heap.size w w' := by
 have hmf : ∀ (fn : Fn) (first cap : Array Value) (w : World), (Instr.makeFunc fn first cap).run Tryz.prog w = .ok (.func fn first cap) w := fun _ _ _ _ => rfl
 go_enter Tryz.func281, Tryz.ntmps281
 go_wp2_with fail
 refine boxes2c fun W hB hs b0 b1 => ?_
 replace h := h.below hB
 refine (contains_none n p c f _ enters_between1 _ W h fun i hi => ?_).mono ?_
 ·exact between1_ok _ _ _ _ _ W b0 b1 (h1 i hi).1 (h1 i hi).2
 rintro e W1 ⟨rfl, rfl⟩
 go_wp2
 go_ret
 exact ⟨rfl, hB⟩
theorem about_ok (m : Int) (n : Nat) (p : Option Addr) (c : Nat) (f : Nat → Int) (w : World) (h : RdF w p n c f) (hm0 : 0 ≤ m) (hm1 : m ≤ 1000000000) (h1 : ∀ i, i < n → -m ≤ f i ∧ f i ≤ m) :
  Calls Tryz.prog 285 #[.int .i64 m, .slice p n c] w fun e w' => e = .returned (.bool true) ∧ Below w.heap.size w w' := by
 have hb := between_ok (-m) m n p c f w h h1
 clear h h1
 go_enter Tryz.func285, Tryz.ntmps285
 go_wp2_with (go_at_call 281; refine hb.mono ?_; rintro e w' ⟨rfl, hb⟩)
 go_ret
 exact ⟨rfl, hb⟩
end Go.Proofs.YtcgfdibagldafaaGreatDoor
namespace Go.Ex
open Go.RowKit Go.Mono
section
theorem oneCell_cells {v : Value} (h : v.oneCell' = true) : v.cells = #[v] := by
 cases v <;> first | rfl | simp [Value.oneCell'] at h
def unitsA : SA → List U
 | .one u => [u]
 | .agg l => l
theorem denA_cells {D : Den} {ρ : Nm} {w : World} : ∀ {x : SA} {v : Value}, denA D ρ w x v → denL D ρ w (unitsA x) v.cells.toList
 | .one u, v, h => by
   rw [oneCell_cells (denU.ones h v (by simp))]
   exact ⟨[v], [], rfl, h, rfl⟩
 | .agg l, v, ⟨cs, e, hl⟩ => by rw [e]; exact hl
def fillS (place : Nat → Option (Nat × Nat)) (l : List U) : List (Nat × List U) → Option (List U)
 | [] => some l
 | (i, us) :: r => match place i with
   | none => none
   | some (off, size) => if widths us = size then (putX l off us).bind fun m => fillS place m r else none
theorem foldl_put (off : Nat) : ∀ (vs : List Value) (k : Nat) (cs : Array Value), off + k + vs.length ≤ cs.size →
  (vs.zipIdx k).foldl (fun c (p : Value × Nat) => c.setIfInBounds (off + p.2) p.1) cs = (cs.toList.take (off + k) ++ vs ++ cs.toList.drop (off + k + vs.length)).toArray
 | [], k, cs, h => by simp
 | v :: r, k, cs, h => by
   have hl : off + k + (r.length + 1) ≤ cs.size := by simpa using h
   rw [List.zipIdx_cons, List.foldl_cons, foldl_put off r (k + 1) _ (by simp; omega)]
   apply congrArg
   rw [Array.toList_setIfInBounds, ← Nat.add_assoc]
   have hL : off + k < cs.toList.length := by rw [Array.length_toList]; omega
   rw [List.set_eq_take_append_cons_drop, if_pos hL]
   generalize off + k = m at *
   have e1 : (cs.toList.take m).length = m := by rw [List.length_take]; omega
   have t1 : (cs.toList.take m ++ v :: cs.toList.drop (m + 1)).take (m + 1) = cs.toList.take m ++ [v] := by
    rw [List.take_append, e1, List.take_of_length_le (by omega), show m + 1 - m = 0 + 1 by omega, List.take_succ_cons]
    simp
   have t2 : (cs.toList.take m ++ v :: cs.toList.drop (m + 1)).drop (m + 1 + r.length) = cs.toList.drop (m + (r.length + 1)) := by
    rw [List.drop_append, e1, List.drop_of_length_le (by omega), show m + 1 + r.length - m = r.length + 1 by omega, List.drop_succ_cons, List.drop_drop, List.nil_append]
    congr 1
    omega
   rw [t1, t2]
   simp
section
variable {D : Den} {ρ : Nm} {w : World}
def denParts (D : Den) (ρ : Nm) (w : World) : List (Nat × List U) → List (Nat × Value) → Prop
 | [], vs => vs = []
 | p :: r, vs => ∃ v s, vs = (p.1, v) :: s ∧ denL D ρ w p.2 v.cells.toList ∧ denParts D ρ w r s
theorem fillS_ok (place : Nat → Option (Nat × Nat)) : ∀ {ps : List (Nat × List U)} {l m : List U} {cs : List Value} {vs : List (Nat × Value)}, fillS place l ps = some m → denL D ρ w l cs → denParts D ρ w ps vs →
  ∃ c : Array Value, Instr.fill place cs.toArray vs = some c ∧ denL D ρ w m c.toList
 | [], l, m, cs, vs, h, hl, hp => by
   obtain rfl : vs = [] := hp
   cases h
   exact ⟨_, rfl, hl⟩
 | (i, us) :: r, l, m, cs, vs, h, hl, hp => by
   obtain ⟨v, s, rfl, hv, hs⟩ := hp
   unfold fillS at h
   cases hpl : place i with
   | none => rw [hpl] at h; cases h
   | some os =>
     obtain ⟨off, size⟩ := os
     rw [hpl] at h
     dsimp only at h
     split at h
     ·rename_i hw
      obtain ⟨m', hm', h2⟩ := Option.bind_eq_some_iff.1 h
      obtain ⟨k1, k2⟩ := putX_den hm' hl hv
      have hlen := hv.len
      have hsz : v.cells.size = size := by rw [← hw, ← hlen, Array.length_toList]
      have hk : ¬ (off + v.cells.size > cs.length) := by
       rw [Array.length_toList] at k2
       omega
      obtain ⟨c, hc1, hc2⟩ := fillS_ok place h2 k1 hs
      refine ⟨c, ?_, hc2⟩
      show (match place i with
       | none => none
       | some (off, size) =>
         if v.cells.size ≠ size || off + v.cells.size > cs.toArray.size then none
         else Instr.fill place (v.cells.zipIdx.foldl (fun cs (c, j) => cs.setIfInBounds (off + j) c) cs.toArray) s) = some c
      rw [hpl]
      dsimp only
      rw [if_neg (by simp [hsz]; omega), ← hc1]
      congr 1
      have := foldl_put off v.cells.toList 0 cs.toArray (by simp; rw [Array.length_toList] at k2; omega)
      simp only [Nat.add_zero, List.toList_toArray] at this
      rw [← this, ← Array.foldl_toList]
      simp
     ·cases h
end
def zeroU (P : Program) (t : TypeId) : Option (List U) :=
 match (P.info? t).bind (·.zero) with
 | some z => if z.cells.toList.all (·.oneCell') then some (z.cells.toList.map .val) else none
 | none => none
theorem zeroU_ok {P : Program} {t : TypeId} {l : List U} (h : zeroU P t = some l) (D : Den) (ρ : Nm) (w : World) :
  ∃ i z, P.info? t = some i ∧ i.zero = some z ∧ denL D ρ w l z.cells.toList := by
 unfold zeroU at h
 split at h
 ·rename_i z hz
  obtain ⟨i, hi, hz'⟩ := Option.bind_eq_some_iff.1 hz
  split at h
  ·rename_i ha
   cases h
   exact ⟨i, z, hi, hz', denL_vals _ fun v hv => List.all_eq_true.1 ha v hv⟩
  ·cases h
 ·cases h
def getS (tm : List (Nat × SV)) : Operand → Option SV
 | .tmp t => tm.look t
 | .const v => ofVal v
 | .global g => some (.a (.one (.val (.pointer (some ⟨g, 0, none⟩)))))
 | .func f => some (.a (.one (.clo f [])))
structure TSat (D : Den) (ρ : Nm) (w : World) (n : Nat) (tm : List (Nat × SV)) (a : Act) : Prop where
 size : a.tmps.size = n
 at_ : ∀ t x, tm.look t = some x → ∃ v, a.tmps[t]? = some v ∧ denV D ρ w x v
theorem TSat.get {D : Den} {ρ : Nm} {w : World} {n : Nat} {tm : List (Nat × SV)} {a : Act} (h : TSat D ρ w n tm a) : ∀ {x : Operand} {z : SV}, getS tm x = some z → denV D ρ w z (a.eval x)
 | .tmp t, z, hz => by
   obtain ⟨v, hv, hd⟩ := h.at_ t z hz
   have : a.eval (.tmp t) = v := by
    show a.tmps.getD t undef = v
    simp [Array.getD_eq_getD_getElem?, hv]
   rw [this]
   exact hd
 | .const v, z, hz => ofVal_den hz
 | .global g, z, hz => by cases hz; exact ⟨rfl, rfl⟩
 | .func f, z, hz => by cases hz; exact ⟨[], rfl, rfl⟩
theorem TSat.mono {D : Den} {ρ ρ' : Nm} {w w' : World} {n : Nat} {tm : List (Nat × SV)} {a : Act} (h : TSat D ρ w n tm a) (hr : ρ.le ρ') (hx : Ext w w') : TSat D ρ' w' n tm a :=
 ⟨h.size, fun t x hl => let ⟨v, hv, hd⟩ := h.at_ t x hl; ⟨v, hv, hd.mono hr hx⟩⟩
def partsS (get : Operand → Option SV) : List (Nat × Operand) → Option (List (Nat × List U))
 | [] => some []
 | (i, x) :: r => match get x with
   | some (.a s) => (partsS get r).map ((i, unitsA s) :: ·)
   | _ => none
theorem partsS_ok {D : Den} {ρ : Nm} {w : World} {get : Operand → Option SV} {ev : Operand → Value} (hg : ∀ x z, get x = some z → denV D ρ w z (ev x)) :
  ∀ {l : List (Nat × Operand)} {ps : List (Nat × List U)}, partsS get l = some ps → denParts D ρ w ps (l.map fun (i, x) => (i, ev x))
 | [], ps, h => by cases h; rfl
 | (i, x) :: r, ps, h => by
   unfold partsS at h
   split at h
   ·rename_i s hs
    obtain ⟨q, hq, rfl⟩ := Option.map_eq_some_iff.1 h
    exact ⟨_, _, rfl, denA_cells (hg _ _ hs), partsS_ok hg hq⟩
   ·cases h
def buildS (P : Program) (t : TypeId) (parts : List (Nat × Operand)) (get : Operand → Option SV) : Option SV :=
 match zeroU P t, partsS get parts with
 | some z, some ps => match P.underlying t with
   | some (.array _ e) => match szOf P e with
     | some s => (fillS (fun i => some (i * s, s)) z ps).map fun m => .a (.agg m)
     | none => none
   | some (.struct fields) => match fields.toList.mapM (fun f => (P.info? f.type).map fun i => (f.offset, i.size)) with
     | some places => (fillS (places.toArray[·]?) z ps).map fun m => .a (.agg m)
     | none => none
   | _ => none
 | _, _ => none
theorem buildS_ok {D : Den} {P : Program} {ρ : Nm} {w : World} {get : Operand → Option SV} {ev : Operand → Value} (hg : ∀ x z, get x = some z → denV D ρ w z (ev x))
  {t : TypeId} {parts : Array (Nat × Operand)} {x : SV} (h : buildS P t parts.toList get = some x) (W : World) :
  ∃ v, (Instr.build t (parts.map fun (i, x) => (i, ev x))).run P W = .ok v W ∧ denV D ρ w x v := by
 unfold buildS at h
 split at h
 ·rename_i z ps hz hp
  obtain ⟨it, zv, h1, h2, h3⟩ := zeroU_ok hz D ρ w
  have hps := partsS_ok hg hp
  split at h
  ·rename_i n e hu
   split at h
   ·rename_i s hs
    obtain ⟨m, hm, rfl⟩ := Option.map_eq_some_iff.1 h
    obtain ⟨c, hc1, hc2⟩ := fillS_ok _ hm h3 hps
    obtain ⟨ie, hie, rfl⟩ := Option.map_eq_some_iff.1 hs
    refine ⟨.agg c, run_build W t _ c ?_, c.toList, by simp, hc2⟩
    unfold Program.built
    rw [h1, hu]
    dsimp only
    rw [h2, hie]
    simpa using hc1
   ·cases h
  ·rename_i fields hu
   split at h
   ·rename_i places hpl
    obtain ⟨m, hm, rfl⟩ := Option.map_eq_some_iff.1 h
    obtain ⟨c, hc1, hc2⟩ := fillS_ok _ hm h3 hps
    refine ⟨.agg c, run_build W t _ c ?_, c.toList, by simp, hc2⟩
    unfold Program.built
    rw [h1, hu]
    dsimp only
    rw [h2, hpl]
    simpa using hc1
   ·cases h
  ·cases h
 ·cases h
end
end Go.Ex
namespace Go.Mono
def isLetter (z : Int) : Prop := (65 ≤ z ∧ z ≤ 90) ∨ (97 ≤ z ∧ z ≤ 122) ∨ (48 ≤ z ∧ z ≤ 57) ∨ z = 45 ∨ z = 95
end Go.Mono
namespace Go.Proofs.YtcgfdibagldafaaGreatDoor
open Go.RowKit Go.Mono
theorem letter_ok (z : Int) (h : isLetter z) (w : World) :
  Calls Tryz.prog 267 #[.int .u8 z] w fun e w' => e = .returned (.bool true) ∧ w' = w := by
 rcases h with ⟨h1, h2⟩ | ⟨h1, h2⟩ | ⟨h1, h2⟩ | rfl | rfl
 ·go_enter Tryz.func267, Tryz.ntmps267
  go_wp2
  go_ret
  exact ⟨rfl, rfl⟩
 ·have h3 : 65 ≤ z := by omega
  have h4 : ¬ (z ≤ 90) := by omega
  go_enter Tryz.func267, Tryz.ntmps267
  go_wp2
  go_ret
  exact ⟨rfl, rfl⟩
 ·have h3 : ¬ (65 ≤ z) := by omega
  have h4 : ¬ (97 ≤ z) := by omega
  go_enter Tryz.func267, Tryz.ntmps267
  go_wp2
  go_ret
  exact ⟨rfl, rfl⟩
 ·go_enter Tryz.func267, Tryz.ntmps267
  go_wp2
  go_ret
  exact ⟨rfl, rfl⟩
 ·go_enter Tryz.func267, Tryz.ntmps267
  go_wp2
  go_ret
  exact ⟨rfl, rfl⟩
theorem name_ok (s : ByteArray) (h0 : 1 ≤ s.size) (h1 : s.size ≤ 16) (hl : ∀ i (hi : i < s.size), isLetter (s[i].toNat : Int)) (w : World) :
  Calls Tryz.prog 241 #[.string s] w fun e w' => e = .returned (.bool true) ∧ w' = w := by
 go_enter Tryz.func241, Tryz.ntmps241
 go_wp2
 go_loopw [6] (fun a wr => ∃ k : Nat, k ≤ s.size ∧ a = .int .i64 (k : Int) ∧ wr = w) (fun a _ => (s.size - intOf a).toNat)
 case atStart => exact ⟨0, Nat.zero_le _, rfl, rfl⟩
 case round =>
  obtain ⟨k, hk, rfl, rfl⟩ := hrel
  by_cases hks : k < s.size
  ·have hlk := letter_ok _ (hl k hks) wr
   have h0' : (k : Int) < s.size := by omega
   have hg : s.data[k]? = some s[k] := by
    rw [Array.getElem?_eq_getElem (by exact hks)]; rfl
   clear hl
   go_wp2_with (go_at_call 267; refine hlk.mono ?_; rintro e w' ⟨rfl, rfl⟩)
   go_roundw
   case rel => refine ⟨k + 1, by omega, ?_⟩; simp
   case measure => simp [intOf]; omega
  ·obtain rfl : k = s.size := by omega
   have h0' : (1 : Int) ≤ s.size := by omega
   have h1' : (s.size : Int) ≤ 16 := by omega
   go_wp2
   go_ret
   exact ⟨rfl, rfl⟩
end Go.Proofs.YtcgfdibagldafaaGreatDoor
