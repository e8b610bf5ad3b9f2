/- A verified evaluator of the model, and the references of layer 40 by it. Part 1 of 8. No condition beside the row. -/
import Derived.Test.YtdgodcgdlfjpaaaGreatDoorA01
import Derived.Test.YtdgodcgdlfjpaaaGreatDoorA02
import Derived.Test.YtdgodcgdlfjpaaaGreatDoorA03
import Derived.Test.YtdgodcgdlfjpaaaGreatDoorA34
import Derived.Test.YtdgodcgdlfjpaaaGreatDoorA37
set_option linter.unusedVariables false
set_option linter.unusedSimpArgs false
set_option maxRecDepth 100000
set_option maxHeartbeats 4000000
namespace Go.Ev
open Go.RowKit Go.Mono
section
inductive U where
 | val (v : Value)
 | raw (n : Nat) (cs : List Value)
 | ptr (k off : Nat)
 | slc (k off len cap : Nat)
 | clo (f : FuncId) (caps : List (Nat × Nat))
 | quo (q : Rat)
 | sym (z : Int)
 | tst (b : Bool)
 | sli (k off len : Nat)
 | emp
def U.w : U → Nat
 | .quo _ => 4
 | .raw n _ => n
 | _ => 1
inductive SA where
 | one (u : U)
 | agg (l : List U)
inductive SV where
 | a (x : SA)
 | tup (l : List SA)
 | no
structure Blk where
 T : TypeId
 cells : List U
 ro : Bool
structure Den where
 R : World → Rat → List Value → Prop
 ext : ∀ {w w' : World} {q : Rat} {cs : List Value}, R w q cs → Ext w w' → R w' q cs
 len : ∀ {w : World} {q : Rat} {cs : List Value}, R w q cs → cs.length = 4
 one : ∀ {w : World} {q : Rat} {cs : List Value}, R w q cs → ∀ v ∈ cs, v.oneCell' = true
structure Pl where
 blk : Nat
 base : Nat
 ro : Bool
abbrev Nm := Nat → Option Pl
def Nm.le (ρ ρ' : Nm) : Prop := ∀ k B, ρ k = some B → ρ' k = some B
theorem Nm.le.refl (ρ : Nm) : ρ.le ρ := fun _ _ h => h
theorem Nm.le.trans {a b c : Nm} (h : a.le b) (g : b.le c) : a.le c := fun k B hk => g k B (h k B hk)
section
variable (D : Den) (ρ : Nm) (w : World)
def adrs : List (Nat × Nat) → List Value → Prop
 | [], vs => vs = []
 | p :: r, vs => ∃ B v', ρ p.1 = some B ∧ vs = .pointer (some ⟨B.blk, B.base + p.2, none⟩) :: v' ∧ adrs r v'
def denU : U → List Value → Prop
 | .val v, cs => cs = [v] ∧ v.oneCell' = true
 | .raw n c, cs => cs = c ∧ c.length = n ∧ ∀ v ∈ c, v.oneCell' = true
 | .ptr k o, cs => ∃ B, ρ k = some B ∧ cs = [.pointer (some ⟨B.blk, B.base + o, none⟩)]
 | .slc k o n c, cs => ∃ B, ρ k = some B ∧ cs = [.slice (some ⟨B.blk, B.base + o, none⟩) n c]
 | .clo f caps, cs => ∃ vs, adrs ρ caps vs ∧ cs = [.func (.func f) #[] vs.toArray]
 | .quo q, cs => D.R w q cs
 | .sym z, cs => cs = [.int .i64 z]
 | .tst b, cs => cs = [.bool b]
 | .emp, cs => ∃ p c, (p = none → c = 0) ∧ cs = [.slice p 0 c]
 | .sli k o n, cs => ∃ B c, ρ k = some B ∧ n ≤ c ∧ cs = [.slice (some ⟨B.blk, B.base + o, none⟩) n c]
def denL : List U → List Value → Prop
 | [], cs => cs = []
 | u :: l, cs => ∃ c d, cs = c ++ d ∧ denU D ρ w u c ∧ denL l d
def denA : SA → Value → Prop
 | .one u, v => denU D ρ w u [v]
 | .agg l, v => ∃ cs : List Value, v = .agg cs.toArray ∧ denL D ρ w l cs
def denAs : List SA → List Value → Prop
 | [], vs => vs = []
 | x :: l, vs => ∃ v r, vs = v :: r ∧ denA D ρ w x v ∧ denAs l r
def denV : SV → Value → Prop
 | .a x, v => denA D ρ w x v
 | .tup l, v => ∃ vs : List Value, v = .tuple vs.toArray ∧ denAs D ρ w l vs
 | .no, _ => True
end
section
variable {D : Den} {ρ ρ' : Nm} {w w' : World}
theorem adrs.mono (h : ρ.le ρ') : ∀ {l : List (Nat × Nat)} {vs : List Value}, adrs ρ l vs → adrs ρ' l vs
 | [], _, e => e
 | p :: r, vs, ⟨B, v', hB, e, hr⟩ => ⟨B, v', h _ _ hB, e, adrs.mono h hr⟩
theorem adrs.one : ∀ {l : List (Nat × Nat)} {vs : List Value}, adrs ρ l vs → vs.length = l.length
 | [], _, e => by rw [show _ = [] from e]; rfl
 | p :: r, vs, ⟨B, v', hB, e, hr⟩ => by rw [e, List.length_cons, adrs.one hr]; rfl
theorem denU.mono (h : ρ.le ρ') (hx : Ext w w') : ∀ {u : U} {cs : List Value}, denU D ρ w u cs → denU D ρ' w' u cs
 | .val _, _, e => e
 | .raw _ _, _, e => e
 | .ptr _ _, _, ⟨B, hB, e⟩ => ⟨B, h _ _ hB, e⟩
 | .slc _ _ _ _, _, ⟨B, hB, e⟩ => ⟨B, h _ _ hB, e⟩
 | .clo _ _, _, ⟨vs, hv, e⟩ => ⟨vs, hv.mono h, e⟩
 | .quo _, _, e => D.ext e hx
 | .sym _, _, e => e
 | .tst _, _, e => e
 | .sli _ _ _, _, ⟨B, c, hB, hc, e⟩ => ⟨B, c, h _ _ hB, hc, e⟩
 | .emp, _, e => e
theorem denL.mono (h : ρ.le ρ') (hx : Ext w w') : ∀ {l : List U} {cs : List Value}, denL D ρ w l cs → denL D ρ' w' l cs
 | [], _, e => e
 | u :: l, _, ⟨c, d, e, hc, hd⟩ => ⟨c, d, e, hc.mono h hx, denL.mono h hx hd⟩
theorem denA.mono (h : ρ.le ρ') (hx : Ext w w') : ∀ {x : SA} {v : Value}, denA D ρ w x v → denA D ρ' w' x v
 | .one _, _, e => denU.mono h hx e
 | .agg _, _, ⟨cs, e, hl⟩ => ⟨cs, e, hl.mono h hx⟩
theorem denAs.mono (h : ρ.le ρ') (hx : Ext w w') : ∀ {l : List SA} {vs : List Value}, denAs D ρ w l vs → denAs D ρ' w' l vs
 | [], _, e => e
 | x :: l, _, ⟨v, r, e, hv, hr⟩ => ⟨v, r, e, hv.mono h hx, denAs.mono h hx hr⟩
theorem denV.mono (h : ρ.le ρ') (hx : Ext w w') : ∀ {x : SV} {v : Value}, denV D ρ w x v → denV D ρ' w' x v
 | .a _, _, e => denA.mono h hx e
 | .tup _, _, ⟨vs, e, hl⟩ => ⟨vs, e, hl.mono h hx⟩
 | .no, _, _ => trivial
def widths (l : List U) : Nat := l.foldr (fun u n => u.w + n) 0
theorem denU.len : ∀ {u : U} {cs : List Value}, denU D ρ w u cs → cs.length = u.w
 | .val _, _, ⟨e, _⟩ => by rw [e]; rfl
 | .raw _ _, _, ⟨e, hn, _⟩ => by rw [e]; exact hn
 | .ptr _ _, _, ⟨B, hB, e⟩ => by rw [e]; rfl
 | .slc _ _ _ _, _, ⟨B, hB, e⟩ => by rw [e]; rfl
 | .clo _ _, _, ⟨vs, hv, e⟩ => by rw [e]; rfl
 | .quo _, _, e => D.len e
 | .sym _, _, e => by rw [show _ = _ from e]; rfl
 | .tst _, _, e => by rw [show _ = _ from e]; rfl
 | .sli _ _ _, _, ⟨B, c, hB, hc, e⟩ => by rw [e]; rfl
 | .emp, _, ⟨p, c, hp, e⟩ => by rw [e]; rfl
theorem denU.ones : ∀ {u : U} {cs : List Value}, denU D ρ w u cs → ∀ v ∈ cs, v.oneCell' = true
 | .val _, _, ⟨e, h⟩ => by rw [e]; simpa using h
 | .raw _ _, _, ⟨e, hn, h⟩ => by rw [e]; exact h
 | .ptr _ _, _, ⟨B, hB, e⟩ => by rw [e]; simp [Value.oneCell']
 | .slc _ _ _ _, _, ⟨B, hB, e⟩ => by rw [e]; simp [Value.oneCell']
 | .clo _ _, _, ⟨vs, hv, e⟩ => by rw [e]; simp [Value.oneCell']
 | .quo _, _, e => D.one e
 | .sym _, _, e => by rw [show _ = _ from e]; simp [Value.oneCell']
 | .tst _, _, e => by rw [show _ = _ from e]; simp [Value.oneCell']
 | .sli _ _ _, _, ⟨B, c, hB, hc, e⟩ => by rw [e]; simp [Value.oneCell']
 | .emp, _, ⟨p, c, hp, e⟩ => by rw [e]; simp [Value.oneCell']
theorem denL.len : ∀ {l : List U} {cs : List Value}, denL D ρ w l cs → cs.length = widths l
 | [], _, e => by rw [show _ = [] from e]; rfl
 | u :: l, _, ⟨c, d, e, hc, hd⟩ => by rw [e, List.length_append, hc.len, denL.len hd]; rfl
theorem denL.ones : ∀ {l : List U} {cs : List Value}, denL D ρ w l cs → ∀ v ∈ cs, v.oneCell' = true
 | [], _, e => by rw [show _ = [] from e]; simp
 | u :: l, _, ⟨c, d, e, hc, hd⟩ => by
   rw [e]
   intro v hv
   rcases List.mem_append.1 hv with h | h
   ·exact hc.ones v h
   ·exact denL.ones hd v h
theorem denL.append : ∀ {l m : List U} {cs ds : List Value}, denL D ρ w l cs → denL D ρ w m ds → denL D ρ w (l ++ m) (cs ++ ds)
 | [], m, cs, ds, e, hm => by rw [show cs = [] from e]; exact hm
 | u :: l, m, _, ds, ⟨c, d, e, hc, hd⟩, hm => ⟨c, d ++ ds, by rw [e, List.append_assoc], hc, denL.append hd hm⟩
def takeU : List U → Nat → Option (List U)
 | _, 0 => some []
 | [], _ + 1 => none
 | u :: l, n + 1 => if u.w = 0 then none else if u.w ≤ n + 1 then (takeU l (n + 1 - u.w)).map (u :: ·) else none
def dropU : List U → Nat → Option (List U)
 | l, 0 => some l
 | [], _ + 1 => none
 | u :: l, n + 1 => if u.w = 0 then none else if u.w ≤ n + 1 then dropU l (n + 1 - u.w) else none
def subU (l : List U) (off n : Nat) : Option (List U) := (dropU l off).bind fun m => takeU m n
def putU (l : List U) (off : Nat) (us : List U) : Option (List U) :=
 (takeU l off).bind fun a => (dropU l (off + widths us)).map fun b => a ++ (us ++ b)
theorem takeU_den : ∀ {l : List U} {n : Nat} {m : List U} {cs : List Value}, takeU l n = some m → denL D ρ w l cs → denL D ρ w m (cs.take n) ∧ (cs.take n).length = n
 | l, 0, m, cs, h, hd => by
   have : m = [] := by cases l <;> (simp only [takeU, Option.some.injEq] at h; exact h.symm)
   subst this
   exact ⟨by simp [denL], by simp⟩
 | [], n + 1, m, cs, h, hd => by simp [takeU] at h
 | u :: l, n + 1, m, cs, h, hd => by
   simp only [takeU] at h
   split at h
   ·cases h
   ·rename_i h0
    split at h
    ·rename_i hw
     obtain ⟨m', hm, rfl⟩ := Option.map_eq_some_iff.1 h
     obtain ⟨c, d, rfl, hc, hd'⟩ := hd
     have hl := hc.len
     obtain ⟨h1, h2⟩ := takeU_den hm hd'
     have e : (c ++ d).take (n + 1) = c ++ d.take (n + 1 - u.w) := by
      rw [List.take_append, hl, List.take_of_length_le (by omega)]
     rw [e]
     exact ⟨⟨c, _, rfl, hc, h1⟩, by rw [List.length_append, h2, hl]; omega⟩
    ·cases h
theorem dropU_den : ∀ {l : List U} {n : Nat} {m : List U} {cs : List Value}, dropU l n = some m → denL D ρ w l cs → denL D ρ w m (cs.drop n) ∧ n ≤ cs.length
 | l, 0, m, cs, h, hd => by
   have : m = l := by cases l <;> (simp only [dropU, Option.some.injEq] at h; exact h.symm)
   subst this
   exact ⟨by simpa using hd, by simp⟩
 | [], n + 1, m, cs, h, hd => by simp [dropU] at h
 | u :: l, n + 1, m, cs, h, hd => by
   simp only [dropU] at h
   split at h
   ·cases h
   ·split at h
    ·rename_i h0 hw
     obtain ⟨c, d, rfl, hc, hd'⟩ := hd
     have hl := hc.len
     obtain ⟨h1, h2⟩ := dropU_den h hd'
     have e : (c ++ d).drop (n + 1) = d.drop (n + 1 - u.w) := by
      rw [List.drop_append, hl, List.drop_of_length_le (by omega), List.nil_append]
     rw [e]
     exact ⟨h1, by rw [List.length_append, hl]; omega⟩
    ·cases h
theorem subU_den {l : List U} {off n : Nat} {m : List U} {cs : List Value} (h : subU l off n = some m) (hd : denL D ρ w l cs) : denL D ρ w m ((cs.drop off).take n) ∧ ((cs.drop off).take n).length = n := by
 unfold subU at h
 obtain ⟨m', h1, h2⟩ := Option.bind_eq_some_iff.1 h
 exact takeU_den h2 (dropU_den h1 hd).1
theorem putU_den {l : List U} {off : Nat} {us m : List U} {cs ps : List Value} (h : putU l off us = some m) (hd : denL D ρ w l cs) (hp : denL D ρ w us ps) :
  denL D ρ w m (cs.take off ++ ps ++ cs.drop (off + ps.length)) ∧ off + ps.length ≤ cs.length := by
 unfold putU at h
 obtain ⟨a, h1, h2⟩ := Option.bind_eq_some_iff.1 h
 obtain ⟨b, h3, rfl⟩ := Option.map_eq_some_iff.1 h2
 rw [← hp.len] at h3
 obtain ⟨k1, k2⟩ := dropU_den h3 hd
 exact ⟨by rw [List.append_assoc]; exact (takeU_den h1 hd).1.append (hp.append k1), k2⟩
theorem denL_vals : ∀ (vs : List Value), (∀ v ∈ vs, v.oneCell' = true) → denL D ρ w (vs.map .val) vs
 | [], _ => rfl
 | v :: r, h => ⟨[v], r, rfl, ⟨rfl, h v (List.mem_cons_self ..)⟩, denL_vals r fun u hu => h u (List.mem_cons_of_mem _ hu)⟩
def realU : U → Option (List Value)
 | .val v => some [v]
 | .raw _ cs => some cs
 | .sym z => some [.int .i64 z]
 | .tst b => some [.bool b]
 | _ => none
def realL : List U → Option (List Value)
 | [] => some []
 | u :: l => (realU u).bind fun a => (realL l).map (a ++ ·)
def realA : SA → Option Value
 | .one (.val v) => some v
 | .one (.sym z) => some (.int .i64 z)
 | .one (.tst b) => some (.bool b)
 | .one _ => none
 | .agg l => (realL l).map fun cs => .agg cs.toArray
def realAs : List SA → Option (List Value)
 | [] => some []
 | x :: l => (realA x).bind fun a => (realAs l).map (a :: ·)
def realV : SV → Option Value
 | .a x => realA x
 | .tup l => (realAs l).map fun vs => .tuple vs.toArray
 | .no => none
theorem realU_den : ∀ {u : U} {a cs : List Value}, realU u = some a → denU D ρ w u cs → cs = a
 | .val v, a, cs, h, ⟨e, _⟩ => by cases h; exact e
 | .raw _ _, a, cs, h, ⟨e, _⟩ => by cases h; exact e
 | .sym _, a, cs, h, e => by cases h; exact e
 | .tst _, a, cs, h, e => by cases h; exact e
theorem realL_den : ∀ {l : List U} {a cs : List Value}, realL l = some a → denL D ρ w l cs → cs = a
 | [], a, cs, h, e => by cases h; exact e
 | u :: l, a, cs, h, ⟨c, d, e, hc, hd⟩ => by
   unfold realL at h
   obtain ⟨x, hx, h2⟩ := Option.bind_eq_some_iff.1 h
   obtain ⟨y, hy, rfl⟩ := Option.map_eq_some_iff.1 h2
   rw [e, realU_den hx hc, realL_den hy hd]
theorem realA_den : ∀ {x : SA} {a v : Value}, realA x = some a → denA D ρ w x v → v = a
 | .one (.val u), a, v, h, e => by
   cases h
   have := e.1
   simpa using this
 | .one (.sym z), a, v, h, e => by
   cases h
   simpa [denA, denU] using e
 | .one (.tst z), a, v, h, e => by
   cases h
   simpa [denA, denU] using e
 | .agg l, a, v, h, ⟨cs, e, hl⟩ => by
   unfold realA at h
   obtain ⟨y, hy, rfl⟩ := Option.map_eq_some_iff.1 h
   rw [e, realL_den hy hl]
theorem realAs_den : ∀ {l : List SA} {a vs : List Value}, realAs l = some a → denAs D ρ w l vs → vs = a
 | [], a, cs, h, e => by cases h; exact e
 | x :: l, a, cs, h, ⟨v, r, e, hv, hr⟩ => by
   unfold realAs at h
   obtain ⟨y, hy, h2⟩ := Option.bind_eq_some_iff.1 h
   obtain ⟨z, hz, rfl⟩ := Option.map_eq_some_iff.1 h2
   rw [e, realA_den hy hv, realAs_den hz hr]
theorem realV_den : ∀ {x : SV} {a v : Value}, realV x = some a → denV D ρ w x v → v = a
 | .a x, a, v, h, e => realA_den h e
 | .tup l, a, v, h, ⟨vs, e, hl⟩ => by
   unfold realV at h
   obtain ⟨y, hy, rfl⟩ := Option.map_eq_some_iff.1 h
   rw [e, realAs_den hy hl]
def ofVal : Value → Option SV
 | .agg cs => if cs.toList.all (·.oneCell') then some (.a (.agg (cs.toList.map .val))) else none
 | v => if v.oneCell' then some (.a (.one (.val v))) else none
theorem ofVal_den {v : Value} {x : SV} (h : ofVal v = some x) : denV D ρ w x v := by
 unfold ofVal at h
 split at h
 ·rename_i cs
  split at h
  ·rename_i hc
   cases h
   exact ⟨cs.toList, rfl, denL_vals _ fun v hv => List.all_eq_true.1 hc v hv⟩
  ·cases h
 ·split at h
  ·rename_i hc
   cases h
   exact ⟨rfl, hc⟩
  ·cases h
end
end
end Go.Ev
namespace Go.Mono
open Go.RowKit
section
theorem OwnF.lower {w : World} {base base' : Nat} {v : Value} {n : Nat} {f : Nat → Int} (h : OwnF w base v n f) (hb : base' ≤ base) : OwnF w base' v n f := by
 obtain ⟨hl, h | ⟨g, cap, cur, hv, hb', hh, hr⟩⟩ := h
 ·exact ⟨hl, .inl h⟩
 ·exact ⟨hl, .inr ⟨g, cap, cur, hv, Nat.le_trans hb hb', hh, hr⟩⟩
theorem wp_push_int {P : Program} {w : World} {o : Oper} {a : Act} {K : Act → World → Prop} {Q : Exit → Act → World → Prop} (s x : Operand) (t : TypeId) (ho : o.op = .call { callee := .builtin .append, args := #[s, x], argTypes := #[t, t] })
  (h1 : P.underlying t = some (.slice 3)) (h2 : (P.info? 3).map (fun i => (i.zero, i.size, i.bytes)) = some (some (.int .i64 0), 1, 8))
  (base : Nat) (v : Value) (n : Nat) (f : Nat → Int) (hs : a.eval s = v) (hown : OwnF w base v n f) (B : Nat) (y : Int) (hx : a.eval x = .slice (some ⟨B, 0, none⟩) 1 1) (hb : Box w B 3 #[.int .i64 y]) (hn : n ≤ 1000000) (hbase : base ≤ w.heap.size)
  (h : ∀ v' w', OwnF w' base v' (n + 1) (fun i => if i < n then f i else y) → w.grownBy w' v.ownBlock → K (a.put o.dst v') w') : o.wp P a w K Q := by
 obtain ⟨i, hi, hz, hs1, hb1⟩ := info_parts h2
 refine wp_append_own w s x t ho base 3 i (.int .i64 0) 1 8 h1 hi hz hs1 hb1 rfl (by decide) v n _ hs hown ⟨B, 0, none⟩ 1 1 [.int .i64 y] hx rfl ?_ (by simp [Value.oneCell']) (by simp [maxLen]; omega) (by omega) hbase ?_
 ·intro j u hj
  match j, hj with
  | 0, hj =>
    have := hb.cell 0
    simp at hj
    subst hj
    simpa [Addr.add] using this
  | j + 1, hj => simp at hj
 ·intro v' w' h3 h4 _
  refine h v' w' ?_ h4
  have e : (List.range n).map (fun i => Value.int .i64 (f i)) ++ [.int .i64 y] = (List.range (n + 1)).map fun i => .int .i64 (if i < n then f i else y) := by
   rw [List.range_succ, List.map_append]
   congr 1
   ·exact List.map_congr_left fun i hi => by rw [if_pos (List.mem_range.1 hi)]
   ·simp
  unfold OwnF
  rw [← e]
  exact h3
section
variable {P : Program} {ops : Array Oper} {Q : Exit → Act → World → Prop} {md : Region.Mode} {S : World → Prop}
theorem wpAnyH_storeK (B : Nat) (T : TypeId) (i : Nat) {o : Oper} (hi : ops[i]? = some o) (hg : o.guard = none) (hd : o.dst = none) {ty : TypeId} {x y : Operand} (ho : o.op = .store ty x y) (off : Nat) (cells cs new : Array Value) {a : Act} {fuel : Nat} {listed : Array Bool} {w : World}
  (hr : Region.ready md ops listed = [i]) (hS : ∀ w i u, S w → S (w.setCell ⟨B, i, none⟩ u)) (hx : a.eval x = .pointer (some ⟨B, off, none⟩)) (hy : a.eval y = .agg cells)
  (hb : Box w B T cs) (hs : S w) (hi2 : (P.info? ty).map (·.size) = some cells.size) (hoff : off + cells.size ≤ cs.size) (h1 : cells.all (·.oneCell') = true)
  (hn : cs.toList.take off ++ cells.toList ++ cs.toList.drop (off + cells.size) = new.toList)
  (h : ∀ w', KeepBut B w.heap.size w w' → Box w' B T new → S w' → wpAnyH P md ops Q S fuel (listed.setIfInBounds i true) a w') : wpAnyH P md ops Q S (fuel + 1) listed a w := by
 refine wpAnyH_all hr (by simp) fun j hj => ?_
 obtain rfl : j = i := by simpa using hj
 unfold wpOp
 rw [hi]
 have hw : Region.wanted o (yielded ops a.tmps) = true := by simp [Region.wanted, hg]
 simp only [hw, if_true]
 left
 have hb2 := Box.setCells cells.toList off w cs hb (by simpa using hoff)
 have hb3 : Box (w.setCells B off cells.toList) B T new := by simpa [hn] using hb2
 have hs2 := setCells_keeps hS cells.toList off w hs
 refine wp_store_mid ty x y ho B off cells hx hy (hb.there off cells.size hoff) hi2 h1 ?_
 rw [hd]
 exact ⟨hs2, h _ ((KeepBut.refl _ _).setCells _ _ _) hb3 hs2⟩
end
end
def xt (f : Nat → Int) (n : Nat) : Nat → Int := fun i => if i < n then f i else 0
theorem xt_lt {f : Nat → Int} {n i : Nat} (h : i < n) : xt f n i = f i := if_pos h
theorem xt_ge {f : Nat → Int} {n i : Nat} (h : n ≤ i) : xt f n i = 0 := if_neg (by omega)
theorem xt_lo {f : Nat → Int} {n : Nat} (h : ∀ i, i < n → 0 ≤ f i) (i : Nat) : 0 ≤ xt f n i := by
 by_cases hi : i < n
 ·rw [xt_lt hi]; exact h i hi
 ·rw [xt_ge (by omega)]; exact Int.le_refl _
theorem xt_hi {f : Nat → Int} {n : Nat} (h : ∀ i, i < n → f i < 1000000000) (i : Nat) : xt f n i < 1000000000 := by
 by_cases hi : i < n
 ·rw [xt_lt hi]; exact h i hi
 ·rw [xt_ge (by omega)]; decide
theorem vf_xt {f : Nat → Int} {n i : Nat} (h : n ≤ i) : vf (xt f n) i = vf f n := by
 obtain ⟨d, rfl⟩ := Nat.exists_eq_add_of_le h
 rw [vf_split, vf_congr (f := xt f n) (g := f) (k := n) (fun i hi => xt_lt hi), vf_zero (f := fun j => xt f n (n + j)) (fun i _ => xt_ge (by omega))]
 simp
theorem vf_put (h : Nat → Int) (i : Nat) (x : Int) : vf (fun j => if j = i then x else h j) (i + 1) = vf h i + x * pw i := by
 rw [vf_succ, vf_congr (g := h) (fun j hj => if_neg (by omega)), if_pos rfl]
theorem carry_eq (n p : Int) : n % 1000000000 * p + n / 1000000000 * (p * 1000000000) = n * p := by
 have h : n = n % 1000000000 + 1000000000 * (n / 1000000000) := (Int.emod_add_mul_ediv n 1000000000).symm
 generalize n % 1000000000 = r at *
 generalize n / 1000000000 = q at *
 subst h
 grind
/-! ### sums -/
structure SumI (X Y : Nat → Int) (i : Nat) (h : Nat → Int) (c : Int) : Prop where
 lo : ∀ j, j < i → 0 ≤ h j
 hi : ∀ j, j < i → h j < 1000000000
 eq : vf h i + c * pw i = vf X i + vf Y i
 c0 : 0 ≤ c
 c1 : c ≤ 1
theorem SumI.start (X Y h : Nat → Int) : SumI X Y 0 h 0 := ⟨fun j hj => by omega, fun j hj => by omega, by simp [vf], by decide, by decide⟩
theorem SumI.next {X Y h : Nat → Int} {i : Nat} {c : Int} (H : SumI X Y i h c) (x0 : 0 ≤ X i) (x1 : X i < 1000000000) (y0 : 0 ≤ Y i) (y1 : Y i < 1000000000) :
  SumI X Y (i + 1) (fun j => if j = i then (X i + Y i + c) % 1000000000 else h j) ((X i + Y i + c) / 1000000000) := by
 have h1 := H.c0
 have h2 := H.c1
 refine ⟨fun j hj => ?_, fun j hj => ?_, ?_, by omega, by omega⟩
 ·split
  ·omega
  ·exact H.lo j (by omega)
 ·split
  ·omega
  ·exact H.hi j (by omega)
 ·rw [vf_put, vf_succ, vf_succ, pw_succ]
  have h3 := H.eq
  have h4 := carry_eq (X i + Y i + c) (pw i)
  grind
theorem SumI.done {f g h : Nat → Int} {n m i : Nat} (H : SumI (xt f n) (xt g m) i h 0) (hn : n ≤ i) (hm : m ≤ i) : vf h i = vf f n + vf g m := by
 have := H.eq
 rw [vf_xt hn, vf_xt hm] at this
 omega
theorem SumI.len {f g h : Nat → Int} {n m i : Nat} {c : Int} (H : SumI (xt f n) (xt g m) i h c) (hf : ∀ i, i < n → f i < 1000000000) (hg : ∀ i, i < m → g i < 1000000000) (hn : n ≤ i) (hm : m ≤ i) (hc : 0 < c) : i = max n m := by
 have h1 := H.eq
 have h0 := vf_nonneg H.lo
 rw [vf_xt hn, vf_xt hm] at h1
 have h2 := vf_lt hf
 have h3 := vf_lt hg
 have h4 := pw_mono (show n ≤ max n m by omega)
 have h5 := pw_mono (show m ≤ max n m by omega)
 have h6 : 1 * pw i ≤ c * pw i := Int.mul_le_mul_of_nonneg_right (by omega) (Int.le_of_lt (pw_pos i))
 by_cases hi : max n m < i
 ·have h7 := pw_mono (show max n m + 1 ≤ i by omega)
  rw [pw_succ] at h7
  have := pw_pos (max n m)
  omega
 ·omega
/-! ### differences -/
structure DifI (X Y : Nat → Int) (i : Nat) (h : Nat → Int) (c : Int) : Prop where
 lo : ∀ j, j < i → 0 ≤ h j
 hi : ∀ j, j < i → h j < 1000000000
 eq : vf h i = vf X i - vf Y i + c * pw i
 c0 : 0 ≤ c
 c1 : c ≤ 1
theorem DifI.start (X Y h : Nat → Int) : DifI X Y 0 h 0 := ⟨fun j hj => by omega, fun j hj => by omega, by simp [vf], by decide, by decide⟩
theorem DifI.below {X Y h : Nat → Int} {i : Nat} {c : Int} (H : DifI X Y i h c) (x0 : 0 ≤ X i) (y1 : Y i < 1000000000) (hn : X i - Y i - c < 0) :
  DifI X Y (i + 1) (fun j => if j = i then X i - Y i - c + 1000000000 else h j) 1 := by
 have h1 := H.c0
 have h2 := H.c1
 refine ⟨fun j hj => ?_, fun j hj => ?_, ?_, by decide, by decide⟩
 ·split
  ·omega
  ·exact H.lo j (by omega)
 ·split
  ·omega
  ·exact H.hi j (by omega)
 ·rw [vf_put, vf_succ, vf_succ, pw_succ]
  have h3 := H.eq
  grind
theorem DifI.above {X Y h : Nat → Int} {i : Nat} {c : Int} (H : DifI X Y i h c) (x1 : X i < 1000000000) (y0 : 0 ≤ Y i) (hn : ¬ X i - Y i - c < 0) :
  DifI X Y (i + 1) (fun j => if j = i then X i - Y i - c else h j) 0 := by
 have h1 := H.c0
 have h2 := H.c1
 refine ⟨fun j hj => ?_, fun j hj => ?_, ?_, by decide, by decide⟩
 ·split
  ·omega
  ·exact H.lo j (by omega)
 ·split
  ·omega
  ·exact H.hi j (by omega)
 ·rw [vf_put, vf_succ, vf_succ, pw_succ]
  have h3 := H.eq
  grind
theorem DifI.done {f g h : Nat → Int} {n m : Nat} {c : Int} (H : DifI f (xt g m) n h c) (hm : m ≤ n) (hge : vf g m ≤ vf f n) : vf h n = vf f n - vf g m := by
 have h1 := H.eq
 rw [vf_xt hm] at h1
 have h2 := vf_lt H.hi
 have h0 := H.c0
 have h4 := H.c1
 rcases (by omega : c = 0 ∨ c = 1) with rfl | rfl <;> omega
/-! ### products -/
theorem put_carry (d : Nat → Int) (L j : Nat) (x : Int) (hj : j < L) : vf (fun i => if i = j then (x + d j) % 1000000000 else d i) L + (x + d j) / 1000000000 * pw (j + 1) = vf d L + x * pw j := by
 rw [vf_set, if_pos hj, pw_succ]
 have := carry_eq (x + d j) (pw j)
 grind
theorem carry_room {d : Nat → Int} {L j : Nat} {x V : Int} (hd : ∀ i, i < L → 0 ≤ d i) (hV : vf d L + x * pw j = V) (hx : 0 < x) (hL : V < pw L) : j < L := by
 have h0 := vf_nonneg hd
 have h1 : 1 * pw j ≤ x * pw j := Int.mul_le_mul_of_nonneg_right (by omega) (Int.le_of_lt (pw_pos j))
 by_cases h : j < L
 ·exact h
 ·have := pw_mono (show L ≤ j by omega)
  omega
/-! ### a multiple taken off -/
structure TakI (X Y : Nat → Int) (k : Int) (i : Nat) (h : Nat → Int) (c : Int) : Prop where
 lo : ∀ j, j < i → 0 ≤ h j
 hi : ∀ j, j < i → h j < 1000000000
 eq : vf h i + c * pw i = vf X i - k * vf Y i
 c0 : c ≤ 0
 c1 : -1000000000 ≤ c
theorem TakI.start (X Y h : Nat → Int) (k : Int) : TakI X Y k 0 h 0 := ⟨fun j hj => by omega, fun j hj => by omega, by simp [vf], by decide, by decide⟩
theorem mul_dig {y k : Int} (y0 : 0 ≤ y) (y1 : y < 1000000000) (k0 : 0 ≤ k) (k1 : k < 1000000000) : 0 ≤ y * k ∧ y * k ≤ 999999999 * 999999999 := by
 refine ⟨Int.mul_nonneg y0 k0, ?_⟩
 have h1 : y * k ≤ 999999999 * k := Int.mul_le_mul_of_nonneg_right (by omega) k0
 omega
theorem TakI.next {X Y h : Nat → Int} {k : Int} {i : Nat} {c : Int} (H : TakI X Y k i h c) (x0 : 0 ≤ X i) (x1 : X i < 1000000000) (y0 : 0 ≤ Y i) (y1 : Y i < 1000000000) (k0 : 0 ≤ k) (k1 : k < 1000000000) :
  TakI X Y k (i + 1) (fun j => if j = i then (X i - Y i * k + c) % 1000000000 else h j) ((X i - Y i * k + c) / 1000000000) := by
 have h1 := H.c0
 have h2 := H.c1
 obtain ⟨m0, m1⟩ := mul_dig y0 y1 k0 k1
 refine ⟨fun j hj => ?_, fun j hj => ?_, ?_, by omega, by omega⟩
 ·split
  ·omega
  ·exact H.lo j (by omega)
 ·split
  ·omega
  ·exact H.hi j (by omega)
 ·rw [vf_put, vf_succ, vf_succ, pw_succ]
  have h3 := H.eq
  have h4 := carry_eq (X i - Y i * k + c) (pw i)
  grind
theorem TakI.done {f g h : Nat → Int} {n m : Nat} {k c : Int} (H : TakI f (xt g m) k n h c) (hm : m ≤ n) (hge : k * vf g m ≤ vf f n) : vf h n = vf f n - k * vf g m := by
 have h1 := H.eq
 rw [vf_xt hm] at h1
 have h0 := vf_nonneg H.lo
 have h2 := vf_lt H.hi
 have h3 := H.c0
 have hp := pw_pos n
 by_cases hc : c = 0
 ·subst hc; omega
 ·have h6 : c * pw n ≤ -1 * pw n := Int.mul_le_mul_of_nonneg_right (by omega) (Int.le_of_lt hp)
  omega
theorem tak_some {f g : Nat → Int} {n m : Nat} (hf : ∀ i, i < n → 0 ≤ f i) (hg : Digs g (m + 1)) (hle : vf g (m + 1) ≤ vf f n) (hn : n ≤ m + 2) (hmn : m < n) :
  let H := xt f n (m + 1) * 1000000000 + f m
  let k := H / (g m + 1)
  0 ≤ k ∧ k * vf g (m + 1) ≤ vf f n := by
 intro H k
 have g0 := hg.lo m (by omega)
 have g1 := hg.hi m (by omega)
 have f0 := hf m hmn
 have x0 := xt_lo hf (m + 1)
 have hH : 0 ≤ H := by omega
 have hk : 0 ≤ k := Int.ediv_nonneg hH (by omega)
 refine ⟨hk, ?_⟩
 have h1 : k * (g m + 1) ≤ H := Int.ediv_mul_le _ (by omega)
 have h2 : vf g (m + 1) ≤ (g m + 1) * pw m := by
  rw [vf_succ]
  have := vf_lt (f := g) (k := m) fun i hi => hg.hi i (by omega)
  grind
 have h3 : k * vf g (m + 1) ≤ k * ((g m + 1) * pw m) := Int.mul_le_mul_of_nonneg_left h2 hk
 have h4 : k * (g m + 1) * pw m ≤ H * pw m := Int.mul_le_mul_of_nonneg_right h1 (Int.le_of_lt (pw_pos m))
 have h5 : H * pw m ≤ vf f n := by
  have e : vf f n = vf (xt f n) (m + 2) := (vf_xt hn).symm
  rw [e, vf_succ, vf_succ, pw_succ, xt_lt hmn]
  have := vf_nonneg (f := xt f n) (k := m) fun i _ => xt_lo hf i
  have e2 : H * pw m = f m * pw m + xt f n (m + 1) * (pw m * 1000000000) := by
   show (xt f n (m + 1) * 1000000000 + f m) * pw m = _
   grind
  omega
 rw [Int.mul_assoc] at h4
 omega
theorem tak_bound {f g : Nat → Int} {n m : Nat} (hf : ∀ i, i < n → 0 ≤ f i) (hg : Digs g (m + 1)) (hlt : vf f n < vf g (m + 1) * 1000000000) (hn : n ≤ m + 2) (hmn : m < n) :
  (xt f n (m + 1) * 1000000000 + f m) / (g m + 1) < 1000000000 := by
 have g0 := hg.lo m (by omega)
 have g1 := hg.hi m (by omega)
 refine Int.ediv_lt_of_lt_mul (by omega) ?_
 have e : vf f n = vf (xt f n) (m + 2) := (vf_xt hn).symm
 rw [e, vf_succ, vf_succ, pw_succ, xt_lt hmn] at hlt
 have h0 := vf_nonneg (f := xt f n) (k := m) fun i _ => xt_lo hf i
 have h2 : vf g (m + 1) < (g m + 1) * pw m := by
  rw [vf_succ]
  have := vf_lt (f := g) (k := m) fun i hi => hg.hi i (by omega)
  grind
 have hp := pw_pos m
 have h3 : (xt f n (m + 1) * 1000000000 + f m) * pw m < ((g m + 1) * 1000000000) * pw m := by
  have e2 : (xt f n (m + 1) * 1000000000 + f m) * pw m = f m * pw m + xt f n (m + 1) * (pw m * 1000000000) := by grind
  have e3 : (g m + 1) * 1000000000 * pw m = (g m + 1) * pw m * 1000000000 := by grind
  omega
 have := Int.lt_of_mul_lt_mul_right h3 (Int.le_of_lt hp)
 omega
section
section
variable {P : Program} {ops : Array Oper} {rest : List Oper} {o1 o2 o3 o4 : Oper} {a : Act} {w : World} {Q : Exit → Act → World → Prop}
theorem wpList_put1 (T : TypeId) (d : Tmp) (y : Operand) (C zs : Array Value) (g1 : o1.guard = none) (h1 : o1.op = .alloc T) (e1 : o1.dst = some d) (g2 : o2.guard = none) (h2 : o2.op = .store T (.tmp d) y) (e2 : o2.dst = none)
  (hrun : ∀ w, (Instr.alloc T true (.tuple #[])).run P w = .ok (.pointer (some ⟨w.heap.size, 0, none⟩)) (w.alloc (.cells zs T)))
  (hx : ∀ p, (a.put (some d) p).eval (.tmp d) = p) (hy : ∀ p, (a.put (some d) p).eval y = .agg C) (hi : (P.info? T).map (·.size) = some C.size) (hs : zs.size = C.size) (ho : C.all (·.oneCell') = true)
  (h : ∀ W B, w.heap.size ≤ B → Below w.heap.size w W → Box W B T C → wpList P ops Q rest (a.put (some d) (.pointer (some ⟨B, 0, none⟩))) W) : wpList P ops Q (o1 :: o2 :: rest) a w := by
 refine wpList_new g1 T h1 zs hrun ?_
 intro W1 B hle hb b1
 rw [e1]
 refine wpList_store_box g2 T (.tmp d) y h2 B 0 T zs C C (hx _) (hy _) b1 hi (by rw [Nat.zero_add]; exact Nat.le_of_eq hs.symm) ho (whole_new hs) ?_
 intro W2 hk b2
 rw [e2]
 exact h W2 B hle (hk.below hb hle hb.size) b2
theorem wpList_put2 (T : TypeId) (d d' : Tmp) (y y' : Operand) (C C' zs : Array Value) (g1 : o1.guard = none) (h1 : o1.op = .alloc T) (e1 : o1.dst = some d) (g2 : o2.guard = none) (h2 : o2.op = .alloc T) (e2 : o2.dst = some d')
  (g3 : o3.guard = none) (h3 : o3.op = .store T (.tmp d) y) (e3 : o3.dst = none) (g4 : o4.guard = none) (h4 : o4.op = .store T (.tmp d') y') (e4 : o4.dst = none)
  (hrun : ∀ w, (Instr.alloc T true (.tuple #[])).run P w = .ok (.pointer (some ⟨w.heap.size, 0, none⟩)) (w.alloc (.cells zs T)))
  (hx : ∀ p p', ((a.put (some d) p).put (some d') p').eval (.tmp d) = p) (hx' : ∀ p p', ((a.put (some d) p).put (some d') p').eval (.tmp d') = p') (hy : ∀ p p', ((a.put (some d) p).put (some d') p').eval y = .agg C) (hy' : ∀ p p', ((a.put (some d) p).put (some d') p').eval y' = .agg C')
  (hi : (P.info? T).map (·.size) = some zs.size) (hs : zs.size = C.size) (hs' : zs.size = C'.size) (ho : C.all (·.oneCell') = true) (ho' : C'.all (·.oneCell') = true)
  (h : ∀ W B B', w.heap.size ≤ B → w.heap.size ≤ B' → B ≠ B' → Below w.heap.size w W → Box W B T C → Box W B' T C' → wpList P ops Q rest ((a.put (some d) (.pointer (some ⟨B, 0, none⟩))).put (some d') (.pointer (some ⟨B', 0, none⟩))) W) : wpList P ops Q (o1 :: o2 :: o3 :: o4 :: rest) a w := by
 refine wpList_new g1 T h1 zs hrun ?_
 intro W1 B hle hb b1
 rw [e1]
 have hB1 := b1.lt
 refine wpList_new g2 T h2 zs hrun ?_
 intro W2 B' hle' hb' b1'
 rw [e2]
 have hBB : B ≠ B' := by omega
 have b12 := b1.below hb'
 refine wpList_store_box g3 T (.tmp d) y h3 B 0 T zs C C (hx _ _) (hy _ _) b12 (by rw [← hs]; exact hi) (by rw [Nat.zero_add]; exact Nat.le_of_eq hs.symm) ho (whole_new hs) ?_
 intro W3 hk b2
 rw [e3]
 have b13 := hk.box b1' b1'.lt (fun h => hBB h.symm)
 refine wpList_store_box g4 T (.tmp d') y' h4 B' 0 T zs C' C' (hx' _ _) (hy' _ _) b13 (by rw [← hs']; exact hi) (by rw [Nat.zero_add]; exact Nat.le_of_eq hs'.symm) ho' (whole_new hs') ?_
 intro W4 hk4 b4
 rw [e4]
 have b5 := hk4.box b2 b2.lt hBB
 have hw1 := belowCall hb hb'
 have hw3 := hk.below hw1 hle hw1.size
 exact h W4 B B' hle (by have := hb.size; omega) hBB (hk4.below hw3 (by have := hb.size; omega) hw3.size) b5 b4
end
end
structure Thn where
 i : Int
 p : Int
 q : Int
def Thn.vals (t : Thn) : Array Value := #[.int .u8 t.i, .int .u8 t.p, .int .u8 t.q]
def Thn.ok (t : Thn) : Prop := (0 ≤ t.i ∧ t.i ≤ 255) ∧ (0 ≤ t.p ∧ t.p ≤ 255) ∧ (0 ≤ t.q ∧ t.q ≤ 255)
def Thn.film (t : Thn) : Flm := ⟨10000000 + 250000 * (t.i % 61), t.p % 13, 1 + t.q % 12⟩
theorem Thn.film_small {t : Thn} (h : t.ok) : (10000000 ≤ t.film.ix ∧ t.film.ix ≤ 25000000) ∧ (0 ≤ t.film.p ∧ t.film.p ≤ 12) ∧ (1 ≤ t.film.q ∧ t.film.q ≤ 12) := by
 obtain ⟨⟨a, b⟩, ⟨c, d⟩, e, f⟩ := h
 unfold Thn.film
 simp only
 omega
theorem Thn.film_ok {t : Thn} (h : t.ok) : t.film.ok := by
 have := Thn.film_small h
 exact ⟨by omega, by omega, by omega, by omega, by omega, by omega⟩
def ThinsAt (w : World) (p : Option Addr) (n c : Nat) (G : Nat → Thn) : Prop := RdC w p n c 3 (fun i j => (G i).vals.getD j undef)
theorem RdC.rowAt {w : World} {p : Option Addr} {n c sz : Nat} {cell : Nat → Nat → Value} (h : RdC w p n c sz cell) (hn : 0 < n) : ∃ b off, p = some ⟨b, off, none⟩ ∧ b < w.heap.size ∧ ∀ i, i < n → ∀ w', Below w.heap.size w w' → ∀ j, j < sz → w'.cell? ⟨b, off + i * sz + j, none⟩ = some (cell i j) := by
 obtain ⟨_, _, h3⟩ := h
 obtain ⟨b, off, hp, hb, hc⟩ := h3 hn
 exact ⟨b, off, hp, hb, fun i hi w' hB j hj => (hB.cell hb).trans (hc i j hi hj)⟩
theorem new_cells (X : World) (cs : Array Value) (T : TypeId) : ∀ j u, cs.toList[j]? = some u → (X.alloc (.cells cs T)).cell? (Addr.add ⟨X.heap.size, 0, none⟩ j) = some u := by
 intro j u h
 rw [show Addr.add ⟨X.heap.size, 0, none⟩ j = ⟨X.heap.size, j, none⟩ from by simp [Addr.add]; exact fun h => h.symm, (Box.new X T cs).cell, ← Array.getElem?_toList]
 exact h
end Go.Mono
namespace Go.Proofs.YtdgodcgdlfjpaaaGreatDoor
open Go.RowKit Go.Mono
theorem thin_film (t : Thn) (ht : t.ok) (w : World) : Calls Tryz.prog 53 #[.agg t.vals] w fun e w' => e = .returned (.agg t.film.vals) ∧ Below w.heap.size w w' := by
 have hs := Thn.film_small ht
 obtain ⟨i, p, q⟩ := t
 unfold Thn.film at hs ⊢
 unfold Thn.vals
 obtain ⟨⟨a, b⟩, ⟨c, d⟩, e, f⟩ := ht
 simp only [Flm.vals] at hs a b c d e f ⊢
 have hif : (Tryz.prog.info? 24).map (·.size) = some 3 := by kernel_rfl
 go_enter Tryz.func53, Tryz.ntmps53
 go_wp2_with fail
 have b2 := Box.new (w.alloc (.cells #[.int .u8 i, .int .u8 p, .int .u8 q] 112)) 24 #[.int .i64 (10000000 + 250000 * (i % 61)), .int .i64 (p % 13), .int .i64 (1 + q % 12)]
 rw [World.size_alloc] at b2
 refine bodyPost_ret (b2.results rfl _ _ rfl Tryz.underlying24 rfl hif) rfl ?_
 exact ⟨rfl, belowAlloc (belowAlloc (Below.refl _ _) _) _⟩
end Go.Proofs.YtdgodcgdlfjpaaaGreatDoor
namespace Go.Ev
open Go.RowKit Go.Mono
section
def pureOf {α : Type} (P : Program) : Sem α → Option α
 | .pure a => some a
 | .program k => pureOf P (k P)
 | .mark _ k => pureOf P k
 | _ => none
theorem pureOf_run {α : Type} {P : Program} : ∀ {s : Sem α} {x : α}, pureOf P s = some x → ∀ w, s.run P w = .ok x w
 | .pure a, x, h, w => by simp only [pureOf, Option.some.injEq] at h; subst h; rfl
 | .program k, x, h, w => by simp only [pureOf] at h; exact pureOf_run h w
 | .mark _ k, x, h, w => by simp only [pureOf] at h; exact pureOf_run h w
def szOf (P : Program) (t : TypeId) : Option Nat := (P.info? t).map (·.size)
def rowT (P : Program) (t : TypeId) : Option Bool := (P.underlying t).map TypeDesc.isRow
section
variable {P : Program} {w : World} {B off : Nat}
theorem run_szOf {t : TypeId} {n : Nat} (h : szOf P t = some n) (w : World) : (sizeOf t).run P w = .ok n w := by
 obtain ⟨i, hi, rfl⟩ := Option.map_eq_some_iff.1 h
 unfold sizeOf typeInfo
 simp [hi]
theorem run_rowT {t : TypeId} {b : Bool} (h : rowT P t = some b) (w : World) : (isAgg t).run P w = .ok b w := by
 obtain ⟨d, hd, rfl⟩ := Option.map_eq_some_iff.1 h
 unfold isAgg
 simp only [Sem.run_bind, run_underlying hd, Result.andThen_ok]
 cases d <;> rfl
theorem run_fieldAt' {s f : Nat} {fs : Array Field} {fl : Field} {n : Nat} (hs : P.underlying s = some (.struct fs)) (hf : fs[f]? = some fl) (hz : szOf P fl.type = some (n + 1)) :
  (Instr.fieldAt s (.pointer (some ⟨B, off, none⟩)) f).run P w = .ok (.pointer (some ⟨B, off + fl.offset, none⟩)) w := by
 unfold Instr.fieldAt
 simp only [Sem.run_bind, run_underlying hs, Result.andThen_ok, hf, Instr.sureAddr, Sem.run_pure, fieldPlace, run_szOf hz]
 simp [Addr.add_mid]
theorem run_indexAt_s {t e len cap : Nat} {k : IntKind} {i : Int} {n : Nat} (hs : P.underlying t = some (.slice e)) (hz : szOf P e = some n) (hi : 0 ≤ i ∧ i < len) :
  (Instr.indexAt t (.slice (some ⟨B, off, none⟩) len cap) (.int k i)).run P w = .ok (.pointer (some ⟨B, off + i.toNat * n, none⟩)) w := by
 unfold Instr.indexAt
 simp only [Sem.run_bind, asIntOf, run_underlying hs, Result.andThen_ok, Sem.run_pure, if_pos hi, run_szOf hz, Addr.add_mid]
theorem run_indexAt_a {t e len : Nat} {k : IntKind} {i : Int} {n : Nat} (hs : P.underlying t = some (.array len e)) (hz : szOf P e = some n) (hi : 0 ≤ i ∧ i < len) :
  (Instr.indexAt t (.pointer (some ⟨B, off, none⟩)) (.int k i)).run P w = .ok (.pointer (some ⟨B, off + i.toNat * n, none⟩)) w := by
 unfold Instr.indexAt
 simp only [Sem.run_bind, asIntOf, run_underlying hs, Result.andThen_ok, Sem.run_pure, Instr.sureAddr, if_pos hi, run_szOf hz, Addr.add_mid]
end
def fieldAddrS (P : Program) (s : TypeId) (x : Option SV) (f : Nat) : Option SV :=
 match x with
 | some (.a (.one (.ptr k off))) => match P.underlying s with
   | some (.struct fs) => match fs[f]? with
     | some fl => match szOf P fl.type with
       | some (_ + 1) => some (.a (.one (.ptr k (off + fl.offset))))
       | _ => none
     | none => none
   | _ => none
 | _ => none
def indexAddrS (P : Program) (t : TypeId) (x ix : Option SV) : Option SV :=
 match x, ix with
 | some (.a (.one (.ptr k off))), some (.a (.one (.val (.int _ i)))) => match P.underlying t with
   | some (.array n e) => match szOf P e with
     | some s => if 0 ≤ i ∧ i < n then some (.a (.one (.ptr k (off + i.toNat * s)))) else none
     | none => none
   | _ => none
 | some (.a (.one (.slc k off len _))), some (.a (.one (.val (.int _ i)))) => match P.underlying t with
   | some (.slice e) => match szOf P e with
     | some s => if 0 ≤ i ∧ i < len then some (.a (.one (.ptr k (off + i.toNat * s)))) else none
     | none => none
   | _ => none
 | some (.a (.one (.sli k off len))), some (.a (.one (.val (.int _ i)))) => match P.underlying t with
   | some (.slice e) => match szOf P e with
     | some s => if 0 ≤ i ∧ i < len then some (.a (.one (.ptr k (off + i.toNat * s)))) else none
     | none => none
   | _ => none
 | _, _ => none
def partS (P : Program) (t : TypeId) (l : List U) (off : Nat) : Option SV :=
 match rowT P t, szOf P t with
 | some true, some n => (subU l off n).map fun m => .a (.agg m)
 | some false, some _ => match subU l off 1 with
   | some [u] => some (.a (.one u))
   | _ => none
 | _, _ => none
def fieldS (P : Program) (t : TypeId) (x : Option SV) (f : Nat) : Option SV :=
 match x with
 | some (.a (.agg l)) => match P.underlying t with
   | some (.struct fs) => match fs[f]? with
     | some fl => partS P fl.type l fl.offset
     | none => none
   | _ => none
 | _ => none
def indexS (P : Program) (t : TypeId) (x ix : Option SV) : Option SV :=
 match x, ix with
 | some (.a (.agg l)), some (.a (.one (.val (.int _ i)))) => match P.underlying t with
   | some (.array n e) => match szOf P e with
     | some s => if 0 ≤ i ∧ i < n then partS P e l (i.toNat * s) else none
     | none => none
   | _ => none
 | _, _ => none
section
variable {D : Den} {P : Program} {ρ : Nm} {wc w : World}
theorem partS_ok {t : TypeId} {l : List U} {off : Nat} {x : SV} {cs : List Value} (h : partS P t l off = some x) (hl : denL D ρ wc l cs) :
  ∃ v, (part t cs.toArray off).run P w = .ok v w ∧ denV D ρ wc x v := by
 unfold partS at h
 split at h
 ·rename_i n hr hz
  obtain ⟨m, hm, rfl⟩ := Option.map_eq_some_iff.1 h
  obtain ⟨h1, h2⟩ := subU_den hm hl
  refine ⟨.agg ((cs.drop off).take n).toArray, ?_, _, rfl, h1⟩
  unfold part
  simp only [Sem.run_bind, run_rowT hr, Result.andThen_ok, if_true, run_szOf hz, Sem.run_pure]
  congr 2
  apply Array.toList_inj.1
  simp [List.extract_eq_take_drop]
 ·rename_i n hr hz
  split at h
  ·rename_i u hu
   cases h
   obtain ⟨h1, h2⟩ := subU_den hu hl
   obtain ⟨c, d, e, hc, hd⟩ := h1
   obtain rfl : d = [] := hd
   rw [List.append_nil] at e
   rw [e] at h2
   obtain ⟨v, rfl⟩ : ∃ v, c = [v] := List.length_eq_one_iff.1 h2
   refine ⟨v, ?_, hc⟩
   have hv : cs[off]? = some v := by
    have := congrArg (·[0]?) e
    simpa using this
   unfold part
   simp only [Sem.run_bind, run_rowT hr, Result.andThen_ok, Bool.false_eq_true, if_false, List.getElem?_toArray, hv, Sem.run_pure]
  ·cases h
 ·cases h
end
end
end Go.Ev
namespace Go.Mono
theorem vf_cons (f : Nat → Int) (k : Nat) : vf f (k + 1) = f 0 + 1000000000 * vf (fun j => f (j + 1)) k := by
 have := vf_split f 1 k
 rw [Nat.add_comm 1 k] at this
 rw [this]
 simp only [vf, pw, Int.zero_add, Int.mul_one, Int.one_mul]
 congr 2
 exact vf_congr fun i _ => by rw [Nat.add_comm]
def shl (x : Int) (f : Nat → Int) : Nat → Int := fun j => if j = 0 then x else f (j - 1)
theorem vf_shl (x : Int) (f : Nat → Int) (k : Nat) : vf (shl x f) (k + 1) = x + 1000000000 * vf f k := by
 rw [vf_cons]
 congr 2
structure ParI (f : Nat → Int) (n : Nat) (B : Int) (i : Nat) (q : Nat → Int) (R : Int) : Prop where
 eq : vf (fun j => f (i + j)) (n - i) = vf (fun j => q (i + j)) (n - i) * B + R
 r0 : 0 ≤ R
 r1 : R < B
 lo : ∀ j, i ≤ j → j < n → 0 ≤ q j
 hi : ∀ j, i ≤ j → j < n → q j < 1000000000
theorem ParI.start (f q : Nat → Int) (n : Nat) {B : Int} (hB : 0 < B) : ParI f n B n q 0 :=
 ⟨by simp [vf], Int.le_refl _, hB, fun j h1 h2 => by omega, fun j h1 h2 => by omega⟩
theorem ParI.next {f q : Nat → Int} {n i : Nat} {B R c R' : Int} (H : ParI f n B (i + 1) q R) (hi : i < n) (hc0 : 0 ≤ c) (hc1 : c < 1000000000) (hr0 : 0 ≤ R') (hr1 : R' < B) (he : f i + 1000000000 * R = c * B + R') :
  ParI f n B i (fun j => if j = i then c else q j) R' := by
 refine ⟨?_, hr0, hr1, fun j h1 h2 => ?_, fun j h1 h2 => ?_⟩
 ·obtain ⟨k, hk⟩ : ∃ k, n - i = k + 1 := ⟨n - i - 1, by omega⟩
  have e := H.eq
  rw [show n - (i + 1) = k by omega] at e
  rw [hk, vf_cons, vf_cons]
  simp only [Nat.add_zero, if_true]
  have e1 : vf (fun j => f (i + (j + 1))) k = vf (fun j => f (i + 1 + j)) k := vf_congr fun j _ => by rw [show i + (j + 1) = i + 1 + j by omega]
  have e2 : vf (fun j => if i + (j + 1) = i then c else q (i + (j + 1))) k = vf (fun j => q (i + 1 + j)) k := vf_congr fun j _ => by rw [if_neg (by omega), show i + (j + 1) = i + 1 + j by omega]
  rw [e1, e2, e]
  generalize vf (fun j => q (i + 1 + j)) k = Q at *
  grind
 ·split
  ·exact hc0
  ·exact H.lo j (by omega) h2
 ·split
  ·exact hc1
  ·exact H.hi j (by omega) h2
theorem ParI.done {f q : Nat → Int} {n : Nat} {B R : Int} (H : ParI f n B 0 q R) : vf q n = vf f n / B ∧ R = vf f n % B := by
 have e := H.eq
 simp only [Nat.sub_zero, Nat.zero_add] at e
 have h0 := H.r0
 have h1 := H.r1
 have hB : 0 < B := by omega
 rw [e, Int.add_comm, Int.add_mul_ediv_right _ _ (by omega), Int.ediv_eq_zero_of_lt h0 h1, Int.zero_add, Int.add_mul_emod_self_right, Int.emod_eq_of_lt h0 h1]
 exact ⟨rfl, rfl⟩
theorem tdiv_parts (a b : Int) (hb : b ≠ 0) : ((a.natAbs : Int) / b.natAbs = (a.tdiv b).natAbs) ∧ ((a.natAbs : Int) % b.natAbs = (a.tmod b).natAbs) ∧
  ((decide (a < 0) != decide (b < 0)) && decide (0 < ((a.tdiv b).natAbs : Int))) = decide (a.tdiv b < 0) ∧ (decide (a < 0) && decide (0 < ((a.tmod b).natAbs : Int))) = decide (a.tmod b < 0) := by
 have h1 : (a.natAbs : Int) / b.natAbs = (a.tdiv b).natAbs := by rw [Int.natAbs_tdiv]; norm_cast
 have h2 : (a.natAbs : Int) % b.natAbs = (a.tmod b).natAbs := by
  have : (a.tmod b).natAbs = a.natAbs % b.natAbs := Int.natAbs_tmod a b
  rw [this]; norm_cast
 refine ⟨h1, h2, ?_, ?_⟩
 ·by_cases h0 : a.tdiv b = 0
  ·simp [h0]
  ·have hpos : 0 < ((a.tdiv b).natAbs : Int) := by omega
   rw [decide_eq_true hpos, Bool.and_true]
   rw [Bool.eq_iff_iff]
   simp only [bne_iff_ne, ne_eq, decide_eq_decide, decide_eq_true_eq]
   rcases Int.lt_trichotomy a 0 with ha | ha | ha
   ·rcases Int.lt_or_gt_of_ne hb with hb' | hb'
    ·have := Int.tdiv_nonneg_of_nonpos_of_nonpos (Int.le_of_lt ha) (Int.le_of_lt hb')
     omega
    ·have := Int.tdiv_nonneg (a := -a) (b := b) (by omega) (Int.le_of_lt hb')
     rw [Int.neg_tdiv] at this
     omega
   ·subst ha; simp at h0
   ·rcases Int.lt_or_gt_of_ne hb with hb' | hb'
    ·have := Int.tdiv_nonneg (a := a) (b := -b) (Int.le_of_lt ha) (by omega)
     rw [Int.tdiv_neg] at this
     omega
    ·have := Int.tdiv_nonneg (Int.le_of_lt ha) (Int.le_of_lt hb')
     omega
 ·by_cases h0 : a.tmod b = 0
  ·simp [h0]
  ·have hpos : 0 < ((a.tmod b).natAbs : Int) := by omega
   rw [decide_eq_true hpos, Bool.and_true]
   rw [Bool.eq_iff_iff]
   simp only [decide_eq_true_eq]
   by_cases ha : a < 0
   ·have := Int.tmod_nonneg (a := -a) b (by omega)
    rw [Int.neg_tmod] at this
    omega
   ·have := Int.tmod_nonneg (a := a) b (by omega)
    omega
end Go.Mono
