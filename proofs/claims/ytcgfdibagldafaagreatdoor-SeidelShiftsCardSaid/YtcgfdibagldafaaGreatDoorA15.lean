/- Contracts of the program's fractions, lenses and rays, and a verified evaluator of the model. Part 15 of 30. No condition beside the row. -/
import Derived.Test.YtcgfdibagldafaaGreatDoorA14
set_option linter.unusedVariables false
set_option linter.unusedSimpArgs false
set_option maxRecDepth 100000
set_option maxHeartbeats 4000000
namespace Go.Mono
open Go.RowKit
structure Srf where
 kind : Int
 curv : Int
 conic : Int
 curvx : Int
 conicx : Int
 a0 : Int
 a1 : Int
 a2 : Int
 a3 : Int
 p0 : Int
 p1 : Int
 order : Int
 thick : Int
 glass : ByteArray
 semi : Int
 hole : Int
 dx : Int
 dy : Int
 ax : Int
 ay : Int
 az : Int
def Srf.cs (s : Srf) (p : Option Addr) (c : Nat) : Array Value :=
 #[.int .i64 s.kind, .int .i64 s.curv, .int .i64 s.conic, .int .i64 s.curvx, .int .i64 s.conicx, .int .i64 s.a0, .int .i64 s.a1, .int .i64 s.a2, .int .i64 s.a3, .int .i64 s.p0, .int .i64 s.p1, .int .i64 s.order, .int .i64 s.thick, .string s.glass, .int .i64 s.semi, .int .i64 s.hole, .int .i64 s.dx, .int .i64 s.dy, .int .i64 s.ax, .int .i64 s.ay, .int .i64 s.az, .slice p 0 c]
def NameOk (s : ByteArray) : Prop := 1 ≤ s.size ∧ s.size ≤ 16 ∧ ∀ i (hi : i < s.size), isLetter (s[i].toNat : Int)
def mirror : ByteArray := { data := #[77, 73, 82, 82, 79, 82] }
def Srf.kept (s : Srf) : Srf :=
 let z : Srf := { kind := s.kind, curv := 0, conic := 0, curvx := 0, conicx := 0, a0 := 0, a1 := 0, a2 := 0, a3 := 0, p0 := 0, p1 := 0, order := 0, thick := s.thick, glass := { data := #[] }, semi := 0, hole := 0, dx := 0, dy := 0, ax := 0, ay := 0, az := 0 }
 let all : Srf → Srf := fun z => { z with curv := s.curv, conic := s.conic, glass := s.glass, semi := s.semi, hole := s.hole }
 if s.kind = 1 then
  let z := { z with a0 := s.a0, a1 := s.a1, a2 := s.a2, a3 := s.a3 }
  all (if s.order ≠ 0 ∧ s.glass ≠ mirror then { z with order := s.order, p0 := s.p0, p1 := s.p1 } else z)
 else if s.kind = 2 then all { z with curvx := s.curvx, conicx := s.conicx }
 else if s.kind = 3 then { z with dx := s.dx, dy := s.dy, ax := s.ax, ay := s.ay, az := s.az }
 else if s.kind = 4 then { z with curv := s.curv, semi := s.semi, hole := s.hole }
 else all z
def In (m z : Int) : Prop := -m ≤ z ∧ z ≤ m
structure Srf.ok (s : Srf) : Prop where
 k1 : 1 ≤ s.kind
 k2 : s.kind ≤ 4
 kept : s.kept = s
 curv : In 1000000000 s.curv
 curvx : In 1000000000 s.curvx
 thick : In 1000000000 s.thick
 dx : In 1000000000 s.dx
 dy : In 1000000000 s.dy
 a0 : In 1000000000 s.a0
 a1 : In 1000000000 s.a1
 a2 : In 1000000000 s.a2
 a3 : In 1000000000 s.a3
 p0 : In 1000000000 s.p0
 p1 : In 1000000000 s.p1
 conic : In 100000000 s.conic
 conicx : In 100000000 s.conicx
 ax : In 90000000 s.ax
 ay : In 90000000 s.ay
 az : In 90000000 s.az
 order : In 3 s.order
 semi0 : 0 ≤ s.semi
 semi1 : s.semi ≤ 1000000000
 hole0 : 0 ≤ s.hole
 hole1 : s.hole ≤ 1000000000
 ring : s.semi = 0 ∨ s.hole < s.semi
 glass : s.glass = { data := #[] } ∨ NameOk s.glass
theorem rdF_new (w : World) (T : TypeId) (cs : Array Value) (n : Nat) (f : Nat → Int) (h : ∀ i, i < n → cs[i]? = some (.int .i64 (f i))) (hn : n ≤ 1000) : RdF (w.alloc (.cells cs T)) (some ⟨w.heap.size, 0, none⟩) n n f := by
 refine ⟨Nat.le_refl _, by omega, fun _ => ⟨_, _, rfl, by simp, fun i hi => ?_⟩⟩
 rw [(Box.new w T cs).cell, Nat.zero_add]
 exact h i hi
theorem RdF.box {w : World} {B : Nat} {T : TypeId} {cs : Array Value} (b : Box w B T cs) (off n : Nat) (f : Nat → Int) (h : ∀ i, i < n → cs[off + i]? = some (.int .i64 (f i))) (hn : n ≤ 1000) : RdF w (some ⟨B, off, none⟩) n n f := by
 refine ⟨Nat.le_refl _, by omega, fun _ => ⟨_, _, rfl, b.lt, fun i hi => ?_⟩⟩
 rw [b.cell]
 exact h i hi
end Go.Mono
namespace Go.Proofs.YtcgfdibagldafaaGreatDoor
open Go.RowKit Go.Mono
theorem scheck7_ok (s : Srf) (_ : s.ok) (p : Option Addr) (c B : Nat) (w : World) (b0 : Box w B 91 (s.cs p c)) :
  Calls Tryz.prog 290 #[.pointer (some ⟨B, 0, none⟩)] w fun e w' => e = .returned (.bool true) ∧ Below w.heap.size w w' := by
 have cb0 := b0.cell
 simp only [Srf.cs] at cb0
 go_enter Tryz.func290, Tryz.ntmps290
 go_wp2
 go_ret
 exact ⟨rfl, Below.refl _ _⟩
theorem scheck6_ok (s : Srf) (hs : s.ok) (p : Option Addr) (c B : Nat) (w : World) (b0 : Box w B 91 (s.cs p c)) :
  Calls Tryz.prog 289 #[.pointer (some ⟨B, 0, none⟩)] w fun e w' => e = .returned (.bool true) ∧ Below w.heap.size w w' := by
 have cb0 := b0.cell
 simp only [Srf.cs] at cb0
 rcases hs.glass with h | h
 ·rw [h] at cb0
  go_enter Tryz.func289, Tryz.ntmps289
  go_wp2
  go_ret
  exact ⟨rfl, Below.refl _ _⟩
 ·have hn := name_ok s.glass h.1 h.2.1 h.2.2 w
  clear h hs b0
  go_enter Tryz.func289, Tryz.ntmps289
  go_wp2_with (go_at_call 241; refine hn.mono ?_; rintro e w' ⟨rfl, rfl⟩)
  all_goals
   go_ret
   exact ⟨rfl, Below.refl _ _⟩
theorem scheck5_ok (s : Srf) (hs : s.ok) (p : Option Addr) (c B : Nat) (w : World) (b0 : Box w B 91 (s.cs p c)) :
  Calls Tryz.prog 288 #[.pointer (some ⟨B, 0, none⟩)] w fun e w' => e = .returned (.bool true) ∧ Below w.heap.size w w' := by
 have cb0 := b0.cell
 simp only [Srf.cs] at cb0
 have h := hs.ring
 by_cases h0 : s.semi = 0
 ·rw [h0] at cb0
  go_enter Tryz.func288, Tryz.ntmps288
  go_wp2
  go_ret
  exact ⟨rfl, Below.refl _ _⟩
 ·have h1 : s.hole < s.semi := by omega
  have h2 : (s.semi == 0) = false := by simpa using h0
  clear h h0
  go_enter Tryz.func288, Tryz.ntmps288
  go_wp2
  go_ret
  exact ⟨rfl, Below.refl _ _⟩
end Go.Proofs.YtcgfdibagldafaaGreatDoor
namespace Go.Ex
open Go.RowKit Go.Mono
section
def capsOf (get : Operand → Option SV) : List Operand → Option (List (Nat × Nat))
 | [] => some []
 | x :: r => match get x with
   | some (.a (.one (.ptr k o))) => (capsOf get r).map ((k, o) :: ·)
   | _ => none
def realO (get : Operand → Option SV) : Option Operand → Option (Option Value)
 | none => some none
 | some x => ((get x).bind realV).map some
def cutS (len : Nat) (l h m : Option Value) : Option (Nat × Nat) :=
 match m, (match l with
  | none => some 0
  | some (.int .i64 (.ofNat a)) => some a
  | _ => none), (match h with
  | none => some len
  | some (.int .i64 (.ofNat b)) => some b
  | _ => none) with
 | none, some a, some b => if a < b ∧ b ≤ len then some (a, b) else none
 | _, _, _ => none
def loO : Option Value → Option Nat
 | none => some 0
 | some (.int .i64 (.ofNat a)) => some a
 | _ => none
def cut3 (len : Nat) (l h m : Option Value) : Option (Nat × Nat × Nat) :=
 match m, h, loO l with
 | some (.int .i64 (.ofNat c)), some (.int .i64 (.ofNat b)), some a => if a ≤ b ∧ b ≤ c ∧ c ≤ len then some (a, b, c) else none
 | _, _, _ => none
def cut0 (len : Nat) (l h m : Option Value) : Option Nat :=
 match m, loO l, (match h with
  | none => some len
  | h => loO h) with
 | none, some a, some b => if a = b ∧ b ≤ len then some a else none
 | _, _, _ => none
def cutA (k off len s : Nat) (l h m : Option Value) : Option SV :=
 match cutS len l h m with
 | some (a, b) => some (.a (.one (.sli k (off + a * s) (b - a))))
 | none => match cut3 len l h m with
   | some (a, b, c) => some (.a (.one (.slc k (if c = a then off else off + a * s) (b - a) (c - a))))
   | none => match cut0 len l h m with
     | some _ => some (.a (.one .emp))
     | none => none
def sliceS (P : Program) (t : TypeId) (x : Option SV) (get : Operand → Option SV) (lo hi mx : Option Operand) : Option SV :=
 match realO get lo, realO get hi, realO get mx with
 | some l, some h, some m => match x, P.underlying t with
   | some (.a (.one (.slc k off len cap))), some (.slice e) => match pureOf P (Instr.sliceBounds true len cap l h m), szOf P e with
     | some (a, b, c), some s => some (.a (.one (.slc k (if c = a then off else off + a * s) (b - a) (c - a))))
     | _, _ => none
   | some (.a (.one (.ptr k off))), some (.array n e) => match pureOf P (Instr.sliceBounds false n n l h m), szOf P e with
     | some (a, b, c), some s => some (.a (.one (.slc k (if c = a then off else off + a * s) (b - a) (c - a))))
     | _, _ => none
   | some (.a (.one (.own k len _))), some (.slice e) => match szOf P e with
     | some s => cutA k 0 len s l h m
     | _ => none
   | some (.a (.one (.sli k off len))), some (.slice e) => match szOf P e with
     | some s => cutA k off len s l h m
     | _ => none
   | some (.a (.one .emp)), some (.slice e) => match szOf P e, cut0 0 l h m with
     | some _, some _ => some (.a (.one .emp))
     | _, _ => none
   | some (.a (.one (.slx k off len _))), some (.slice e) => match szOf P e, h with
     | some s, some _ => cutA k off len s l h m
     | _, _ => none
   | _, _ => none
 | _, _, _ => none
def lenS (P : Program) (c : Call) (get : Operand → Option SV) : Option SV :=
 match c.callee, c.args.toList, c.argTypes.toList with
 | .builtin .len, [x], [t] => match get x, P.underlying t with
   | some (.a (.one (.slc _ _ n _))), some (.slice _) => some (.a (.one (.val (goInt n))))
   | some (.a (.one (.sli _ _ n))), some (.slice _) => some (.a (.one (.val (goInt n))))
   | some (.a (.one (.own _ n _))), some (.slice _) => some (.a (.one (.val (goInt n))))
   | some (.a (.one .emp)), some (.slice _) => some (.a (.one (.val (goInt (0 : Nat)))))
   | some (.a (.one (.slx _ _ _ n))), some (.slice _) => some (.a (.one (.sym n)))
   | some (.a (.one (.raw 1 [.slice _ n _]))), some (.slice _) => some (.a (.one (.val (goInt n))))
   | _, _ => none
 | .builtin .cap, [x], [t] => match get x, P.underlying t with
   | some (.a (.one (.slc _ _ _ c))), some (.slice _) => some (.a (.one (.val (goInt c))))
   | _, _ => none
 | _, _, _ => none
def loadS (P : Program) (t : TypeId) (x : Option SV) (bk : List (Nat × Blk)) : Option SV :=
 match x with
 | some (.a (.one (.ptr k off))) => match bk.look k with
   | some b => if b.dead then none else partS P t b.cells off
   | none => none
 | _ => none
def isSelect : Op → Bool
 | .select .. => true
 | _ => false
def realOp (P : Program) (o : Oper) (get : Operand → Option SV) : Option SV :=
 if !isSelect o.op && o.op.operands.toList.all (fun x => ((get x).bind realV).isSome) then
  match pureOf P (execOp (fun x => ((get x).bind realV).getD undef) o) with
  | some (.value v) => ofVal v
  | _ => none
 else none
def bndOf (f : FuncId) (s : SA) : Option SV :=
 match s.weak with
 | .one u => some (.a (.one (.bnd f false [u])))
 | .agg l => some (.a (.one (.bnd f true l)))
theorem bndOf_ok {D : Den} {ρ : Nm} {w : World} {f : FuncId} {s : SA} {r : SV} {v : Value} (h : bndOf f s = some r) (hv : denA D ρ w s v) : denV D ρ w r (.func (.func f) #[v] #[]) := by
 unfold bndOf at h
 have := hv.weak
 split at h
 ·rename_i u e
  cases h
  rw [e] at this
  exact ⟨v, rfl, this⟩
 ·rename_i l e
  cases h
  rw [e] at this
  exact ⟨v, rfl, this⟩
def evPure (P : Program) (o : Oper) (get : Operand → Option SV) (bk : List (Nat × Blk)) : Option SV :=
 match o.op with
 | .move x => get x
 | .assign x => get x
 | .makeFunc (.func f) first caps => if first.isEmpty then (capsOf get caps.toList).map fun l => .a (.one (.clo f l)) else (match first.toList, caps.toList with
   | [x], [] => match get x with
     | some (.a s) => bndOf f s
     | _ => none
   | _, _ => none)
 | .fieldAddr s x f => fieldAddrS P s (get x) f
 | .indexAddr t x ix => match indexAddrS P t (get x) (get ix) with
   | some r => some r
   | none => realOp P o get
 | .field t x f => match fieldS P t (get x) f with
   | some r => some r
   | none => realOp P o get
 | .index t x ix => match indexS P t (get x) (get ix) with
   | some r => some r
   | none => realOp P o get
 | .extract x i => match get x with
   | some (.tup l) => (l[i]?).map .a
   | _ => none
 | .nilCheck x => match get x with
   | some (.a (.one (.ptr k off))) => some (.a (.one (.ptr k off)))
   | some (.a (.one (.clo f l))) => some (.a (.one (.clo f l)))
   | some (.a (.one (.bnd f g l))) => some (.a (.one (.bnd f g l)))
   | _ => realOp P o get
 | .build t parts => buildS P t parts.toList get
 | .load t x => loadS P t (get x) bk
 | .slice t x lo hi mx => match sliceS P t (get x) get lo hi mx with
   | some r => some r
   | none => realOp P o get
 | .call c => match lenS P c get with
   | some r => some r
   | none => realOp P o get
 | _ => realOp P o get
section
variable {D : Den} {P : Program} {ρ : Nm} {wc w : World} {get : Operand → Option SV} {ev : Operand → Value}
theorem capsOf_ok (hg : ∀ x z, get x = some z → denV D ρ wc z (ev x)) : ∀ {l : List Operand} {c : List (Nat × Nat)}, capsOf get l = some c → adrs ρ c (l.map ev)
 | [], c, h => by cases h; rfl
 | x :: r, c, h => by
   unfold capsOf at h
   split at h
   ·rename_i k o hx
    obtain ⟨q, hq, rfl⟩ := Option.map_eq_some_iff.1 h
    obtain ⟨B, hB, e⟩ := hg _ _ hx
    exact ⟨B, _, hB, by rw [List.map_cons, show ev x = _ from by simpa using e], capsOf_ok hg hq⟩
   ·cases h
theorem realO_ok (hg : ∀ x z, get x = some z → denV D ρ wc z (ev x)) {x : Option Operand} {l : Option Value} (h : realO get x = some l) : l = x.map ev := by
 cases x with
 | none => cases h; rfl
 | some x =>
   unfold realO at h
   obtain ⟨v, hv, rfl⟩ := Option.map_eq_some_iff.1 h
   obtain ⟨z, hz, hr⟩ := Option.bind_eq_some_iff.1 hv
   rw [Option.map_some, realV_den hr (hg _ _ hz)]
theorem add_if (B off a c s : Nat) : (if c = a then (⟨B, off, none⟩ : Addr) else (⟨B, off, none⟩ : Addr).add (a * s)) = ⟨B, if c = a then off else off + a * s, none⟩ := by
 split
 ·rfl
 ·rw [Addr.add_mid]
theorem cutS_ok {len cap : Nat} {l h m : Option Value} {a b : Nat} (e : cutS len l h m = some (a, b)) (hc : len ≤ cap) :
  (Instr.sliceBounds true len cap l h m).run P w = .ok (a, b, cap) w ∧ a < b ∧ b ≤ len := by
 unfold cutS at e
 split at e
 ·rename_i a' b' hl hh
  split at e
  ·rename_i hab
   obtain ⟨rfl, rfl⟩ : a' = a ∧ b' = b := by simpa using e
   refine ⟨?_, hab⟩
   have hl0 : (l = none ∧ a' = 0) ∨ l = some (.int .i64 (Int.ofNat a')) := by
    split at hl
    ·cases hl; simp
    ·cases hl; simp
    ·cases hl
   have hhigh : (h = none ∧ b' = len) ∨ h = some (.int .i64 (Int.ofNat b')) := by
    split at hh
    ·cases hh; simp
    ·cases hh; simp
    ·cases hh
   have n1 : a' ≤ b' := by omega
   have n2 : b' ≤ cap := by omega
   unfold Instr.sliceBounds
   rcases hl0 with ⟨rfl, rfl⟩ | rfl <;> rcases hhigh with ⟨rfl, rfl⟩ | rfl <;> simp [Instr.sliceBound, asIntOf, n1, n2]
  ·cases e
 ·cases e
theorem loO_ok {l : Option Value} {a : Nat} (h : loO l = some a) : (l = none ∧ a = 0) ∨ l = some (.int .i64 (Int.ofNat a)) := by
 unfold loO at h
 split at h
 ·cases h; simp
 ·cases h; simp
 ·cases h
theorem cut3_ok {len cap : Nat} {l h m : Option Value} {a b c : Nat} (e : cut3 len l h m = some (a, b, c)) (hc : len ≤ cap) :
  (Instr.sliceBounds true len cap l h m).run P w = .ok (a, b, c) w := by
 unfold cut3 at e
 split at e
 ·rename_i c' b' a' hl
  split at e
  ·rename_i hab
   obtain ⟨rfl, rfl, rfl⟩ : a' = a ∧ b' = b ∧ c' = c := by simpa using e
   obtain ⟨n1, n2, n3⟩ := hab
   have n4 : c' ≤ cap := by omega
   unfold Instr.sliceBounds
   rcases loO_ok hl with ⟨rfl, rfl⟩ | rfl <;> simp [Instr.sliceBound, asIntOf, n1, n2, n4]
  ·cases e
 ·cases e
theorem cut0_ok {len cap : Nat} {l h m : Option Value} {a : Nat} (e : cut0 len l h m = some a) (hc : len ≤ cap) :
  (Instr.sliceBounds true len cap l h m).run P w = .ok (a, a, cap) w := by
 unfold cut0 at e
 split at e
 ·rename_i a' b' hl hh
  split at e
  ·rename_i hab
   obtain rfl : a' = a := by simpa using e
   obtain ⟨rfl, n2⟩ := hab
   have n4 : a' ≤ cap := by omega
   have hhigh : (h = none ∧ a' = len) ∨ h = some (.int .i64 (Int.ofNat a')) := by
    split at hh
    ·cases hh; simp
    ·rename_i hne
     rcases loO_ok hh with ⟨h1, h2⟩ | h1
     ·exact absurd h1 (by simpa using hne)
     ·exact .inr h1
   unfold Instr.sliceBounds
   rcases loO_ok hl with ⟨rfl, rfl⟩ | rfl <;> rcases hhigh with ⟨rfl, rfl⟩ | rfl <;> simp [Instr.sliceBound, asIntOf, n4]
  ·cases e
 ·cases e
theorem cutA_ok {k off len s cp : Nat} {l h' m : Option Value} {r : SV} (h : cutA k off len s l h' m = some r) {B : Pl} (hB : ρ k = some B) (h1 : len ≤ cp) {t e : TypeId} (hu : P.underlying t = some (.slice e)) (hs : szOf P e = some s) :
  ∃ v, (Instr.sliceAt t (.slice (some ⟨B.blk, B.base + off, none⟩) len cp) l h' m).run P w = .ok v w ∧ denV D ρ wc r v := by
 have go : ∀ {a b c : Nat}, (Instr.sliceBounds true len cp l h' m).run P w = .ok (a, b, c) w → (Instr.sliceAt t (.slice (some ⟨B.blk, B.base + off, none⟩) len cp) l h' m).run P w = .ok (.slice (some ⟨B.blk, B.base + (if c = a then off else off + a * s), none⟩) (b - a) (c - a)) w := by
  intro a b c g1
  unfold Instr.sliceAt
  simp only [Sem.run_bind, run_underlying hu, Result.andThen_ok]
  unfold Instr.slice
  simp only [Sem.run_bind, run_underlying hu, Result.andThen_ok, g1, run_szOf hs, Sem.run_pure]
  congr 2
  split <;> simp [Addr.add_mid, Nat.add_assoc]
 unfold cutA at h
 split at h
 ·rename_i a b hb
  cases h
  obtain ⟨g1, g2, g3⟩ := cutS_ok (P := P) (w := w) hb h1
  refine ⟨_, go g1, B, cp - a, hB, by omega, ?_⟩
  rw [if_neg (by omega)]
 ·split at h
  ·rename_i a b c hb
   cases h
   exact ⟨_, go (cut3_ok hb h1), B, hB, rfl⟩
  ·split at h
   ·rename_i a hb
    cases h
    exact ⟨_, go (cut0_ok hb h1), some ⟨B.blk, B.base + (if cp = a then off else off + a * s), none⟩, cp - a, fun hh => (by cases hh), by rw [Nat.sub_self]⟩
   ·cases h
theorem sliceS_ok (hg : ∀ x z, get x = some z → denV D ρ wc z (ev x)) {t : TypeId} {x : Operand} {lo hi mx : Option Operand} {r : SV} (h : sliceS P t (get x) get lo hi mx = some r) :
  ∃ v, (Instr.sliceAt t (ev x) (lo.map ev) (hi.map ev) (mx.map ev)).run P w = .ok v w ∧ denV D ρ wc r v := by
 unfold sliceS at h
 split at h
 ·rename_i l h' m hl hh hm
  rw [← realO_ok hg hl, ← realO_ok hg hh, ← realO_ok hg hm]
  split at h
  ·rename_i k off len cap e hx hu
   split at h
   ·rename_i a b c s hb hs
    cases h
    obtain ⟨B, hB, e1⟩ := hg _ _ hx
    rw [show ev x = _ from by simpa using e1]
    refine ⟨.slice (some ⟨B.blk, B.base + (if c = a then off else off + a * s), none⟩) (b - a) (c - a), ?_, B, hB, rfl⟩
    unfold Instr.sliceAt
    simp only [Sem.run_bind, run_underlying hu, Result.andThen_ok]
    unfold Instr.slice
    simp only [Sem.run_bind, run_underlying hu, Result.andThen_ok, pureOf_run hb, run_szOf hs, Sem.run_pure]
    congr 2
    split <;> simp [Addr.add_mid, Nat.add_assoc]
   ·cases h
  ·rename_i k off n e hx hu
   split at h
   ·rename_i a b c s hb hs
    cases h
    obtain ⟨B, hB, e1⟩ := hg _ _ hx
    rw [show ev x = _ from by simpa using e1]
    refine ⟨.slice (some ⟨B.blk, B.base + (if c = a then off else off + a * s), none⟩) (b - a) (c - a), ?_, B, hB, rfl⟩
    unfold Instr.sliceAt
    simp only [Sem.run_bind, run_underlying hu, Result.andThen_ok, Instr.sureAddr, pureOf_run hb, run_szOf hs, Sem.run_pure]
    rw [add_if]
    congr 2
    split <;> simp [Nat.add_assoc]
   ·cases h
  ·rename_i k len sz e hx hu
   split at h
   ·rename_i s hs
    obtain ⟨B, hB, h1, h2, h3, e1⟩ := hg _ _ hx
    rw [show ev x = _ from by simpa using e1]
    have := cutA_ok (D := D) (P := P) (w := w) (wc := wc) (ρ := ρ) h hB h1 hu hs
    rwa [h3, Nat.zero_add] at this
   ·cases h
  ·rename_i k off len e hx hu
   split at h
   ·rename_i s hs
    obtain ⟨B, cp, hB, h1, e1⟩ := hg _ _ hx
    rw [show ev x = _ from by simpa using e1]
    exact cutA_ok h hB h1 hu hs
   ·cases h
  ·rename_i e hx hu
   split at h
   ·rename_i s a hs hb
    cases h
    obtain ⟨p, c, hp, e1⟩ := hg _ _ hx
    rw [show ev x = _ from by simpa using e1]
    refine ⟨.slice (if c = a then p else p.map (·.add (a * s))) (a - a) (c - a), ?_, (if c = a then p else p.map (·.add (a * s))), c - a, fun hh => ?_, by rw [Nat.sub_self]⟩
    ·unfold Instr.sliceAt
     simp only [Sem.run_bind, run_underlying hu, Result.andThen_ok]
     unfold Instr.slice
     simp only [Sem.run_bind, run_underlying hu, Result.andThen_ok, cut0_ok (P := P) (w := w) hb (Nat.zero_le c), run_szOf hs, Sem.run_pure]
    ·split at hh
     ·omega
     ·have : p = none := by cases p with
       | none => rfl
       | some q => cases hh
      rw [hp this]
      omega
   ·cases h
  ·rename_i k off len n e hx hu
   split at h
   ·rename_i s b hs
    obtain ⟨B, cp, hB, h0, h1, e1⟩ := hg _ _ hx
    rw [show ev x = _ from by simpa using e1]
    have hh : ∀ {l m : Option Value} {r : SV}, cutA k off len s l (some b) m = some r → (Instr.sliceAt t (.slice (some ⟨B.blk, B.base + off, none⟩) n cp) l (some b) m).run P w = (Instr.sliceAt t (.slice (some ⟨B.blk, B.base + off, none⟩) len cp) l (some b) m).run P w := by
     intro l m r _
     unfold Instr.sliceAt
     simp only [Sem.run_bind, run_underlying hu, Result.andThen_ok]
     unfold Instr.slice
     simp only [Sem.run_bind, run_underlying hu, Result.andThen_ok]
     cases m <;> rfl
    rw [hh h]
    exact cutA_ok h hB (by omega) hu hs
   ·cases h
  ·cases h
 ·cases h
theorem realOp_ok (hg : ∀ x z, get x = some z → denV D ρ wc z (ev x)) {o : Oper} {r : SV} (h : realOp P o get = some r) :
  ∃ v, (execOp ev o).run P w = .ok (.value v) w ∧ denV D ρ wc r v := by
 unfold realOp at h
 split at h
 ·rename_i hc
  rw [Bool.and_eq_true] at hc
  split at h
  ·rename_i v hv
   refine ⟨v, ?_, ofVal_den h⟩
   rw [execOp_congr (ρ := ev) (ρ' := fun x => ((get x).bind realV).getD undef) o (fun cs b he => by rw [he] at hc; simp [isSelect] at hc) (fun x hx => by
    have := List.all_eq_true.1 hc.2 x (by simpa using hx)
    obtain ⟨y, hy⟩ := Option.isSome_iff_exists.1 this
    obtain ⟨z, hz, hr⟩ := Option.bind_eq_some_iff.1 hy
    rw [hy, Option.getD_some, realV_den hr (hg _ _ hz)])]
   exact pureOf_run hv w
  ·cases h
 ·cases h
theorem fieldAddrS_ok (hg : ∀ x z, get x = some z → denV D ρ wc z (ev x)) {s f : Nat} {x : Operand} {r : SV} (h : fieldAddrS P s (get x) f = some r) :
  ∃ v, (Instr.fieldAt s (ev x) f).run P w = .ok v w ∧ denV D ρ wc r v := by
 unfold fieldAddrS at h
 split at h
 ·rename_i k off hx
  split at h
  ·rename_i fs hu
   split at h
   ·rename_i fl hf
    split at h
    ·rename_i n hz
     cases h
     obtain ⟨B, hB, e1⟩ := hg _ _ hx
     rw [show ev x = _ from by simpa using e1]
     exact ⟨.pointer (some ⟨B.blk, B.base + (off + fl.offset), none⟩), by rw [← Nat.add_assoc]; exact run_fieldAt' hu hf hz, B, hB, rfl⟩
    ·cases h
   ·cases h
  ·cases h
 ·cases h
theorem indexAddrS_den {X I : Option SV} {vx vi : Value} (hX : ∀ s, X = some s → denV D ρ wc s vx) (hI : ∀ s, I = some s → denV D ρ wc s vi) {t : Nat} {r : SV} (h : indexAddrS P t X I = some r) :
  ∃ v, (Instr.indexAt t vx vi).run P w = .ok v w ∧ denV D ρ wc r v := by
 unfold indexAddrS at h
 split at h
 ·rename_i k off kd i
  split at h
  ·rename_i n e hu
   split at h
   ·rename_i s hz
    split at h
    ·rename_i hb
     cases h
     obtain ⟨B, hB, e1⟩ := hX _ rfl
     rw [show vx = _ from by simpa using e1, show vi = _ from by simpa using (hI _ rfl).1]
     exact ⟨.pointer (some ⟨B.blk, B.base + (off + i.toNat * s), none⟩), by rw [← Nat.add_assoc]; exact run_indexAt_a hu hz hb, B, hB, rfl⟩
    ·cases h
   ·cases h
  ·cases h
 ·rename_i k off len cap kd i
  split at h
  ·rename_i e hu
   split at h
   ·rename_i s hz
    split at h
    ·rename_i hb
     cases h
     obtain ⟨B, hB, e1⟩ := hX _ rfl
     rw [show vx = _ from by simpa using e1, show vi = _ from by simpa using (hI _ rfl).1]
     exact ⟨.pointer (some ⟨B.blk, B.base + (off + i.toNat * s), none⟩), by rw [← Nat.add_assoc]; exact run_indexAt_s hu hz hb, B, hB, rfl⟩
    ·cases h
   ·cases h
  ·cases h
 ·rename_i k off len kd i
  split at h
  ·rename_i e hu
   split at h
   ·rename_i s hz
    split at h
    ·rename_i hb
     cases h
     obtain ⟨B, c, hB, hc, e1⟩ := hX _ rfl
     rw [show vx = _ from by simpa using e1, show vi = _ from by simpa using (hI _ rfl).1]
     exact ⟨.pointer (some ⟨B.blk, B.base + (off + i.toNat * s), none⟩), by rw [← Nat.add_assoc]; exact run_indexAt_s hu hz hb, B, hB, rfl⟩
    ·cases h
   ·cases h
  ·cases h
 ·rename_i k len sz kd i
  split at h
  ·rename_i e hu
   split at h
   ·rename_i s hz
    split at h
    ·rename_i hb
     cases h
     obtain ⟨B, hB, h1, h2, h3, e1⟩ := hX _ rfl
     rw [show vx = _ from by simpa using e1, show vi = _ from by simpa using (hI _ rfl).1]
     refine ⟨.pointer (some ⟨B.blk, B.base + i.toNat * s, none⟩), ?_, B, hB, rfl⟩
     rw [h3, run_indexAt_s hu hz hb]
    ·cases h
   ·cases h
  ·cases h
 ·rename_i k off m n kd i
  split at h
  ·rename_i e hu
   split at h
   ·rename_i s hz
    split at h
    ·rename_i hb
     cases h
     obtain ⟨B, c, hB, hm, hc, e1⟩ := hX _ rfl
     rw [show vx = _ from by simpa using e1, show vi = _ from by simpa using (hI _ rfl).1]
     exact ⟨.pointer (some ⟨B.blk, B.base + (off + i.toNat * s), none⟩), by rw [← Nat.add_assoc]; exact run_indexAt_s hu hz ⟨hb.1, by omega⟩, B, hB, rfl⟩
    ·cases h
   ·cases h
  ·cases h
 ·cases h
theorem indexAddrS_ok (hg : ∀ x z, get x = some z → denV D ρ wc z (ev x)) {t : Nat} {x ix : Operand} {r : SV} (h : indexAddrS P t (get x) (get ix) = some r) :
  ∃ v, (Instr.indexAt t (ev x) (ev ix)).run P w = .ok v w ∧ denV D ρ wc r v := indexAddrS_den (hg x) (hg ix) h
theorem fieldS_ok (hg : ∀ x z, get x = some z → denV D ρ wc z (ev x)) {s f : Nat} {x : Operand} {r : SV} (h : fieldS P s (get x) f = some r) :
  ∃ v, (Instr.field s (ev x) f).run P w = .ok v w ∧ denV D ρ wc r v := by
 unfold fieldS at h
 split at h
 ·rename_i l hx
  split at h
  ·rename_i fs hu
   split at h
   ·rename_i fl hf
    obtain ⟨cs, e, hl⟩ := hg _ _ hx
    obtain ⟨v, h1, h2⟩ := partS_ok (P := P) (w := w) h hl
    refine ⟨v, ?_, h2⟩
    rw [e]
    unfold Instr.field
    simp only [Sem.run_bind, run_underlying hu, Result.andThen_ok, hf, asAgg, Sem.run_pure, h1]
   ·cases h
  ·cases h
 ·cases h
theorem indexS_den {X I : Option SV} {vx vi : Value} (hX : ∀ s, X = some s → denV D ρ wc s vx) (hI : ∀ s, I = some s → denV D ρ wc s vi) {t : Nat} {r : SV} (h : indexS P t X I = some r) :
  ∃ v, (Instr.index t vx vi).run P w = .ok v w ∧ denV D ρ wc r v := by
 unfold indexS at h
 split at h
 ·rename_i l kd i
  split at h
  ·rename_i n e hu
   split at h
   ·rename_i s hz
    split at h
    ·rename_i hb
     obtain ⟨cs, e1, hl⟩ := hX _ rfl
     obtain ⟨v, h1, h2⟩ := partS_ok (P := P) (w := w) h hl
     refine ⟨v, ?_, h2⟩
     rw [e1, show vi = _ from by simpa using (hI _ rfl).1]
     unfold Instr.index
     simp only [Sem.run_bind, asIntOf, run_underlying hu, Result.andThen_ok, Sem.run_pure, if_pos hb, run_szOf hz, h1]
    ·cases h
   ·cases h
  ·cases h
 ·cases h
theorem indexS_ok (hg : ∀ x z, get x = some z → denV D ρ wc z (ev x)) {t : Nat} {x ix : Operand} {r : SV} (h : indexS P t (get x) (get ix) = some r) :
  ∃ v, (Instr.index t (ev x) (ev ix)).run P w = .ok v w ∧ denV D ρ wc r v := indexS_den (hg x) (hg ix) h
theorem denAs_get : ∀ {l : List SA} {vs : List Value} {i : Nat} {x : SA}, denAs D ρ w l vs → l[i]? = some x → ∃ v, vs[i]? = some v ∧ denA D ρ w x v
 | [], vs, i, x, h, hx => by simp at hx
 | y :: l, vs, i, x, ⟨v, r, e, hv, hr⟩, hx => by
   subst e
   cases i with
   | zero => simp at hx; subst hx; exact ⟨v, by simp, hv⟩
   | succ i => simp at hx; simpa using denAs_get hr hx
end
end
end Go.Ex
namespace Go.Mono
open Go.RowKit
theorem rdF_list (w : World) (T : TypeId) (l : List Int) (hn : l.length ≤ 1000) : RdF (w.alloc (.cells (l.map (Value.int .i64)).toArray T)) (some ⟨w.heap.size, 0, none⟩) l.length l.length (fun i => l.getD i 0) := by
 refine rdF_new w T _ _ _ (fun i hi => ?_) hn
 simp [hi]
theorem getD_in {m : Int} {l : List Int} (h : ∀ x ∈ l, In m x) : ∀ i, i < l.length → -m ≤ l.getD i 0 ∧ l.getD i 0 ≤ m := by
 intro i hi
 have := h l[i] (List.getElem_mem hi)
 simpa [hi, In] using this
end Go.Mono
namespace Go.Proofs.YtcgfdibagldafaaGreatDoor
open Go.RowKit Go.Mono
theorem scheck2_ok (s : Srf) (hs : s.ok) (p : Option Addr) (c B : Nat) (w : World) (b0 : Box w B 91 (s.cs p c)) :
  Calls Tryz.prog 284 #[.pointer (some ⟨B, 0, none⟩)] w fun e w' => e = .returned (.bool true) ∧ Below w.heap.size w w' := by
 have cb0 := b0.cell
 have bx := fun W (h : Below w.heap.size w W) => (b0.below h).cell
 simp only [Srf.cs] at cb0 bx
 have h5 : ∀ x ∈ [s.curv, s.curvx, s.thick, s.dx, s.dy], In 1000000000 x := by
  intro x hx
  have := hs.curv; have := hs.curvx; have := hs.thick; have := hs.dx; have := hs.dy
  simp at hx
  rcases hx with rfl | rfl | rfl | rfl | rfl <;> assumption
 have h4 : ∀ x ∈ [s.a0, s.a1, s.a2, s.a3], In 1000000000 x := by
  intro x hx
  have := hs.a0; have := hs.a1; have := hs.a2; have := hs.a3
  simp at hx
  rcases hx with rfl | rfl | rfl | rfl <;> assumption
 have h2 : ∀ x ∈ [s.p0, s.p1], In 1000000000 x := by
  intro x hx
  have := hs.p0; have := hs.p1
  simp at hx
  rcases hx with rfl | rfl <;> assumption
 go_enter Tryz.func284, Tryz.ntmps284
 go_wp2_with fail
 refine (about_ok 1000000000 5 _ 5 (fun i => [s.curv, s.curvx, s.thick, s.dx, s.dy].getD i 0) _ (rdF_list w 3 [s.curv, s.curvx, s.thick, s.dx, s.dy] (by simp)) (by omega) (by omega) (getD_in h5)).mono ?_
 rintro e W1 ⟨rfl, hb1⟩
 have hB1 := belowCall (belowAlloc (Below.refl _ _) _) hb1
 have b1 := b0.below hB1
 have cb1 := bx W1 hB1
 go_wp2_with fail
 refine (about_ok 1000000000 4 _ 4 (fun i => [s.a0, s.a1, s.a2, s.a3].getD i 0) _ (RdF.box b1 5 4 _ ?_ (by decide)) (by omega) (by omega) (getD_in h4)).mono ?_
 ·intro i hi
  rcases (by omega : i = 0 ∨ i = 1 ∨ i = 2 ∨ i = 3) with rfl | rfl | rfl | rfl <;> rfl
 rintro e W2 ⟨rfl, hb2⟩
 have hB2 := belowCall hB1 hb2
 have b2 := b0.below hB2
 have cb2 := bx W2 hB2
 go_wp2_with fail
 refine (about_ok 1000000000 2 _ 2 (fun i => [s.p0, s.p1].getD i 0) _ (RdF.box b2 9 2 _ ?_ (by decide)) (by omega) (by omega) (getD_in h2)).mono ?_
 ·intro i hi
  rcases (by omega : i = 0 ∨ i = 1) with rfl | rfl <;> rfl
 rintro e W3 ⟨rfl, hb3⟩
 go_wp2
 go_ret
 exact ⟨rfl, belowCall hB2 hb3⟩
theorem scheck3_ok (s : Srf) (hs : s.ok) (p : Option Addr) (c B : Nat) (w : World) (b0 : Box w B 91 (s.cs p c)) :
  Calls Tryz.prog 286 #[.pointer (some ⟨B, 0, none⟩)] w fun e w' => e = .returned (.bool true) ∧ Below w.heap.size w w' := by
 have cb0 := b0.cell
 have bx := fun W (h : Below w.heap.size w W) => (b0.below h).cell
 simp only [Srf.cs] at cb0 bx
 have h2 : ∀ x ∈ [s.conic, s.conicx], In 100000000 x := by
  intro x hx
  have := hs.conic; have := hs.conicx
  simp at hx
  rcases hx with rfl | rfl <;> assumption
 have h3 : ∀ x ∈ [s.ax, s.ay, s.az], In 90000000 x := by
  intro x hx
  have := hs.ax; have := hs.ay; have := hs.az
  simp at hx
  rcases hx with rfl | rfl | rfl <;> assumption
 go_enter Tryz.func286, Tryz.ntmps286
 go_wp2_with fail
 refine (about_ok 100000000 2 _ 2 (fun i => [s.conic, s.conicx].getD i 0) _ (rdF_list w 3 [s.conic, s.conicx] (by simp)) (by omega) (by omega) (getD_in h2)).mono ?_
 rintro e W1 ⟨rfl, hb1⟩
 have hB1 := belowCall (belowAlloc (Below.refl _ _) _) hb1
 have cb1 := bx W1 hB1
 go_wp2_with fail
 refine (about_ok 90000000 3 _ 3 (fun i => [s.ax, s.ay, s.az].getD i 0) _ (rdF_list W1 3 [s.ax, s.ay, s.az] (by simp)) (by omega) (by omega) (getD_in h3)).mono ?_
 rintro e W2 ⟨rfl, hb2⟩
 go_wp2
 go_ret
 exact ⟨rfl, belowCall (belowAlloc hB1 _) hb2⟩
theorem scheck4_ok (s : Srf) (hs : s.ok) (p : Option Addr) (c B : Nat) (w : World) (b0 : Box w B 91 (s.cs p c)) :
  Calls Tryz.prog 287 #[.pointer (some ⟨B, 0, none⟩)] w fun e w' => e = .returned (.bool true) ∧ Below w.heap.size w w' := by
 have cb0 := b0.cell
 have bx := fun W (h : Below w.heap.size w W) => (b0.below h).cell
 simp only [Srf.cs] at cb0 bx
 have h1 : ∀ x ∈ [s.order], In 3 x := by
  intro x hx
  have := hs.order
  simp at hx
  subst hx
  assumption
 have h2 : ∀ i, i < 2 → 0 ≤ [s.semi, s.hole].getD i 0 ∧ [s.semi, s.hole].getD i 0 ≤ 1000000000 := by
  intro i hi
  have := hs.semi0; have := hs.semi1; have := hs.hole0; have := hs.hole1
  rcases (by omega : i = 0 ∨ i = 1) with rfl | rfl <;> constructor <;> assumption
 go_enter Tryz.func287, Tryz.ntmps287
 go_wp2_with fail
 refine (about_ok 3 1 _ 1 (fun i => [s.order].getD i 0) _ (rdF_list w 3 [s.order] (by simp)) (by omega) (by omega) (getD_in h1)).mono ?_
 rintro e W1 ⟨rfl, hb1⟩
 have hB1 := belowCall (belowAlloc (Below.refl _ _) _) hb1
 have cb1 := bx W1 hB1
 go_wp2_with fail
 refine (between_ok 0 1000000000 2 _ 2 (fun i => [s.semi, s.hole].getD i 0) _ (rdF_list W1 3 [s.semi, s.hole] (by simp)) h2).mono ?_
 rintro e W2 ⟨rfl, hb2⟩
 go_wp2
 go_ret
 exact ⟨rfl, belowCall (belowAlloc hB1 _) hb2⟩
end Go.Proofs.YtcgfdibagldafaaGreatDoor
namespace Go.Ex
open Go.RowKit Go.Mono
section
section
variable {D : Den} {P : Program} {ρ : Nm} {wc w : World} {get : Operand → Option SV} {ev : Operand → Value}
theorem partS_val {t : TypeId} {l : List U} {off : Nat} {x : SV} {cs : List Value} (h : partS P t l off = some x) (hl : denL D ρ wc l cs) :
  (∃ n m, rowT P t = some true ∧ szOf P t = some n ∧ x = .a (.agg m) ∧ denL D ρ wc m ((cs.drop off).take n) ∧ ((cs.drop off).take n).length = n) ∨
  (∃ u v, rowT P t = some false ∧ x = .a (.one u) ∧ cs[off]? = some v ∧ denU D ρ wc u [v]) := by
 unfold partS at h
 split at h
 ·rename_i n hr hz
  obtain ⟨m, hm, rfl⟩ := Option.map_eq_some_iff.1 h
  obtain ⟨h1, h2⟩ := subX_den hm hl
  exact .inl ⟨n, m, hr, hz, rfl, h1, h2⟩
 ·rename_i n hr hz
  split at h
  ·rename_i u hu
   cases h
   obtain ⟨h1, h2⟩ := subX_den hu hl
   obtain ⟨c, d, e, hc, hd⟩ := h1
   obtain rfl : d = [] := hd
   rw [List.append_nil] at e
   rw [e] at h2
   obtain ⟨v, rfl⟩ : ∃ v, c = [v] := List.length_eq_one_iff.1 h2
   refine .inr ⟨u, v, hr, rfl, ?_, hc⟩
   have := congrArg (·[0]?) e
   simpa using this
  ·cases h
 ·cases h
def Holds (w : World) (p : Pl) (T : TypeId) (sp : Bool) (cs : List Value) : Prop :=
 (p.ro = true ∧ w.rangeAt p.blk p.base cs) ∨ (p.ro = false ∧ p.base = 0 ∧ ∃ rest, (sp = false → rest = []) ∧ (sp = true → (cs ++ rest).length = p.tot) ∧ Box w p.blk T (cs ++ rest).toArray)
theorem Holds.cell {w : World} {p : Pl} {T : TypeId} {sp : Bool} {cs : List Value} (h : Holds w p T sp cs) {i : Nat} {v : Value} (hi : cs[i]? = some v) : w.cell? ⟨p.blk, p.base + i, none⟩ = some v := by
 rcases h with ⟨_, h⟩ | ⟨_, h0, rest, _, _, h⟩
 ·exact h i v hi
 ·rw [h0, Nat.zero_add, h.cell]
  have := (List.getElem?_eq_some_iff.1 hi).1
  simpa [List.getElem?_append_left this] using hi
theorem cell_of_block {w w' : World} {B : Nat} (h : w'.heap[B]? = w.heap[B]?) (o : Nat) : w'.cell? ⟨B, o, none⟩ = w.cell? ⟨B, o, none⟩ := by
 simp only [World.cell?, h]
theorem Holds.of_block {w w' : World} {p : Pl} {T : TypeId} {sp : Bool} {cs : List Value} (h : Holds w p T sp cs) (hb : w'.heap[p.blk]? = w.heap[p.blk]?) : Holds w' p T sp cs := by
 rcases h with ⟨h1, h⟩ | ⟨h1, h0, rest, h2, h3, h⟩
 ·exact .inl ⟨h1, fun j v hj => (cell_of_block hb _).trans (h j v hj)⟩
 ·exact .inr ⟨h1, h0, rest, h2, h3, ⟨hb.trans h.blk⟩⟩
def BkOk (D : Den) (ρ : Nm) (wc w : World) (bk : List (Nat × Blk)) : Prop :=
 ∀ k b, bk.look k = some b → b.dead = false → ∃ B cs, ρ k = some B ∧ Holds w B b.T b.sp cs ∧ denL D ρ wc b.cells cs ∧ B.ro = b.ro
theorem loadS_ok (hg : ∀ x z, get x = some z → denV D ρ wc z (ev x)) {bk : List (Nat × Blk)} (hb : BkOk D ρ wc w bk) {t : TypeId} {x : Operand} {r : SV} (h : loadS P t (get x) bk = some r) :
  ∃ v, (Instr.loadAt t (ev x)).run P w = .ok v w ∧ denV D ρ wc r v := by
 unfold loadS at h
 split at h
 ·rename_i k off hx
  split at h
  ·rename_i b hk
   split at h
   ·cases h
   rename_i hdd
   obtain ⟨B, cs, hB, bx, hl, _⟩ := hb k b hk (by simpa using hdd)
   obtain ⟨B', hB', e⟩ := hg _ _ hx
   cases hB.symm.trans hB'
   rw [show ev x = _ from by simpa using e]
   rcases partS_val h hl with ⟨n, m, hr, hz, rfl, h1, h2⟩ | ⟨u, v, hr, rfl, hv, hu⟩
   ·refine ⟨.agg ((cs.drop off).take n).toArray, ?_, _, rfl, h1⟩
    obtain ⟨d, hd, hd'⟩ := Option.map_eq_some_iff.1 hr
    refine run_loadAt_mid w B.blk (B.base + off) t _ d ?_ hd hd' (by rw [h2]; exact hz)
    intro j v hj
    rw [Nat.add_assoc]
    refine bx.cell ?_
    have hjl : j < n := by
     have := (List.getElem?_eq_some_iff.1 hj).1
     omega
    rw [List.getElem?_take, if_pos hjl, List.getElem?_drop] at hj
    simpa using hj
   ·refine ⟨v, ?_, hu⟩
    unfold Instr.loadAt loadVar
    simp only [Sem.run_bind, Instr.sureAddr, Sem.run_pure, Result.andThen_ok, run_rowT hr, Bool.false_eq_true, if_false]
    rw [run_load, bx.cell hv]
  ·cases h
 ·cases h
theorem lenS_ok (hg : ∀ x z, get x = some z → denV D ρ wc z (ev x)) {o : Oper} {c : Call} (ho : o.op = .call c) {r : SV} (h : lenS P c get = some r) :
  ∃ v, (execOp ev o).run P w = .ok (.value v) w ∧ denV D ρ wc r v := by
 obtain ⟨cal, ⟨args⟩, ⟨ts⟩⟩ := c
 unfold lenS at h
 dsimp only at h
 split at h
 ·rename_i x t
  split at h
  ·rename_i k off n cp e hx hu
   cases h
   obtain ⟨B, hB, e1⟩ := hg _ _ hx
   have e2 : ev x = .slice (some ⟨B.blk, B.base + off, none⟩) n cp := by simpa using e1
   refine ⟨goInt n, ?_, rfl, rfl⟩
   unfold execOp
   simp only [ho, resolve, Sem.run_bind, Sem.run_pure, Result.andThen_ok, invoke, builtin, Builtin.len_]
   simp [e2, run_underlying hu]
  ·rename_i k off n e hx hu
   cases h
   obtain ⟨B, cp, hB, hc, e1⟩ := hg _ _ hx
   have e2 : ev x = .slice (some ⟨B.blk, B.base + off, none⟩) n cp := by simpa using e1
   refine ⟨goInt n, ?_, rfl, rfl⟩
   unfold execOp
   simp only [ho, resolve, Sem.run_bind, Sem.run_pure, Result.andThen_ok, invoke, builtin, Builtin.len_]
   simp [e2, run_underlying hu]
  ·rename_i k n sz e hx hu
   cases h
   obtain ⟨B, hB, h1, h2, h3, e1⟩ := hg _ _ hx
   have e2 : ev x = .slice (some ⟨B.blk, 0, none⟩) n B.cap := by simpa using e1
   refine ⟨goInt n, ?_, rfl, rfl⟩
   unfold execOp
   simp only [ho, resolve, Sem.run_bind, Sem.run_pure, Result.andThen_ok, invoke, builtin, Builtin.len_]
   simp [e2, run_underlying hu]
  ·rename_i e hx hu
   cases h
   obtain ⟨p, cp, hp, e1⟩ := hg _ _ hx
   have e2 : ev x = .slice p 0 cp := by simpa using e1
   refine ⟨goInt (0 : Nat), ?_, rfl, rfl⟩
   unfold execOp
   simp only [ho, resolve, Sem.run_bind, Sem.run_pure, Result.andThen_ok, invoke, builtin, Builtin.len_]
   simp [e2, run_underlying hu]
  ·rename_i k off m n e hx hu
   cases h
   obtain ⟨B, cp, hB, h0, hc, e1⟩ := hg _ _ hx
   have e2 : ev x = .slice (some ⟨B.blk, B.base + off, none⟩) n cp := by simpa using e1
   refine ⟨goInt n, ?_, rfl⟩
   unfold execOp
   simp only [ho, resolve, Sem.run_bind, Sem.run_pure, Result.andThen_ok, invoke, builtin, Builtin.len_]
   simp [e2, run_underlying hu]
  ·rename_i p n c e hx hu
   cases h
   have e2 : ev x = .slice p n c := by
    have := hg _ _ hx
    simp [denV, denA, denU] at this
    exact this.1
   refine ⟨goInt n, ?_, rfl, rfl⟩
   unfold execOp
   simp only [ho, resolve, Sem.run_bind, Sem.run_pure, Result.andThen_ok, invoke, builtin, Builtin.len_]
   simp [e2, run_underlying hu]
  ·cases h
 ·rename_i x t
  split at h
  ·rename_i k off n cp e hx hu
   cases h
   obtain ⟨B, hB, e1⟩ := hg _ _ hx
   have e2 : ev x = .slice (some ⟨B.blk, B.base + off, none⟩) n cp := by simpa using e1
   refine ⟨goInt cp, ?_, rfl, rfl⟩
   unfold execOp
   simp only [ho, resolve, Sem.run_bind, Sem.run_pure, Result.andThen_ok, invoke, builtin, Builtin.cap_]
   simp [e2, run_underlying hu]
  ·cases h
 ·cases h
theorem evPure_ok (hg : ∀ x z, get x = some z → denV D ρ wc z (ev x)) {bk : List (Nat × Blk)} (hb : BkOk D ρ wc w bk) {o : Oper} {r : SV} (h : evPure P o get bk = some r) :
  ∃ v, (execOp ev o).run P w = .ok (.value v) w ∧ denV D ρ wc r v := by
 have viaV : ∀ {s : Sem Value}, (∃ v, s.run P w = .ok v w ∧ denV D ρ wc r v) → ∃ v, (do pure (Next.value (← s)) : Sem Next).run P w = .ok (.value v) w ∧ denV D ρ wc r v := by
  rintro s ⟨v, h1, h2⟩
  exact ⟨v, by simp only [Sem.run_bind, h1, Result.andThen_ok, Sem.run_pure], h2⟩
 unfold evPure at h
 split at h
 ·rename_i x ho
  exact ⟨ev x, by unfold execOp; rw [ho]; rfl, hg _ _ h⟩
 ·rename_i x ho
  exact ⟨ev x, by unfold execOp; rw [ho]; rfl, hg _ _ h⟩
 ·rename_i f first caps ho
  split at h
  ·rename_i hf
   obtain ⟨l, hl, rfl⟩ := Option.map_eq_some_iff.1 h
   have hc := capsOf_ok hg hl
   have hfe : first = #[] := Array.isEmpty_iff.1 hf
   subst hfe
   refine ⟨.func (.func f) #[] (caps.map ev), by unfold execOp; simp [ho, Instr.makeFunc], _, hc, ?_⟩
   congr 2
   apply Array.toList_inj.1
   simp
  ·split at h
   ·rename_i x hx hc
    split at h
    ·rename_i s hs
     obtain ⟨fl⟩ := first
     obtain ⟨cl⟩ := caps
     obtain rfl : fl = [x] := hx
     obtain rfl : cl = [] := hc
     exact ⟨.func (.func f) #[ev x] #[], by unfold execOp; simp [ho, Instr.makeFunc], bndOf_ok h (hg _ _ hs)⟩
    ·cases h
   ·cases h
 ·rename_i s x f ho
  unfold execOp
  rw [ho]
  exact viaV (fieldAddrS_ok hg h)
 ·rename_i t x ix ho
  split at h
  ·rename_i r' hr
   cases h
   unfold execOp
   rw [ho]
   exact viaV (indexAddrS_ok (x := x) (ix := ix) hg hr)
  ·exact realOp_ok hg h
 ·rename_i t x f ho
  split at h
  ·rename_i r' hr
   cases h
   unfold execOp
   rw [ho]
   exact viaV (fieldS_ok hg hr)
  ·exact realOp_ok hg h
 ·rename_i t x ix ho
  split at h
  ·rename_i r' hr
   cases h
   unfold execOp
   rw [ho]
   exact viaV (indexS_ok (x := x) (ix := ix) hg hr)
  ·exact realOp_ok hg h
 ·rename_i x i ho
  split at h
  ·rename_i l hx
   obtain ⟨y, hy, rfl⟩ := Option.map_eq_some_iff.1 h
   obtain ⟨vs, e, hl⟩ := hg _ _ hx
   obtain ⟨v, hv, hd⟩ := denAs_get hl hy
   unfold execOp
   rw [ho]
   refine viaV ⟨v, ?_, hd⟩
   rw [e]
   simp [Instr.extract, hv]
  ·cases h
 ·rename_i x ho
  split at h
  ·rename_i k off hx
   cases h
   have hd := hg _ _ hx
   obtain ⟨B, hB, e1⟩ := hd
   have e2 : ev x = .pointer (some ⟨B.blk, B.base + off, none⟩) := by simpa using e1
   refine ⟨ev x, ?_, B, hB, e1⟩
   unfold execOp
   rw [ho]
   simp only [e2]
   rfl
  ·rename_i f l hx
   cases h
   have hd := hg _ _ hx
   obtain ⟨vs, hv, e1⟩ := hd
   have e2 : ev x = .func (.func f) #[] vs.toArray := by simpa using e1
   refine ⟨ev x, ?_, vs, hv, e1⟩
   unfold execOp
   rw [ho]
   simp only [e2]
   rfl
  ·rename_i f g l hx
   cases h
   have hd := hg _ _ hx
   obtain ⟨u, e1, hu⟩ := hd
   have e2 : ev x = .func (.func f) #[u] #[] := by simpa using e1
   refine ⟨ev x, ?_, u, e1, hu⟩
   unfold execOp
   rw [ho]
   simp only [e2]
   rfl
  ·exact realOp_ok hg h
 ·rename_i t parts ho
  unfold execOp
  rw [ho]
  exact viaV (buildS_ok hg h w)
 ·rename_i t x ho
  unfold execOp
  rw [ho]
  exact viaV (loadS_ok hg hb h)
 ·rename_i t x lo hi mx ho
  split at h
  ·rename_i r' hr
   cases h
   unfold execOp
   rw [ho]
   exact viaV (sliceS_ok hg hr)
  ·exact realOp_ok hg h
 ·rename_i c ho
  split at h
  ·rename_i r' hr
   cases h
   exact lenS_ok hg ho hr
  ·exact realOp_ok hg h
 ·exact realOp_ok hg h
end
end
end Go.Ex
