/- Contracts of package coat and of the examples of its law, for the laws of layer 40. Part 19 of 40. No condition beside the row. -/
import Derived.Test.YtdgodcgdlfjpaaaGreatDoorA14
import Derived.Test.YtdgodcgdlfjpaaaGreatDoorA18
set_option linter.unusedVariables false
set_option linter.unusedSimpArgs false
set_option maxRecDepth 100000
set_option maxHeartbeats 4000000
namespace Go.Proofs.YtdgodcgdlfjpaaaGreatDoor
open Go.RowKit Go.Mono
theorem lenscheck_ok (nm : ByteArray) (di pu st pr : Int) (pf pw' ps pc : Option Addr) (nf cf n cw ns cs nc cc : Nat) (w : World)
  (hv : ∀ B W, Below w.heap.size w W → Box W B 258 #[.string nm, .int .i64 di, .int .i64 pu, .int .i64 st, .int .i64 pr, .slice pf nf cf, .slice pw' n cw, .slice ps ns cs, .slice pc nc cc] → Calls Tryz.prog 243 #[.pointer (some ⟨B, 0, none⟩)] W fun e w' => e = .returned (.bool true) ∧ Below W.heap.size W w') :
  Calls Tryz.prog 192 #[.agg #[.string nm, .int .i64 di, .int .i64 pu, .int .i64 st, .int .i64 pr, .slice pf nf cf, .slice pw' n cw, .slice ps ns cs, .slice pc nc cc]] w fun e w' => e = .returned (.int .i64 0) ∧ Below w.heap.size w w' := by
 have hmf : ∀ (fn : Fn) (first cap : Array Value) (w : World), (Instr.makeFunc fn first cap).run Tryz.prog w = .ok (.func fn first cap) w := fun _ _ _ _ => rfl
 go_enter Tryz.func192, Tryz.ntmps192
 go_wp2_with fail
 refine boxes2c fun W hB hs b0 b1 => ?_
 refine (hv _ W hB b1).mono ?_
 rintro e w' ⟨rfl, hb⟩
 go_wp2
 go_ret
 exact ⟨rfl, belowCall hB hb⟩
theorem possible_ok (z : Int) (h1 : 10000000 ≤ z) (h2 : z ≤ 40000000) (w : World) :
  Calls Tryz.prog 194 #[.int .i64 z] w fun e w' => e = .returned (.bool true) ∧ w' = w := by
 go_enter Tryz.func194, Tryz.ntmps194
 go_wp2
 go_ret
 exact ⟨rfl, rfl⟩
theorem every_ok (n : Nat) (p : Option Addr) (c : Nat) (f : Nat → Int) (w : World) (h : RdF w p n c f) (hf : ∀ i, i < n → 10000000 ≤ f i ∧ f i ≤ 40000000) :
  Calls Tryz.prog 196 #[.slice p n c, .func (.func 194) #[] #[]] w fun e w' => e = .returned (.bool true) ∧ w' = w := by
 obtain ⟨hc1, hn1, hx1⟩ := h
 go_enter Tryz.func196, Tryz.ntmps196
 go_wp2
 go_loopw [9] (fun a wr => ∃ k : Nat, k ≤ n ∧ a = .int .i64 (k : Int) ∧ wr = w) (fun a _ => (n - intOf a).toNat)
 case atStart => exact ⟨0, Nat.zero_le _, rfl, rfl⟩
 case round =>
  obtain ⟨k, hk, rfl, rfl⟩ := hrel
  by_cases h0 : k < n
  ·obtain ⟨b, off, rfl, hb, hcell⟩ := hx1 (by omega)
   have a1 := hcell k (by omega)
   obtain ⟨f1, f2⟩ := hf k h0
   clear hcell hx1 hf
   have h0' : (k : Int) < n := by omega
   go_wp2_with (go_at_call 194; refine (possible_ok _ f1 f2 _).mono ?_; rintro e w' ⟨rfl, rfl⟩)
   go_roundw
   case rel => refine ⟨k + 1, by omega, ?_⟩; simp
   case measure => simp [intOf]; omega
  ·obtain rfl : k = n := by omega
   go_wp2
   go_ret
   exact ⟨rfl, rfl⟩
end Go.Proofs.YtdgodcgdlfjpaaaGreatDoor
namespace Go.Mono
open Go.RowKit
structure Lns where
 nm : ByteArray
 di : Int
 pu : Int
 st : Int
 pr : Int
 nf : Nat
 X : Nat → Int
 Y : Nat → Int
 nw : Nat
 L : Nat → Int
 W : Nat → Int
 ns : Nat
 S : Nat → Srf
 ix : Nat → Nat → Int
structure Plc where
 pf : Option Addr
 cf : Nat
 pw : Option Addr
 cw : Nat
 ps : Option Addr
 cs : Nat
 pc : Option Addr
 cc : Nat
 cp : Nat → Option Addr
 cl : Nat → Nat
 pi : Option Addr
 ci : Nat
 pI : Nat → Option Addr
 cI : Nat → Nat
def Lns.lvals (a : Lns) (q : Plc) : Array Value :=
 #[.string a.nm, .int .i64 a.di, .int .i64 a.pu, .int .i64 a.st, .int .i64 a.pr, .slice q.pf a.nf q.cf, .slice q.pw a.nw q.cw, .slice q.ps a.ns q.cs, .slice q.pc 0 q.cc]
def Lns.ovals (a : Lns) (q : Plc) : Array Value :=
 #[.string a.nm, .int .i64 a.di, .int .i64 a.pu, .int .i64 a.st, .int .i64 a.pr, .slice q.pf a.nf q.cf, .slice q.pw a.nw q.cw, .slice q.ps a.ns q.cs, .slice q.pc 0 q.cc, .slice q.pi a.ns q.ci]
structure LnsAt (w : World) (a : Lns) (q : Plc) : Prop where
 fields : RdC w q.pf a.nf q.cf 2 (fun i j => if j = 0 then .int .i64 (a.X i) else .int .i64 (a.Y i))
 waves : RdC w q.pw a.nw q.cw 2 (fun i j => if j = 0 then .int .i64 (a.L i) else .int .i64 (a.W i))
 surfs : RdC w q.ps a.ns q.cs 22 (fun i j => ((a.S i).cs (q.cp i) (q.cl i)).getD j undef)
theorem LnsAt.below {w w' : World} {a : Lns} {q : Plc} (h : LnsAt w a q) (hB : Below w.heap.size w w') : LnsAt w' a q := ⟨h.fields.below hB, h.waves.below hB, h.surfs.below hB⟩
structure OptAt (w : World) (a : Lns) (q : Plc) : Prop extends LnsAt w a q where
 index : RdC w q.pi a.ns q.ci 1 (fun i _ => .slice (q.pI i) a.nw (q.cI i))
 row : ∀ i, i < a.ns → RdF w (q.pI i) a.nw (q.cI i) (a.ix i)
theorem OptAt.below {w w' : World} {a : Lns} {q : Plc} (h : OptAt w a q) (hB : Below w.heap.size w w') : OptAt w' a q := ⟨h.toLnsAt.below hB, h.index.below hB, fun i hi => (h.row i hi).below hB⟩
structure Lns.ok (a : Lns) : Prop where
 name : NameOk a.nm
 di : 0 ≤ a.di ∧ a.di ≤ 1000000000
 pu : 1 ≤ a.pu ∧ a.pu ≤ 1000000000
 nf : 1 ≤ a.nf ∧ a.nf ≤ 5
 fr : ∀ i, i < a.nf → In (if a.di = 0 then 1000000 else 1000000000) (a.X i) ∧ In (if a.di = 0 then 1000000 else 1000000000) (a.Y i)
 fd : ∀ i k, k < i → i < a.nf → ¬ (a.X i = a.X k ∧ a.Y i = a.Y k)
 nw : 1 ≤ a.nw ∧ a.nw ≤ 5
 pr : 0 ≤ a.pr ∧ a.pr ≤ a.nw - 1
 wl : ∀ i, i < a.nw → 300000 ≤ a.L i ∧ a.L i ≤ 2500000
 wm : ∀ i, i + 1 < a.nw → a.L i < a.L (i + 1)
 ww : ∀ i, i < a.nw → 1 ≤ a.W i ∧ a.W i ≤ 100
 ns : 2 ≤ a.ns ∧ a.ns ≤ 16
 st : 0 ≤ a.st ∧ a.st ≤ a.ns - 2
 sok : ∀ i, i < a.ns → (a.S i).ok
 image : (a.S (a.ns - 1)).kind = 1 ∧ (a.S (a.ns - 1)).glass = { data := #[] } ∧ (a.S (a.ns - 1)).thick = 0 ∧ (a.S (a.ns - 1)).order = 0
 stop : (a.S a.st.toNat).kind ≠ 3
def Lns.through (a : Lns) (i : Nat) : Prop := (a.S i).glass = mirror ∨ (a.S i).kind = 3 ∨ (a.S i).kind = 4 ∨ i + 1 = a.ns
def Lns.ahead (a : Lns) (i j : Nat) : Int := if i = 0 then 10000000 else a.ix (i - 1) j
structure Lns.opt (a : Lns) : Prop where
 base : Lns.ok a
 ir : ∀ i j, i < a.ns → j < a.nw → 10000000 ≤ a.ix i j ∧ a.ix i j ≤ 40000000
 it : ∀ i j, i < a.ns → a.through i → j < a.nw → a.ix i j = a.ahead i j
 ia : ∀ i j, i < a.ns → ¬ a.through i → (a.S i).glass = { data := #[] } → j < a.nw → a.ix i j = 10000000
section
section
variable {P : Program} {ops : Array Oper} {rest : List Oper} {o : Oper} {a : Act} {Q : Exit → Act → World → Prop}
theorem wpList_copy_rd (w : World) (hg : o.guard = none) (d s : Operand) (dT sT : TypeId) (ho : o.op = .call { callee := .builtin .copy, args := #[d, s], argTypes := #[dT, sT] })
  (hu : P.underlying dT = some (.slice 3)) (hsz : (P.info? 3).map (·.size) = some 1)
  (g N cap R : Nat) (h : Nat → Int) (p : Option Addr) (n c : Nat) (f : Nat → Int) (hd : a.eval d = .slice (some ⟨g, 0, none⟩) N cap) (hs : a.eval s = .slice p n c)
  (hrow : RowF w g R h) (hsrc : RdF w p n c f) (hnN : n ≤ N) (hNR : N ≤ R) (B : Nat) (w0 : World) (hb : Below B w0 w) (hBg : B ≤ g)
  (hK : ∀ w', RowF w' g R (fun j => if j < n then f j else h j) → Below B w0 w' → wpList P ops Q rest (a.put o.dst (goInt n)) w') :
  wpList P ops Q (o :: rest) a w := by
 obtain ⟨cs, h1, h2, h3⟩ := hrow
 have hlen : ((List.range n).map fun i => Value.int .i64 (f i)).length = n := by simp
 refine wpList_copy_splice (w := w) hg d s dT sT ho 3 hu hsz _ _ N cap n c hd hs g 0 cs.toList 3 (by simpa using h1) ((List.range n).map fun i => Value.int .i64 (f i)) (by rw [hlen]; exact (Nat.min_eq_left hnN).symm) ?_ (by rw [hlen]; simp; omega) ?_ B w0 hb hBg ?_
 ·intro hp
  rw [hlen] at hp
  obtain ⟨_, _, hx⟩ := hsrc
  obtain ⟨b, off, rfl, _, hcell⟩ := hx hp
  refine ⟨rfl, _, rfl, fun j v hj => ?_⟩
  simp only [List.getElem?_map, Option.map_eq_some_iff] at hj
  obtain ⟨i, hi, rfl⟩ := hj
  obtain ⟨hlt, he⟩ := List.getElem?_eq_some_iff.1 hi
  simp at hlt he
  subst he
  have := hcell j hlt
  by_cases h0 : j = 0
  ·subst h0; simpa [Addr.add] using this
  ·simpa [Addr.add, h0] using this
 ·intro v hv
  simp at hv
  obtain ⟨i, _, rfl⟩ := hv
  rfl
 ·intro w' hw' hb'
  rw [hlen]
  refine hK w' ⟨_, hw'.out, ?_, fun j hj => ?_⟩ hb'
  ·simp [splice]; omega
  ·simp only [splice, List.take_zero, List.nil_append, Nat.zero_add, hlen]
   simp only [List.getElem?_toArray, List.getElem?_append, List.length_map, List.length_range, List.getElem?_drop]
   by_cases hjn : j < n
   ·simp [hjn]
   ·simp only [hjn, if_false]
    rw [show n + (j - n) = j by omega]
    simpa using h3 j hj
end
end
end Go.Mono
namespace Go.Proofs.YtdgodcgdlfjpaaaGreatDoor
open Go.RowKit Go.Mono
theorem repeat1_ok (p : Option Addr) (c : Nat) (z : Int) (w : World) (h : RdF w p 1 c (fun _ => z)) :
  Calls Tryz.prog 244 #[.slice p 1 c, .int .i64 1] w fun e w' => ∃ p' c', e = .returned (.slice p' 1 c') ∧ RdF w' p' 1 c' (fun _ => z) ∧ Below w.heap.size w w' := by
 go_enter Tryz.func244, Tryz.ntmps244
 go_wp2_with first | (at_make; refine wpList_make_ints _ rfl _ _ 33 rfl Tryz.underlying33 infoInt _ _ 1 rfl rfl (by simp) (by simp) (by omega) ?_; intro w1 r1 b1; have s1 := b1.size; have L1 := r1.lt) | (with_reducible refine wpList_copy_rd _ rfl (.tmp 31) (.tmp 32) 33 33 rfl Tryz.underlying33 sizeInt w.heap.size 1 _ 1 _ _ 1 c (fun _ => z) rfl rfl r1 (h.below b1) (by omega) (by omega) w.heap.size w b1 (Nat.le_refl _) ?_; intro w2 r2 b2) | go_in
 go_loopw [8] (fun a wr => a = .int .i64 1 ∧ wr = w2) (fun _ _ => 0)
 case atStart => exact ⟨rfl, rfl⟩
 case round =>
  obtain ⟨rfl, rfl⟩ := hrel
  go_wp2
  go_ret
  refine ⟨_, _, rfl, ⟨by omega, by omega, fun _ => ⟨_, 0, rfl, r2.lt, fun i hi => ?_⟩⟩, b2⟩
  rw [Nat.zero_add, r2.cell i hi]
  simp [hi]
theorem air1_ok (M : Nat) (pw : Option Addr) (cw : Nat) (w : World) (hw : w.cell? ⟨M, 6, none⟩ = some (.slice pw 1 cw)) :
  Calls Tryz.prog 193 #[.pointer (some ⟨M, 0, none⟩)] w fun e w' => ∃ p' c', e = .returned (.slice p' 1 c') ∧ RdF w' p' 1 c' (fun _ => 10000000) ∧ Below w.heap.size w w' := by
 have hlt : M < w.heap.size := block_lt_of_cell hw
 go_enter Tryz.func193, Tryz.ntmps193
 go_wp2_with fail
 refine boxes1c fun W hB hs b0 => ?_
 refine (repeat1_ok _ _ 10000000 W (.box b0 0 1 _ (fun i hi => by obtain rfl : i = 0 := (by omega); rfl) (by omega))).mono ?_
 rintro e w' ⟨p', c', rfl, hr, hb⟩
 go_wp2
 go_ret
 exact ⟨_, _, rfl, hr, belowCall hB hb⟩
end Go.Proofs.YtdgodcgdlfjpaaaGreatDoor
