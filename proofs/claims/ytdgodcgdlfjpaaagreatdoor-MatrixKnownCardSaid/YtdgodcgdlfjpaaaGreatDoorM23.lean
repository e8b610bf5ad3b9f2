/- The law MatrixKnown: the examples of the ray transfer matrices, afocal lenses, mirrors and the order of errors; its walk by a verified evaluator of the model, and its card. Part 23 of 36. No condition beside the row. -/
import Derived.Deep.MidRow
import Derived.Test.YtdgodcgdlfjpaaaGreatDoorM22
set_option linter.unusedVariables false
set_option linter.unusedSimpArgs false
set_option maxRecDepth 100000
set_option maxHeartbeats 4000000
namespace Go.Proofs.YtdgodcgdlfjpaaaGreatDoor
open Go.RowKit Go.Mono
theorem isurf_none (n c : Nat) (p : Option Addr) (A : Nat → Array Value) (hA : ∀ i, (A i).size = 22) (g : Nat) (eg : ∀ args w, (callFunc g args).run Tryz.prog w = .ok (.enter g args) w) (w : World)
  (h : RdC w p n c 22 (fun i j => (A i).getD j undef))
  (hf : ∀ i, i < n → ∀ W, Below w.heap.size w W → Calls Tryz.prog g #[.agg (A i)] W fun e w' => e = .returned (.bool false) ∧ Below W.heap.size W w') :
  Calls Tryz.prog 292 #[.slice p n c, .func (.func g) #[] #[]] w fun e w' => e = .returned (.int .i64 (-1)) ∧ Below w.heap.size w w' := by
 obtain ⟨hc1, hn1, hx1⟩ := h
 have hsz : (Tryz.prog.info? 104).map (·.size) = some 22 := by kernel_rfl
 go_enter Tryz.func292, Tryz.ntmps292
 go_wp2
 go_loopw [8] (fun a wr => ∃ k : Nat, k ≤ n ∧ a = .int .i64 (k : Int) ∧ Below w.heap.size w wr) (fun a _ => (n - intOf a).toNat)
 case atStart => exact ⟨0, Nat.zero_le _, rfl, Below.refl _ _⟩
 case round =>
  obtain ⟨k, hk, rfl, hB⟩ := hrel
  by_cases h0 : k < n
  ·obtain ⟨b, off, rfl, hb, hcell⟩ := hx1 (by omega)
   have hAk := hA k
   have hrange : wr.rangeAt b (off + k * 22) (A k).toList := fun j v hv => by
    have hj : j < 22 := by
     have := (List.getElem?_eq_some_iff.1 hv).1
     simpa [hAk] using this
    refine ((hB.cell hb).trans (hcell k j h0 hj)).trans ?_
    rw [Array.getElem?_toList] at hv
    rw [Array.getD_eq_getD_getElem?, hv]
    rfl
   have hfk := hf k h0 wr hB
   have hi : (Tryz.prog.info? 104).map (·.size) = some (A k).toList.length := by rw [hsz]; simp [hAk]
   clear hcell hx1 hf hA hAk
   generalize A k = AK at *
   have h0' : (k : Int) < n := by omega
   go_wp2_with (refine wpList_load_mid rfl 104 _ rfl b (off + k * 22) rfl AK.toList _ hrange Tryz.underlying104 rfl hi ?_)
   refine hfk.mono ?_
   rintro e w' ⟨rfl, hb'⟩
   go_wp2
   go_roundw
   case rel => exact ⟨k + 1, by omega, by simp, belowCall hB hb'⟩
   case measure => simp [intOf]; omega
  ·obtain rfl : k = n := by omega
   clear hx1 hf
   go_wp2
   go_ret
   exact ⟨rfl, hB⟩
theorem csurf_none (n c : Nat) (p : Option Addr) (A : Nat → Array Value) (hA : ∀ i, (A i).size = 22) (g : Nat) (eg : ∀ args w, (callFunc g args).run Tryz.prog w = .ok (.enter g args) w) (w : World)
  (h : RdC w p n c 22 (fun i j => (A i).getD j undef))
  (hf : ∀ i, i < n → ∀ W, Below w.heap.size w W → Calls Tryz.prog g #[.agg (A i)] W fun e w' => e = .returned (.bool false) ∧ Below W.heap.size W w') :
  Calls Tryz.prog 283 #[.slice p n c, .func (.func g) #[] #[]] w fun e w' => e = .returned (.bool false) ∧ Below w.heap.size w w' := by
 have hi := isurf_none n c p A hA g eg w h hf
 clear h hf hA
 go_enter Tryz.func283, Tryz.ntmps283
 go_wp2_with (go_at_call 292; refine hi.mono ?_; rintro e w' ⟨rfl, hb⟩)
 go_ret
 exact ⟨rfl, hb⟩
theorem enters_surfaces1 : ∀ args w, (callFunc 282 args).run Tryz.prog w = .ok (.enter 282 args) w := Go.Proofs.enters_of Tryz.func282 (by kernel_rfl) rfl
theorem Box.range {w : World} {B : Nat} {T : TypeId} {cs : Array Value} (b : Box w B T cs) : w.rangeAt B 0 cs.toList := fun j v hv => by
 rw [Nat.zero_add, b.cell, ← Array.getElem?_toList]
 exact hv
theorem surfaces1_ok (A : Array Value) (hA : A.size = 22) (w : World) (hc : ∀ W, Below w.heap.size w W → Calls Tryz.prog 150 #[.agg A] W fun e w' => e = .returned (.int .i64 0) ∧ Below W.heap.size W w') :
  Calls Tryz.prog 282 #[.agg A] w fun e w' => e = .returned (.bool false) ∧ Below w.heap.size w w' := by
 have hsz : (Tryz.prog.info? 104).map (·.size) = some 22 := by kernel_rfl
 have hi : (Tryz.prog.info? 104).map (·.size) = some A.toList.length := by rw [hsz]; simp [hA]
 go_enter Tryz.func282, Tryz.ntmps282
 go_wp2_with (refine wpList_load_mid rfl 104 _ rfl w.heap.size 0 rfl A.toList _ (Box.range (Box.new w 104 A)) Tryz.underlying104 rfl hi ?_)
 refine (hc _ (belowAlloc (Below.refl _ _) _)).mono ?_
 rintro e w' ⟨rfl, hb⟩
 go_wp2
 go_ret
 exact ⟨rfl, belowCall (belowAlloc (Below.refl _ _) _) hb⟩
theorem enters_valid : (∀ args w, (callFunc 266 args).run Tryz.prog w = .ok (.enter 266 args) w) ∧ (∀ args w, (callFunc 267 args).run Tryz.prog w = .ok (.enter 267 args) w) ∧ (∀ args w, (callFunc 269 args).run Tryz.prog w = .ok (.enter 269 args) w) ∧ (∀ args w, (callFunc 270 args).run Tryz.prog w = .ok (.enter 270 args) w) ∧ (∀ args w, (callFunc 271 args).run Tryz.prog w = .ok (.enter 271 args) w) ∧ (∀ args w, (callFunc 272 args).run Tryz.prog w = .ok (.enter 272 args) w) :=
 ⟨Go.Proofs.enters_of Tryz.func266 (by kernel_rfl) rfl, Go.Proofs.enters_of Tryz.func267 (by kernel_rfl) rfl, Go.Proofs.enters_of Tryz.func269 (by kernel_rfl) rfl, Go.Proofs.enters_of Tryz.func270 (by kernel_rfl) rfl, Go.Proofs.enters_of Tryz.func271 (by kernel_rfl) rfl, Go.Proofs.enters_of Tryz.func272 (by kernel_rfl) rfl⟩
def vG : Nat → Nat := fun i => if i = 0 then 266 else if i = 1 then 267 else if i = 2 then 269 else if i = 3 then 270 else if i = 4 then 271 else 272
def vF (B : Nat) : Nat → Array Value := fun i => if i < 2 then #[] else #[.pointer (some ⟨B, 0, none⟩)]
def vC (A : Nat) : Nat → Array Value := fun i => if i < 2 then #[.pointer (some ⟨A, 0, none⟩)] else #[]
theorem valid_ok (B : Nat) (w : World)
  (h1 : ∀ A W, Below w.heap.size w W → Box W A 286 #[.pointer (some ⟨B, 0, none⟩)] → Calls Tryz.prog 266 #[.pointer (some ⟨A, 0, none⟩)] W fun e w' => e = .returned (.bool true) ∧ Below W.heap.size W w')
  (h2 : ∀ A W, Below w.heap.size w W → Box W A 286 #[.pointer (some ⟨B, 0, none⟩)] → Calls Tryz.prog 267 #[.pointer (some ⟨A, 0, none⟩)] W fun e w' => e = .returned (.bool true) ∧ Below W.heap.size W w')
  (h3 : ∀ W, Below w.heap.size w W → Calls Tryz.prog 269 #[.pointer (some ⟨B, 0, none⟩)] W fun e w' => e = .returned (.bool true) ∧ Below W.heap.size W w')
  (h4 : ∀ W, Below w.heap.size w W → Calls Tryz.prog 270 #[.pointer (some ⟨B, 0, none⟩)] W fun e w' => e = .returned (.bool true) ∧ Below W.heap.size W w')
  (h5 : ∀ W, Below w.heap.size w W → Calls Tryz.prog 271 #[.pointer (some ⟨B, 0, none⟩)] W fun e w' => e = .returned (.bool true) ∧ Below W.heap.size W w')
  (h6 : ∀ W, Below w.heap.size w W → Calls Tryz.prog 272 #[.pointer (some ⟨B, 0, none⟩)] W fun e w' => e = .returned (.bool true) ∧ Below W.heap.size W w') :
  Calls Tryz.prog 243 #[.pointer (some ⟨B, 0, none⟩)] w fun e w' => e = .returned (.bool true) ∧ Below w.heap.size w w' := by
 have hmf : ∀ (fn : Fn) (first cap : Array Value) (w : World), (Instr.makeFunc fn first cap).run Tryz.prog w = .ok (.func fn first cap) w := fun _ _ _ _ => rfl
 go_enter Tryz.func243, Tryz.ntmps243
 go_wp2_with fail
 refine boxes2c fun W hB hs b0 b1 => ?_
 obtain ⟨e1, e2, e3, e4, e5, e6⟩ := enters_valid
 refine (lall_ok 6 6 _ vG (vF B) (vC w.heap.size) W ⟨by omega, by omega, fun _ => ⟨_, _, rfl, b1.lt, fun i j hi hj => ?_⟩⟩ (fun i hi => ?_) (fun i hi W' hW => ?_)).mono ?_
 ·obtain rfl : j = 0 := by omega
  rw [b1.cell]
  rcases (by omega : i = 0 ∨ i = 1 ∨ i = 2 ∨ i = 3 ∨ i = 4 ∨ i = 5) with rfl | rfl | rfl | rfl | rfl | rfl <;> rfl
 ·rcases (by omega : i = 0 ∨ i = 1 ∨ i = 2 ∨ i = 3 ∨ i = 4 ∨ i = 5) with rfl | rfl | rfl | rfl | rfl | rfl
  ·exact e1
  ·exact e2
  ·exact e3
  ·exact e4
  ·exact e5
  ·exact e6
 ·have hBW := belowCall hB hW
  rcases (by omega : i = 0 ∨ i = 1 ∨ i = 2 ∨ i = 3 ∨ i = 4 ∨ i = 5) with rfl | rfl | rfl | rfl | rfl | rfl
  ·exact h1 _ W' hBW (b0.below hW)
  ·exact h2 _ W' hBW (b0.below hW)
  ·exact h3 W' hBW
  ·exact h4 W' hBW
  ·exact h5 W' hBW
  ·exact h6 W' hBW
 rintro e w' ⟨rfl, hb⟩
 go_wp2
 go_ret
 exact ⟨rfl, belowCall hB hb⟩
theorem lenscheck_ok (nm : ByteArray) (di pu st pr : Int) (pf pw' ps pc : Option Addr) (nf cf n cw ns cs nc cc : Nat) (w : World)
  (hv : ∀ B W, Below w.heap.size w W → Box W B 258 #[.string nm, .int .i64 di, .int .i64 pu, .int .i64 st, .int .i64 pr, .slice pf nf cf, .slice pw' n cw, .slice ps ns cs, .slice pc nc cc] → Calls Tryz.prog 243 #[.pointer (some ⟨B, 0, none⟩)] W fun e w' => e = .returned (.bool true) ∧ Below W.heap.size W w') :
  Calls Tryz.prog 192 #[.agg #[.string nm, .int .i64 di, .int .i64 pu, .int .i64 st, .int .i64 pr, .slice pf nf cf, .slice pw' n cw, .slice ps ns cs, .slice pc nc cc]] w fun e w' => e = .returned (.int .i64 0) ∧ Below w.heap.size w w' := by
 have hmf : ∀ (fn : Fn) (first cap : Array Value) (w : World), (Instr.makeFunc fn first cap).run Tryz.prog w = .ok (.func fn first cap) w := fun _ _ _ _ => rfl
 go_enter Tryz.func192, Tryz.ntmps192
 go_wp2_with fail
 refine boxes2c fun W hB hs b0 b1 => ?_
 refine (hv _ W hB b1).mono ?_
 rintro e w' ⟨rfl, hb⟩
 go_wp2
 go_ret
 exact ⟨rfl, belowCall hB hb⟩
theorem possible_ok (z : Int) (h1 : 10000000 ≤ z) (h2 : z ≤ 40000000) (w : World) :
  Calls Tryz.prog 194 #[.int .i64 z] w fun e w' => e = .returned (.bool true) ∧ w' = w := by
 go_enter Tryz.func194, Tryz.ntmps194
 go_wp2
 go_ret
 exact ⟨rfl, rfl⟩
theorem every_ok (n : Nat) (p : Option Addr) (c : Nat) (f : Nat → Int) (w : World) (h : RdF w p n c f) (hf : ∀ i, i < n → 10000000 ≤ f i ∧ f i ≤ 40000000) :
  Calls Tryz.prog 196 #[.slice p n c, .func (.func 194) #[] #[]] w fun e w' => e = .returned (.bool true) ∧ w' = w := by
 obtain ⟨hc1, hn1, hx1⟩ := h
 go_enter Tryz.func196, Tryz.ntmps196
 go_wp2
 go_loopw [9] (fun a wr => ∃ k : Nat, k ≤ n ∧ a = .int .i64 (k : Int) ∧ wr = w) (fun a _ => (n - intOf a).toNat)
 case atStart => exact ⟨0, Nat.zero_le _, rfl, rfl⟩
 case round =>
  obtain ⟨k, hk, rfl, rfl⟩ := hrel
  by_cases h0 : k < n
  ·obtain ⟨b, off, rfl, hb, hcell⟩ := hx1 (by omega)
   have a1 := hcell k (by omega)
   obtain ⟨f1, f2⟩ := hf k h0
   clear hcell hx1 hf
   have h0' : (k : Int) < n := by omega
   go_wp2_with (go_at_call 194; refine (possible_ok _ f1 f2 _).mono ?_; rintro e w' ⟨rfl, rfl⟩)
   go_roundw
   case rel => refine ⟨k + 1, by omega, ?_⟩; simp
   case measure => simp [intOf]; omega
  ·obtain rfl : k = n := by omega
   go_wp2
   go_ret
   exact ⟨rfl, rfl⟩
end Go.Proofs.YtdgodcgdlfjpaaaGreatDoor
namespace Go.Mono
open Go.RowKit
structure Lns where
 nm : ByteArray
 di : Int
 pu : Int
 st : Int
 pr : Int
 nf : Nat
 X : Nat → Int
 Y : Nat → Int
 nw : Nat
 L : Nat → Int
 W : Nat → Int
 ns : Nat
 S : Nat → Srf
 ix : Nat → Nat → Int
structure Plc where
 pf : Option Addr
 cf : Nat
 pw : Option Addr
 cw : Nat
 ps : Option Addr
 cs : Nat
 pc : Option Addr
 cc : Nat
 cp : Nat → Option Addr
 cl : Nat → Nat
 pi : Option Addr
 ci : Nat
 pI : Nat → Option Addr
 cI : Nat → Nat
def Lns.lvals (a : Lns) (q : Plc) : Array Value :=
 #[.string a.nm, .int .i64 a.di, .int .i64 a.pu, .int .i64 a.st, .int .i64 a.pr, .slice q.pf a.nf q.cf, .slice q.pw a.nw q.cw, .slice q.ps a.ns q.cs, .slice q.pc 0 q.cc]
def Lns.ovals (a : Lns) (q : Plc) : Array Value :=
 #[.string a.nm, .int .i64 a.di, .int .i64 a.pu, .int .i64 a.st, .int .i64 a.pr, .slice q.pf a.nf q.cf, .slice q.pw a.nw q.cw, .slice q.ps a.ns q.cs, .slice q.pc 0 q.cc, .slice q.pi a.ns q.ci]
structure LnsAt (w : World) (a : Lns) (q : Plc) : Prop where
 fields : RdC w q.pf a.nf q.cf 2 (fun i j => if j = 0 then .int .i64 (a.X i) else .int .i64 (a.Y i))
 waves : RdC w q.pw a.nw q.cw 2 (fun i j => if j = 0 then .int .i64 (a.L i) else .int .i64 (a.W i))
 surfs : RdC w q.ps a.ns q.cs 22 (fun i j => ((a.S i).cs (q.cp i) (q.cl i)).getD j undef)
theorem LnsAt.below {w w' : World} {a : Lns} {q : Plc} (h : LnsAt w a q) (hB : Below w.heap.size w w') : LnsAt w' a q := ⟨h.fields.below hB, h.waves.below hB, h.surfs.below hB⟩
structure OptAt (w : World) (a : Lns) (q : Plc) : Prop extends LnsAt w a q where
 index : RdC w q.pi a.ns q.ci 1 (fun i _ => .slice (q.pI i) a.nw (q.cI i))
 row : ∀ i, i < a.ns → RdF w (q.pI i) a.nw (q.cI i) (a.ix i)
theorem OptAt.below {w w' : World} {a : Lns} {q : Plc} (h : OptAt w a q) (hB : Below w.heap.size w w') : OptAt w' a q := ⟨h.toLnsAt.below hB, h.index.below hB, fun i hi => (h.row i hi).below hB⟩
structure Lns.ok (a : Lns) : Prop where
 name : NameOk a.nm
 di : 0 ≤ a.di ∧ a.di ≤ 1000000000
 pu : 1 ≤ a.pu ∧ a.pu ≤ 1000000000
 nf : 1 ≤ a.nf ∧ a.nf ≤ 5
 fr : ∀ i, i < a.nf → In (if a.di = 0 then 1000000 else 1000000000) (a.X i) ∧ In (if a.di = 0 then 1000000 else 1000000000) (a.Y i)
 fd : ∀ i k, k < i → i < a.nf → ¬ (a.X i = a.X k ∧ a.Y i = a.Y k)
 nw : 1 ≤ a.nw ∧ a.nw ≤ 5
 pr : 0 ≤ a.pr ∧ a.pr ≤ a.nw - 1
 wl : ∀ i, i < a.nw → 300000 ≤ a.L i ∧ a.L i ≤ 2500000
 wm : ∀ i, i + 1 < a.nw → a.L i < a.L (i + 1)
 ww : ∀ i, i < a.nw → 1 ≤ a.W i ∧ a.W i ≤ 100
 ns : 2 ≤ a.ns ∧ a.ns ≤ 16
 st : 0 ≤ a.st ∧ a.st ≤ a.ns - 2
 sok : ∀ i, i < a.ns → (a.S i).ok
 image : (a.S (a.ns - 1)).kind = 1 ∧ (a.S (a.ns - 1)).glass = { data := #[] } ∧ (a.S (a.ns - 1)).thick = 0 ∧ (a.S (a.ns - 1)).order = 0
 stop : (a.S a.st.toNat).kind ≠ 3
def Lns.through (a : Lns) (i : Nat) : Prop := (a.S i).glass = mirror ∨ (a.S i).kind = 3 ∨ (a.S i).kind = 4 ∨ i + 1 = a.ns
def Lns.ahead (a : Lns) (i j : Nat) : Int := if i = 0 then 10000000 else a.ix (i - 1) j
structure Lns.opt (a : Lns) : Prop where
 base : Lns.ok a
 ir : ∀ i j, i < a.ns → j < a.nw → 10000000 ≤ a.ix i j ∧ a.ix i j ≤ 40000000
 it : ∀ i j, i < a.ns → a.through i → j < a.nw → a.ix i j = a.ahead i j
 ia : ∀ i j, i < a.ns → ¬ a.through i → (a.S i).glass = { data := #[] } → j < a.nw → a.ix i j = 10000000
end Go.Mono
