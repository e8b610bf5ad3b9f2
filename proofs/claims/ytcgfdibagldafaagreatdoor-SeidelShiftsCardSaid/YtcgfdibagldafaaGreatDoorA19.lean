/- Contracts of the program's fractions, lenses and rays, and a verified evaluator of the model. Part 19 of 30. No condition beside the row. -/
import Derived.TacticsIn
import Derived.Test.YtcgfdibagldafaaGreatDoorA16
set_option linter.unusedVariables false
set_option linter.unusedSimpArgs false
set_option maxRecDepth 100000
set_option maxHeartbeats 4000000
namespace Go.Ex
open Go.RowKit Go.Mono
section
def zerosU (P : Program) (e : TypeId) (n : Nat) : Option (List U) :=
 match (P.info? e).bind (·.zero) with
 | some z => (fun l : List Value => if l.all (·.oneCell') then some (l.map .val) else none) ((Array.range n).map (z.cells[· % z.cells.size]!)).toList
 | none => none
theorem denA_cell1 {D : Den} {ρ : Nm} {w : World} {x : SA} {v : Value} (h : denA D ρ w x v) : (∃ cs : Array Value, v = .agg cs) ∨ v.oneCell' = true := by
 cases x with
 | one u => exact .inr (denU.ones h v (by simp))
 | agg l => obtain ⟨cs, e, _⟩ := h; exact .inl ⟨_, e⟩
theorem run_storeAt_any {P : Program} (w : World) (b o : Nat) (ty : TypeId) (v : Value) (hv : (∃ cs : Array Value, v = .agg cs) ∨ v.oneCell' = true) (ht : w.there b o v.cells.size) (hi : (P.info? ty).map (·.size) = some v.cells.size)
  (h1 : ∀ u ∈ v.cells.toList, u.oneCell' = true) : (Instr.storeAt ty (.pointer (some ⟨b, o, none⟩)) v).run P w = .ok () (w.setCells b o v.cells.toList) := by
 rcases hv with ⟨cs, rfl⟩ | hv
 ·exact run_storeAt_mid w b o ty cs ht hi (by rw [Array.all_eq_true_iff_forall_mem]; intro u hu; exact h1 u (by simpa [Value.cells] using hu))
 ·rw [oneCell_cells hv] at ht hi ⊢
  have := run_storeAt_mid (P := P) w b o ty #[v] ht hi (by simpa using hv)
  rw [← this]
  unfold Instr.storeAt storeVar
  rw [oneCell_cells hv]
  rfl
def makeS (P : Program) (t : TypeId) (l x : Option SV) (c : Nat) : Option (SV × List (Nat × Blk) × Nat) :=
 match l, x with
 | some (.a (.one (.val (.int _ (.ofNat n))))), some (.a (.one (.val (.int _ (.ofNat m))))) => match P.underlying t with
   | some (.slice e) => match infoZ P e with
     | some (size, bytes) => if Nat.ble n m && small m bytes then match (P.info? e).bind (·.zero) with
       | some z => if z.cells.toList.all (·.oneCell') then some (.a (.one (.slc c 0 n m)), [(c, ⟨e, (madeCells z.cells (m * size)).toList.map .val, false, false, false⟩)], c + 1) else none
       | none => none
       else none
     | none => none
   | _ => none
 | _, _ => none
def copyS (P : Program) (t : TypeId) (d x : Option SV) (bk : List (Nat × Blk)) (th c : Nat) : Option (SV × List (Nat × Blk) × Nat) :=
 match P.underlying t with
 | some (.slice e) => match szOf P e with
   | some size => match d, newsS bk size x with
     | some (.a (.one (.slc k off len cap))), some (n, us) => match bk.look k, takeU us (Nat.min n len * size) with
       | some b, some vs => if b.dead || b.ro || !(b.T != 3 || Nat.ble th k) then none else
         (putX b.cells (off + 0) vs).map fun l => (.a (.one (.val (goInt (Nat.min n len)))), [(k, ⟨b.T, l, false, b.sp, false⟩)], c)
       | _, _ => none
     | _, _ => none
   | none => none
 | _ => none
def effS (P : Program) (o : Oper) (get : Operand → Option SV) (bk : List (Nat × Blk)) (th c : Nat) : Option (SV × List (Nat × Blk) × Nat) :=
 match o.op with
 | .alloc T => (zeroU P T).map fun l => (.a (.one (.ptr c 0)), [(c, ⟨T, l, false, false, false⟩)], c + 1)
 | .box T x => match get x with
   | some (.a s) => some (.a (.one (.ptr c 0)), [(c, ⟨T, unitsA s, false, false, false⟩)], c + 1)
   | _ => none
 | .buildSlice t len parts => match P.underlying t with
   | some (.slice e) => match szOf P e, partsS get parts.toList with
     | some s, some ps => if len * s ≤ 2 ^ 24 && len * s != 0 then
       match zerosU P e (len * s) with
       | some z => (fillS (fun i => some (i * s, s)) z ps).map fun m => (.a (.one (.slc c 0 len len)), [(c, ⟨e, m, false, false, false⟩)], c + 1)
       | none => none
       else none
     | _, _ => none
   | _ => none
 | .store t x y => match get x, get y with
   | some (.a (.one (.ptr k off))), some (.a s) => match bk.look k with
     | some b => if (szOf P t).any (· == widths (unitsA s)) && (b.T != 3 || Nat.ble th k) && !b.ro && !b.dead then (putX b.cells off (unitsA s)).map fun l => (.tup [], [(k, ⟨b.T, l, false, b.sp, false⟩)], c) else none
     | none => none
   | _, _ => none
 | .makeSlice t l x => makeS P t (get l) (get x) c
 | .call ⟨.builtin .append, ⟨[s, x]⟩, ⟨[t, tx]⟩⟩ => appendS P t tx (get s) (get x) bk th c
 | .call ⟨.builtin .copy, ⟨[d, x]⟩, ⟨[t, tx]⟩⟩ => match P.underlying tx with
   | some (.slice _) => copyS P t (get d) (get x) bk th c
   | _ => none
 | _ => (evPure P o get bk).map fun x => (x, [], c)
section
variable {D : Den} {P : Program} {w0 : World} {X : Nat → Prop} {th : Nat} {ρ : Nm} {wc w : World} {bk bkR : List (Nat × Blk)} {c : Nat} {get : Operand → Option SV} {ev : Operand → Value}
theorem fresh_ok (h : Sat D w0 X th ρ wc w bk) (hk : ρ c = none) {T : TypeId} {l : List U} {cells : Array Value} {s : Sem Value} (mk : Addr → Value) (x : SV) (hx : ∀ B, denV D (addNm ρ c ⟨B, 0, false, 0, 0⟩) wc x (mk ⟨B, 0, none⟩))
  (hrun : s.run P w = .ok (mk ⟨w.heap.size, 0, none⟩) (w.alloc (.cells cells T))) (hl : denL D ρ wc l cells.toList) {S : Sem Next} (hex : S = do pure (Next.value (← s))) :
  EffOk D P w0 X th ρ wc w bk c S x [(c, ⟨T, l, false, false, false⟩)] (c + 1) := by
 obtain ⟨k1, k2⟩ := h.alloc hk T false 0 0 (rest := []) hl (fun _ => rfl) (fun hh => by cases hh)
 rw [List.append_nil, Array.toArray_toList] at k1 k2
 refine ⟨_, _, _, _, ?_, .inl rfl, hx _, k1, k2⟩
 rw [hex]
 simp only [Sem.run_bind, hrun, Result.andThen_ok, Sem.run_pure]
theorem denL_made {z : Value} (hz : z.cells.toList.all (·.oneCell') = true) (n : Nat) (hn : z.cells.size = 0 → n = 0) : denL D ρ wc ((madeCells z.cells n).toList.map .val) (madeCells z.cells n).toList := by
 refine denL_vals _ fun v hv => ?_
 unfold madeCells at hv
 simp only [Array.toList_map, List.mem_map] at hv
 obtain ⟨i, hi, rfl⟩ := hv
 have hi : i < n := by simpa using hi
 have h0 : 0 < z.cells.size := by
  rcases Nat.eq_zero_or_pos z.cells.size with h | h
  ·have := hn h; omega
  ·exact h
 have hm := Nat.mod_lt i h0
 rw [getElem!_pos z.cells (i % z.cells.size) hm]
 exact List.all_eq_true.1 hz _ (by simp)
theorem makeS_ok (h : Sat D w0 X th ρ wc w bk) (hn : ∀ k, c ≤ k → k < c + 1 → ρ k = none) {t : TypeId} {sl sx x : SV} {vl vx : Value} (hl : denV D ρ wc sl vl) (hx : denV D ρ wc sx vx) {wr : List (Nat × Blk)} {c' : Nat}
  (he : makeS P t (some sl) (some sx) c = some (x, wr, c')) {S : Sem Next} (hex : S = do pure (Next.value (← Instr.makeSlice t vl vx))) : EffOk D P w0 X th ρ wc w bk c S x wr c' := by
 unfold makeS at he
 split at he
 ·rename_i kl n km m e1 e2
  cases e1
  cases e2
  obtain rfl : vl = _ := by simpa using hl.1
  obtain rfl : vx = _ := by simpa using hx.1
  split at he
  ·rename_i e hu
   split at he
   ·rename_i size bytes hinf
    obtain ⟨i, z, hi, hz, hzs, rfl, rfl⟩ := infoZ_ok hinf
    split at he
    ·rename_i hc
     rw [Bool.and_eq_true] at hc
     obtain ⟨g1, g2⟩ := small_ok hc.2
     have g0 := Nat.le_of_ble_eq_true hc.1
     split at he
     ·rename_i z' hz'
      rw [hi] at hz'
      have hz2 : z' = z := by
       have : i.zero = some z' := hz'
       rw [hz] at this
       cases this
       rfl
      subst hz2
      split at he
      ·rename_i hall
       cases he
       have g3 : (i.bytes : Int) * (m : Int) ≤ 281474976710656 := by
        have g4 : i.bytes * m ≤ 140737488355328 := by rw [Nat.mul_comm]; exact g2
        have : ((i.bytes * m : Nat) : Int) ≤ 140737488355328 := by omega
        rw [Int.natCast_mul] at this
        omega
       have hrun := run_make (P := P) w t e i z' hu hi hz kl km (n : Int) (m : Int) (Int.natCast_nonneg _) (by omega) g3 (by omega)
       rw [Int.toNat_natCast, Int.toNat_natCast] at hrun
       exact fresh_ok h (hn c (Nat.le_refl _) (Nat.lt_succ_self _)) (fun p => .slice (some p) n m) (.a (.one (.slc c 0 n m))) (fun B => ⟨_, addNm_new _ _ _, rfl⟩) hrun (denL_made hall _ (fun h0 => by rw [← hzs, h0]; simp)) hex
      ·cases he
     ·cases he
    ·cases he
   ·cases he
  ·cases he
 ·cases he
theorem copyS_ok (h : Sat D w0 X th ρ wc w bk) (hs : Sub bkR bk) {t tx ty e' : TypeId} (htx : P.underlying tx = some (.slice e')) {sd sx x : SV} {vd vx : Value} (hd : denV D ρ wc sd vd) (hx : denV D ρ wc sx vx) {wr : List (Nat × Blk)} {c' : Nat}
  (he : copyS P t (some sd) (some sx) bkR th c = some (x, wr, c')) {S : Sem Next} (hex : S = do pure (Next.value (← Builtin.copy_ #[t, tx] ty #[vd, vx]))) : EffOk D P w0 X th ρ wc w bk c S x wr c' := by
 have hBk : BkOk D ρ wc w bkR := fun k b hk => h.bkOk k b (hs k b hk)
 unfold copyS at he
 split at he
 ·rename_i e hu
  split at he
  ·rename_i size hz
   split at he
   ·rename_i k off len cap n us e1 hnews
    cases e1
    obtain ⟨news, hsrc, hln, hnl, hfc⟩ := newsS_ok (P := P) hBk hx hnews htx
    split at he
    ·rename_i b vs hb htk
     split at he
     ·cases he
     ·rename_i hc
      simp only [Bool.or_eq_true, Bool.not_eq_true', not_or, Bool.not_eq_true, Bool.not_eq_false] at hc
      obtain ⟨⟨c1, c2⟩, c3⟩ := hc
      obtain ⟨l, hl, e3⟩ := Option.map_eq_some_iff.1 he
      cases e3
      obtain ⟨B, hB, e2⟩ := hd
      obtain rfl : vd = .slice (some ⟨B.blk, B.base + off, none⟩) len cap := by simpa using e2
      have hT : b.T ≠ 3 ∨ th ≤ k := by
       rcases c3 with h | h
       ·exact .inl (by simpa using h)
       ·exact .inr (Nat.le_of_ble_eq_true h)
      obtain ⟨q1, q2⟩ := takeU_den htk hln
      obtain ⟨k1, k2, k3, k4⟩ := h.store ⟨hs k b hb, c1⟩ c2 hl q1 hT hB c
      obtain ⟨i, hi, rfl⟩ := Option.map_eq_some_iff.1 hz
      have hcp := hfc (Nat.min n len) (Nat.min_le_left _ _)
      have hst := run_storeCells_cells (P := P) B.blk off (news.take (Nat.min n len * i.size)) 0 w (by simpa using fun j hj => (k3 j (by simpa using hj)).1) (by simpa using fun j hj => (k3 j (by simpa using hj)).2) q1.ones
      rw [Nat.add_zero] at k1 k2 hst
      refine ⟨_, goInt (Nat.min n len), _, ρ, ?_, .inl rfl, ⟨rfl, rfl⟩, k1, k2⟩
      rw [hex]
      have hrun : (Builtin.copy_ #[t, tx] ty #[.slice (some ⟨B.blk, B.base + off, none⟩) len cap, vx]).run P w = .ok (goInt (Nat.min n len)) (w.setCells B.blk off (news.take (Nat.min n len * i.size))) := by
       rw [k4, Nat.zero_add]
       simp [Builtin.copy_, run_underlying hu, sizeOf, typeInfo, hi, hsrc.len, hcp, hst]
      simp only [Sem.run_bind, hrun, Result.andThen_ok, Sem.run_pure]
    ·cases he
   ·cases he
  ·cases he
 ·cases he
theorem effS_ok (h : Sat D w0 X th ρ wc w bk) (hs : Sub bkR bk) (hg : ∀ x z, get x = some z → denV D ρ wc z (ev x)) {o : Oper} {x : SV} {wr : List (Nat × Blk)} {c' : Nat}
  (he : effS P o get bkR th c = some (x, wr, c')) (hn : ∀ k, c ≤ k → k < c' → ρ k = none) : EffOk D P w0 X th ρ wc w bk c (execOp ev o) x wr c' := by
 unfold effS at he
 split at he
 ·rename_i T ho
  obtain ⟨l, hl, e⟩ := Option.map_eq_some_iff.1 he
  cases e
  obtain ⟨i, z, h1, h2, h3⟩ := zeroU_ok hl D ρ wc
  exact fresh_ok h (hn c (Nat.le_refl _) (Nat.lt_succ_self _)) (fun p => .pointer (some p)) (.a (.one (.ptr c 0))) (fun B => ⟨_, addNm_new _ _ _, rfl⟩) (s := Instr.alloc T true (.tuple #[])) (by simp [Instr.alloc, zeroValue, typeInfo, h1, h2, newVar, newRow]) h3 (by unfold execOp; rw [ho])
 ·rename_i T y ho
  split at he
  ·rename_i s hy
   cases he
   have hd := hg _ _ hy
   exact fresh_ok h (hn c (Nat.le_refl _) (Nat.lt_succ_self _)) (fun p => .pointer (some p)) (.a (.one (.ptr c 0))) (fun B => ⟨_, addNm_new _ _ _, rfl⟩) (s := Instr.box T (ev y)) (by simp [Instr.box, newVar, newRow]) (denA_cells hd) (by unfold execOp; rw [ho])
  ·cases he
 ·rename_i t len parts ho
  split at he
  ·rename_i e hu
   split at he
   ·rename_i s ps hz hp
    split at he
    ·rename_i hlen
     rw [Bool.and_eq_true] at hlen
     split at he
     ·rename_i z hzs
      obtain ⟨m, hm, e1⟩ := Option.map_eq_some_iff.1 he
      cases e1
      unfold zerosU at hzs
      split at hzs
      ·rename_i zv hzv
       obtain ⟨ie, hie, hze⟩ := Option.bind_eq_some_iff.1 hzv
       dsimp only at hzs
       split at hzs
       ·rename_i hall
        cases hzs
        have hps := partsS_ok (D := D) (ρ := ρ) (w := wc) hg hp
        obtain ⟨cells, hf1, hf2⟩ := fillS_ok _ hm (denL_vals _ fun v hv => List.all_eq_true.1 hall v hv) hps
        obtain ⟨ie', hie', rfl⟩ := Option.map_eq_some_iff.1 hz
        cases hie.symm.trans hie'
        refine fresh_ok h (hn c (Nat.le_refl _) (Nat.lt_succ_self _)) (fun p => .slice (some p) len len) (.a (.one (.slc c 0 len len))) (fun B => ⟨_, addNm_new _ _ _, rfl⟩) (s := Instr.buildSlice t len (parts.map fun (i, x) => (i, ev x))) ?_ hf2 (by unfold execOp; rw [ho])
        refine run_buildSlice w t e len _ cells ie zv hu hie hze (by have := hlen.1; simp only [decide_eq_true_eq] at this; omega) (by simpa using hlen.2) ?_
        rw [← hf1]
        congr 1
        simp
       ·cases hzs
      ·cases hzs
     ·cases he
    ·cases he
   ·cases he
  ·cases he
 ·rename_i t y z ho
  split at he
  ·rename_i k off s hy hz
   split at he
   ·rename_i b hb
    split at he
    ·rename_i hc
     rw [Bool.and_eq_true, Bool.and_eq_true, Bool.and_eq_true] at hc
     obtain ⟨⟨⟨hc1, hc2⟩, hro⟩, hdd⟩ := hc
     obtain ⟨l, hl, e⟩ := Option.map_eq_some_iff.1 he
     cases e
     obtain ⟨B, hB, e1⟩ := hg _ _ hy
     have e2 : ev y = .pointer (some ⟨B.blk, B.base + off, none⟩) := by simpa using e1
     have hd := hg _ _ hz
     have hcs := denA_cells hd
     obtain ⟨sz, hsz, hw⟩ := Option.any_eq_true_iff_get .. |>.1 hc1 |> fun ⟨h1, h2⟩ => (⟨_, Option.some_get h1 |>.symm, by simpa using h2⟩ : ∃ sz, szOf P t = some sz ∧ sz = widths (unitsA s))
     obtain ⟨k1, k2, k3, hbase⟩ := h.store ⟨hs k b hb, by simpa using hdd⟩ (by simpa using hro) hl hcs (by
      rw [Bool.or_eq_true] at hc2
      rcases hc2 with h | h
      ·exact .inl (by simpa using h)
      ·exact .inr (Nat.le_of_ble_eq_true h)) hB c
     rw [hbase, Nat.zero_add] at e2
     have hrun := run_storeAt_any (P := P) w B.blk off t (ev z) (denA_cell1 hd) (by rw [← Array.length_toList]; exact k3) (by rw [← Array.length_toList, hcs.len, ← hw]; exact hsz) hcs.ones
     refine ⟨.skip, undef, _, ρ, ?_, .inr ⟨rfl, rfl⟩, ⟨[], rfl, rfl⟩, k1, k2⟩
     unfold execOp
     rw [ho]
     simp only [e2, Sem.run_bind, hrun, Result.andThen_ok, Sem.run_pure]
    ·cases he
   ·cases he
  ·cases he
 ·rename_i t l y ho
  cases hl : get l with
  | none => rw [hl] at he; simp [makeS] at he
  | some sl =>
    cases hy : get y with
    | none => rw [hl, hy] at he; unfold makeS at he; split at he <;> first | cases he | (rename_i e; cases e)
    | some sy =>
      rw [hl, hy] at he
      have hc' : c' = c + 1 := by
       unfold makeS at he
       repeat' (split at he <;> try cases he)
       rfl
      subst hc'
      exact makeS_ok h hn (hg _ _ hl) (hg _ _ hy) he (by unfold execOp; rw [ho])
 ·rename_i s y t tx ho
  cases hl : get s with
  | none =>
    rw [hl] at he
    unfold appendS at he
    repeat' (split at he)
    all_goals first | contradiction | (simp [keepS] at he; done)
  | some sl =>
    cases hy : get y with
    | none =>
      rw [hl, hy] at he
      unfold appendS at he
      have : ∀ n us size, newsS bkR size none ≠ some (n, us) := fun n us size hh => by simp [newsS] at hh
      repeat' (split at he)
      all_goals first | contradiction | (exfalso; apply this; assumption)
    | some sy =>
      rw [hl, hy] at he
      obtain ⟨v, w', ρ', q1, q2, q3, q4⟩ := appendS_ok (ty := o.type) h hs (hg _ _ hl) (hg _ _ hy) he hn
      refine ⟨_, v, w', ρ', ?_, .inl rfl, q2, q3, q4⟩
      unfold execOp
      simp only [ho, resolve, Sem.run_bind, Sem.run_pure, Result.andThen_ok, invoke, builtin]
      simp only [List.map_toArray, List.map_cons, List.map_nil, Sem.run_bind, q1, Result.andThen_ok, Sem.run_pure]
 ·rename_i s y t tx ho
  split at he
  ·rename_i e' htx
   cases hl : get s with
   | none =>
     rw [hl] at he
     unfold copyS at he
     repeat' (split at he)
     all_goals contradiction
   | some sl =>
     cases hy : get y with
     | none =>
       rw [hl, hy] at he
       unfold copyS at he
       have : ∀ n us size, newsS bkR size none ≠ some (n, us) := fun n us size hh => by simp [newsS] at hh
       repeat' (split at he)
       all_goals first | contradiction | (exfalso; apply this; assumption)
     | some sy =>
       rw [hl, hy] at he
       have hc' : c' = c := by
        unfold copyS at he
        split at he
        ·split at he
         ·split at he
          ·split at he
           ·split at he
            ·cases he
            ·obtain ⟨l, hl, e⟩ := Option.map_eq_some_iff.1 he
             cases e
             rfl
           ·cases he
          ·cases he
         ·cases he
        ·cases he
       refine copyS_ok (ty := o.type) h hs htx (hg _ _ hl) (hg _ _ hy) he ?_
       unfold execOp
       simp only [ho, resolve, invoke, builtin, List.map_toArray, List.map_cons, List.map_nil]
       rfl
  ·cases he
 ·obtain ⟨y, hy, e⟩ := Option.map_eq_some_iff.1 he
  cases e
  obtain ⟨v, h1, h2⟩ := evPure_ok (P := P) hg (fun k b hk => h.bkOk k b (hs k b hk)) hy
  exact ⟨_, v, w, ρ, h1, .inl rfl, h2, h, Evo.refl _ _ _ _ _⟩
end
end
section
def sargs (get : Operand → Option SV) : List Operand → Option (List SA)
 | [] => some []
 | x :: r => match get x with
   | some (.a s) => (sargs get r).map (s :: ·)
   | _ => none
def capsA (caps : List (Nat × Nat)) : List SA := caps.map fun p => .one (.ptr p.1 p.2)
def entersB (P : Program) (f : FuncId) : Bool :=
 match P.funcs[f]? with
 | some fn => !(fn.name == "runtime.NumGoroutine") && fn.body.isSome
 | none => false
theorem enters_run {P : Program} {f : FuncId} (h : entersB P f = true) (args : Array Value) (w : World) : (callFunc f args).run P w = .ok (.enter f args) w := by
 unfold entersB at h
 split at h
 ·rename_i fn hf
  rw [Bool.and_eq_true] at h
  obtain ⟨h1, h2⟩ := h
  unfold callFunc
  have e1 : (fn.name == "runtime.NumGoroutine") = false := by simpa using h1
  have e2 : fn.body.isNone = false := by cases hb : fn.body <;> simp_all
  simp only [Sem.run_bind, run_program, Result.andThen_ok, hf, e1, e2, Bool.false_eq_true, if_false, Sem.run_pure]
 ·cases h
section
variable {D : Den} {P : Program} {ρ : Nm} {wc w : World} {get : Operand → Option SV} {ev : Operand → Value}
theorem denAs.append : ∀ {l m : List SA} {vs us : List Value}, denAs D ρ w l vs → denAs D ρ w m us → denAs D ρ w (l ++ m) (vs ++ us)
 | [], m, vs, us, e, hm => by rw [show vs = [] from e]; exact hm
 | x :: l, m, _, us, ⟨v, r, e, hv, hr⟩, hm => ⟨v, r ++ us, by rw [e, List.cons_append], hv, denAs.append hr hm⟩
theorem sargs_ok (hg : ∀ x z, get x = some z → denV D ρ wc z (ev x)) : ∀ {l : List Operand} {s : List SA}, sargs get l = some s → denAs D ρ wc s (l.map ev)
 | [], s, h => by cases h; rfl
 | x :: r, s, h => by
   unfold sargs at h
   split at h
   ·rename_i y hy
    obtain ⟨q, hq, rfl⟩ := Option.map_eq_some_iff.1 h
    exact ⟨_, _, rfl, hg _ _ hy, sargs_ok hg hq⟩
   ·cases h
theorem capsA_ok : ∀ {l : List (Nat × Nat)} {vs : List Value}, adrs ρ l vs → denAs D ρ w (capsA l) vs
 | [], vs, e => e
 | p :: r, vs, ⟨B, v', hB, e, hr⟩ => ⟨_, v', e, ⟨B, hB, rfl⟩, capsA_ok hr⟩
end
def ans (b : Bool) : List (Option Bool) → Bool × List Prop × List (Option Bool)
 | some x :: r => (x, [b = x], r)
 | none :: r => (b, [], r)
 | [] => (b, [], [])
theorem ans_ok {b : Bool} {orc : List (Option Bool)} (h : ∀ p ∈ (ans b orc).2.1, p) : (ans b orc).1 = b := by
 match orc, h with
 | some x :: r, h => exact (h (b = x) (by simp [ans])).symm
 | none :: r, h => rfl
 | [], h => rfl
def fixB (x : SV) (orc : List (Option Bool)) : SV × List Prop × List (Option Bool) :=
 match x with
 | .a (.one (.tst b)) => (.a (.one (.val (.bool (ans b orc).1))), (ans b orc).2.1, (ans b orc).2.2)
 | x => (x, [], orc)
theorem fixB_ok {D : Den} {ρ : Nm} {w : World} {x : SV} {orc : List (Option Bool)} {v : Value} (h : ∀ p ∈ (fixB x orc).2.1, p) (hv : denV D ρ w x v) : denV D ρ w (fixB x orc).1 v := by
 unfold fixB at h ⊢
 split
 ·rename_i b
  dsimp only at h ⊢
  rw [ans_ok h]
  exact ⟨hv, rfl⟩
 ·exact hv
def inR (z : Int) : Prop := -9223372036854775808 ≤ z ∧ z ≤ 9223372036854775807
theorem wrap_inR {z : Int} (h : inR z) : IntKind.i64.wrap z = z := by
 rw [IntKind.wrap_i64]
 have := h.1
 have := h.2
 omega
def intOf : Option SV → Option (IntKind × Int × Bool)
 | some (.a (.one (.val (.int k n)))) => some (k, n, false)
 | some (.a (.one (.sym z))) => some (.i64, z, true)
 | some (.a (.one (.sml k z))) => some (k, z, true)
 | _ => none
theorem intOf_ok {D : Den} {ρ : Nm} {w : World} {x : SV} {k : IntKind} {z : Int} {b : Bool} {v : Value} (h : intOf (some x) = some (k, z, b)) (hv : denV D ρ w x v) : v = .int k z := by
 unfold intOf at h
 split at h
 ·rename_i k' n e
  cases h
  cases e
  simpa using hv.1
 ·rename_i z' e
  cases h
  cases e
  simpa [denV, denA, denU] using hv
 ·rename_i k' z' e
  cases h
  cases e
  simpa [denV, denA, denU] using hv
 ·cases h
def mkI (k : IntKind) (z : Int) : SV :=
 match k with
 | .i64 => .a (.one (.sym z))
 | k => .a (.one (.sml k z))
theorem mkI_den {D : Den} {ρ : Nm} {w : World} (k : IntKind) (z : Int) : denV D ρ w (mkI k z) (.int k z) := by
 cases k <;> rfl
def inK (k : IntKind) (z : Int) : Prop :=
 match k with
 | .i64 => inR z
 | k => k.wrap z = z
theorem inK_ok {k : IntKind} {z : Int} (h : inK k z) : k.wrap z = z := by
 cases k <;> first | exact wrap_inR h | exact h
def arith (op : BinOp) (k : IntKind) (a b : Int) : Option (SV × List Prop) :=
 match op with
 | .add => some (mkI k (a + b), [inK k (a + b)])
 | .sub => some (mkI k (a - b), [inK k (a - b)])
 | .mul => some (mkI k (a * b), [inK k (a * b)])
 | .quo => some (mkI k (a.tdiv b), [b ≠ 0, inK k (a.tdiv b)])
 | .rem => some (mkI k (a.tmod b), [b ≠ 0])
 | .eql => some (.a (.one (.tst (a == b))), [])
 | .neq => some (.a (.one (.tst (a != b))), [])
 | .lss => some (.a (.one (.tst (decide (a < b)))), [])
 | .leq => some (.a (.one (.tst (decide (a ≤ b)))), [])
 | .gtr => some (.a (.one (.tst (decide (a > b)))), [])
 | .geq => some (.a (.one (.tst (decide (a ≥ b)))), [])
 | _ => none
def symS (P : Program) (o : Oper) (get : Operand → Option SV) : Option (SV × List Prop) :=
 match o.op with
 | .binOp op _ x y _ => match intOf (get x), intOf (get y) with
   | some (k, a, s), some (k', b, s') => if (s || s') && decide (k = k') then arith op k a b else none
   | _, _ => none
 | .unOp .neg _ x => match intOf (get x) with
   | some (.i64, a, true) => some (.a (.one (.sym (0 - a))), [inR (0 - a)])
   | _ => none
 | .convert src dst x => match intOf (get x) with
   | some (_, a, true) => match P.underlying src, P.underlying dst with
     | some _, some (.int k) => some (mkI k a, [inK k a])
     | _, _ => none
   | _ => none
 | _ => none
theorem arith_ok {D : Den} {P : Program} {ρ : Nm} {wc w : World} {op : BinOp} {t : TypeId} {x y : Operand} {k : IntKind} {a b : Int} {r : SV} {ps : List Prop} (h : arith op k a b = some (r, ps)) (hp : ∀ p ∈ ps, p) :
  ∃ v, (do eqGuard op t x y (.int k a) (.int k b); binOp op t (.int k a) (.int k b) : Sem Value).run P w = .ok v w ∧ denV D ρ wc r v := by
 have hg : ∀ (s : Sem Value), (do eqGuard op t x y (.int k a) (.int k b); s : Sem Value).run P w = s.run P w := by
  intro s
  unfold eqGuard
  cases op <;> rfl
 rw [hg]
 unfold arith at h
 split at h <;> cases h
 ·exact ⟨.int k (a + b), by simp [binOp, Op.intArith, inK_ok (hp (inK k (a + b)) (by simp))], mkI_den _ _⟩
 ·exact ⟨.int k (a - b), by simp [binOp, Op.intArith, inK_ok (hp (inK k (a - b)) (by simp))], mkI_den _ _⟩
 ·exact ⟨.int k (a * b), by simp [binOp, Op.intArith, inK_ok (hp (inK k (a * b)) (by simp))], mkI_den _ _⟩
 ·exact ⟨.int k (a.tdiv b), by simp [binOp, Op.intDiv, hp (b ≠ 0) (by simp), inK_ok (hp (inK k (a.tdiv b)) (by simp))], mkI_den _ _⟩
 ·exact ⟨.int k (a.tmod b), by simp [binOp, Op.intDiv, hp (b ≠ 0) (by simp)], mkI_den _ _⟩
 ·exact ⟨.bool (a == b), by simp [binOp, Op.intCmp], rfl⟩
 ·exact ⟨.bool (a != b), by simp [binOp, Op.intCmp], rfl⟩
 ·exact ⟨.bool (decide (a < b)), by simp [binOp, Op.intCmp], rfl⟩
 ·exact ⟨.bool (decide (a ≤ b)), by simp [binOp, Op.intCmp], rfl⟩
 ·exact ⟨.bool (decide (a > b)), by simp [binOp, Op.intCmp], rfl⟩
 ·exact ⟨.bool (decide (a ≥ b)), by simp [binOp, Op.intCmp], rfl⟩
theorem symS_ok {D : Den} {P : Program} {ρ : Nm} {wc w : World} {get : Operand → Option SV} {ev : Operand → Value} (hg : ∀ x z, get x = some z → denV D ρ wc z (ev x)) {o : Oper} {r : SV} {ps : List Prop} (h : symS P o get = some (r, ps)) (hp : ∀ p ∈ ps, p) :
  ∃ v, (execOp ev o).run P w = .ok (.value v) w ∧ denV D ρ wc r v := by
 have ofInt : ∀ {x : Operand} {k : IntKind} {z : Int} {b : Bool}, intOf (get x) = some (k, z, b) → ev x = .int k z := by
  intro x k z b hx
  cases hgx : get x with
  | none => rw [hgx] at hx; simp [intOf] at hx
  | some s => rw [hgx] at hx; exact intOf_ok hx (hg _ _ hgx)
 have viaV : ∀ {s : Sem Value}, (∃ v, s.run P w = .ok v w ∧ denV D ρ wc r v) → ∃ v, (do pure (Next.value (← s)) : Sem Next).run P w = .ok (.value v) w ∧ denV D ρ wc r v := by
  rintro s ⟨v, h1, h2⟩
  exact ⟨v, by simp only [Sem.run_bind, h1, Result.andThen_ok, Sem.run_pure], h2⟩
 unfold symS at h
 split at h
 ·rename_i op t x y ty ho
  split at h
  ·rename_i k a s k' b s' ha hb
   split at h
   ·rename_i hkk
    rw [Bool.and_eq_true, decide_eq_true_eq] at hkk
    obtain ⟨_, rfl⟩ := hkk
    unfold execOp
    rw [ho]
    refine viaV ?_
    rw [ofInt ha, ofInt hb]
    exact arith_ok h hp
   ·cases h
  ·cases h
 ·rename_i t x ho
  split at h
  ·rename_i a ha
   cases h
   unfold execOp
   rw [ho]
   refine viaV ⟨.int .i64 (0 - a), ?_, rfl⟩
   rw [ofInt ha]
   have := wrap_inR (hp (inR (0 - a)) (by simp))
   simp only [Op.unary, Op.intArith, Sem.run_pure, this]
  ·cases h
 ·rename_i src dst x ho
  split at h
  ·rename_i k0 a ha
   split at h
   ·rename_i ts k hs hd
    cases h
    unfold execOp
    rw [ho]
    refine viaV ⟨.int k a, ?_, mkI_den _ _⟩
    rw [ofInt ha]
    have := inK_ok (hp (inK k a) (by simp))
    simp only [convert, Sem.run_bind, run_underlying hs, run_underlying hd, Result.andThen_ok, Conv.intToInt, Sem.run_pure, this]
   ·cases h
  ·cases h
 ·cases h
def unar : List (Option Bool) → Nat × List (Option Bool)
 | some false :: r => ((unar r).1 + 1, (unar r).2)
 | some true :: r => (0, r)
 | r => (0, r)
def letterOf : Option SV → Option (IntKind × Int)
 | some (.a (.one (.sym z))) => some (.i64, z)
 | some (.a (.one (.sml k z))) => some (k, z)
 | _ => none
theorem letterOf_ok {D : Den} {ρ : Nm} {w : World} {x : SV} {k : IntKind} {z : Int} {v : Value} (h : letterOf (some x) = some (k, z)) (hv : denV D ρ w x v) : v = .int k z := by
 unfold letterOf at h
 split at h
 ·rename_i z' e
  cases h
  cases e
  simpa [denV, denA, denU] using hv
 ·rename_i k' z' e
  cases h
  cases e
  simpa [denV, denA, denU] using hv
 ·cases h
def idxS (P : Program) (o : Oper) (get : Operand → Option SV) (orc : List (Option Bool)) : Option (SV × List Prop × List (Option Bool)) :=
 match o.op with
 | .index t x ix => match letterOf (get ix) with
   | some (k, z) => (indexS P t (get x) (some (.a (.one (.val (.int k (unar orc).1)))))).map fun r => (r, [z = ((unar orc).1 : Int)], (unar orc).2)
   | none => none
 | .indexAddr t x ix => match letterOf (get ix) with
   | some (k, z) => (indexAddrS P t (get x) (some (.a (.one (.val (.int k (unar orc).1)))))).map fun r => (r, [z = ((unar orc).1 : Int)], (unar orc).2)
   | none => none
 | .call ⟨.builtin .min, ⟨[x, y]⟩, _⟩ => match intOf (get x), intOf (get y), orc with
   | some (k, a, s), some (k', b, s'), some true :: r => if (s || s') && decide (k = k') then (get x).map fun z => (z, [a ≤ b], r) else none
   | some (k, a, s), some (k', b, s'), some false :: r => if (s || s') && decide (k = k') then (get y).map fun z => (z, [b ≤ a], r) else none
   | _, _, _ => none
 | _ => none
theorem idxS_ok {D : Den} {P : Program} {ρ : Nm} {wc w : World} {get : Operand → Option SV} {ev : Operand → Value} (hg : ∀ x z, get x = some z → denV D ρ wc z (ev x)) {o : Oper} {orc orc' : List (Option Bool)} {r : SV} {ps : List Prop} (h : idxS P o get orc = some (r, ps, orc')) (hp : ∀ p ∈ ps, p) :
  ∃ v, (execOp ev o).run P w = .ok (.value v) w ∧ denV D ρ wc r v := by
 have hl : ∀ {x : Operand} {k : IntKind} {z : Int}, letterOf (get x) = some (k, z) → ev x = .int k z := by
  intro x k z hx
  cases hgx : get x with
  | none => rw [hgx] at hx; simp [letterOf] at hx
  | some s => rw [hgx] at hx; exact letterOf_ok hx (hg _ _ hgx)
 have viaV : ∀ {s : Sem Value}, (∃ v, s.run P w = .ok v w ∧ denV D ρ wc r v) → ∃ v, (do pure (Next.value (← s)) : Sem Next).run P w = .ok (.value v) w ∧ denV D ρ wc r v := by
  rintro s ⟨v, h1, h2⟩
  exact ⟨v, by simp only [Sem.run_bind, h1, Result.andThen_ok, Sem.run_pure], h2⟩
 have one : ∀ {k : IntKind} {j : Nat} {v : Value}, v = .int k (j : Int) → ∀ s, some (SV.a (.one (.val (.int k (j : Int))))) = some s → denV D ρ wc s v := by
  intro k j v e s hs
  cases hs
  exact ⟨by rw [e], by simp [Value.oneCell']⟩
 unfold idxS at h
 split at h
 ·rename_i t x ix ho
  split at h
  ·rename_i k z hz
   obtain ⟨y, hy, e⟩ := Option.map_eq_some_iff.1 h
   cases e
   have e1 : z = ((unar orc).1 : Int) := hp _ (by simp)
   have e2 := hl hz
   rw [e1] at e2
   unfold execOp
   rw [ho]
   exact viaV (indexS_den (hg x) (one e2) hy)
  ·cases h
 ·rename_i t x ix ho
  split at h
  ·rename_i k z hz
   obtain ⟨y, hy, e⟩ := Option.map_eq_some_iff.1 h
   cases e
   have e1 : z = ((unar orc).1 : Int) := hp _ (by simp)
   have e2 := hl hz
   rw [e1] at e2
   unfold execOp
   rw [ho]
   exact viaV (indexAddrS_den (hg x) (one e2) hy)
  ·cases h
 ·rename_i x y ts ho
  have ofInt : ∀ {x : Operand} {k : IntKind} {z : Int} {b : Bool}, intOf (get x) = some (k, z, b) → ev x = .int k z := by
   intro x k z b hx
   cases hgx : get x with
   | none => rw [hgx] at hx; simp [intOf] at hx
   | some s => rw [hgx] at hx; exact intOf_ok hx (hg _ _ hgx)
  have run : ∀ {k : IntKind} {a b : Int}, ev x = .int k a → ev y = .int k b → (execOp ev o).run P w = .ok (.value (.int k (if b < a then b else a))) w := by
   intro k a b e1 e2
   unfold execOp
   simp only [ho, resolve, Sem.run_bind, Sem.run_pure, Result.andThen_ok, invoke, builtin, Builtin.min_, List.map_toArray, List.map_cons, List.map_nil, e1, e2]
   rfl
  split at h
  ·rename_i k a s k' b s' r' hx hy
   split at h
   ·rename_i hc
    rw [Bool.and_eq_true, decide_eq_true_eq] at hc
    obtain ⟨_, rfl⟩ := hc
    obtain ⟨z, hz, e⟩ := Option.map_eq_some_iff.1 h
    cases e
    have hab : a ≤ b := hp _ (by simp)
    refine ⟨_, run (ofInt hx) (ofInt hy), ?_⟩
    rw [if_neg (by omega), ← ofInt hx]
    exact hg _ _ hz
   ·cases h
  ·rename_i k a s k' b s' r' hx hy
   split at h
   ·rename_i hc
    rw [Bool.and_eq_true, decide_eq_true_eq] at hc
    obtain ⟨_, rfl⟩ := hc
    obtain ⟨z, hz, e⟩ := Option.map_eq_some_iff.1 h
    cases e
    have hab : b ≤ a := hp _ (by simp)
    refine ⟨_, run (ofInt hx) (ofInt hy), ?_⟩
    have e3 : (if b < a then b else a) = b := by split <;> omega
    rw [e3, ← ofInt hy]
    exact hg _ _ hz
   ·cases h
  ·cases h
 ·cases h
def rngOf : Option SV → Option (FuncId × List SA × List (Nat × Nat))
 | some (.a (.one (.clo gf caps))) => some (gf, [], caps)
 | some (.a (.one (.bnd gf g l))) => some (gf, [bndA g l], [])
 | _ => none
theorem rngOf_ok {D : Den} {ρ : Nm} {w : World} {y : Option SV} {gf : FuncId} {fs : List SA} {caps : List (Nat × Nat)} (h : rngOf y = some (gf, fs, caps)) {v : Value} (hv : ∀ x, y = some x → denV D ρ w x v) :
  ∃ us vs : List Value, v = .func (.func gf) us.toArray vs.toArray ∧ denAs D ρ w fs us ∧ adrs ρ caps vs := by
 unfold rngOf at h
 split at h
 ·cases h
  obtain ⟨vs, hvs, e⟩ := hv _ rfl
  exact ⟨[], vs, by simpa using e, rfl, hvs⟩
 ·cases h
  obtain ⟨u, e, hu⟩ := hv _ rfl
  exact ⟨[u], [], by simpa using e, ⟨u, [], rfl, hu.up, rfl⟩, rfl⟩
 ·cases h
def callOf (P : Program) (o : Oper) (get : Operand → Option SV) : Option (FuncId × List SA) :=
 match o.op with
 | .call c => match c.callee with
   | .value fv => match rngOf (get fv), sargs get c.args.toList with
     | some (f, fs, caps), some args => if entersB P f then some (f, fs ++ (args ++ capsA caps)) else none
     | _, _ => none
   | _ => none
 | _ => none
def yldOf (o : Oper) (get : Operand → Option SV) : Option (Nat × List SA) :=
 match o.op with
 | .call c => match c.callee with
   | .value fv => match get fv, sargs get c.args.toList with
     | some (.a (.one (.yld k))), some args => some (k, args)
     | _, _ => none
   | _ => none
 | _ => none
def panOf (o : Oper) (get : Operand → Option SV) : Option Value :=
 match o.op with
 | .panic x => match (get x).bind realV with
   | some (.iface t v) => some (.iface t v)
   | _ => none
 | .call ⟨.builtin .panic, ⟨[x]⟩, _⟩ => match (get x).bind realV with
   | some (.iface t v) => some (.iface t v)
   | _ => none
 | _ => none
def isDefer (o : Oper) : Bool :=
 match o.op with
 | .defer _ => true
 | _ => false
def tmin (a b : Nat) : Nat := bif Nat.ble a b then a else b
theorem tmin_le (a b : Nat) : tmin a b ≤ b := by
 unfold tmin
 cases h : Nat.ble a b with
 | true => exact Nat.le_of_ble_eq_true h
 | false => exact Nat.le_refl _
def retS (r : OpR) : OpR := ⟨(fixB r.v r.orc).1, r.wr, r.obl ++ (fixB r.v r.orc).2.1, (fixB r.v r.orc).2.2, r.c, r.th, r.pan⟩
def opS (P : Program) (cs : CallS) (ys : YEnv) (o : Oper) (get : Operand → Option SV) (bk : List (Nat × Blk)) (th c : Nat) (orc : List (Option Bool)) : Option (OpR × Bool) :=
 if isDefer o then none else
 match cs.op o get with
 | some x => some (⟨x, [], [], orc, c, th, none⟩, false)
 | none =>
 match callOf P o get with
 | some (f, args) => if bk.all (fun p => Nat.blt p.1 c) then (match cs.call ys f args bk c (tmin th c) orc with
   | some r => if Nat.ble c r.c then some (retS r, true) else none
   | none => none) else none
 | none => match yldOf o get with
   | some (k, args) => match ys.look k with
     | some h => if bk.all (fun p => Nat.blt p.1 c) then (match h args bk c (tmin th c) orc with
       | some r => if Nat.ble c r.c then some (retS r, true) else none
       | none => none) else none
     | none => none
   | none => match panOf o get with
     | some p => some (⟨.no, bk, [], orc, c, th, some p⟩, false)
     | none => match idxS P o get orc with
      | some (x, ps, orc') => some (⟨x, [], ps, orc', c, th, none⟩, false)
      | none => match symS P o get with
       | some (x, ps) => some (⟨(fixB x orc).1, [], ps ++ (fixB x orc).2.1, (fixB x orc).2.2, c, th, none⟩, false)
       | none => match effS P o get bk th c with
         | some (x, wr, c') => if Nat.ble c c' then some (⟨x, wr, [], orc, c', th, none⟩, false) else none
         | none => none
theorem look_all {α : Type} {l : List (Nat × α)} {c : Nat} (h : l.all (fun p => Nat.blt p.1 c) = true) : ∀ k b, l.look k = some b → k < c := by
 induction l with
 | nil => intro k b hk; simp at hk
 | cons p r ih =>
   obtain ⟨k', x⟩ := p
   intro k b hk
   rw [List.all_cons, Bool.and_eq_true] at h
   rw [look_cons] at hk
   split at hk
   ·rename_i e
    subst e
    exact of_eq_true (by rw [← Nat.blt_eq]; simpa using h.1)
   ·exact ih h.2 k b hk
theorem Sat.reth {D : Den} {w0 : World} {X : Nat → Prop} {th t : Nat} {ρ : Nm} {wc w : World} {bk : List (Nat × Blk)} (h : Sat D w0 X th ρ wc w bk) (hf : ∀ k b, bk.look k = some b → k < t) : Sat D w0 X t ρ wc w bk :=
 ⟨h.fr, h.ext, h.inj, h.lt, fun k b hk => let ⟨B, cs, h1, h2, h3, h4, _, h6⟩ := h.box k b hk; ⟨B, cs, h1, h2, h3, h4, fun _ hh => absurd hh (Nat.not_le.2 (hf k b hk.1)), h6⟩⟩
theorem Sat.tmin {D : Den} {w0 : World} {X : Nat → Prop} {th c : Nat} {ρ : Nm} {wc w : World} {bk : List (Nat × Blk)} (h : Sat D w0 X th ρ wc w bk) (hf : ∀ k b, bk.look k = some b → k < c) : Sat D w0 X (tmin th c) ρ wc w bk := by
 unfold Go.Ex.tmin
 cases hb : Nat.ble th c with
 | true => exact h
 | false => exact h.reth hf
theorem YOk.at {D : Den} {P : Program} {w0 : World} {X : Nat → Prop} : ∀ {bd : Nat} {ys : YEnv} {ρ : Nm} {wc w : World} {k : Nat} {h : YS}, YOk D P w0 X bd ys ρ wc w → ys.look k = some h →
  ∃ B, ρ k = some B ∧ ∀ args bk c th orc r, h args bk c th orc = some r → (∀ p ∈ r.obl, p) → ∀ vals, Sat D w0 X th ρ wc w bk → (∀ j x, bk.look j = some x → j < c) → th ≤ c →
    (∀ j, c ≤ j → j < r.c → ρ j = none) → denAs D ρ wc args vals →
    ∃ fn tmps assign body, (Instr.yield B.blk vals.toArray).run P w = .ok (.round B.blk fn tmps assign body) w ∧
      RoundIn (WF none) 0 P B.blk fn tmps assign body w (Post D w0 X ρ wc w bk c r)
 | _, (k', h') :: ys, ρ, wc, w, k, h, ⟨B, lp, h2, h3, _, _, h1, h4⟩, hk => by
   rw [look_cons] at hk
   split at hk
   ·rename_i e
    cases hk
    subst e
    refine ⟨B, h2, fun args bk c th orc r hh ho vals g1 g2 g3 g4 g5 => ?_⟩
    obtain ⟨fn, tmps, assign, body, q1, q2⟩ := h4 args bk c th orc r hh ho ρ wc w vals (Nm.le.refl _) (Ext.refl _) g1 h1 g2 g3 g4 g5 h3
    exact ⟨fn, tmps, assign, body, q1, q2.mono fun e w' hp => hp.1⟩
   ·exact YOk.at h1 hk
section
variable {D : Den} {P : Program} {w0 : World} {X : Nat → Prop} {th : Nat} {ρ : Nm} {wc w : World} {bk bkR : List (Nat × Blk)} {c : Nat} {get : Operand → Option SV} {a : Act} {cs : CallS} {ys : YEnv}
theorem opS_cc {o : Oper} {orc : List (Option Bool)} {r : OpR} {cl : Bool} (he : opS P cs ys o get bkR th c orc = some (r, cl)) : c ≤ r.c := by
 unfold opS at he
 split at he
 ·cases he
 ·split at he
  ·cases he
   exact Nat.le_refl _
  split at he
  ·split at he
   ·split at he
    ·split at he
     ·rename_i h
      cases he
      exact Nat.le_of_ble_eq_true h
     ·cases he
    ·cases he
   ·cases he
  ·split at he
   ·split at he
    ·split at he
     ·split at he
      ·split at he
       ·rename_i h
        cases he
        exact Nat.le_of_ble_eq_true h
       ·cases he
      ·cases he
     ·cases he
    ·cases he
   ·split at he
    ·cases he
     exact Nat.le_refl _
    ·split at he
     ·cases he
      exact Nat.le_refl _
     split at he
     ·cases he
      exact Nat.le_refl _
     ·split at he
      ·split at he
       ·rename_i h
        cases he
        exact Nat.le_of_ble_eq_true h
       ·cases he
      ·cases he
theorem fixB_no (r : OpR) : (retS r).pan = r.pan ∧ (retS r).fin = r.fin ∧ (retS r).c = r.c ∧ (retS r).th = r.th ∧ (retS r).ends = r.ends := ⟨rfl, rfl, rfl, rfl, rfl⟩
theorem opS_ok (hcs : CallOk D P w0 X cs) {bd : Nat} (hy : YOk D P w0 X bd ys ρ wc w) (h : Sat D w0 X th ρ wc w bk) (hs : Sub bkR bk) (hg : ∀ x z, get x = some z → denV D ρ wc z (a.eval x)) {o : Oper} {orc : List (Option Bool)} {r : OpR} {cl : Bool}
  (he : opS P cs ys o get bkR th c orc = some (r, cl)) (hobl : ∀ p ∈ r.obl, p) (hn : ∀ k, c ≤ k → k < r.c → ρ k = none) {G : List (Nat × Blk)} {th' : Nat} {ro : Option Nat} {n : Nat}
  (hcl : cl = true → (∀ k b, bkR.look k = some b → k < c) → ∀ ρ' wc' w', Sat D w0 X r.th ρ' wc' w' (r.fin bkR) → Evo ρ wc w bkR c r.c ρ' wc' w' (r.fin bkR) → Sat D w0 X th' ρ' wc' w' G ∧ Evo ρ wc w bk c r.c ρ' wc' w' G)
  (hpl : cl = false → r.th = th → th' = th ∧ ((r.pan = none ∧ G = r.wr ++ bk) ∨ (r.pan ≠ none ∧ (r.wr = bkR → Sub' G bk))))
  {K : Act → World → Prop} {Q : Exit → Act → World → Prop}
  (hK : r.pan = none → ∀ ρ' wc' w' v, denV D ρ' wc' r.v v → Sat D w0 X th' ρ' wc' w' G → Evo ρ wc w bk c r.c ρ' wc' w' G → K (a.put o.dst v) w')
  (hP : ∀ p, r.pan = some p → ∀ ρ' wc' w', Sat D w0 X th' ρ' wc' w' G → Evo ρ wc w bk c r.c ρ' wc' w' G → Q (.panic [{ v := p, recovered := false }]) a w') : o.wpIn (WF ro) n P a w K Q := by
 refine ⟨fun _ _ => trivial, ?_⟩
 unfold opS at he
 split at he
 ·cases he
 rename_i hdf
 rw [Oper.semAt_eq _ _ _ (fun c hc => by rw [isDefer, hc] at hdf; simp at hdf)]
 have fin : ∀ {r' : OpR} {e : Ending} {w' : World}, r = retS r' → (∀ ρ' wc' w', Sat D w0 X r'.th ρ' wc' w' (r'.fin bkR) → Evo ρ wc w bkR c r'.c ρ' wc' w' (r'.fin bkR) → Sat D w0 X th' ρ' wc' w' G ∧ Evo ρ wc w bk c r'.c ρ' wc' w' G) → Post D w0 X ρ wc w bkR c r' e w' →
   (match e, w' with
    | .returned v, w'' => K (a.put o.dst v) w''
    | .panicked chain, w'' => Q (.panic chain) a w''
    | .outgrown, _ => LetsOut Q) := by
  intro r' e w' hr hm ⟨v, ρ', wc', hend, hv, hS, hE⟩
  subst hr
  obtain ⟨k1, k2⟩ := hm ρ' wc' w' hS hE
  unfold OpR.ends at hend
  split at hend
  ·rename_i hp
   subst hend
   exact hK hp ρ' wc' w' v (fixB_ok (fun p hp => hobl p (List.mem_append_right _ hp)) hv) k1 k2
  ·rename_i p hp
   subst hend
   exact hP p hp ρ' wc' w' k1 k2
 split at he
 ·rename_i x hx
  obtain ⟨rfl, rfl⟩ : (⟨x, [], [], orc, c, th, none⟩ : OpR) = r ∧ false = cl := by simpa using he
  obtain ⟨rfl, hG⟩ := hpl rfl rfl
  obtain rfl : G = bk := by
   rcases hG with ⟨_, h2⟩ | ⟨h2, _⟩
   ·exact h2
   ·exact absurd rfl h2
  obtain ⟨v, h1, h2⟩ := hcs.op o get x hx ρ wc w a.eval h.fr hg
  rw [h1, Oper.uponIn_value]
  exact hK rfl ρ wc w v h2 h (Evo.refl _ _ _ _ _)
 split at he
 ·rename_i f args hcall
  split at he
  ·rename_i hall
   split at he
   ·rename_i r' hr
    split at he
    ·rename_i hle
     obtain ⟨rfl, rfl⟩ : retS r' = r ∧ true = cl := by simpa using he
     have hlt := look_all hall
     unfold callOf at hcall
     split at hcall
     ·rename_i cc ho
      split at hcall
      ·rename_i fv hcal
       split at hcall
       ·rename_i gf fs caps sa hfv hsa
        split at hcall
        ·rename_i hen
         obtain ⟨rfl, rfl⟩ : gf = f ∧ fs ++ (sa ++ capsA caps) = args := by simpa using hcall
         obtain ⟨us, vs, e2, hus, hvs⟩ := rngOf_ok hfv (hg fv)
         have hargs := hus.append ((sargs_ok hg hsa).append (capsA_ok (D := D) (w := wc) hvs))
         have hx : (execOp a.eval o).run P w = .ok (.enter gf (us ++ (cc.args.toList.map a.eval ++ vs)).toArray) w := by
          unfold execOp
          simp only [ho, resolve, hcal, Deferred.ofValue, e2, Sem.run_bind, Sem.run_pure, Result.andThen_ok, invoke]
          rw [enters_run hen]
          congr 2
          apply Array.toList_inj.1
          simp
         rw [hx, Oper.uponIn_enter]
         refine ⟨(fun hh => by cases hh), callsIn_WF.2 ((hcs.call _ _ _ _ _ _ _ _ hr (fun p hp => hobl p (List.mem_append_left _ hp)) bd ρ wc w _ ((h.sub hs).tmin hlt) hy hlt (tmin_le _ _) hn hargs).mono ?_)⟩
         intro e w' hp
         exact fin rfl (hcl rfl hlt) hp
        ·cases hcall
       ·cases hcall
      ·cases hcall
     ·cases hcall
    ·cases he
   ·cases he
  ·cases he
 ·split at he
  ·rename_i k args hyl
   split at he
   ·rename_i hd hhd
    split at he
    ·rename_i hall
     split at he
     ·rename_i r' hr
      split at he
      ·rename_i hle
       obtain ⟨rfl, rfl⟩ : retS r' = r ∧ true = cl := by simpa using he
       have hlt := look_all hall
       unfold yldOf at hyl
       split at hyl
       ·rename_i cc ho
        split at hyl
        ·rename_i fv hcal
         split at hyl
         ·rename_i k' sa hfv hsa
          obtain ⟨rfl, rfl⟩ : k' = k ∧ sa = args := by simpa using hyl
          obtain ⟨B, hB, e1⟩ := hg _ _ hfv
          have e2 : a.eval fv = .func (.yield B.blk) #[] #[] := by simpa using e1
          have hargs := sargs_ok (D := D) (wc := wc) hg hsa
          obtain ⟨B', hB', hround⟩ := hy.at hhd
          cases hB.symm.trans hB'
          obtain ⟨fn, tmps, assign, body, q1, q2⟩ := hround _ _ _ _ _ _ hr (fun p hp => hobl p (List.mem_append_left _ hp)) _ ((h.sub hs).tmin hlt) hlt (tmin_le _ _) hn hargs
          have hx : (execOp a.eval o).run P w = .ok (.round B.blk fn tmps assign body) w := by
           rw [← q1]
           unfold execOp
           simp only [ho, resolve, hcal, Deferred.ofValue, e2, Sem.run_bind, Sem.run_pure, Result.andThen_ok, invoke]
           congr 2
           apply Array.toList_inj.1
           simp
          rw [hx, Oper.uponIn_round]
          refine ⟨(fun hh => by cases hh), ?_⟩
          refine RoundIn.mono (F := WF ro) (R := Post D w0 X ρ wc w bkR c r') ⟨trivial, fun c' cs' hroom => ?_⟩ fun e w' hp => fin rfl (hcl rfl hlt) hp
          exact q2.2 c' cs' (fun d hd => by cases hd)
         ·cases hyl
        ·cases hyl
       ·cases hyl
      ·cases he
     ·cases he
    ·cases he
   ·cases he
  ·split at he
   ·rename_i p hpan
    obtain ⟨rfl, rfl⟩ : (⟨.no, bkR, [], orc, c, th, some p⟩ : OpR) = r ∧ false = cl := by simpa using he
    obtain ⟨rfl, hG⟩ := hpl rfl rfl
    have hG : Sub' G bk := by
     rcases hG with ⟨h1, _⟩ | ⟨_, h2⟩
     ·cases h1
     ·exact h2 rfl
    have real : ∀ {x : Operand} {u : Value}, (get x).bind realV = some u → a.eval x = u := by
     intro x u hx
     obtain ⟨z, hz, hr⟩ := Option.bind_eq_some_iff.1 hx
     exact realV_den hr (hg _ _ hz)
    have hrun : (execOp a.eval o).run P w = .halt (.panic p) w := by
     unfold panOf at hpan
     split at hpan
     ·rename_i x ho
      split at hpan
      ·rename_i t v hx
       cases hpan
       unfold execOp
       simp only [ho, real hx]
       rfl
      ·cases hpan
     ·rename_i x ts ho
      split at hpan
      ·rename_i t v hx
       cases hpan
       unfold execOp
       simp only [ho, resolve, Sem.run_bind, Sem.run_pure, Result.andThen_ok, invoke, builtin, List.map_toArray, List.map_cons, List.map_nil, real hx]
       rfl
      ·cases hpan
     ·cases hpan
    rw [hrun, Oper.uponIn_panic]
    exact hP p rfl ρ wc w (h.sub' hG) ((Evo.refl ρ wc w bk c).sub' hG)
   ·split at he
    ·rename_i x ps orc' hidx
     obtain ⟨rfl, rfl⟩ : (⟨x, [], ps, orc', c, th, none⟩ : OpR) = r ∧ false = cl := by simpa using he
     obtain ⟨rfl, hG⟩ := hpl rfl rfl
     obtain rfl : G = bk := by
      rcases hG with ⟨_, h2⟩ | ⟨h2, _⟩
      ·exact h2
      ·exact absurd rfl h2
     obtain ⟨v, h1, h2⟩ := idxS_ok (P := P) (w := w) hg hidx hobl
     rw [h1, Oper.uponIn_value]
     exact hK rfl ρ wc w v h2 h (Evo.refl _ _ _ _ _)
    split at he
    ·rename_i x ps hsym
     obtain ⟨rfl, rfl⟩ : (⟨(fixB x orc).1, [], ps ++ (fixB x orc).2.1, (fixB x orc).2.2, c, th, none⟩ : OpR) = r ∧ false = cl := by simpa using he
     obtain ⟨rfl, hG⟩ := hpl rfl rfl
     obtain rfl : G = bk := by
      rcases hG with ⟨_, h2⟩ | ⟨h2, _⟩
      ·exact h2
      ·exact absurd rfl h2
     obtain ⟨v, h1, h2⟩ := symS_ok (P := P) (w := w) hg hsym (fun p hp => hobl p (List.mem_append_left _ hp))
     rw [h1, Oper.uponIn_value]
     exact hK rfl ρ wc w v (fixB_ok (fun p hp => hobl p (List.mem_append_right _ hp)) h2) h (Evo.refl _ _ _ _ _)
    ·split at he
     ·rename_i x wr c' heff
      split at he
      ·obtain ⟨rfl, rfl⟩ : (⟨x, wr, [], orc, c', th, none⟩ : OpR) = r ∧ false = cl := by simpa using he
       obtain ⟨rfl, hG⟩ := hpl rfl rfl
       obtain rfl : G = wr ++ bk := by
        rcases hG with ⟨_, h2⟩ | ⟨h2, _⟩
        ·exact h2
        ·exact absurd rfl h2
       obtain ⟨nx, v, w', ρ', hrun, hnx, hv, k1, k2⟩ := effS_ok h hs hg heff hn
       rw [hrun]
       rcases hnx with rfl | ⟨rfl, rfl⟩
       ·exact hK rfl ρ' wc w' v hv k1 k2
       ·exact hK rfl ρ' wc w' undef hv k1 k2
      ·cases he
     ·cases he
end
/-! ### slots -/
def putT (tm : List (Nat × SV)) (d : Option Tmp) (x : SV) : List (Nat × SV) :=
 match d with
 | some t => (t, x) :: tm
 | none => tm
def dstOk (n : Nat) (d : Option Tmp) : Bool :=
 match d with
 | some t => Nat.blt t n
 | none => true
theorem TSat.put {D : Den} {ρ : Nm} {w : World} {n : Nat} {tm : List (Nat × SV)} {a : Act} (h : TSat D ρ w n tm a) {d : Option Tmp} (hd : dstOk n d = true) {x : SV} {v : Value} (hv : denV D ρ w x v) :
  TSat D ρ w n (putT tm d x) (a.put d v) := by
 cases d with
 | none => exact h
 | some t =>
   have ht : t < a.tmps.size := by rw [h.size]; exact Nat.blt_eq ▸ (show Nat.blt t n = true from hd)
   refine ⟨by simp [Act.put, h.size], fun s y hs => ?_⟩
   unfold putT at hs
   dsimp only at hs
   rw [look_cons] at hs
   show ∃ v', (a.tmps.setIfInBounds t v)[s]? = some v' ∧ _
   by_cases e : s = t
   ·rw [if_pos e] at hs
    cases hs
    subst e
    exact ⟨v, by simp [ht], hv⟩
   ·rw [if_neg e] at hs
    obtain ⟨v', h1, h2⟩ := h.at_ s y hs
    exact ⟨v', by rw [Array.getElem?_setIfInBounds, if_neg (fun h => e h.symm)]; exact h1, h2⟩
def wantS (ops : Array Oper) (o : Oper) (tm : List (Nat × SV)) (orc : List (Option Bool)) : Option (Bool × List Prop × List (Option Bool)) :=
 match o.guard with
 | none => some (true, [], orc)
 | some (j, want) => match (ops[j]?).bind (·.dst) with
   | some d => match tm.look d with
     | some (.a (.one (.val (.bool b)))) => some (b == want, [], orc)
     | some (.tup _) => some (false, [], orc)
     | _ => none
   | none => none
theorem wantS_ok {D : Den} {ρ : Nm} {w : World} {n : Nat} {tm : List (Nat × SV)} {a : Act} (h : TSat D ρ w n tm a) {ops : Array Oper} {o : Oper} {orc orc' : List (Option Bool)} {b : Bool} {ps : List Prop}
  (hw : wantS ops o tm orc = some (b, ps, orc')) (hps : ∀ p ∈ ps, p) : Region.wanted o (yielded ops a.tmps) = b := by
 unfold wantS at hw
 unfold Region.wanted
 split at hw
 ·rename_i hg
  cases hw
  rw [hg]
 ·rename_i j want hg
  rw [hg]
  dsimp only
  split at hw
  ·rename_i d hd
   split at hw
   ·rename_i b' hb
    obtain ⟨v, hv, hden⟩ := h.at_ d _ hb
    have hvb : v = .bool b' := by simpa using hden.1
    subst hvb
    cases hw
    unfold yielded
    rw [hd, Option.bind_some, hv]
    cases b' <;> cases want <;> rfl
   ·rename_i l hb
    cases hw
    obtain ⟨v, hv, vs, rfl, _⟩ := h.at_ d _ hb
    unfold yielded
    rw [hd, Option.bind_some, hv]
    rfl
   ·cases hw
  ·cases hw
end
end Go.Ex
namespace Go.Proofs.YtcgfdibagldafaaGreatDoor
open Go.RowKit Go.Mono
theorem image_ok (s : Srf) (p : Option Addr) (c : Nat) (w : World) (h1 : s.kind = 1) (h2 : s.glass = { data := #[] }) (h3 : s.thick = 0) (h4 : s.order = 0) :
  Calls Tryz.prog 271 #[.agg (s.cs p c)] w fun e w' => e = .returned (.bool true) ∧ Below w.heap.size w w' := by
 simp only [Srf.cs, h1, h2, h3, h4]
 go_enter Tryz.func271, Tryz.ntmps271
 go_wp2
 go_ret
 exact ⟨rfl, belowAlloc (Below.refl _ _) _⟩
theorem different_nil (w : World) :
  Calls Tryz.prog 273 #[.slice none 0 0] w fun e w' => e = .returned (.bool true) ∧ Below w.heap.size w w' := by
 have hmm : ∀ w : World, (Instr.makeMap 346 none).run Tryz.prog w = .ok (.map (some w.heap.size)) (w.alloc (.map #[] 0)) := fun _ => rfl
 go_enter Tryz.func273, Tryz.ntmps273
 go_wp2
 go_loopw [9] (fun a wr => a = .int .i64 0 ∧ Below w.heap.size w wr) (fun _ _ => 0)
 case atStart => exact ⟨rfl, belowAlloc (Below.refl _ _) _⟩
 case round =>
  obtain ⟨rfl, hB⟩ := hrel
  go_wp2
  go_ret
  exact ⟨rfl, hB⟩
theorem configs_ok (B : Nat) (nm : ByteArray) (di pu st pr : Int) (pf pw' ps pc : Option Addr) (nf cf n cw ns cs cc : Nat) (w : World)
  (b0 : Box w B 291 #[.string nm, .int .i64 di, .int .i64 pu, .int .i64 st, .int .i64 pr, .slice pf nf cf, .slice pw' n cw, .slice ps ns cs, .slice pc 0 cc]) :
  Calls Tryz.prog 247 #[.pointer (some ⟨B, 0, none⟩)] w fun e w' => e = .returned (.bool true) ∧ Below w.heap.size w w' := by
 have cb0 := b0.cell
 go_enter Tryz.func247, Tryz.ntmps247
 go_wp2
 go_loopw [3, 14] (fun l a wr => l = .slice none 0 0 ∧ a = .int .i64 0 ∧ wr = w) (fun _ _ _ => 0)
 case atStart => exact ⟨rfl, rfl, rfl⟩
 case round =>
  obtain ⟨rfl, rfl, rfl⟩ := hrel
  go_wp2_with (go_at_call 273; refine (different_nil _).mono ?_; rintro e w' ⟨rfl, hb⟩)
  go_ret
  exact ⟨rfl, hb⟩
theorem fields_ok (B : Nat) (nm : ByteArray) (di pu st pr : Int) (pf pw' ps pc : Option Addr) (nf cf n cw ns cs nc cc : Nat) (X Y : Nat → Int) (w : World)
  (b0 : Box w B 291 #[.string nm, .int .i64 di, .int .i64 pu, .int .i64 st, .int .i64 pr, .slice pf nf cf, .slice pw' n cw, .slice ps ns cs, .slice pc nc cc])
  (hr : RdC w pf nf cf 2 (fun i j => if j = 0 then .int .i64 (X i) else .int .i64 (Y i)))
  (n1 : 1 ≤ nf) (n2 : nf ≤ 5) (m : Int) (hm : m = if di = 0 then 1000000 else 1000000000)
  (l0 : ∀ i, i < nf → (-m ≤ X i ∧ X i ≤ m) ∧ -m ≤ Y i ∧ Y i ≤ m) (l1 : ∀ i k, k < i → i < nf → ¬ (X i = X k ∧ Y i = Y k)) :
  Calls Tryz.prog 244 #[.pointer (some ⟨B, 0, none⟩)] w fun e w' => e = .returned (.bool true) ∧ Below w.heap.size w w' := by
 have cb0 := b0.cell
 have m1 : 0 ≤ m ∧ m ≤ 1000000000 := by subst hm; split <;> omega
 obtain ⟨hc1, hn1, hx⟩ := hr
 obtain ⟨b, off, rfl, hb, hcell⟩ := hx (by omega)
 clear hx
 have hdd : (m = 1000000 ∧ di = 0) ∨ (m = 1000000000 ∧ (di == 0) = false) := by
  subst hm
  by_cases hd : di = 0
  ·left; simp [hd]
  ·right; simp [hd]
 clear hm
 rcases hdd with ⟨rfl, rfl⟩ | ⟨rfl, hd⟩
 all_goals
  go_enter Tryz.func244, Tryz.ntmps244
  go_wp2
  go_loopw [20] (fun a wr => ∃ i : Nat, i ≤ nf ∧ a = .int .i64 (i : Int) ∧ Below w.heap.size w wr) (fun a _ => (nf - intOf a).toNat)
  case atStart => exact ⟨0, Nat.zero_le _, rfl, Below.refl _ _⟩
  case round =>
   obtain ⟨i, hi, rfl, hB⟩ := hrel
   have hbb := b0.below hB
   have cbb := hbb.cell
   have lbb := hbb.lt
   have hbw : b < wr.heap.size := Nat.lt_of_lt_of_le hb hB.size
   by_cases hin : i < nf
   ·have hin' : (i : Int) < nf := by omega
    have a0 := (hB.cell hb).trans (hcell i 0 hin (by omega))
    have a1 := (hB.cell hb).trans (hcell i 1 hin (by omega))
    simp only [if_true, Nat.add_zero, Nat.succ_ne_self, if_false] at a0 a1
    replace l0 := Lib.hid l0; replace l1 := Lib.hid l1; replace hcell := Lib.hid hcell
    clear cb0
    go_wp2
    refine boxes1 fun W1 hB1 hs1 bF => ?_
    replace hbb := hbb.below hB1
    have hBW := belowCall hB hB1
    clear cbb lbb a0 a1
    go_loopw [33] (fun a w2 => ∃ k : Nat, k ≤ i ∧ a = .int .i64 (k : Int) ∧ Below W1.heap.size W1 w2) (fun a _ => (i - intOf a).toNat)
    case atStart => exact ⟨0, Nat.zero_le _, rfl, Below.refl _ _⟩
    case round =>
     obtain ⟨k, hk, rfl, hB2⟩ := hrel
     have bF2 := bF.below hB2
     have cF := bF2.cell
     have lF := bF2.lt
     have fF := bF2.frozen
     have hBW2 := belowCall hBW hB2
     have hbw2 : b < wr.heap.size := Nat.lt_of_lt_of_le hb hBW2.size
     by_cases hki : k < i
     ·have hki' : (k : Int) < i := by omega
      have a0 := (hBW2.cell hb).trans (hcell.out k 0 (by omega) (by omega))
      have a1 := (hBW2.cell hb).trans (hcell.out k 1 (by omega) (by omega))
      simp only [if_true, Nat.add_zero, Nat.succ_ne_self, if_false] at a0 a1
      have hne := l1.out i k hki hin
      by_cases hX : X i = X k
      ·have hqx : (X i == X k) = true := by simpa using hX
       have hqy : (Y i == Y k) = false := by
        rw [beq_eq_false_iff_ne]
        exact fun h => hne ⟨hX, h⟩
       replace hX := Lib.hid hX
       replace hne := Lib.hid hne
       go_wp2
       go_roundw
       case rel => exact ⟨k + 1, by omega, by simp, belowAlloc hB2 _⟩
       case measure => simp [intOf]; omega
      ·have hqx : (X i == X k) = false := by rw [beq_eq_false_iff_ne]; exact hX
       replace hX := Lib.hid hX
       replace hne := Lib.hid hne
       go_wp2
       go_roundw
       case rel => exact ⟨k + 1, by omega, by simp, belowAlloc hB2 _⟩
       case measure => simp [intOf]; omega
     ·obtain rfl : k = i := by omega
      obtain ⟨⟨x1, x2⟩, y1, y2⟩ := l0.out k hin
      go_wp2_with first | (go_at_call 243; (with_reducible refine (lbetween_ok (X k) _ _ x1 x2 _).mono ?_); rintro e w' ⟨rfl, rfl⟩) | (go_at_call 243; (with_reducible refine (lbetween_ok (Y k) _ _ y1 y2 _).mono ?_); rintro e w' ⟨rfl, rfl⟩)
      go_roundw
      case rel => exact ⟨k + 1, by omega, by simp, hBW2⟩
      case measure => simp [intOf]; omega
   ·obtain rfl : i = nf := by omega
    have e1 : (1 : Int) ≤ i := by omega
    have e2 : (i : Int) ≤ 5 := by omega
    clear hcell cb0 l0 l1
    go_wp2_with (go_at_call 243; refine (lbetween_ok (i : Int) 1 5 e1 e2 _).mono ?_; rintro e w' ⟨rfl, rfl⟩)
    go_ret
    exact ⟨rfl, hB⟩
end Go.Proofs.YtcgfdibagldafaaGreatDoor
namespace Go.Ex
open Go.RowKit Go.Mono
section
inductive DF where
 | clo (f : FuncId) (caps : List (Nat × Nat))
 | col (k : Nat)
structure Stt where
 tm : List (Nat × SV)
 bk : List (Nat × Blk)
 c : Nat
 th : Nat
 orc : List (Option Bool)
 df : List DF
def DfOk (P : Program) (m : Nat) (ρ : Nm) (w : World) : List DF → List Deferred → Prop
 | [], ds => ds = []
 | .clo f caps :: r, ds => ∃ (vs : List Value) (d : List Deferred), ds = { target := .fn (.func f) vs.toArray, args := #[] } :: d ∧ adrs ρ caps vs ∧ entersB P f = true ∧ DfOk P m ρ w r d
 | .col k :: r, ds => ∃ (B : Pl) (d : List Deferred), ds = { target := .collected B.blk, args := #[] } :: d ∧ ρ k = some B ∧ m ≤ B.blk ∧ (∀ x ∈ d, ∀ b, x.target = .collected b → b < B.blk) ∧ w.heap[B.blk]? = some (Obj.deferred (some [])) ∧ DfOk P m ρ w r d
theorem DfOk.step {P : Program} {m : Nat} {ρ ρ' : Nm} {w w' : World} (hr : ρ.le ρ') :
  ∀ {df : List DF} {ds : List Deferred}, (∀ l : Nat, (∃ x ∈ ds, x.target = .collected l) → w.heap[l]? = some (Obj.deferred (some [])) → w'.heap[l]? = some (Obj.deferred (some []))) → DfOk P m ρ w df ds → DfOk P m ρ' w' df ds
 | [], ds, hl, h => h
 | .clo f caps :: r, ds, hl, ⟨vs, d, h1, h2, h3, h4⟩ => by
   subst h1
   exact ⟨vs, d, rfl, h2.mono hr, h3, h4.step hr fun l ⟨x, hx, e⟩ => hl l ⟨x, List.mem_cons_of_mem _ hx, e⟩⟩
 | .col k :: r, ds, hl, ⟨B, d, h1, h2, hm, hb, h3, h4⟩ => by
   subst h1
   exact ⟨B, d, rfl, hr k B h2, hm, hb, hl _ ⟨_, List.mem_cons_self .., rfl⟩ h3, h4.step hr fun l ⟨x, hx, e⟩ => hl l ⟨x, List.mem_cons_of_mem _ hx, e⟩⟩
theorem DfOk.low {P : Program} {m N : Nat} {ρ : Nm} {w : World} (hN : ∀ k B, ρ k = some B → B.blk < N) : ∀ {df : List DF} {ds : List Deferred}, DfOk P m ρ w df ds → ∀ x ∈ ds, ∀ b, x.target = .collected b → b < N
 | [], ds, h, x, hx, b, e => by rw [show ds = [] from h] at hx; cases hx
 | .clo f caps :: r, ds, ⟨vs, d, h1, h2, h3, h4⟩, x, hx, b, e => by
   rw [h1] at hx
   rcases List.mem_cons.1 hx with rfl | hx
   ·cases e
   ·exact h4.low hN x hx b e
 | .col k :: r, ds, ⟨B, d, h1, h2, hm, hb, h3, h4⟩, x, hx, b, e => by
   rw [h1] at hx
   rcases List.mem_cons.1 hx with rfl | hx
   ·cases e; exact hN k B h2
   ·exact h4.low hN x hx b e
theorem DfOk.evo {D : Den} {P : Program} {w0 : World} {X : Nat → Prop} {th : Nat} {ρ ρ' : Nm} {wc w wc' w' : World} {bk bk' : List (Nat × Blk)} {c c' : Nat} {df : List DF} {ds : List Deferred} {m : Nat} (h : DfOk P m ρ w df ds)
  (hS : Sat D w0 X th ρ wc w bk) (e : Evo ρ wc w bk c c' ρ' wc' w' bk') : DfOk P m ρ' w' df ds :=
 h.step e.rho fun l _ hl => hS.stays e hl rfl
def deferOf (P : Program) (o : Oper) (get : Operand → Option SV) : Option DF :=
 match o.op with
 | .defer c => match c.callee, c.args.toList with
   | .value fv, [] => match get fv with
     | some (.a (.one (.clo f caps))) => if entersB P f then some (.clo f caps) else none
     | _ => none
   | _, _ => none
 | _ => none
def exP : Option Value → Exit
 | none => .normal
 | some p => .panic [{ v := p, recovered := false }]
def seqS (P : Program) (cs : CallS) (ys : YEnv) (rd : Bool) (ops : Array Oper) (n : Nat) : List Oper → Stt → Option (Stt × List Prop × Option Value)
 | [], s => some (s, [], none)
 | o :: rest, s => match wantS ops o s.tm s.orc with
   | some (true, ps, orc) => if dstOk n o.dst then (match deferOf P o (getS s.tm) with
     | some d => if rd then none else (match seqS P cs ys rd ops n rest ⟨putT s.tm o.dst (.tup []), s.bk, s.c, s.th, orc, d :: s.df⟩ with
       | some (s', q, p) => some (s', ps ++ q, p)
       | none => none)
     | none => (match opS P cs ys o (getS s.tm) s.bk s.th s.c orc with
       | some (r, _) => (match r.pan with
         | some p => some (⟨s.tm, r.wr, r.c, r.th, r.orc, s.df⟩, ps ++ r.obl, some p)
         | none => (match seqS P cs ys rd ops n rest ⟨putT s.tm o.dst r.v, r.wr ++ s.bk, r.c, r.th, r.orc, s.df⟩ with
           | some (s', q, p) => some (s', ps ++ (r.obl ++ q), p)
           | none => none))
       | none => none)) else none
   | some (false, ps, orc) => if dstOk n o.dst then (match seqS P cs ys rd ops n rest ⟨putT s.tm o.dst (.tup []), s.bk, s.c, s.th, orc, s.df⟩ with
     | some (s', q, p) => some (s', ps ++ q, p)
     | none => none) else none
   | none => none
def Goes (D : Den) (P : Program) (w0 : World) (X : Nat → Prop) (mm n : Nat) (ρ : Nm) (wc w : World) (s s' : Stt) (Q : Act → World → Prop) : Prop :=
 ∀ ρ' wc' w' a', Sat D w0 X s'.th ρ' wc' w' s'.bk → TSat D ρ' wc' n s'.tm a' → DfOk P mm ρ' w' s'.df a'.defers → Evo ρ wc w s.bk s.c s'.c ρ' wc' w' s'.bk → Q a' w'
section
variable {D : Den} {P : Program} {w0 : World} {X : Nat → Prop} {cs : CallS} {ys : YEnv}
theorem seqS_cc {rd : Bool} {ops : Array Oper} {n : Nat} : ∀ {l : List Oper} {s s' : Stt} {q : List Prop} {p : Option Value}, seqS P cs ys rd ops n l s = some (s', q, p) → s.c ≤ s'.c
 | [], s, s', q, p, h => by cases h; exact Nat.le_refl _
 | o :: rest, s, s', q, p, h => by
   unfold seqS at h
   split at h
   ·split at h
    ·split at h
     ·split at h
      ·cases h
      ·split at h
       ·rename_i s2 q2 p2 h2
        cases h
        have k := seqS_cc h2
        exact k
       ·cases h
     ·split at h
      ·rename_i r cl hr
       split at h
       ·cases h
        exact opS_cc hr
       ·split at h
        ·rename_i s2 q2 p2 h2
         cases h
         exact Nat.le_trans (opS_cc hr) (seqS_cc h2)
        ·cases h
      ·cases h
    ·cases h
   ·split at h
    ·split at h
     ·rename_i s2 q2 p2 h2
      cases h
      have k := seqS_cc h2
      exact k
     ·cases h
    ·cases h
   ·cases h
theorem undef_den {ρ : Nm} {w : World} : denV D ρ w (.tup []) undef := ⟨[], rfl, rfl⟩
theorem seqS_ok (hcs : CallOk D P w0 X cs) {bd mm : Nat} {rd : Bool} {ro : Option Nat} (hrd : rd = false → ro = none) {m : Nat} {ops : Array Oper} {n : Nat} {Q : Exit → Act → World → Prop} : ∀ {l : List Oper} {s s' : Stt} {q : List Prop} {pn : Option Value} {ρ : Nm} {wc w : World} {a : Act},
  seqS P cs ys rd ops n l s = some (s', q, pn) → (∀ p ∈ q, p) →
  Sat D w0 X s.th ρ wc w s.bk → YOk D P w0 X bd ys ρ wc w → TSat D ρ wc n s.tm a → DfOk P mm ρ w s.df a.defers → (∀ k, s.c ≤ k → k < s'.c → ρ k = none) →
  Goes D P w0 X mm n ρ wc w s s' (Q (exP pn)) → wpListIn (WF ro) m P ops Q l a w
 | [], s, s', q, pn, ρ, wc, w, a, h, hq, hS, hY, hT, hD, hn, hK => by
   cases h
   exact hK ρ wc w a hS hT hD (Evo.refl _ _ _ _ _)
 | o :: rest, s, s', q, pn, ρ, wc, w, a, h, hq, hS, hY, hT, hD, hn, hK => by
   unfold seqS at h
   unfold wpListIn
   split at h
   ·rename_i ps orc hw
    split at h
    ·rename_i hd
     split at h
     ·rename_i df hdf
      split at h
      ·cases h
      ·rename_i hrd'
       have hro : ro = none := hrd (by simpa using hrd')
       subst hro
       split at h
       ·rename_i s2 q2 p2 h2
        cases h
        rw [if_pos (wantS_ok hT hw fun p hp => hq p (by simp [hp]))]
        refine ⟨fun _ _ => trivial, ?_⟩
        unfold deferOf at hdf
        split at hdf
        ·rename_i cc ho
         split at hdf
         ·rename_i fv hcal hargs
          split at hdf
          ·rename_i f caps hfv
           split at hdf
           ·rename_i hen
            cases hdf
            obtain ⟨vs, hvs, e1⟩ := hT.get hfv
            have e2 : a.eval fv = .func (.func f) #[] vs.toArray := by simpa using e1
            have hx : (o.semAt none a.eval).run P w = .ok (.defer { target := .fn (.func f) vs.toArray, args := #[] }) w := by
             rw [Oper.semAt_none]
             unfold execOp
             have ha : cc.args = #[] := by apply Array.toList_inj.1; rw [hargs]
             simp only [ho, resolve, hcal, Deferred.ofValue, e2, ha, Sem.run_bind, Sem.run_pure, Result.andThen_ok]
             simp
            show Oper.uponIn _ _ _ _ _ _ _ ((o.semAt (WF none).round a.eval).run P w)
            rw [show (WF none).round = none from rfl, hx, Oper.uponIn_defer]
            refine seqS_ok (mm := mm) hcs hrd h2 (fun p hp => hq p (by simp [hp])) hS hY (TSat.put (a := { a with defers := _ :: a.defers }) ⟨hT.size, hT.at_⟩ hd undef_den) ?_ hn ?_
            ·have e3 : (({ a with defers := { target := .fn (.func f) vs.toArray, args := #[] } :: a.defers } : Act).put o.dst undef).defers = { target := .fn (.func f) vs.toArray, args := #[] } :: a.defers := by
              cases o.dst <;> rfl
             rw [e3]
             exact ⟨vs, a.defers, rfl, hvs, hen, hD⟩
            ·intro ρ2 wc2 w2 a2 k1 k2 k3 k4
             exact hK ρ2 wc2 w2 a2 k1 k2 k3 k4
           ·cases hdf
          ·cases hdf
         ·cases hdf
        ·cases hdf
       ·cases h
     ·split at h
      ·rename_i r cl hr
       have hrc := opS_cc hr
       split at h
       ·rename_i p hp
        cases h
        rw [if_pos (wantS_ok hT hw fun p hp => hq p (by simp [hp]))]
        refine opS_ok (G := r.fin s.bk) (th' := r.th) hcs hY hS (fun k b hk => hk) (fun x z hz => hT.get hz) hr (fun p hp => hq p (by simp [hp])) hn (fun _ _ _ _ _ h1 h2 => ⟨h1, h2⟩) (fun _ ht => ⟨ht, ?_⟩) (fun hnn => ?_) ?_
        ·refine .inr ⟨by rw [hp]; simp, fun hw => ?_⟩
         unfold OpR.fin
         rw [hp]
         dsimp only
         rw [hw]
         exact fun k b hk => hk
        ·rw [hp] at hnn; cases hnn
        ·intro p' hp' ρ' wc' w' k1 k2
         rw [hp] at hp'
         cases hp'
         have ef : r.fin s.bk = r.wr := by unfold OpR.fin; rw [hp]
         rw [ef] at k1 k2
         exact hK ρ' wc' w' a k1 (hT.mono k2.rho k2.ext) (hD.evo hS k2) k2
       ·rename_i hp
        split at h
        ·rename_i s2 q2 p2 h2
         cases h
         have hcc := seqS_cc h2
         have ef : r.fin s.bk = r.wr ++ s.bk := by unfold OpR.fin; rw [hp]
         rw [if_pos (wantS_ok hT hw fun p hp => hq p (by simp [hp]))]
         refine opS_ok (G := r.fin s.bk) (th' := r.th) hcs hY hS (fun k b hk => hk) (fun x z hz => hT.get hz) hr (fun p hp => hq p (by simp [hp])) (fun k h1 h2 => hn k h1 (by dsimp only at hcc; omega)) (fun _ _ _ _ _ h1 h2 => ⟨h1, h2⟩) (fun _ ht => ⟨ht, .inl ⟨hp, ef⟩⟩) ?_ (fun p' hp' => ?_)
         ·intro _ ρ' wc' w' v hv hS' hE
          rw [ef] at hS' hE
          refine seqS_ok (mm := mm) hcs hrd h2 (fun p hp => hq p (by simp [hp])) hS' (hY.evo hS hE) ((hT.mono hE.rho hE.ext).put hd hv) ?_ (fun k h1 h2 => ?_) ?_
          ·have e3 : (a.put o.dst v).defers = a.defers := by cases o.dst <;> rfl
           rw [e3]
           exact hD.evo hS hE
          ·dsimp only at h1
           rw [hE.dom k (.inr h1)]
           exact hn k (by omega) h2
          ·intro ρ2 wc2 w2 a2 k1 k2 k3 k4
           exact hK ρ2 wc2 w2 a2 k1 k2 k3 (hE.trans k4 hS.named)
         ·rw [hp] at hp'; cases hp'
        ·cases h
      ·cases h
    ·cases h
   ·rename_i ps orc hw
    split at h
    ·rename_i hd
     split at h
     ·rename_i s2 q2 p2 h2
      cases h
      rw [if_neg (by rw [wantS_ok hT hw fun p hp => hq p (by simp [hp])]; simp)]
      refine ⟨fun _ _ => trivial, ?_⟩
      refine seqS_ok (mm := mm) hcs hrd h2 (fun p hp => hq p (by simp [hp])) hS hY (hT.put hd undef_den) ?_ hn ?_
      ·have e3 : (a.put o.dst undef).defers = a.defers := by cases o.dst <;> rfl
       rw [e3]
       exact hD
      ·intro ρ2 wc2 w2 a2 k1 k2 k3 k4
       exact hK ρ2 wc2 w2 a2 k1 k2 k3 k4
     ·cases h
    ·cases h
   ·cases h
end
/-! ### any order: lists of what was written, by those that came up -/
def accAt {α : Type} (ws : List (List (Nat × α))) (L : Nat → Bool) (l0 : List (Nat × α)) : Nat → List (Nat × α)
 | 0 => l0
 | m + 1 => (if L m then ws.getD m [] else []) ++ accAt ws L l0 m
section
variable {α : Type} {ws : List (List (Nat × α))} {l0 : List (Nat × α)}
abbrev wrote (ws : List (List (Nat × α))) (j k : Nat) : Prop := ((ws.getD j []).look k).isSome = true
theorem accAt_cons (x : List (Nat × α)) (L : Nat → Bool) : ∀ m, accAt (x :: ws) L l0 (m + 1) = accAt ws (fun j => L (j + 1)) ((if L 0 then x else []) ++ l0) m
 | 0 => rfl
 | m + 1 => by
   have ih := accAt_cons x L m
   show (if L (m + 1) then (x :: ws).getD (m + 1) [] else []) ++ accAt (x :: ws) L l0 (m + 1) = _
   rw [ih]
   rfl
theorem acc_step (L : Nat → Bool) (m k : Nat) : (accAt ws L l0 (m + 1)).look k = if L m = true ∧ wrote ws m k then (ws.getD m []).look k else (accAt ws L l0 m).look k := by
 show ((if L m then ws.getD m [] else []) ++ accAt ws L l0 m).look k = _
 rw [look_append]
 unfold wrote
 cases hL : L m with
 | false => simp
 | true =>
   rw [if_pos rfl]
   generalize ws.getD m [] = x
   cases hw : x.look k with
   | none => rw [if_neg (by simp)]; rfl
   | some b => rw [if_pos ⟨rfl, rfl⟩]; rfl
theorem acc_read {L : Nat → Bool} {i k : Nat} (hi : L i = false) (hlo : ∀ j, j < i → wrote ws j k → L j = true) (hhi : ∀ j, i < j → wrote ws j k → L j = false) :
  ∀ N, i ≤ N → (accAt ws L l0 N).look k = (accAt ws (fun _ => true) l0 i).look k := by
 have lo : ∀ m, m ≤ i → (accAt ws L l0 m).look k = (accAt ws (fun _ => true) l0 m).look k := by
  intro m
  induction m with
  | zero => intro _; rfl
  | succ m ih =>
    intro hm
    rw [acc_step, acc_step, ih (by omega)]
    by_cases hw : wrote ws m k
    ·rw [if_pos ⟨hlo m (by omega) hw, hw⟩, if_pos ⟨rfl, hw⟩]
    ·rw [if_neg (fun h => hw h.2), if_neg (fun h => hw h.2)]
 intro N
 induction N with
 | zero => intro hN; obtain rfl : i = 0 := by omega
           exact lo 0 (by omega)
 | succ N ih =>
   intro hN
   by_cases he : i = N + 1
   ·subst he; exact lo _ (Nat.le_refl _)
   ·rw [acc_step, if_neg, ih (by omega)]
    rintro ⟨h1, h2⟩
    by_cases h3 : i = N
    ·subst h3; rw [hi] at h1; cases h1
    ·rw [hhi N (by omega) h2] at h1; cases h1
theorem acc_add {L : Nat → Bool} {i k : Nat} (hi : L i = false) (hhi : ∀ j, i < j → wrote ws i k → wrote ws j k → L j = false) :
  ∀ N, i < N → (accAt ws (fun j => j == i || L j) l0 N).look k = ((ws.getD i []).look k).or ((accAt ws L l0 N).look k) := by
 have lo : ∀ m, m ≤ i → (accAt ws (fun j => j == i || L j) l0 m).look k = (accAt ws L l0 m).look k := by
  intro m
  induction m with
  | zero => intro _; rfl
  | succ m ih =>
    intro hm
    have e : (m == i) = false := by simp; omega
    rw [acc_step, acc_step, ih (by omega)]
    simp only [e, Bool.false_or]
 intro N
 induction N with
 | zero => intro h; omega
 | succ N ih =>
   intro hN
   by_cases he : i = N
   ·subst he
    rw [acc_step, acc_step, lo i (Nat.le_refl _), if_neg (show ¬ (L i = true ∧ wrote ws i k) from fun h => by rw [hi] at h; cases h.1)]
    by_cases hw : wrote ws i k
    ·rw [if_pos ⟨by simp, hw⟩]
     obtain ⟨b, hb⟩ := Option.isSome_iff_exists.1 hw
     rw [hb]; rfl
    ·rw [if_neg (fun h => hw h.2)]
     have : (ws.getD i []).look k = none := by
      unfold wrote at hw
      cases h : (ws.getD i []).look k with
      | none => rfl
      | some b => rw [h] at hw; simp at hw
     rw [this]; rfl
   ·have e : (N == i) = false := by simp; omega
    rw [acc_step, acc_step, ih (by omega)]
    simp only [e, Bool.false_or]
    by_cases hw : L N = true ∧ wrote ws N k
    ·rw [if_pos hw, if_pos hw]
     have : (ws.getD i []).look k = none := by
      cases h : (ws.getD i []).look k with
      | none => rfl
      | some b =>
        have := hhi N (by omega) (by unfold wrote; rw [h]; rfl) hw.2
        rw [this] at hw
        cases hw.1
     rw [this, Option.none_or]
    ·rw [if_neg hw, if_neg hw]
end
end
inductive Kd where
 | go
 | pan (p : Value) (pw : List (Nat × Blk))
 | never
structure Rec where
 dst : Option Tmp
 v : SV
 wr : List (Nat × Blk)
 tR : List Nat
 bR : List Nat
 c0 : Nat
 c1 : Nat
 kd : Kd
def idsU0 : U → List Nat
 | .ptr k _ => [k]
 | .slc k _ _ _ => [k]
 | .sli k _ _ => [k]
 | .slx k _ _ _ => [k]
 | .own k _ _ => [k]
 | .clo _ caps => caps.map (·.1)
 | _ => []
def idsU : U → List Nat
 | .bnd _ _ l => l.flatMap idsU0
 | .ptr k _ => [k]
 | .slc k _ _ _ => [k]
 | .sli k _ _ => [k]
 | .slx k _ _ _ => [k]
 | .own k _ _ => [k]
 | .clo _ caps => caps.map (·.1)
 | _ => []
def idsA (x : SA) : List Nat := (unitsA x).flatMap idsU
def idsV (x : Option SV) : List Nat :=
 match x with
 | some (.a s) => idsA s
 | _ => []
def mem (l : List Nat) (k : Nat) : Bool := l.any (Nat.beq k)
theorem mem_iff {l : List Nat} {k : Nat} : mem l k = true ↔ k ∈ l := by
 unfold mem
 rw [List.any_eq_true]
 constructor
 ·rintro ⟨x, hx, he⟩
  rw [Nat.eq_of_beq_eq_true he]
  exact hx
 ·intro h
  exact ⟨k, h, by simp⟩
def reach (bk : List (Nat × Blk)) : Nat → List Nat → List Nat → List Nat
 | 0, _, seen => seen
 | _ + 1, [], seen => seen
 | n + 1, k :: r, seen => if mem seen k then reach bk n r seen else
   match bk.look k with
   | some b => reach bk n (b.cells.flatMap idsU ++ r) (k :: seen)
   | none => reach bk n r seen
def blocksOf (P : Program) (ys : YEnv) (o : Oper) (get : Operand → Option SV) (bk : List (Nat × Blk)) : List Nat :=
 match o.op with
 | .load _ x => match get x with
   | some (.a (.one (.ptr k _))) => [k]
   | _ => []
 | .store _ x _ => match get x with
   | some (.a (.one (.ptr k _))) => [k]
   | _ => []
 | .call c => match callOf P o get with
   | some (_, args) => if ys.isEmpty then reach bk 1000 (args.flatMap idsA) [] else bk.map (·.1)
   | none => match yldOf o get with
     | some _ => bk.map (·.1)
     | none => c.args.toList.flatMap fun x => idsV (get x)
 | _ => []
def tmpsOf (ops : Array Oper) (o : Oper) : List Nat :=
 (o.op.operands.toList.filterMap fun | .tmp t => some t | _ => none) ++ (match o.guard with
  | some (j, _) => ((ops[j]?).bind (·.dst)).toList
  | none => [])
def predsOf (o : Oper) : List Nat := (o.after.toList.filter (Region.binds .any)).map (·.on)
def wT (r : Rec) : List (Nat × SV) :=
 match r.dst with
 | some d => [(d, r.v)]
 | none => []
def some_ {α : Type} (ks : List Nat) (l : List (Nat × α)) : List (Nat × α) := l.filter fun p => mem ks p.1
theorem some_lookup {α : Type} (ks : List Nat) (k : Nat) : ∀ l : List (Nat × α), (some_ ks l).look k = if mem ks k then l.look k else none
 | [] => by simp [some_]
 | (k', x) :: r => by
   have ih := some_lookup ks k r
   unfold some_ at ih ⊢
   rw [List.filter_cons]
   dsimp only
   by_cases h : mem ks k'
   ·rw [if_pos h, look_cons, look_cons, ih]
    by_cases e : k = k'
    ·subst e; rw [if_pos rfl, if_pos rfl, if_pos h]
    ·rw [if_neg e, if_neg e]
   ·rw [if_neg h, ih, look_cons]
    by_cases e : k = k'
    ·subst e; rw [if_neg h, if_neg h]
    ·rw [if_neg e]
def recS (P : Program) (cs : CallS) (ys : YEnv) (ops : Array Oper) (n : Nat) : List Oper → Nat → List Nat → Stt → Option (List Rec × Stt × List Prop × Option Value)
 | [], _, _, s => some ([], s, [], none)
 | o :: rest, i, dead, s =>
   if (predsOf o).any (mem dead) then (match recS P cs ys ops n rest (i + 1) (i :: dead) s with
    | some (rs, s', q, p) => some (⟨none, .no, [], [], [], s.c, s.c, .never⟩ :: rs, s', q, p)
    | none => none)
   else
   let tR := tmpsOf ops o
   let tmr := some_ tR s.tm
   let bR := blocksOf P ys o (getS tmr) s.bk
   match wantS ops o tmr s.orc with
   | some (true, ps, orc) => if dstOk n o.dst then (match opS P cs ys o (getS tmr) (some_ bR s.bk) s.th s.c orc with
     | some (r, _) => (match r.pan with
       | some p => (match dead with
         | [] => (match recS P cs ys ops n rest (i + 1) [i] ⟨s.tm, s.bk, r.c, s.th, r.orc, s.df⟩ with
           | some (rs, s', q, none) => some (⟨none, .no, [], tR, bR, s.c, r.c, .pan p r.wr⟩ :: rs, s', ps ++ (r.obl ++ q), some p)
           | _ => none)
         | _ :: _ => none)
       | none => (match recS P cs ys ops n rest (i + 1) dead ⟨putT s.tm o.dst r.v, r.wr ++ s.bk, r.c, s.th, r.orc, s.df⟩ with
         | some (rs, s', q, p) => some (⟨o.dst, r.v, r.wr, tR, bR, s.c, r.c, .go⟩ :: rs, s', ps ++ (r.obl ++ q), p)
         | none => none))
     | none => none) else none
   | some (false, ps, orc) => if dstOk n o.dst then (match recS P cs ys ops n rest (i + 1) dead ⟨putT s.tm o.dst (.tup []), s.bk, s.c, s.th, orc, s.df⟩ with
     | some (rs, s', q, p) => some (⟨o.dst, .tup [], [], tR, [], s.c, s.c, .go⟩ :: rs, s', ps ++ q, p)
     | none => none) else none
   | none => none
def StepR (P : Program) (cs : CallS) (ys : YEnv) (ops : Array Oper) (n th : Nat) (obl : List Prop) (tm : List (Nat × SV)) (bk : List (Nat × Blk)) (o : Oper) (r : Rec) : Prop :=
 dstOk n o.dst = true ∧ ∃ orc orc' ps b, wantS ops o (some_ r.tR tm) orc = some (b, ps, orc') ∧ (∀ p ∈ ps, p ∈ obl) ∧
  ((r.kd = .go ∧ r.dst = o.dst ∧ b = true ∧ ∃ (x : OpR) (cl : Bool), opS P cs ys o (getS (some_ r.tR tm)) (some_ r.bR bk) th r.c0 orc' = some (x, cl) ∧ x.pan = none ∧ x.v = r.v ∧ x.wr = r.wr ∧ x.c = r.c1 ∧ ∀ p ∈ x.obl, p ∈ obl) ∨
   (r.kd = .go ∧ r.dst = o.dst ∧ b = false ∧ r.v = .tup [] ∧ r.wr = [] ∧ r.c1 = r.c0) ∨
   (∃ pv pw, r.kd = .pan pv pw ∧ r.dst = none ∧ r.wr = [] ∧ b = true ∧ ∃ (x : OpR) (cl : Bool), opS P cs ys o (getS (some_ r.tR tm)) (some_ r.bR bk) th r.c0 orc' = some (x, cl) ∧ x.pan = some pv ∧ x.wr = pw ∧ x.c = r.c1 ∧ ∀ p ∈ x.obl, p ∈ obl))
theorem StepR.more {P : Program} {cs : CallS} {ys : YEnv} {ops : Array Oper} {n th : Nat} {obl obl' : List Prop} {tm : List (Nat × SV)} {bk : List (Nat × Blk)} {o : Oper} {r : Rec} (h : StepR P cs ys ops n th obl tm bk o r) (hs : ∀ p ∈ obl, p ∈ obl') :
  StepR P cs ys ops n th obl' tm bk o r := by
 obtain ⟨h1, orc, orc', ps, b, h3, h4, h5⟩ := h
 refine ⟨h1, orc, orc', ps, b, h3, fun p hp => hs p (h4 p hp), ?_⟩
 rcases h5 with ⟨e, e2, e3, x, cl, k1, k2, k3, k4, k5, k6⟩ | h5 | ⟨pv, pw, e, e2, e3, e4, x, cl, k1, k2, k3, k4, k6⟩
 ·exact .inl ⟨e, e2, e3, x, cl, k1, k2, k3, k4, k5, fun p hp => hs p (k6 p hp)⟩
 ·exact .inr (.inl h5)
 ·exact .inr (.inr ⟨pv, pw, e, e2, e3, e4, x, cl, k1, k2, k3, k4, fun p hp => hs p (k6 p hp)⟩)
def panRec : List Rec → Option (Value × List (Nat × Blk) × List Nat)
 | [] => none
 | r :: l => match r.kd with
   | .pan p pw => some (p, pw, r.bR)
   | _ => panRec l
theorem putT_wT (tm : List (Nat × SV)) (r : Rec) : putT tm r.dst r.v = wT r ++ tm := by
 unfold putT wT
 cases r.dst <;> rfl
def tt : Nat → Bool := fun _ => true
theorem accAt_head {α : Type} (x : List (Nat × α)) (ws : List (List (Nat × α))) (l0 : List (Nat × α)) (m : Nat) : accAt (x :: ws) tt l0 (m + 1) = accAt ws tt (x ++ l0) m := accAt_cons x tt m
structure RecOk (P : Program) (cs : CallS) (ys : YEnv) (ops : Array Oper) (n : Nat) (l : List Oper) (i0 : Nat) (dead : List Nat) (s : Stt) (rs : List Rec) (s' : Stt) (q : List Prop) (pn : Option Value) : Prop where
 len : rs.length = l.length
 tm : s'.tm = accAt (rs.map wT) tt s.tm l.length
 bk : s'.bk = accAt (rs.map (·.wr)) tt s.bk l.length
 df : s'.df = s.df
 step : ∀ (i : Nat) (r : Rec), rs[i]? = some r → r.kd ≠ .never → ∃ o, l[i]? = some o ∧ StepR P cs ys ops n s.th q (accAt (rs.map wT) tt s.tm i) (accAt (rs.map (·.wr)) tt s.bk i) o r
 nev : ∀ (i : Nat) (r : Rec), rs[i]? = some r → r.kd = .never → r.dst = none ∧ r.wr = [] ∧ ∃ o p, l[i]? = some o ∧ p ∈ predsOf o ∧ (p ∈ dead ∨ ∃ j rj, p = i0 + j ∧ rs[j]? = some rj ∧ rj.kd ≠ .go)
 rng : ∀ (i : Nat) (r : Rec), rs[i]? = some r → s.c ≤ r.c0 ∧ r.c0 ≤ r.c1 ∧ r.c1 ≤ s'.c
 ord : ∀ (i j : Nat) (ri rj : Rec), i < j → rs[i]? = some ri → rs[j]? = some rj → ri.c1 ≤ rj.c0
 cc : s.c ≤ s'.c
 pn1 : ∀ v, pn = some v → ∃ pw bR, panRec rs = some (v, pw, bR)
 pn0 : pn = none → panRec rs = none
 uniq : ∀ (i : Nat) (r : Rec) p pw, rs[i]? = some r → r.kd = .pan p pw → panRec rs = some (p, pw, r.bR)
theorem recS_ok {P : Program} {cs : CallS} {ys : YEnv} {ops : Array Oper} {n : Nat} : ∀ {l : List Oper} {i0 : Nat} {dead : List Nat} {s s' : Stt} {rs : List Rec} {q : List Prop} {pn : Option Value}, recS P cs ys ops n l i0 dead s = some (rs, s', q, pn) → RecOk P cs ys ops n l i0 dead s rs s' q pn
 | [], i0, dead, s, s', rs, q, pn, h => by
   cases h
   exact ⟨rfl, rfl, rfl, rfl, (fun i r hr => by simp at hr), (fun i r hr => by simp at hr), (fun i r hr => by simp at hr), (fun i j ri rj _ hr => by simp at hr), Nat.le_refl _, (fun v hv => by cases hv), fun _ => rfl, fun i r p pw hr => by simp at hr⟩
 | o :: rest, i0, dead, s, s', rs, q, pn, h => by
   have cons : ∀ (r : Rec) (rs2 : List Rec) (q2 q : List Prop) (s1 : Stt) (dead2 : List Nat) (pn2 pn : Option Value), RecOk P cs ys ops n rest (i0 + 1) dead2 s1 rs2 s' q2 pn2 → s1.tm = putT s.tm r.dst r.v → s1.bk = r.wr ++ s.bk → s1.df = s.df → s1.c = r.c1 → s1.th = s.th → r.c0 = s.c → r.c0 ≤ r.c1 →
     (r.kd ≠ .never → StepR P cs ys ops n s.th q s.tm s.bk o r) → (r.kd = .never → r.dst = none ∧ r.wr = [] ∧ ∃ p, p ∈ predsOf o ∧ p ∈ dead) → (∀ p ∈ q2, p ∈ q) → (∀ x ∈ dead2, x ∈ dead ∨ (x = i0 ∧ r.kd ≠ .go)) →
     ((∃ p pw, r.kd = .pan p pw ∧ pn = some p ∧ pn2 = none) ∨ ((∀ p pw, r.kd ≠ .pan p pw) ∧ pn = pn2)) → RecOk P cs ys ops n (o :: rest) i0 dead s (r :: rs2) s' q pn := by
    intro r rs2 q2 q s1 dead2 pn2 pn ih e1 e2 edf e3 e4 e5 e6 hst hnv hq hdd hpn
    have hc1 := ih.cc
    refine ⟨by simp [ih.len], ?_, ?_, ih.df.trans edf, ?_, ?_, ?_, ?_, by omega, ?_, ?_, ?_⟩
    ·rw [ih.tm, e1, putT_wT, List.map_cons, List.length_cons, accAt_head]
    ·rw [ih.bk, e2, List.map_cons, List.length_cons, accAt_head]
    ·intro i r' hr' hk
     cases i with
     | zero =>
       simp at hr'
       subst hr'
       exact ⟨o, by simp, hst hk⟩
     | succ i =>
       simp at hr'
       obtain ⟨o', ho', hs'⟩ := ih.step i r' hr' hk
       refine ⟨o', by simpa using ho', ?_⟩
       rw [List.map_cons, List.map_cons, accAt_head, accAt_head, ← putT_wT, ← e1, ← e2, ← e4]
       exact hs'.more hq
    ·intro i r' hr' hk
     cases i with
     | zero =>
       simp at hr'
       subst hr'
       obtain ⟨h1, h2, p, h3, h4⟩ := hnv hk
       exact ⟨h1, h2, o, p, by simp, h3, .inl h4⟩
     | succ i =>
       simp at hr'
       obtain ⟨h1, h2, o', p, h3, h4, h5⟩ := ih.nev i r' hr' hk
       refine ⟨h1, h2, o', p, by simpa using h3, h4, ?_⟩
       rcases h5 with h5 | ⟨j, rj, h6, h7, h8⟩
       ·rcases hdd p h5 with h5 | ⟨h5, h6⟩
        ·exact .inl h5
        ·exact .inr ⟨0, r, by omega, by simp, h6⟩
       ·exact .inr ⟨j + 1, rj, by omega, by simpa using h7, h8⟩
    ·intro i r' hr'
     cases i with
     | zero =>
       simp at hr'
       subst hr'
       omega
     | succ i =>
       simp at hr'
       have := ih.rng i r' hr'
       omega
    ·intro i j ri rj hij hi hj
     cases j with
     | zero => omega
     | succ j =>
       simp at hj
       cases i with
       | zero =>
         simp at hi
         subst hi
         have := ih.rng j rj hj
         omega
       | succ i =>
         simp at hi
         exact ih.ord i j ri rj (by omega) hi hj
    ·intro v hv
     rcases hpn with ⟨p, pw, h1, h2, h3⟩ | ⟨h1, h2⟩
     ·rw [h2] at hv
      cases hv
      exact ⟨pw, r.bR, by unfold panRec; rw [h1]⟩
     ·obtain ⟨pw, bR, hp⟩ := ih.pn1 v (h2 ▸ hv)
      refine ⟨pw, bR, ?_⟩
      unfold panRec
      split
      ·rename_i hk; exact absurd hk (h1 _ _)
      ·exact hp
    ·intro hv
     rcases hpn with ⟨p, pw, h1, h2, h3⟩ | ⟨h1, h2⟩
     ·rw [h2] at hv; cases hv
     ·unfold panRec
      split
      ·rename_i hk; exact absurd hk (h1 _ _)
      ·exact ih.pn0 (h2 ▸ hv)
    ·intro i r' p' pw' hr' hk
     cases i with
     | zero =>
       simp at hr'
       subst hr'
       unfold panRec
       rw [hk]
     | succ i =>
       simp at hr'
       have hu := ih.uniq i r' p' pw' hr' hk
       rcases hpn with ⟨p, pw, h1, h2, h3⟩ | ⟨h1, h2⟩
       ·rw [ih.pn0 h3] at hu; cases hu
       ·unfold panRec
        split
        ·rename_i hk; exact absurd hk (h1 _ _)
        ·exact hu
   unfold recS at h
   split at h
   ·rename_i hdead
    split at h
    ·rename_i rs2 s2 q2 p2 h2
     cases h
     have ih := recS_ok h2
     refine cons ⟨none, .no, [], [], [], s.c, s.c, .never⟩ rs2 q _ _ _ _ _ ih rfl rfl rfl rfl rfl rfl (Nat.le_refl _) (fun hk => absurd rfl hk) (fun _ => ⟨rfl, rfl, ?_⟩) (fun p hp => hp) (fun x hx => ?_) (.inr ⟨(fun p pw hk => by cases hk), rfl⟩)
     ·obtain ⟨p, h1, h2⟩ := List.any_eq_true.1 hdead
      exact ⟨p, h1, mem_iff.1 h2⟩
     ·rcases List.mem_cons.1 hx with rfl | hx
      ·exact .inr ⟨rfl, fun hk => by cases hk⟩
      ·exact .inl hx
    ·cases h
   ·dsimp only at h
    split at h
    ·rename_i ps orc hw
     split at h
     ·rename_i hd
      split at h
      ·rename_i r cl hr
       split at h
       ·rename_i p hp
        split at h
        ·split at h
         ·rename_i rs2 s2 q2 h2
          cases h
          have ih := recS_ok h2
          refine cons ⟨none, .no, [], _, _, s.c, r.c, .pan p r.wr⟩ rs2 q2 _ _ _ _ _ ih rfl rfl rfl rfl rfl rfl (opS_cc hr) (fun _ => ?_) (fun hk => by cases hk) (fun p hp => by simp [hp]) (fun x hx => ?_) (.inl ⟨p, r.wr, rfl, rfl, rfl⟩)
          ·exact ⟨hd, _, _, _, _, hw, fun p hp => by simp [hp], .inr (.inr ⟨p, r.wr, rfl, rfl, rfl, rfl, r, cl, hr, hp, rfl, rfl, fun p hp => by simp [hp]⟩)⟩
          ·obtain rfl : x = i0 := by simpa using hx
           exact .inr ⟨rfl, fun hk => by cases hk⟩
         ·cases h
        ·cases h
       ·rename_i hp
        split at h
        ·rename_i rs2 s2 q2 p2 h2
         cases h
         have ih := recS_ok h2
         refine cons ⟨o.dst, r.v, r.wr, _, _, s.c, r.c, .go⟩ rs2 q2 _ _ _ _ _ ih rfl rfl rfl rfl rfl rfl (opS_cc hr) (fun _ => ?_) (fun hk => by cases hk) (fun p hp => by simp [hp]) (fun x hx => .inl hx) (.inr ⟨(fun p pw hk => by cases hk), rfl⟩)
         exact ⟨hd, _, _, _, _, hw, fun p hp => by simp [hp], .inl ⟨rfl, rfl, rfl, r, cl, hr, hp, rfl, rfl, rfl, fun p hp => by simp [hp]⟩⟩
        ·cases h
      ·cases h
     ·cases h
    ·rename_i ps orc hw
     split at h
     ·rename_i hd
      split at h
      ·rename_i rs2 s2 q2 p2 h2
       cases h
       have ih := recS_ok h2
       refine cons ⟨o.dst, .tup [], [], _, [], s.c, s.c, .go⟩ rs2 q2 _ _ _ _ _ ih rfl rfl rfl rfl rfl rfl (Nat.le_refl _) (fun _ => ?_) (fun hk => by cases hk) (fun p hp => by simp [hp]) (fun x hx => .inl hx) (.inr ⟨(fun p pw hk => by cases hk), rfl⟩)
       exact ⟨hd, _, _, _, _, hw, fun p hp => by simp [hp], .inr (.inl ⟨rfl, rfl, rfl, rfl, rfl, rfl⟩)⟩
      ·cases h
     ·cases h
    ·cases h
/-! ### who must come before whom -/
def prOf (ops : Array Oper) (j : Nat) : List Nat :=
 match ops[j]? with
 | some o => predsOf o
 | none => []
def bfs (pr : Nat → List Nat) : Nat → List Nat → List Nat → List Nat
 | 0, _, seen => seen
 | _ + 1, [], seen => seen
 | n + 1, q :: r, seen => if mem seen q then bfs pr n r seen else bfs pr n (pr q ++ r) (q :: seen)
theorem bfs_ok {pr : Nat → List Nat} {L : Nat → Prop} (hc : ∀ j, L j → ∀ q ∈ pr j, L q) : ∀ (n : Nat) (t s : List Nat), (∀ q ∈ t, L q) → (∀ q ∈ s, L q) → ∀ q ∈ bfs pr n t s, L q
 | 0, t, s, ht, hs => hs
 | n + 1, [], s, ht, hs => hs
 | n + 1, x :: r, s, ht, hs => by
   unfold bfs
   split
   ·exact bfs_ok hc n r s (fun q hq => ht q (by simp [hq])) hs
   ·refine bfs_ok hc n _ _ (fun q hq => ?_) (fun q hq => ?_)
    ·rcases List.mem_append.1 hq with h | h
     ·exact hc x (ht x (by simp)) q h
     ·exact ht q (by simp [h])
    ·rcases List.mem_cons.1 hq with h | h
     ·rw [h]; exact ht x (by simp)
     ·exact hs q h
def inD (d : Option Tmp) (l : List Nat) : Bool :=
 match d with
 | some t => mem l t
 | none => false
def keys {α : Type} (l : List (Nat × α)) : List Nat := l.map (·.1)
def conf (r s : Rec) : Bool :=
 inD r.dst s.tR || inD s.dst r.tR || inD r.dst s.dst.toList || (keys r.wr).any (fun k => mem s.bR k || mem (keys s.wr) k) || (keys s.wr).any (fun k => mem r.bR k)
def raceB (pr : Nat → List Nat) (rs : List Rec) : Bool :=
 (List.range rs.length).all fun j => (List.range j).all fun i =>
  match rs[i]?, rs[j]? with
  | some r, some s => !conf r s || mem (pr j) i || mem (bfs pr 2000 (pr j) []) i
  | _, _ => true
theorem raceB_ok {pr : Nat → List Nat} {rs : List Rec} (h : raceB pr rs = true) {i j : Nat} (hij : i < j) {r s : Rec} (hi : rs[i]? = some r) (hj : rs[j]? = some s) (hc : conf r s = true)
  {L : Nat → Prop} (hcl : ∀ j, L j → ∀ q ∈ pr j, L q) (hp : ∀ q ∈ pr j, L q) : L i := by
 have hjl : j < rs.length := (List.getElem?_eq_some_iff.1 hj).1
 have h1 := List.all_eq_true.1 h j (List.mem_range.2 hjl)
 have h2 := List.all_eq_true.1 h1 i (List.mem_range.2 hij)
 rw [hi, hj] at h2
 dsimp only at h2
 rw [hc] at h2
 simp only [Bool.not_true, Bool.false_or, Bool.or_eq_true, mem_iff] at h2
 rcases h2 with h2 | h2
 ·exact hp i h2
 ·exact bfs_ok hcl 2000 _ _ hp (by simp) i h2
theorem look_key {α : Type} {k : Nat} {b : α} : ∀ {l : List (Nat × α)}, l.look k = some b → k ∈ keys l
 | [], h => by simp at h
 | (k', x) :: r, h => by
   rw [look_cons] at h
   split at h
   ·rename_i e; subst e; simp [keys]
   ·have := look_key h
    simp only [keys, List.map_cons, List.mem_cons]
    exact .inr this
end Go.Ex
