/- The law CoatJoins: two films of one index are one, and films of the outer indices change nothing: its walk and its card. Part 8 of 9. No condition beside the row. -/
import Derived.Laws.AppendOwnNone
import Derived.Test.YtdgodcgdlfjpaaaGreatDoorA02
import Derived.Test.YtdgodcgdlfjpaaaGreatDoorJ06
import Derived.Test.YtdgodcgdlfjpaaaGreatDoorJ07
set_option linter.unusedVariables false
set_option linter.unusedSimpArgs false
namespace Go.Mono
open Go.RowKit
/-- an append whose run is known, in a drawn region -/
theorem exec_append {P : Program} {w w' : World} {o : Oper} {a : Act} {v' : Value} (s x : Operand) (t tn : TypeId) (ho : o.op = .call { callee := .builtin .append, args := #[s, x], argTypes := #[t, tn] }) (vs vx : Value) (hs : a.eval s = vs) (hx : a.eval x = vx)
  (hr : (Builtin.append_ #[t, tn] o.type #[vs, vx]).run P w = .ok v' w') : (execOp a.eval o).run P w = .ok (.value v') w' := by
 unfold execOp
 simp only [ho, resolve, invoke, builtin, Sem.run_bind, Sem.run_pure, Result.andThen_ok, List.map_toArray, List.map_cons, List.map_nil, hs, hx, hr]
end Go.Mono
namespace Go.Proofs.YtdgodcgdlfjpaaaGreatDoor
open Go.RowKit Go.Mono
theorem app_films (ty : TypeId) (V : World) (base : Nat) (v : Value) (n : Nat) (F : Nat → Flm) (hown : V.ownsRow base 24 3 v n (frow F n)) (q : Option Addr) (m c : Nat) (H : Nat → Flm) (hq : FilmsAt V q m c H) (hnil : q = none → m = 0 ∧ c = 0) (hbase : base ≤ V.heap.size) (hnm : n + m ≤ 1000) :
  ∃ p' c' W, (Builtin.append_ #[27, 27] ty #[v, .slice q m c]).run Tryz.prog V = .ok (.slice p' (n + m) c') W ∧ W.ownsRow base 24 3 (.slice p' (n + m) c') (n + m) (frow (ins F n H m) (n + m)) ∧ Below base V W ∧ V.grownBy W v.ownBlock := by
 obtain ⟨ti, hti1, htz, hts, htb⟩ := info_parts infoFilm
 have hf := frow_ins F H n m n (Nat.le_refl _)
 rw [show n * 3 = (frow F n).length from (frow_length F n).symm, List.take_length, List.drop_length, List.append_nil] at hf
 cases q with
 | none =>
   obtain ⟨rfl, rfl⟩ := hnil rfl
   have hrun := run_append_owned_none (P := Tryz.prog) (w := V) base 27 ty 24 ti 3 Tryz.underlying27 hti1 v n _ hown
   obtain ⟨p', c', rfl⟩ := ownsRow_slice hown
   refine ⟨p', c', V, hrun, ?_, Below.refl _ _, ⟨rfl, rfl, rfl, Nat.le_refl _, fun _ _ _ => rfl⟩⟩
   rw [← hf]
   simpa [frow] using hown
 | some b =>
   obtain ⟨v', W, hr, h1, h2, _⟩ := run_append_own (P := Tryz.prog) V base 27 ty 24 ti _ 3 24 Tryz.underlying27 hti1 htz hts htb rfl (by decide) v n _ hown b m c (frow H m) (frow_length H m) (films_cells hq) (frow_ones H m) (by simp [maxLen]; omega) (by omega) hbase
   obtain ⟨p', c', rfl⟩ := ownsRow_slice h1
   rw [hf] at h1
   exact ⟨p', c', W, hr, h1, (Below.refl _ _).grown h2 hbase fun k e' => (hown.lt k e').1, h2⟩
theorem owns_one (V : World) (f : Flm) (base : Nat) (hb : base ≤ V.heap.size) : (V.alloc (.cells (frow (one1 f) 1).toArray 24)).ownsRow base 24 3 (.slice (some ⟨V.heap.size, 0, none⟩) 1 1) 1 (frow (one1 f) 1) :=
 ⟨rfl, .inr ⟨V.heap.size, 1, _, rfl, hb, (Box.new _ _ _).blk, Nat.le_refl _, by decide, rfl, rfl⟩⟩
end Go.Proofs.YtdgodcgdlfjpaaaGreatDoor
namespace Go.Mono
open Go.Proofs.YtdgodcgdlfjpaaaGreatDoor
/-- films of the outer indices at both ends -/
theorem ends_padded (F : Nat → Flm) (k : Nat) (f g : Flm) (hn : f.ix ≠ 0) (hm : g.ix ≠ 0) (hf : f.sq ≠ 0) (hg : g.sq ≠ 0) :
  back (idx f.ix) (idx g.ix) (stackN (ins (ins (one1 f) 1 F k) (1 + k) (one1 g) 1) (1 + k + 1)) = back (idx f.ix) (idx g.ix) (stackN F k) ∧
  through (idx f.ix) (idx g.ix) (stackN (ins (ins (one1 f) 1 F k) (1 + k) (one1 g) 1) (1 + k + 1)) = through (idx f.ix) (idx g.ix) (stackN F k) := by
 have e : filmsN (ins (ins (one1 f) 1 F k) (1 + k) (one1 g) 1) (1 + k + 1) = f :: (filmsN F k ++ [g]) := by
  rw [filmsN_ins _ _ _ 1 _ (Nat.le_refl _), filmsN_ins _ _ 1 k 1 (Nat.le_refl _)]
  simp [filmsN, one1, List.range_succ]
 unfold stackN
 rw [e]
 exact stack_ends f.ix g.ix f g (filmsN F k) hn hm rfl rfl hf hg
end Go.Mono
namespace Go.Proofs.YtdgodcgdlfjpaaaGreatDoor
open Go.RowKit Go.Mono
set_option maxRecDepth 100000 in
set_option maxHeartbeats 20000000 in
theorem vjoins_of (hwk : Hid (∀ w : World, Calls Tryz.prog 12 #[] w fun e w' => e = .returned (.bool true) ∧ Below w.heap.size w w')) (p : Option Addr) (n c : Nat) (G : Nat → Thn) (hG : ∀ i, i < n → (G i).ok) (x1 : Thn) (hx1 : x1.ok) (x2 : Thn) (hx2 : x2.ok) (o3 : Int) (ho3 : 0 ≤ o3 ∧ o3 ≤ 255) (s0 s1 : Int) (hs0 : 0 ≤ s0 ∧ s0 ≤ 255) (hs1 : 0 ≤ s1 ∧ s1 ≤ 255) (w : World) (h : ThinsAt w p n c G) :
  Calls Tryz.prog 11 #[.slice p n c, .agg x1.vals, .agg x2.vals, .int .u8 o3, .agg #[.int .u8 s0, .int .u8 s1]] w fun e w' => e = .returned (.bool true) ∧ Below w.heap.size w w' := by
 have thinSize : ∀ x : Thn, (Tryz.prog.info? 112).map (·.size) = some x.vals.size := fun x => by kernel_rfl
 obtain ⟨c1, hc1⟩ : ∃ c, c = x1.vals := ⟨_, rfl⟩
 obtain ⟨c2, hc2⟩ : ∃ c, c = x2.vals := ⟨_, rfl⟩
 have hz1 : (Tryz.prog.info? 112).map (·.size) = some c1.size := by rw [hc1]; exact thinSize x1
 have hz2 : (Tryz.prog.info? 112).map (·.size) = some c2.size := by rw [hc2]; exact thinSize x2
 rw [← hc1, ← hc2]
 have hq1 := fun W => thin_film x1 hx1 W
 have hq2 := fun W => thin_film x2 hx2 W
 rw [← hc1] at hq1
 rw [← hc2] at hq2
 obtain ⟨f, hf⟩ : ∃ f, f = x1.film := ⟨_, rfl⟩
 obtain ⟨g, hg⟩ : ∃ g, g = x2.film := ⟨_, rfl⟩
 have hfo := Thn.film_small hx1
 have hgo := Thn.film_small hx2
 rw [← hf] at hfo hq1
 rw [← hg] at hgo hq2
 clear hf hg hc1 hc2 hx1 hx2 thinSize
 go_enter Tryz.func11, Tryz.ntmps11
 go_wp2_with fail
 refine boxes3c (T0 := 112) (T1 := 112) (T2 := 25) fun Wa hBa hsa b6 b7 bS => ?_
 refine (hwk.out Wa).mono ?_
 rintro e W0 ⟨rfl, hb0⟩
 have B0 := belowCall hBa hb0
 replace b6 := b6.below hb0
 replace b7 := b7.below hb0
 replace bS := bS.below hb0
 replace h := h.below B0
 clear hBa hsa hb0 hwk
 go_wp2_with fail
 refine (films_ok p n c G hG 4 (by decide) W0 h).mono ?_
 rintro e W1 ⟨p', c', rfl, hown, hb1⟩
 replace B0 := belowCall B0 hb1
 replace bS := bS.below hb1
 replace b6 := b6.below hb1
 replace b7 := b7.below hb1
 have hk6 : min n 4 ≤ 4 := Nat.min_le_right _ _
 have hF : ∀ i, i < min n 4 → (G i).film.ok := fun i hi => Thn.film_ok (hG i (by omega))
 generalize min n 4 = k at *
 generalize hFF : (fun i => (G i).film) = F at *
 replace hF : ∀ i, i < k → (F i).ok := fun i hi => by rw [← hFF]; exact hF i hi
 have hfm := ownsRow_films hown (by omega)
 have hnil := owns_nil hown
 clear h hG hFF hown hb1
 have hat : ∃ at_ : Nat, at_ ≤ k ∧ o3.tmod ((k : Int) + 1) = (at_ : Int) := by
  have h1 := Int.tmod_nonneg ((k : Int) + 1) ho3.1
  have h2 := Int.tmod_lt_of_pos o3 (show (0:Int) < (k : Int) + 1 by omega)
  exact ⟨(o3.tmod ((k : Int) + 1)).toNat, by omega, by omega⟩
 obtain ⟨at_, hatk, hat⟩ := hat
 go_wp2_with fail
 refine wp_region_held_drew (S := fun w' => Below W1.heap.size W1 w') (by as_aux_lemma => kernel_rfl) ((Below.refl _ _).drew) (fun hHeld => ?_)
 generalize W1.drew = X0 at *
 refine tlf 0 (some 46) rfl (.agg c1) (exec_load 112 _ rfl w.heap.size 0 (by as_aux_lemma => kernel_rfl) c1 (fun w hS => (b6.below hS).range) _ Tryz.underlying112 rfl hz1) ?_
 refine tlf 2 (some 48) rfl (.agg c2) (exec_load 112 _ rfl (w.heap.size + 1) 0 (by as_aux_lemma => kernel_rfl) c2 (fun w hS => (b7.below hS).range) _ Tryz.underlying112 rfl hz2) ?_
 refine Mono.join_at (fuel' := 2) (listed' := #[true, true, true, true, true, true, false, false]) (fun (x : World × Nat × Nat) a => (((a.put (some 47) (.agg f.vals)).put (some 49) (.agg g.vals)).put (some 13) (.pointer (some ⟨x.2.1, 0, none⟩))).put (some 14) (.pointer (some ⟨x.2.2, 0, none⟩))) (fun x => x.1) (fun x => Below W1.heap.size W1 x.1 ∧ W1.heap.size ≤ x.2.1 ∧ W1.heap.size ≤ x.2.2 ∧ x.2.1 ≠ x.2.2 ∧ Box x.1 x.2.1 24 #[.int .i64 0, .int .i64 0, .int .i64 0] ∧ Box x.1 x.2.2 24 #[.int .i64 0, .int .i64 0, .int .i64 0]) ?_ ?_
 ·intro x hx
  obtain ⟨V, N13, N14⟩ := x
  obtain ⟨hHeld, lo13, lo14, hne, b13, b14⟩ := hx
  dsimp only at hHeld lo13 lo14 hne b13 b14 ⊢
  refine Mono.pt ?_
  refine Mono.sto 6 24 (.tmp 13) (.tmp 47) N13 0 24 _ f.vals f.vals rfl rfl rfl rfl b13 filmSize (Nat.le_of_eq rfl) (film_ones f) (whole_new rfl) (fun V6 k6 b13 => ⟨k6.below hHeld lo13 hHeld.size, Mono.pt ?_⟩)
  replace b14 := k6.box b14 b14.lt (Ne.symm hne)
  replace hHeld := k6.below hHeld lo13 hHeld.size
  clear k6
  refine Mono.sto 7 24 (.tmp 14) (.tmp 49) N14 0 24 _ g.vals g.vals rfl rfl rfl rfl b14 filmSize (Nat.le_of_eq rfl) (film_ones g) (whole_new rfl) (fun V7 k7 b14 => ⟨k7.below hHeld lo14 hHeld.size, Mono.pt ?_⟩)
  replace b13 := k7.box b13 b13.lt hne
  replace hHeld := k7.below hHeld lo14 hHeld.size
  clear k7
  refine wpAnyH_done (by as_aux_lemma => kernel_rfl) ?_ _
  clear b6 b7 hz1 hz2 hq1 hq2
  obtain ⟨ix, fp, fq⟩ := f
  obtain ⟨gx, gp, gq⟩ := g
  dsimp only [Flm.vals] at b13 b14 hfo hgo
  have c13 := b13.cell
  have c14 := b14.cell
  have f14 := b14.frozen
  have BW := hHeld
  go_wp2_with fail
  obtain ⟨V8, hV8⟩ : ∃ Y, Y = V7.setCell ⟨N14, 0, none⟩ (.int .i64 ix) := ⟨_, rfl⟩
  replace BW := belowSet BW lo14 0 (.int .i64 ix)
  replace b13 := b13.other ⟨N14, 0, none⟩ (.int .i64 ix) hne
  replace b14 := b14.set 0 (.int .i64 ix)
  rw [← hV8] at BW b13 b14 ⊢
  replace b14 : Box V8 N14 24 #[.int .i64 ix, .int .i64 gp, .int .i64 gq] := b14
  clear hV8 c13 c14 f14 hHeld
  refine wp_region_held_drew (S := fun w' => Below V8.heap.size V8 w') (by as_aux_lemma => kernel_rfl) ((Below.refl _ _).drew) (fun hHeld => ?_)
  generalize V8.drew = X7 at *
  have BX := belowCall BW hHeld
  have hX := hHeld.size
  refine tkf 0 (some 53) ?_
  refine tkf 2 (some 55) ?_
  refine tlf 3 (some 56) rfl (.agg #[.int .i64 ix, .int .i64 fp, .int .i64 fq]) (exec_load 24 _ rfl N13 0 (by as_aux_lemma => kernel_rfl) #[.int .i64 ix, .int .i64 fp, .int .i64 fq] (fun w hS => (b13.below hS).range) _ Tryz.underlying24 rfl filmSize) ?_
  refine tlf 4 (some 57) rfl (.agg #[.int .i64 ix, .int .i64 gp, .int .i64 gq]) (exec_load 24 _ rfl N14 0 (by as_aux_lemma => kernel_rfl) #[.int .i64 ix, .int .i64 gp, .int .i64 gq] (fun w hS => (b14.below hS).range) _ Tryz.underlying24 rfl filmSize) ?_
  refine Mono.join_at (fuel' := 1) (listed' := #[true, true, true, true, true, true, true, false]) (fun (x : World × Option Addr × Nat × Value × Value) a => (((a.put (some 54) x.2.2.2.1).put (some 58) x.2.2.2.2).put (some 59) (.slice x.2.1 (k + 2) x.2.2.1))) (fun x => x.1) (fun x => Below V8.heap.size V8 x.1 ∧ FilmsAt x.1 x.2.1 (k + 2) x.2.2.1 (ins F at_ (two ⟨ix, fp, fq⟩ ⟨ix, gp, gq⟩) 2)) ?_ ?_
  rotate_left
  ·intro hJ
   refine Mono.fork2 1 5 ?_ ?_
   ·intro K hK
    refine Mono.armc (some 54) hK (clone_ok p' k c' (by omega) F X7 (hfm.below BX) hnil) (fun e Y1 hR => ?_)
    clear hK K
    obtain ⟨p1, c1, rfl, ho1, hbN⟩ := hR
    refine ⟨(belowCall hHeld hbN), fun hHeld => Mono.pt ?_⟩
    refine Mono.sta 5 (some 58) (.slice (some ⟨Y1.heap.size, 0, none⟩) 2 2) ((Y1.alloc (.cells (frow (two ⟨ix, fp, fq⟩ ⟨ix, gp, gq⟩) 2).toArray 24))) (belowAlloc hHeld _) (fun hHeld => Mono.pt ?_)
    refine Mono.stc 6 (some 59) (ins_late p1 k c1 at_ hatk F 2 (by decide) (by omega) (two ⟨ix, fp, fq⟩ ⟨ix, gp, gq⟩) X7.heap.size Y1 ho1 hbN.size) (fun e Y2 hR => ?_)
    obtain ⟨p2, c2, rfl, hfm2, hbM⟩ := hR
    refine ⟨(hHeld.trans (hbM.mono hX)), fun hHeld => Mono.pt ?_⟩
    refine Mono.meet (hJ.out (Y2, p2, c2, .slice p1 k c1, .slice (some ⟨Y1.heap.size, 0, none⟩) 2 2) ⟨hHeld, hfm2⟩)
   ·intro K hK
    refine Mono.arma (some 58) hK (.slice (some ⟨X7.heap.size, 0, none⟩) 2 2) ((X7.alloc (.cells (frow (two ⟨ix, fp, fq⟩ ⟨ix, gp, gq⟩) 2).toArray 24))) (belowAlloc hHeld _) (fun hHeld => Mono.pt ?_)
    clear hK K
    refine Mono.stc 1 (some 54) (clone_ok p' k c' (by omega) F (X7.alloc (.cells (frow (two ⟨ix, fp, fq⟩ ⟨ix, gp, gq⟩) 2).toArray 24)) (hfm.below (belowAlloc BX _)) hnil) (fun e Y1 hR => ?_)
    obtain ⟨p1, c1, rfl, ho1, hbN⟩ := hR
    refine ⟨(belowCall hHeld hbN), fun hHeld => Mono.pt ?_⟩
    have bn := (Box.new X7 24 (frow (two ⟨ix, fp, fq⟩ ⟨ix, gp, gq⟩) 2).toArray).below hbN
    refine Mono.stc 6 (some 59) (ins_early p1 k c1 at_ hatk F X7.heap.size 2 (by decide) (by omega) (two ⟨ix, fp, fq⟩ ⟨ix, gp, gq⟩) (X7.alloc (.cells (frow (two ⟨ix, fp, fq⟩ ⟨ix, gp, gq⟩) 2).toArray 24)).heap.size Y1 ho1 hbN.size bn (by rw [World.size_alloc]; omega)) (fun e Y2 hR => ?_)
    obtain ⟨p2, c2, rfl, hfm2, hbM⟩ := hR
    refine ⟨(hHeld.trans (hbM.mono (Nat.le_trans hX (by rw [World.size_alloc]; omega)))), fun hHeld => Mono.pt ?_⟩
    refine Mono.meet (hJ.out (Y2, p2, c2, .slice p1 k c1, .slice (some ⟨X7.heap.size, 0, none⟩) 2 2) ⟨hHeld, hfm2⟩)
  intro x hx
  obtain ⟨Z7, p7, c7, vc7, vb7⟩ := x
  obtain ⟨hHeld, hfm7⟩ := hx
  dsimp only at hHeld hfm7 ⊢
  refine Mono.pt ?_
  refine tkf 7 (some 15) ?_
  refine wpAnyH_done (by as_aux_lemma => kernel_rfl) ?_ _
  clear BX hX
  replace BW := belowCall BW hHeld
  replace b13 := b13.below hHeld
  replace b14 := b14.below hHeld
  clear hHeld
  go_wp2_with fail
  have c13 := b13.cell
  have c14 := b14.cell
  refine wp_region_held_drew (S := fun w' => w'.cell? ⟨N13, 1, none⟩ = some (.int .i64 fp) ∧ w'.cell? ⟨N13, 2, none⟩ = some (.int .i64 fq) ∧ w'.cell? ⟨N14, 1, none⟩ = some (.int .i64 gp) ∧ w'.cell? ⟨N14, 2, none⟩ = some (.int .i64 gq) ∧ Below Z7.heap.size Z7 w') (by as_aux_lemma => kernel_rfl) ⟨c13 1, c13 2, c14 1, c14 2, (Below.refl _ _).drew⟩ (fun hHeld => ?_)
  have BX := hHeld.2.2.2.2
  generalize Z7.drew = X8 at *
  refine tkf 0 (some 60) ?_
  refine tkf 1 (some 61) ?_
  refine tkf 2 (some 62) ?_
  refine tkf 3 (some 63) ?_
  refine tkf 4 (some 64) ?_
  refine tkf 5 (some 65) ?_
  refine tkf 6 (some 66) ?_
  refine tkf 7 (some 67) ?_
  refine tkf 8 (some 68) ?_
  refine tkf 9 (some 69) ?_
  refine tkf 10 (some 70) ?_
  refine tkf 11 (some 71) ?_
  refine tkf 12 (some 72) ?_
  refine tkf 13 (some 73) ?_
  refine tkf 14 (some 74) ?_
  refine tkf 15 (some 75) ?_
  refine tkf 16 (some 76) ?_
  refine tkf 17 (some 77) ?_
  refine tkf 18 (some 78) ?_
  refine tkf 19 (some 79) ?_
  refine tkf 20 (some 80) ?_
  refine tkf 21 (some 81) ?_
  refine tkf 22 (some 16) ?_
  refine tkf 23 (some 17) ?_
  refine wpAnyH_done (by as_aux_lemma => kernel_rfl) ?_ _
  have hfp := hfo.2.1
  have hfq : 0 ≤ fq ∧ fq ≤ 12 := by omega
  have hgp := hgo.2.1
  have hgq : 0 ≤ gq ∧ gq ≤ 12 := by omega
  obtain ⟨u1, v1, u2, u3, v2⟩ := join_wrap hfp hgq hgp hfq
  obtain ⟨v3, u4, v4, v5, u5⟩ := join_wrap hfq hgq hfp hgp
  rw [u1, u4]
  have hjo : (Flm.mk ix fp fq).join ⟨ix, gp, gq⟩ = ⟨ix, fp * gq + gp * fq, fq * gq - fp * gp⟩ := rfl
  have hsf : (Flm.mk ix fp fq).sq ≠ 0 := Flm.ok.sq' ⟨by dsimp only; omega, by dsimp only; omega, by dsimp only; omega, by dsimp only; omega, by dsimp only; omega, by dsimp only; omega⟩
  have hsg : (Flm.mk ix gp gq).sq ≠ 0 := Flm.ok.sq' ⟨by dsimp only; omega, by dsimp only; omega, by dsimp only; omega, by dsimp only; omega, by dsimp only; omega, by dsimp only; omega⟩
  have hjm := stack_joined F k at_ hatk ⟨ix, fp, fq⟩ ⟨ix, gp, gq⟩ hsf hsg rfl (by dsimp only; omega)
  rw [hjo] at hjm
  clear hjo hsf hsg u1 u4 v1 v2 v3 v4 v5
  generalize fp * gq + gp * fq = jp at *
  generalize fq * gq - fp * gp = jq at *
  have hok7 : ∀ j, j < k + 2 → (ins F at_ (two ⟨ix, fp, fq⟩ ⟨ix, gp, gq⟩) 2 j).ok := ins_ok hatk hF (fun j hj => by rcases (by omega : j = 0 ∨ j = 1) with rfl | rfl <;> exact ⟨by dsimp only [two]; omega, by dsimp only [two]; omega, by dsimp only [two]; omega, by dsimp only [two]; omega, by dsimp only [two]; omega, by dsimp only [two]; omega⟩)
  have hs7 := fun W h => stack_ex _ (k + 2) (by omega) hok7 p7 c7 W h
  generalize stackN (ins F at_ (two ⟨ix, fp, fq⟩ ⟨ix, gp, gq⟩) 2) (k + 2) = m7 at *
  generalize ins F at_ (two ⟨ix, fp, fq⟩ ⟨ix, gp, gq⟩) 2 = F7 at *
  replace hjm := Lib.hid hjm
  clear hok7 c13 c14
  replace BW := belowCall BW BX
  replace b13 := b13.below BX
  replace b14 := b14.below BX
  replace hfm7 := hfm7.below BX
  clear BX hHeld
  go_wp2_with fail
  refine (hs7 _ hfm7).mono ?_
  rintro e U9 ⟨CQ, rfl, mM, hbA⟩
  replace BW := belowCall BW hbA
  replace b13 := b13.below hbA
  replace b14 := b14.below hbA
  clear hbA hs7 hfm7
  go_wp2_with first | (refine wpList_put1 57 18 _ CQ _ rfl rfl rfl rfl rfl rfl alloc_quad (by as_aux_lemma => (intro _; kernel_rfl)) (by as_aux_lemma => (intro _; kernel_rfl)) (by rw [mM.size]; exact sizeQuad) (by rw [mM.size]; rfl) mM.ones ?_; intro V9 B18 _ hv x18; have y18 := MB.mk x18 (mM.ext (.of_below hv)); replace BW := belowCall BW hv; replace b13 := b13.below hv; replace b14 := b14.below hv; clear x18 mM hv)
  ·rename_i hjq
   go_wp2_with fail
   refine wp_region_held_drew (S := fun w' => Below V9.heap.size V9 w') (by as_aux_lemma => kernel_rfl) ((Below.refl _ _).drew) (fun hHeld => ?_)
   generalize V9.drew = X13 at *
   have BX := belowCall BW hHeld
   have hX := hHeld.size
   refine tkf 0 (some 91) ?_
   refine tkf 2 (some 93) ?_
   refine tkf 3 (some 94) ?_
   refine tkf 5 (some 96) ?_
   refine tkf 6 (some 97) ?_
   refine tlf 4 (some 95) rfl (.int .i64 ix) (fun w hS => by have cc := (b13.below hS).cell; go_simp) ?_
   refine tkf 7 (some 98) ?_
   refine Mono.join_at (fuel' := 1) (listed' := #[true, true, true, true, true, true, true, true, true, true, false]) (fun (x : World × Option Addr × Nat × Value × Value) a => (((a.put (some 92) x.2.2.2.1).put (some 99) x.2.2.2.2).put (some 100) (.slice x.2.1 (k + 1) x.2.2.1))) (fun x => x.1) (fun x => Below V9.heap.size V9 x.1 ∧ FilmsAt x.1 x.2.1 (k + 1) x.2.2.1 (ins F at_ (one1 ⟨ix, jp, jq⟩) 1)) ?_ ?_
   rotate_left
   ·intro hJ
    refine Mono.fork2 1 8 ?_ ?_
    ·intro K hK
     refine Mono.armc (some 92) hK (clone_ok p' k c' (by omega) F X13 (hfm.below BX) hnil) (fun e Y1 hR => ?_)
     clear hK K
     obtain ⟨p1, c1, rfl, ho1, hbN⟩ := hR
     refine ⟨(belowCall hHeld hbN), fun hHeld => Mono.pt ?_⟩
     refine Mono.sta 8 (some 99) (.slice (some ⟨Y1.heap.size, 0, none⟩) 1 1) ((Y1.alloc (.cells (frow (one1 ⟨ix, jp, jq⟩) 1).toArray 24))) (belowAlloc hHeld _) (fun hHeld => Mono.pt ?_)
     refine Mono.stc 9 (some 100) (ins_late p1 k c1 at_ hatk F 1 (by decide) (by omega) (one1 ⟨ix, jp, jq⟩) X13.heap.size Y1 ho1 hbN.size) (fun e Y2 hR => ?_)
     obtain ⟨p2, c2, rfl, hfm2, hbM⟩ := hR
     refine ⟨(hHeld.trans (hbM.mono hX)), fun hHeld => Mono.pt ?_⟩
     refine Mono.meet (hJ.out (Y2, p2, c2, .slice p1 k c1, .slice (some ⟨Y1.heap.size, 0, none⟩) 1 1) ⟨hHeld, hfm2⟩)
    ·intro K hK
     refine Mono.arma (some 99) hK (.slice (some ⟨X13.heap.size, 0, none⟩) 1 1) ((X13.alloc (.cells (frow (one1 ⟨ix, jp, jq⟩) 1).toArray 24))) (belowAlloc hHeld _) (fun hHeld => Mono.pt ?_)
     clear hK K
     refine Mono.stc 1 (some 92) (clone_ok p' k c' (by omega) F (X13.alloc (.cells (frow (one1 ⟨ix, jp, jq⟩) 1).toArray 24)) (hfm.below (belowAlloc BX _)) hnil) (fun e Y1 hR => ?_)
     obtain ⟨p1, c1, rfl, ho1, hbN⟩ := hR
     refine ⟨(belowCall hHeld hbN), fun hHeld => Mono.pt ?_⟩
     have bn := (Box.new X13 24 (frow (one1 ⟨ix, jp, jq⟩) 1).toArray).below hbN
     refine Mono.stc 9 (some 100) (ins_early p1 k c1 at_ hatk F X13.heap.size 1 (by decide) (by omega) (one1 ⟨ix, jp, jq⟩) (X13.alloc (.cells (frow (one1 ⟨ix, jp, jq⟩) 1).toArray 24)).heap.size Y1 ho1 hbN.size bn (by rw [World.size_alloc]; omega)) (fun e Y2 hR => ?_)
     obtain ⟨p2, c2, rfl, hfm2, hbM⟩ := hR
     refine ⟨(hHeld.trans (hbM.mono (Nat.le_trans hX (by rw [World.size_alloc]; omega)))), fun hHeld => Mono.pt ?_⟩
     refine Mono.meet (hJ.out (Y2, p2, c2, .slice p1 k c1, .slice (some ⟨X13.heap.size, 0, none⟩) 1 1) ⟨hHeld, hfm2⟩)
   intro x hx
   obtain ⟨Z13, p13, c13, vc13, vb13⟩ := x
   obtain ⟨hHeld, hfm13⟩ := hx
   dsimp only at hHeld hfm13 ⊢
   refine Mono.pt ?_
   refine tkf 10 (some 20) ?_
   refine wpAnyH_done (by as_aux_lemma => kernel_rfl) ?_ _
   clear BX hX
   replace BW := belowCall BW hHeld
   replace b13 := b13.below hHeld
   replace b14 := b14.below hHeld
   replace y18 := y18.below hHeld
   clear hHeld
   have hok13 : ∀ j, j < k + 1 → (ins F at_ (one1 ⟨ix, jp, jq⟩) 1 j).ok := ins_ok hatk hF (fun j hj => ⟨by dsimp only [one1]; omega, by dsimp only [one1]; omega, by dsimp only [one1]; omega, by dsimp only [one1]; omega, by dsimp only [one1]; omega, by dsimp only [one1]; omega⟩)
   have hs13 := fun W h => stack_ex _ (k + 1) (by omega) hok13 p13 c13 W h
   rw [← hjm.out] at hs13
   generalize ins F at_ (one1 ⟨ix, jp, jq⟩) 1 = F13 at *
   clear hok13
   go_wp2_with fail
   refine (hs13 _ hfm13).mono ?_
   rintro e U13 ⟨CM, rfl, mM, hbA⟩
   replace BW := belowCall BW hbA
   replace b13 := b13.below hbA
   replace b14 := b14.below hbA
   replace y18 := y18.below hbA
   clear hbA hs13 hfm13
   go_wp2_with first | (refine wpList_put1 57 21 _ CM _ rfl rfl rfl rfl rfl rfl alloc_quad (by as_aux_lemma => (intro _; kernel_rfl)) (by as_aux_lemma => (intro _; kernel_rfl)) (by rw [mM.size]; exact sizeQuad) (by rw [mM.size]; rfl) mM.ones ?_; intro V14 B21 _ hv x21; have y21 := MB.mk x21 (mM.ext (.of_below hv)); replace BW := belowCall BW hv; replace b13 := b13.below hv; replace b14 := b14.below hv; replace y18 := y18.below hv; clear x21 mM hv) | (refine wpList_load_midG (by rfl) 57 (.tmp 18) rfl B18 0 rfl CQ.toList _ y18.box.range Tryz.underlying57 rfl (by rw [Array.length_toList, y18.mv.size]; exact sizeQuad) ?_) | (refine wpList_load_midG (by rfl) 57 (.tmp 21) rfl B21 0 rfl CM.toList _ y21.box.range Tryz.underlying57 rfl (by rw [Array.length_toList, y21.mv.size]; exact sizeQuad) ?_)
   refine (valike_ok CQ CM m7 _ y18.mv y21.mv).mono ?_
   rintro e U15 ⟨rfl, hbB⟩
   replace BW := belowCall BW hbB
   replace b13 := b13.below hbB
   replace b14 := b14.below hbB
   clear hbB y18 y21 hjm
   go_wp2_with fail
   refine wp_region_held_drew (S := fun w' => Below U15.heap.size U15 w') (by as_aux_lemma => kernel_rfl) ((Below.refl _ _).drew) (fun hHeld => ?_)
   generalize U15.drew = X17 at *
   have BX := belowCall BW hHeld
   have hX := hHeld.size
   refine tkf 0 (some 114) ?_
   refine tkf 2 (some 116) ?_
   refine tkf 3 (some 117) ?_
   refine tlf 4 (some 118) rfl (.int .i64 ix) (fun w hS => by have cc := (b13.below hS).cell; go_simp) ?_
   refine tkf 5 (some 119) ?_
   refine Mono.join_at (fuel' := 1) (listed' := #[true, true, true, true, true, true, true, true, false]) (fun (x : World × Option Addr × Nat × Value × Value) a => (((a.put (some 115) x.2.2.2.1).put (some 120) x.2.2.2.2).put (some 121) (.slice x.2.1 (k + 1) x.2.2.1))) (fun x => x.1) (fun x => Below U15.heap.size U15 x.1 ∧ FilmsAt x.1 x.2.1 (k + 1) x.2.2.1 (ins F at_ (one1 ⟨ix, 0, 1⟩) 1)) ?_ ?_
   rotate_left
   ·intro hJ
    refine Mono.fork2 1 6 ?_ ?_
    ·intro K hK
     refine Mono.armc (some 115) hK (clone_ok p' k c' (by omega) F X17 (hfm.below BX) hnil) (fun e Y1 hR => ?_)
     clear hK K
     obtain ⟨p1, c1, rfl, ho1, hbN⟩ := hR
     refine ⟨(belowCall hHeld hbN), fun hHeld => Mono.pt ?_⟩
     refine Mono.sta 6 (some 120) (.slice (some ⟨Y1.heap.size, 0, none⟩) 1 1) ((Y1.alloc (.cells (frow (one1 ⟨ix, 0, 1⟩) 1).toArray 24))) (belowAlloc hHeld _) (fun hHeld => Mono.pt ?_)
     refine Mono.stc 7 (some 121) (ins_late p1 k c1 at_ hatk F 1 (by decide) (by omega) (one1 ⟨ix, 0, 1⟩) X17.heap.size Y1 ho1 hbN.size) (fun e Y2 hR => ?_)
     obtain ⟨p2, c2, rfl, hfm2, hbM⟩ := hR
     refine ⟨(hHeld.trans (hbM.mono hX)), fun hHeld => Mono.pt ?_⟩
     refine Mono.meet (hJ.out (Y2, p2, c2, .slice p1 k c1, .slice (some ⟨Y1.heap.size, 0, none⟩) 1 1) ⟨hHeld, hfm2⟩)
    ·intro K hK
     refine Mono.arma (some 120) hK (.slice (some ⟨X17.heap.size, 0, none⟩) 1 1) ((X17.alloc (.cells (frow (one1 ⟨ix, 0, 1⟩) 1).toArray 24))) (belowAlloc hHeld _) (fun hHeld => Mono.pt ?_)
     clear hK K
     refine Mono.stc 1 (some 115) (clone_ok p' k c' (by omega) F (X17.alloc (.cells (frow (one1 ⟨ix, 0, 1⟩) 1).toArray 24)) (hfm.below (belowAlloc BX _)) hnil) (fun e Y1 hR => ?_)
     obtain ⟨p1, c1, rfl, ho1, hbN⟩ := hR
     refine ⟨(belowCall hHeld hbN), fun hHeld => Mono.pt ?_⟩
     have bn := (Box.new X17 24 (frow (one1 ⟨ix, 0, 1⟩) 1).toArray).below hbN
     refine Mono.stc 7 (some 121) (ins_early p1 k c1 at_ hatk F X17.heap.size 1 (by decide) (by omega) (one1 ⟨ix, 0, 1⟩) (X17.alloc (.cells (frow (one1 ⟨ix, 0, 1⟩) 1).toArray 24)).heap.size Y1 ho1 hbN.size bn (by rw [World.size_alloc]; omega)) (fun e Y2 hR => ?_)
     obtain ⟨p2, c2, rfl, hfm2, hbM⟩ := hR
     refine ⟨(hHeld.trans (hbM.mono (Nat.le_trans hX (by rw [World.size_alloc]; omega)))), fun hHeld => Mono.pt ?_⟩
     refine Mono.meet (hJ.out (Y2, p2, c2, .slice p1 k c1, .slice (some ⟨X17.heap.size, 0, none⟩) 1 1) ⟨hHeld, hfm2⟩)
   intro x hx
   obtain ⟨Z17, p17, c17, vc17, vb17⟩ := x
   obtain ⟨hHeld, hfm17⟩ := hx
   dsimp only at hHeld hfm17 ⊢
   refine Mono.pt ?_
   refine tkf 8 (some 23) ?_
   refine wpAnyH_done (by as_aux_lemma => kernel_rfl) ?_ _
   clear BX hX
   replace BW := belowCall BW hHeld
   replace b13 := b13.below hHeld
   replace b14 := b14.below hHeld
   clear hHeld
   have hok17 : ∀ j, j < k + 1 → (ins F at_ (one1 ⟨ix, 0, 1⟩) 1 j).ok := ins_ok hatk hF (fun j hj => ⟨by dsimp only [one1]; omega, by dsimp only [one1]; omega, by dsimp only [one1]; omega, by dsimp only [one1]; omega, by dsimp only [one1]; omega, by dsimp only [one1]; omega⟩)
   have hs17 := fun W h => stack_ex _ (k + 1) (by omega) hok17 p17 c17 W h
   rw [stack_thin F k at_ hatk ix 1 (by decide)] at hs17
   generalize ins F at_ (one1 ⟨ix, 0, 1⟩) 1 = F17 at *
   clear hok17
   have hs19 := fun W h => stack_ex F k (by omega) hF p' c' W h
   generalize stackN F k = mk at *
   go_wp2_with fail
   refine (hs17 _ hfm17).mono ?_
   rintro e U17 ⟨CA, rfl, mA, hbC⟩
   replace BW := belowCall BW hbC
   replace b13 := b13.below hbC
   replace b14 := b14.below hbC
   clear hbC hs17 hfm17
   go_wp2_with first | (refine wpList_put1 57 24 _ CA _ rfl rfl rfl rfl rfl rfl alloc_quad (by as_aux_lemma => (intro _; kernel_rfl)) (by as_aux_lemma => (intro _; kernel_rfl)) (by rw [mA.size]; exact sizeQuad) (by rw [mA.size]; rfl) mA.ones ?_; intro V18 B24 _ hv x24; have y24 := MB.mk x24 (mA.ext (.of_below hv)); replace BW := belowCall BW hv; replace b13 := b13.below hv; replace b14 := b14.below hv; clear x24 mA hv)
   refine (hs19 _ (hfm.below BW)).mono ?_
   rintro e U19 ⟨CB, rfl, mB, hbD⟩
   replace BW := belowCall BW hbD
   replace b13 := b13.below hbD
   replace b14 := b14.below hbD
   replace y24 := y24.below hbD
   clear hbD hs19
   go_wp2_with first | (refine wpList_put1 57 25 _ CB _ rfl rfl rfl rfl rfl rfl alloc_quad (by as_aux_lemma => (intro _; kernel_rfl)) (by as_aux_lemma => (intro _; kernel_rfl)) (by rw [mB.size]; exact sizeQuad) (by rw [mB.size]; rfl) mB.ones ?_; intro V19 B25 _ hv x25; have y25 := MB.mk x25 (mB.ext (.of_below hv)); replace BW := belowCall BW hv; replace b13 := b13.below hv; replace b14 := b14.below hv; replace y24 := y24.below hv; clear x25 mB hv) | (refine wpList_load_midG (by rfl) 57 (.tmp 24) rfl B24 0 rfl CA.toList _ y24.box.range Tryz.underlying57 rfl (by rw [Array.length_toList, y24.mv.size]; exact sizeQuad) ?_) | (refine wpList_load_midG (by rfl) 57 (.tmp 25) rfl B25 0 rfl CB.toList _ y25.box.range Tryz.underlying57 rfl (by rw [Array.length_toList, y25.mv.size]; exact sizeQuad) ?_)
   refine (valike_ok CA CB mk _ y24.mv y25.mv).mono ?_
   rintro e U20 ⟨rfl, hbE⟩
   replace BW := belowCall BW hbE
   replace b13 := b13.below hbE
   replace b14 := b14.below hbE
   clear hbE y24 y25
   go_wp2_with fail
   have bT := bS.below BW
   have hcS := bT.cell
   refine wp_region_held_drew (S := fun w' => w'.cell? ⟨w.heap.size + 1 + 1, 0, none⟩ = some (.int .u8 s0) ∧ w'.cell? ⟨w.heap.size + 1 + 1, 1, none⟩ = some (.int .u8 s1) ∧ Below U20.heap.size U20 w') (by as_aux_lemma => kernel_rfl) ⟨hcS 0, hcS 1, (Below.refl _ _).drew⟩ (fun hHeld => ?_)
   have BX := hHeld.2.2
   generalize U20.drew = X22 at *
   refine tkf 0 (some 144) ?_
   refine tkf 1 (some 145) ?_
   refine tkf 2 (some 146) ?_
   refine tkf 3 (some 147) ?_
   refine tkf 4 (some 148) ?_
   refine tkf 5 (some 149) ?_
   refine tkf 6 (some 150) ?_
   refine tkf 7 (some 151) ?_
   refine tkf 8 (some 152) ?_
   refine tkf 9 (some 153) ?_
   refine tkf 10 (some 27) ?_
   refine tkf 11 (some 28) ?_
   refine wpAnyH_done (by as_aux_lemma => kernel_rfl) ?_ _
   have e0 := small_wrap s0 hs0
   have e1 := small_wrap s1 hs1
   rw [e0, e1]
   have a1 : 10000000 ≤ 10000000 + 100000 * s0 := by omega
   have a2 : 10000000 + 100000 * s0 ≤ 40000000 := by omega
   have b1 : 10000000 ≤ 10000000 + 100000 * s1 := by omega
   have b2 : 10000000 + 100000 * s1 ≤ 40000000 := by omega
   clear e0 e1
   generalize 10000000 + 100000 * s0 = na at *
   generalize 10000000 + 100000 * s1 = nb at *
   replace BW := belowCall BW BX
   replace b13 := b13.below BX
   replace b14 := b14.below BX
   clear hcS BX hHeld bT
   have c13 := b13.cell
   have c14 := b14.cell
   have f13 := b13.frozen
   have f14 := b14.frozen
   go_wp2_with fail
   obtain ⟨V23, hV23⟩ : ∃ Y, Y = (X22.setCell ⟨N13, 0, none⟩ (.int .i64 na)).setCell ⟨N14, 0, none⟩ (.int .i64 nb) := ⟨_, rfl⟩
   replace BW := belowSet (belowSet BW lo13 0 (.int .i64 na)) lo14 0 (.int .i64 nb)
   replace b13 := (b13.set 0 (.int .i64 na)).other ⟨N14, 0, none⟩ (.int .i64 nb) hne
   replace b14 := (b14.other ⟨N13, 0, none⟩ (.int .i64 na) (Ne.symm hne)).set 0 (.int .i64 nb)
   rw [← hV23] at BW b13 b14 ⊢
   replace b13 : Box V23 N13 24 #[.int .i64 na, .int .i64 fp, .int .i64 fq] := b13
   replace b14 : Box V23 N14 24 #[.int .i64 nb, .int .i64 gp, .int .i64 gq] := b14
   clear hV23 c13 c14 f13 f14
   refine wp_region_held_drew (S := fun w' => Below V23.heap.size V23 w') (by as_aux_lemma => kernel_rfl) ((Below.refl _ _).drew) (fun hHeld => ?_)
   generalize V23.drew = X24 at *
   have BX := belowCall BW hHeld
   have hX := hHeld.size
   refine tlf 0 (some 158) rfl (.agg #[.int .i64 na, .int .i64 fp, .int .i64 fq]) (exec_load 24 _ rfl N13 0 (by as_aux_lemma => kernel_rfl) #[.int .i64 na, .int .i64 fp, .int .i64 fq] (fun w hS => (b13.below hS).range) _ Tryz.underlying24 rfl filmSize) ?_
   refine tkf 2 (some 160) ?_
   refine tlf 4 (some 162) rfl (.agg #[.int .i64 nb, .int .i64 gp, .int .i64 gq]) (exec_load 24 _ rfl N14 0 (by as_aux_lemma => kernel_rfl) #[.int .i64 nb, .int .i64 gp, .int .i64 gq] (fun w hS => (b14.below hS).range) _ Tryz.underlying24 rfl filmSize) ?_
   refine Mono.join_at (fuel' := 1) (listed' := #[true, true, true, true, true, true, true, false]) (fun (x : World × Option Addr × Nat × Value × Value × Value) a => ((((a.put (some 159) x.2.2.2.1).put (some 161) x.2.2.2.2.1).put (some 163) x.2.2.2.2.2).put (some 164) (.slice x.2.1 (1 + k + 1) x.2.2.1))) (fun x => x.1) (fun x => Below V23.heap.size V23 x.1 ∧ FilmsAt x.1 x.2.1 (1 + k + 1) x.2.2.1 (ins (ins (one1 ⟨na, fp, fq⟩) 1 F k) (1 + k) (one1 ⟨nb, gp, gq⟩) 1)) ?_ ?_
   rotate_left
   ·intro hJ
    refine Mono.fork2 1 5 ?_ ?_
    ·intro K hK
     refine Mono.arma (some 159) hK (.slice (some ⟨X24.heap.size, 0, none⟩) 1 1) ((X24.alloc (.cells (frow (one1 ⟨na, fp, fq⟩) 1).toArray 24))) (belowAlloc hHeld _) (fun hHeld => Mono.pt ?_)
     clear hK K
     refine Mono.fork2 3 5 ?_ ?_
     ·intro K hK
      obtain ⟨p1, c1, W1', hr, ho, hb, _⟩ := app_films 27 (X24.alloc (.cells (frow (one1 ⟨na, fp, fq⟩) 1).toArray 24)) X24.heap.size _ 1 (one1 ⟨na, fp, fq⟩) (owns_one X24 ⟨na, fp, fq⟩ X24.heap.size (Nat.le_refl _)) p' k c' F (hfm.below (belowAlloc BX _)) hnil (by rw [World.size_alloc]; omega) (by omega)
      refine Mono.arma (some 161) hK (.slice p1 (1 + k) c1) W1' (hHeld.trans (hb.mono hX)) (fun hHeld => Mono.pt ?_) rfl (by as_aux_lemma => kernel_rfl) (exec_append (.tmp 159) (.tmp 160) 27 27 rfl _ _ rfl rfl hr)
      clear hK K hr
      refine Mono.sta 5 (some 163) (.slice (some ⟨W1'.heap.size, 0, none⟩) 1 1) ((W1'.alloc (.cells (frow (one1 ⟨nb, gp, gq⟩) 1).toArray 24))) (belowAlloc hHeld _) (fun hHeld => Mono.pt ?_)
      have hs1 := hb.size
      rw [World.size_alloc] at hs1
      obtain ⟨p2, c2, W2', hr, ho2, hb, _⟩ := app_films 27 (W1'.alloc (.cells (frow (one1 ⟨nb, gp, gq⟩) 1).toArray 24)) X24.heap.size _ (1 + k) _ (ownsRow_alloc ho _) (some ⟨W1'.heap.size, 0, none⟩) 1 1 (one1 ⟨nb, gp, gq⟩) (Go.Mono.films_box (by decide) (Box.new _ _ _)) (fun h => by cases h) (by rw [World.size_alloc]; omega) (by omega)
      refine Mono.sta 6 (some 164) (.slice p2 (1 + k + 1) c2) W2' (hHeld.trans (hb.mono hX)) (fun hHeld => Mono.pt ?_) rfl rfl (by as_aux_lemma => kernel_rfl) (by as_aux_lemma => kernel_rfl) (exec_append (.tmp 161) (.tmp 163) 27 27 rfl _ _ rfl rfl hr)
      clear hr
      refine Mono.meet (hJ.out (W2', p2, c2, .slice (some ⟨X24.heap.size, 0, none⟩) 1 1, .slice p1 (1 + k) c1, .slice (some ⟨W1'.heap.size, 0, none⟩) 1 1) ⟨hHeld, ownsRow_films ho2 (by omega)⟩)
     ·intro K hK
      refine Mono.arma (some 163) hK (.slice (some ⟨(X24.alloc (.cells (frow (one1 ⟨na, fp, fq⟩) 1).toArray 24)).heap.size, 0, none⟩) 1 1) (((X24.alloc (.cells (frow (one1 ⟨na, fp, fq⟩) 1).toArray 24)).alloc (.cells (frow (one1 ⟨nb, gp, gq⟩) 1).toArray 24))) (belowAlloc hHeld _) (fun hHeld => Mono.pt ?_)
      clear hK K
      obtain ⟨p1, c1, W1', hr, ho, hb, hgr⟩ := app_films 27 ((X24.alloc (.cells (frow (one1 ⟨na, fp, fq⟩) 1).toArray 24)).alloc (.cells (frow (one1 ⟨nb, gp, gq⟩) 1).toArray 24)) X24.heap.size _ 1 (one1 ⟨na, fp, fq⟩) (ownsRow_alloc (owns_one X24 ⟨na, fp, fq⟩ X24.heap.size (Nat.le_refl _)) _) p' k c' F (hfm.below (belowAlloc (belowAlloc BX _) _)) hnil (by rw [World.size_alloc, World.size_alloc]; omega) (by omega)
      refine Mono.sta 3 (some 161) (.slice p1 (1 + k) c1) W1' (hHeld.trans (hb.mono hX)) (fun hHeld => Mono.pt ?_) rfl rfl (by as_aux_lemma => kernel_rfl) (by as_aux_lemma => kernel_rfl) (exec_append (.tmp 159) (.tmp 160) 27 27 rfl _ _ rfl rfl hr)
      clear hr
      have bg0 := Box.new (X24.alloc (.cells (frow (one1 ⟨na, fp, fq⟩) 1).toArray 24)) 24 (frow (one1 ⟨nb, gp, gq⟩) 1).toArray
      have bg : Box W1' (X24.alloc (.cells (frow (one1 ⟨na, fp, fq⟩) 1).toArray 24)).heap.size 24 (frow (one1 ⟨nb, gp, gq⟩) 1).toArray := ⟨(hgr.block _ bg0.lt (by rw [World.size_alloc]; show some (X24.heap.size + 1) ≠ some X24.heap.size; simp)).trans bg0.blk⟩
      have hs1 := hb.size
      rw [World.size_alloc, World.size_alloc] at hs1
      obtain ⟨p2, c2, W2', hr, ho2, hb, _⟩ := app_films 27 W1' X24.heap.size _ (1 + k) _ ho (some ⟨(X24.alloc (.cells (frow (one1 ⟨na, fp, fq⟩) 1).toArray 24)).heap.size, 0, none⟩) 1 1 (one1 ⟨nb, gp, gq⟩) (Go.Mono.films_box (by decide) bg) (fun h => by cases h) (by omega) (by omega)
      refine Mono.sta 6 (some 164) (.slice p2 (1 + k + 1) c2) W2' (hHeld.trans (hb.mono hX)) (fun hHeld => Mono.pt ?_) rfl rfl (by as_aux_lemma => kernel_rfl) (by as_aux_lemma => kernel_rfl) (exec_append (.tmp 161) (.tmp 163) 27 27 rfl _ _ rfl rfl hr)
      clear hr
      refine Mono.meet (hJ.out (W2', p2, c2, .slice (some ⟨X24.heap.size, 0, none⟩) 1 1, .slice p1 (1 + k) c1, .slice (some ⟨(X24.alloc (.cells (frow (one1 ⟨na, fp, fq⟩) 1).toArray 24)).heap.size, 0, none⟩) 1 1) ⟨hHeld, ownsRow_films ho2 (by omega)⟩)
    ·intro K hK
     refine Mono.arma (some 163) hK (.slice (some ⟨X24.heap.size, 0, none⟩) 1 1) ((X24.alloc (.cells (frow (one1 ⟨nb, gp, gq⟩) 1).toArray 24))) (belowAlloc hHeld _) (fun hHeld => Mono.pt ?_)
     clear hK K
     refine Mono.sta 1 (some 159) (.slice (some ⟨(X24.alloc (.cells (frow (one1 ⟨nb, gp, gq⟩) 1).toArray 24)).heap.size, 0, none⟩) 1 1) (((X24.alloc (.cells (frow (one1 ⟨nb, gp, gq⟩) 1).toArray 24)).alloc (.cells (frow (one1 ⟨na, fp, fq⟩) 1).toArray 24))) (belowAlloc hHeld _) (fun hHeld => Mono.pt ?_)
     have hXg : V23.heap.size ≤ (X24.alloc (.cells (frow (one1 ⟨nb, gp, gq⟩) 1).toArray 24)).heap.size := by rw [World.size_alloc]; omega
     obtain ⟨p1, c1, W1', hr, ho, hb, _⟩ := app_films 27 ((X24.alloc (.cells (frow (one1 ⟨nb, gp, gq⟩) 1).toArray 24)).alloc (.cells (frow (one1 ⟨na, fp, fq⟩) 1).toArray 24)) (X24.alloc (.cells (frow (one1 ⟨nb, gp, gq⟩) 1).toArray 24)).heap.size _ 1 (one1 ⟨na, fp, fq⟩) (owns_one (X24.alloc (.cells (frow (one1 ⟨nb, gp, gq⟩) 1).toArray 24)) ⟨na, fp, fq⟩ (X24.alloc (.cells (frow (one1 ⟨nb, gp, gq⟩) 1).toArray 24)).heap.size (Nat.le_refl _)) p' k c' F (hfm.below (belowAlloc (belowAlloc BX _) _)) hnil (by rw [World.size_alloc (X24.alloc (.cells (frow (one1 ⟨nb, gp, gq⟩) 1).toArray 24))]; omega) (by omega)
     refine Mono.sta 3 (some 161) (.slice p1 (1 + k) c1) W1' (hHeld.trans (hb.mono hXg)) (fun hHeld => Mono.pt ?_) rfl rfl (by as_aux_lemma => kernel_rfl) (by as_aux_lemma => kernel_rfl) (exec_append (.tmp 159) (.tmp 160) 27 27 rfl _ _ rfl rfl hr)
     clear hr
     have bg := ((Box.new X24 24 (frow (one1 ⟨nb, gp, gq⟩) 1).toArray).alloc (.cells (frow (one1 ⟨na, fp, fq⟩) 1).toArray 24)).low hb (by rw [World.size_alloc]; omega)
     have hs1 := hb.size
     rw [World.size_alloc (X24.alloc (.cells (frow (one1 ⟨nb, gp, gq⟩) 1).toArray 24))] at hs1
     obtain ⟨p2, c2, W2', hr, ho2, hb, _⟩ := app_films 27 W1' (X24.alloc (.cells (frow (one1 ⟨nb, gp, gq⟩) 1).toArray 24)).heap.size _ (1 + k) _ ho (some ⟨X24.heap.size, 0, none⟩) 1 1 (one1 ⟨nb, gp, gq⟩) (Go.Mono.films_box (by decide) bg) (fun h => by cases h) (by omega) (by omega)
     refine Mono.sta 6 (some 164) (.slice p2 (1 + k + 1) c2) W2' (hHeld.trans (hb.mono hXg)) (fun hHeld => Mono.pt ?_) rfl rfl (by as_aux_lemma => kernel_rfl) (by as_aux_lemma => kernel_rfl) (exec_append (.tmp 161) (.tmp 163) 27 27 rfl _ _ rfl rfl hr)
     clear hr
     refine Mono.meet (hJ.out (W2', p2, c2, .slice (some ⟨(X24.alloc (.cells (frow (one1 ⟨nb, gp, gq⟩) 1).toArray 24)).heap.size, 0, none⟩) 1 1, .slice p1 (1 + k) c1, .slice (some ⟨X24.heap.size, 0, none⟩) 1 1) ⟨hHeld, ownsRow_films ho2 (by omega)⟩)
   intro x hx
   obtain ⟨Z24, p24, c24, va24, vb24, vc24⟩ := x
   obtain ⟨hHeld, hfm24⟩ := hx
   dsimp only at hHeld hfm24 ⊢
   refine Mono.pt ?_
   refine tkf 7 (some 29) ?_
   refine wpAnyH_done (by as_aux_lemma => kernel_rfl) ?_ _
   clear BX hX b13 b14
   replace BW := belowCall BW hHeld
   clear hHeld
   go_wp2_with fail
   have okf : (Flm.mk na fp fq).ok := ⟨by dsimp only; omega, by dsimp only; omega, by dsimp only; omega, by dsimp only; omega, by dsimp only; omega, by dsimp only; omega⟩
   have okg : (Flm.mk nb gp gq).ok := ⟨by dsimp only; omega, by dsimp only; omega, by dsimp only; omega, by dsimp only; omega, by dsimp only; omega, by dsimp only; omega⟩
   obtain ⟨pe1, pe2⟩ := ends_padded F k ⟨na, fp, fq⟩ ⟨nb, gp, gq⟩ (by dsimp only; omega) (by dsimp only; omega) (Flm.ok.sq' okf) (Flm.ok.sq' okg)
   have hokp : ∀ j, j < 1 + k + 1 → ((ins (ins (one1 ⟨na, fp, fq⟩) 1 F k) (1 + k) (one1 ⟨nb, gp, gq⟩) 1) j).ok := ins_ok (Nat.le_refl _) (ins_ok (Nat.le_refl _) (fun _ _ => okf) hF) (fun _ _ => okg)
   have hr1 := fun W h => refl_ex na nb a1 a2 b1 b2 F k (by omega) hF p' c' W h
   have hr2 := fun W h => refl_ex na nb a1 a2 b1 b2 (ins (ins (one1 ⟨na, fp, fq⟩) 1 F k) (1 + k) (one1 ⟨nb, gp, gq⟩) 1) (1 + k + 1) (by omega) hokp p24 c24 W h
   dsimp only at pe1 pe2
   rw [pe1, pe2] at hr2
   clear pe1 pe2 hokp okf okg
   generalize (ins (ins (one1 ⟨na, fp, fq⟩) 1 F k) (1 + k) (one1 ⟨nb, gp, gq⟩) 1) = FP at *
   generalize back (idx na) (idx nb) (stackN F k) = r at *
   generalize through (idx na) (idx nb) (stackN F k) = t at *
   refine (hr1 _ (hfm.below BW)).mono ?_
   rintro e U25 ⟨C30, C31, rfl, q30, q31, hbF⟩
   replace BW := belowCall BW hbF
   replace hfm24 := hfm24.below hbF
   clear hbF hr1
   go_wp2_with first | (refine wpList_put2 37 30 31 _ _ C30 C31 _ rfl rfl rfl rfl rfl rfl rfl rfl rfl rfl rfl rfl alloc_quot (by as_aux_lemma => (intro _ _; kernel_rfl)) (by as_aux_lemma => (intro _ _; kernel_rfl)) (by as_aux_lemma => (intro _ _; kernel_rfl)) (by as_aux_lemma => (intro _ _; kernel_rfl)) sizeQuot (by rw [q30.size]; rfl) (by rw [q31.size]; rfl) q30.one q31.one ?_; intro V25 B30 B31 _ _ _ hv x30 x31; have y30 := QB.mk x30 (q30.ext (.of_below hv)); have y31 := QB.mk x31 (q31.ext (.of_below hv)); replace BW := belowCall BW hv; replace hfm24 := hfm24.below hv; clear x30 x31 q30 q31 hv)
   refine (hr2 _ hfm24).mono ?_
   rintro e U26 ⟨C33, C34, rfl, q33, q34, hbG⟩
   replace BW := belowCall BW hbG
   replace y30 := y30.below hbG
   replace y31 := y31.below hbG
   clear hbG hr2 hfm24
   go_wp2_with first | (refine wpList_put2 37 33 34 _ _ C33 C34 _ rfl rfl rfl rfl rfl rfl rfl rfl rfl rfl rfl rfl alloc_quot (by as_aux_lemma => (intro _ _; kernel_rfl)) (by as_aux_lemma => (intro _ _; kernel_rfl)) (by as_aux_lemma => (intro _ _; kernel_rfl)) (by as_aux_lemma => (intro _ _; kernel_rfl)) sizeQuot (by rw [q33.size]; rfl) (by rw [q34.size]; rfl) q33.one q34.one ?_; intro V26 B33 B34 _ _ _ hv x33 x34; have y33 := QB.mk x33 (q33.ext (.of_below hv)); have y34 := QB.mk x34 (q34.ext (.of_below hv)); replace BW := belowCall BW hv; replace y30 := y30.below hv; replace y31 := y31.below hv; clear x33 x34 q33 q34 hv) | (refine wpList_load_midG (by rfl) 37 (.tmp 30) rfl B30 0 rfl C30.toList _ y30.box.range Tryz.underlying37 rfl (by rw [Array.length_toList, y30.qv.size]; exact sizeQuot) ?_) | (refine wpList_load_midG (by rfl) 37 (.tmp 33) rfl B33 0 rfl C33.toList _ y33.box.range Tryz.underlying37 rfl (by rw [Array.length_toList, y33.qv.size]; exact sizeQuot) ?_)
   refine (qsame_self _ _ r _ y30.qv y33.qv).mono ?_
   rintro e U27 ⟨rfl, hbH⟩
   replace BW := belowCall BW hbH
   replace y31 := y31.below hbH
   replace y34 := y34.below hbH
   clear hbH y30 y33
   go_wp2_with first | (refine wpList_load_midG (by rfl) 37 (.tmp 31) rfl B31 0 rfl C31.toList _ y31.box.range Tryz.underlying37 rfl (by rw [Array.length_toList, y31.qv.size]; exact sizeQuot) ?_) | (refine wpList_load_midG (by rfl) 37 (.tmp 34) rfl B34 0 rfl C34.toList _ y34.box.range Tryz.underlying37 rfl (by rw [Array.length_toList, y34.qv.size]; exact sizeQuot) ?_)
   refine (qsame_self _ _ t _ y31.qv y34.qv).mono ?_
   rintro e U28 ⟨rfl, hbI⟩
   replace BW := belowCall BW hbI
   clear hbI y31 y34
   go_wp2
   go_ret
   exact ⟨rfl, belowCall B0 BW⟩
  ·rename_i hjq
   clear y18 hjm
   refine wp_region_held_drew (S := fun w' => Below V9.heap.size V9 w') (by as_aux_lemma => kernel_rfl) ((Below.refl _ _).drew) (fun hHeld => ?_)
   generalize V9.drew = X17 at *
   have BX := belowCall BW hHeld
   have hX := hHeld.size
   refine tkf 0 (some 114) ?_
   refine tkf 2 (some 116) ?_
   refine tkf 3 (some 117) ?_
   refine tlf 4 (some 118) rfl (.int .i64 ix) (fun w hS => by have cc := (b13.below hS).cell; go_simp) ?_
   refine tkf 5 (some 119) ?_
   refine Mono.join_at (fuel' := 1) (listed' := #[true, true, true, true, true, true, true, true, false]) (fun (x : World × Option Addr × Nat × Value × Value) a => (((a.put (some 115) x.2.2.2.1).put (some 120) x.2.2.2.2).put (some 121) (.slice x.2.1 (k + 1) x.2.2.1))) (fun x => x.1) (fun x => Below V9.heap.size V9 x.1 ∧ FilmsAt x.1 x.2.1 (k + 1) x.2.2.1 (ins F at_ (one1 ⟨ix, 0, 1⟩) 1)) ?_ ?_
   rotate_left
   ·intro hJ
    refine Mono.fork2 1 6 ?_ ?_
    ·intro K hK
     refine Mono.armc (some 115) hK (clone_ok p' k c' (by omega) F X17 (hfm.below BX) hnil) (fun e Y1 hR => ?_)
     clear hK K
     obtain ⟨p1, c1, rfl, ho1, hbN⟩ := hR
     refine ⟨(belowCall hHeld hbN), fun hHeld => Mono.pt ?_⟩
     refine Mono.sta 6 (some 120) (.slice (some ⟨Y1.heap.size, 0, none⟩) 1 1) ((Y1.alloc (.cells (frow (one1 ⟨ix, 0, 1⟩) 1).toArray 24))) (belowAlloc hHeld _) (fun hHeld => Mono.pt ?_)
     refine Mono.stc 7 (some 121) (ins_late p1 k c1 at_ hatk F 1 (by decide) (by omega) (one1 ⟨ix, 0, 1⟩) X17.heap.size Y1 ho1 hbN.size) (fun e Y2 hR => ?_)
     obtain ⟨p2, c2, rfl, hfm2, hbM⟩ := hR
     refine ⟨(hHeld.trans (hbM.mono hX)), fun hHeld => Mono.pt ?_⟩
     refine Mono.meet (hJ.out (Y2, p2, c2, .slice p1 k c1, .slice (some ⟨Y1.heap.size, 0, none⟩) 1 1) ⟨hHeld, hfm2⟩)
    ·intro K hK
     refine Mono.arma (some 120) hK (.slice (some ⟨X17.heap.size, 0, none⟩) 1 1) ((X17.alloc (.cells (frow (one1 ⟨ix, 0, 1⟩) 1).toArray 24))) (belowAlloc hHeld _) (fun hHeld => Mono.pt ?_)
     clear hK K
     refine Mono.stc 1 (some 115) (clone_ok p' k c' (by omega) F (X17.alloc (.cells (frow (one1 ⟨ix, 0, 1⟩) 1).toArray 24)) (hfm.below (belowAlloc BX _)) hnil) (fun e Y1 hR => ?_)
     obtain ⟨p1, c1, rfl, ho1, hbN⟩ := hR
     refine ⟨(belowCall hHeld hbN), fun hHeld => Mono.pt ?_⟩
     have bn := (Box.new X17 24 (frow (one1 ⟨ix, 0, 1⟩) 1).toArray).below hbN
     refine Mono.stc 7 (some 121) (ins_early p1 k c1 at_ hatk F X17.heap.size 1 (by decide) (by omega) (one1 ⟨ix, 0, 1⟩) (X17.alloc (.cells (frow (one1 ⟨ix, 0, 1⟩) 1).toArray 24)).heap.size Y1 ho1 hbN.size bn (by rw [World.size_alloc]; omega)) (fun e Y2 hR => ?_)
     obtain ⟨p2, c2, rfl, hfm2, hbM⟩ := hR
     refine ⟨(hHeld.trans (hbM.mono (Nat.le_trans hX (by rw [World.size_alloc]; omega)))), fun hHeld => Mono.pt ?_⟩
     refine Mono.meet (hJ.out (Y2, p2, c2, .slice p1 k c1, .slice (some ⟨X17.heap.size, 0, none⟩) 1 1) ⟨hHeld, hfm2⟩)
   intro x hx
   obtain ⟨Z17, p17, c17, vc17, vb17⟩ := x
   obtain ⟨hHeld, hfm17⟩ := hx
   dsimp only at hHeld hfm17 ⊢
   refine Mono.pt ?_
   refine tkf 8 (some 23) ?_
   refine wpAnyH_done (by as_aux_lemma => kernel_rfl) ?_ _
   clear BX hX
   replace BW := belowCall BW hHeld
   replace b13 := b13.below hHeld
   replace b14 := b14.below hHeld
   clear hHeld
   have hok17 : ∀ j, j < k + 1 → (ins F at_ (one1 ⟨ix, 0, 1⟩) 1 j).ok := ins_ok hatk hF (fun j hj => ⟨by dsimp only [one1]; omega, by dsimp only [one1]; omega, by dsimp only [one1]; omega, by dsimp only [one1]; omega, by dsimp only [one1]; omega, by dsimp only [one1]; omega⟩)
   have hs17 := fun W h => stack_ex _ (k + 1) (by omega) hok17 p17 c17 W h
   rw [stack_thin F k at_ hatk ix 1 (by decide)] at hs17
   generalize ins F at_ (one1 ⟨ix, 0, 1⟩) 1 = F17 at *
   clear hok17
   have hs19 := fun W h => stack_ex F k (by omega) hF p' c' W h
   generalize stackN F k = mk at *
   go_wp2_with fail
   go_wp2_with fail
   refine (hs17 _ hfm17).mono ?_
   rintro e U17 ⟨CA, rfl, mA, hbC⟩
   replace BW := belowCall BW hbC
   replace b13 := b13.below hbC
   replace b14 := b14.below hbC
   clear hbC hs17 hfm17
   go_wp2_with first | (refine wpList_put1 57 24 _ CA _ rfl rfl rfl rfl rfl rfl alloc_quad (by as_aux_lemma => (intro _; kernel_rfl)) (by as_aux_lemma => (intro _; kernel_rfl)) (by rw [mA.size]; exact sizeQuad) (by rw [mA.size]; rfl) mA.ones ?_; intro V18 B24 _ hv x24; have y24 := MB.mk x24 (mA.ext (.of_below hv)); replace BW := belowCall BW hv; replace b13 := b13.below hv; replace b14 := b14.below hv; clear x24 mA hv)
   refine (hs19 _ (hfm.below BW)).mono ?_
   rintro e U19 ⟨CB, rfl, mB, hbD⟩
   replace BW := belowCall BW hbD
   replace b13 := b13.below hbD
   replace b14 := b14.below hbD
   replace y24 := y24.below hbD
   clear hbD hs19
   go_wp2_with first | (refine wpList_put1 57 25 _ CB _ rfl rfl rfl rfl rfl rfl alloc_quad (by as_aux_lemma => (intro _; kernel_rfl)) (by as_aux_lemma => (intro _; kernel_rfl)) (by rw [mB.size]; exact sizeQuad) (by rw [mB.size]; rfl) mB.ones ?_; intro V19 B25 _ hv x25; have y25 := MB.mk x25 (mB.ext (.of_below hv)); replace BW := belowCall BW hv; replace b13 := b13.below hv; replace b14 := b14.below hv; replace y24 := y24.below hv; clear x25 mB hv) | (refine wpList_load_midG (by rfl) 57 (.tmp 24) rfl B24 0 rfl CA.toList _ y24.box.range Tryz.underlying57 rfl (by rw [Array.length_toList, y24.mv.size]; exact sizeQuad) ?_) | (refine wpList_load_midG (by rfl) 57 (.tmp 25) rfl B25 0 rfl CB.toList _ y25.box.range Tryz.underlying57 rfl (by rw [Array.length_toList, y25.mv.size]; exact sizeQuad) ?_)
   refine (valike_ok CA CB mk _ y24.mv y25.mv).mono ?_
   rintro e U20 ⟨rfl, hbE⟩
   replace BW := belowCall BW hbE
   replace b13 := b13.below hbE
   replace b14 := b14.below hbE
   clear hbE y24 y25
   go_wp2_with fail
   have bT := bS.below BW
   have hcS := bT.cell
   refine wp_region_held_drew (S := fun w' => w'.cell? ⟨w.heap.size + 1 + 1, 0, none⟩ = some (.int .u8 s0) ∧ w'.cell? ⟨w.heap.size + 1 + 1, 1, none⟩ = some (.int .u8 s1) ∧ Below U20.heap.size U20 w') (by as_aux_lemma => kernel_rfl) ⟨hcS 0, hcS 1, (Below.refl _ _).drew⟩ (fun hHeld => ?_)
   have BX := hHeld.2.2
   generalize U20.drew = X22 at *
   refine tkf 0 (some 144) ?_
   refine tkf 1 (some 145) ?_
   refine tkf 2 (some 146) ?_
   refine tkf 3 (some 147) ?_
   refine tkf 4 (some 148) ?_
   refine tkf 5 (some 149) ?_
   refine tkf 6 (some 150) ?_
   refine tkf 7 (some 151) ?_
   refine tkf 8 (some 152) ?_
   refine tkf 9 (some 153) ?_
   refine tkf 10 (some 27) ?_
   refine tkf 11 (some 28) ?_
   refine wpAnyH_done (by as_aux_lemma => kernel_rfl) ?_ _
   have e0 := small_wrap s0 hs0
   have e1 := small_wrap s1 hs1
   rw [e0, e1]
   have a1 : 10000000 ≤ 10000000 + 100000 * s0 := by omega
   have a2 : 10000000 + 100000 * s0 ≤ 40000000 := by omega
   have b1 : 10000000 ≤ 10000000 + 100000 * s1 := by omega
   have b2 : 10000000 + 100000 * s1 ≤ 40000000 := by omega
   clear e0 e1
   generalize 10000000 + 100000 * s0 = na at *
   generalize 10000000 + 100000 * s1 = nb at *
   replace BW := belowCall BW BX
   replace b13 := b13.below BX
   replace b14 := b14.below BX
   clear hcS BX hHeld bT
   have c13 := b13.cell
   have c14 := b14.cell
   have f13 := b13.frozen
   have f14 := b14.frozen
   go_wp2_with fail
   obtain ⟨V23, hV23⟩ : ∃ Y, Y = (X22.setCell ⟨N13, 0, none⟩ (.int .i64 na)).setCell ⟨N14, 0, none⟩ (.int .i64 nb) := ⟨_, rfl⟩
   replace BW := belowSet (belowSet BW lo13 0 (.int .i64 na)) lo14 0 (.int .i64 nb)
   replace b13 := (b13.set 0 (.int .i64 na)).other ⟨N14, 0, none⟩ (.int .i64 nb) hne
   replace b14 := (b14.other ⟨N13, 0, none⟩ (.int .i64 na) (Ne.symm hne)).set 0 (.int .i64 nb)
   rw [← hV23] at BW b13 b14 ⊢
   replace b13 : Box V23 N13 24 #[.int .i64 na, .int .i64 fp, .int .i64 fq] := b13
   replace b14 : Box V23 N14 24 #[.int .i64 nb, .int .i64 gp, .int .i64 gq] := b14
   clear hV23 c13 c14 f13 f14
   refine wp_region_held_drew (S := fun w' => Below V23.heap.size V23 w') (by as_aux_lemma => kernel_rfl) ((Below.refl _ _).drew) (fun hHeld => ?_)
   generalize V23.drew = X24 at *
   have BX := belowCall BW hHeld
   have hX := hHeld.size
   refine tlf 0 (some 158) rfl (.agg #[.int .i64 na, .int .i64 fp, .int .i64 fq]) (exec_load 24 _ rfl N13 0 (by as_aux_lemma => kernel_rfl) #[.int .i64 na, .int .i64 fp, .int .i64 fq] (fun w hS => (b13.below hS).range) _ Tryz.underlying24 rfl filmSize) ?_
   refine tkf 2 (some 160) ?_
   refine tlf 4 (some 162) rfl (.agg #[.int .i64 nb, .int .i64 gp, .int .i64 gq]) (exec_load 24 _ rfl N14 0 (by as_aux_lemma => kernel_rfl) #[.int .i64 nb, .int .i64 gp, .int .i64 gq] (fun w hS => (b14.below hS).range) _ Tryz.underlying24 rfl filmSize) ?_
   refine Mono.join_at (fuel' := 1) (listed' := #[true, true, true, true, true, true, true, false]) (fun (x : World × Option Addr × Nat × Value × Value × Value) a => ((((a.put (some 159) x.2.2.2.1).put (some 161) x.2.2.2.2.1).put (some 163) x.2.2.2.2.2).put (some 164) (.slice x.2.1 (1 + k + 1) x.2.2.1))) (fun x => x.1) (fun x => Below V23.heap.size V23 x.1 ∧ FilmsAt x.1 x.2.1 (1 + k + 1) x.2.2.1 (ins (ins (one1 ⟨na, fp, fq⟩) 1 F k) (1 + k) (one1 ⟨nb, gp, gq⟩) 1)) ?_ ?_
   rotate_left
   ·intro hJ
    refine Mono.fork2 1 5 ?_ ?_
    ·intro K hK
     refine Mono.arma (some 159) hK (.slice (some ⟨X24.heap.size, 0, none⟩) 1 1) ((X24.alloc (.cells (frow (one1 ⟨na, fp, fq⟩) 1).toArray 24))) (belowAlloc hHeld _) (fun hHeld => Mono.pt ?_)
     clear hK K
     refine Mono.fork2 3 5 ?_ ?_
     ·intro K hK
      obtain ⟨p1, c1, W1', hr, ho, hb, _⟩ := app_films 27 (X24.alloc (.cells (frow (one1 ⟨na, fp, fq⟩) 1).toArray 24)) X24.heap.size _ 1 (one1 ⟨na, fp, fq⟩) (owns_one X24 ⟨na, fp, fq⟩ X24.heap.size (Nat.le_refl _)) p' k c' F (hfm.below (belowAlloc BX _)) hnil (by rw [World.size_alloc]; omega) (by omega)
      refine Mono.arma (some 161) hK (.slice p1 (1 + k) c1) W1' (hHeld.trans (hb.mono hX)) (fun hHeld => Mono.pt ?_) rfl (by as_aux_lemma => kernel_rfl) (exec_append (.tmp 159) (.tmp 160) 27 27 rfl _ _ rfl rfl hr)
      clear hK K hr
      refine Mono.sta 5 (some 163) (.slice (some ⟨W1'.heap.size, 0, none⟩) 1 1) ((W1'.alloc (.cells (frow (one1 ⟨nb, gp, gq⟩) 1).toArray 24))) (belowAlloc hHeld _) (fun hHeld => Mono.pt ?_)
      have hs1 := hb.size
      rw [World.size_alloc] at hs1
      obtain ⟨p2, c2, W2', hr, ho2, hb, _⟩ := app_films 27 (W1'.alloc (.cells (frow (one1 ⟨nb, gp, gq⟩) 1).toArray 24)) X24.heap.size _ (1 + k) _ (ownsRow_alloc ho _) (some ⟨W1'.heap.size, 0, none⟩) 1 1 (one1 ⟨nb, gp, gq⟩) (Go.Mono.films_box (by decide) (Box.new _ _ _)) (fun h => by cases h) (by rw [World.size_alloc]; omega) (by omega)
      refine Mono.sta 6 (some 164) (.slice p2 (1 + k + 1) c2) W2' (hHeld.trans (hb.mono hX)) (fun hHeld => Mono.pt ?_) rfl rfl (by as_aux_lemma => kernel_rfl) (by as_aux_lemma => kernel_rfl) (exec_append (.tmp 161) (.tmp 163) 27 27 rfl _ _ rfl rfl hr)
      clear hr
      refine Mono.meet (hJ.out (W2', p2, c2, .slice (some ⟨X24.heap.size, 0, none⟩) 1 1, .slice p1 (1 + k) c1, .slice (some ⟨W1'.heap.size, 0, none⟩) 1 1) ⟨hHeld, ownsRow_films ho2 (by omega)⟩)
     ·intro K hK
      refine Mono.arma (some 163) hK (.slice (some ⟨(X24.alloc (.cells (frow (one1 ⟨na, fp, fq⟩) 1).toArray 24)).heap.size, 0, none⟩) 1 1) (((X24.alloc (.cells (frow (one1 ⟨na, fp, fq⟩) 1).toArray 24)).alloc (.cells (frow (one1 ⟨nb, gp, gq⟩) 1).toArray 24))) (belowAlloc hHeld _) (fun hHeld => Mono.pt ?_)
      clear hK K
      obtain ⟨p1, c1, W1', hr, ho, hb, hgr⟩ := app_films 27 ((X24.alloc (.cells (frow (one1 ⟨na, fp, fq⟩) 1).toArray 24)).alloc (.cells (frow (one1 ⟨nb, gp, gq⟩) 1).toArray 24)) X24.heap.size _ 1 (one1 ⟨na, fp, fq⟩) (ownsRow_alloc (owns_one X24 ⟨na, fp, fq⟩ X24.heap.size (Nat.le_refl _)) _) p' k c' F (hfm.below (belowAlloc (belowAlloc BX _) _)) hnil (by rw [World.size_alloc, World.size_alloc]; omega) (by omega)
      refine Mono.sta 3 (some 161) (.slice p1 (1 + k) c1) W1' (hHeld.trans (hb.mono hX)) (fun hHeld => Mono.pt ?_) rfl rfl (by as_aux_lemma => kernel_rfl) (by as_aux_lemma => kernel_rfl) (exec_append (.tmp 159) (.tmp 160) 27 27 rfl _ _ rfl rfl hr)
      clear hr
      have bg0 := Box.new (X24.alloc (.cells (frow (one1 ⟨na, fp, fq⟩) 1).toArray 24)) 24 (frow (one1 ⟨nb, gp, gq⟩) 1).toArray
      have bg : Box W1' (X24.alloc (.cells (frow (one1 ⟨na, fp, fq⟩) 1).toArray 24)).heap.size 24 (frow (one1 ⟨nb, gp, gq⟩) 1).toArray := ⟨(hgr.block _ bg0.lt (by rw [World.size_alloc]; show some (X24.heap.size + 1) ≠ some X24.heap.size; simp)).trans bg0.blk⟩
      have hs1 := hb.size
      rw [World.size_alloc, World.size_alloc] at hs1
      obtain ⟨p2, c2, W2', hr, ho2, hb, _⟩ := app_films 27 W1' X24.heap.size _ (1 + k) _ ho (some ⟨(X24.alloc (.cells (frow (one1 ⟨na, fp, fq⟩) 1).toArray 24)).heap.size, 0, none⟩) 1 1 (one1 ⟨nb, gp, gq⟩) (Go.Mono.films_box (by decide) bg) (fun h => by cases h) (by omega) (by omega)
      refine Mono.sta 6 (some 164) (.slice p2 (1 + k + 1) c2) W2' (hHeld.trans (hb.mono hX)) (fun hHeld => Mono.pt ?_) rfl rfl (by as_aux_lemma => kernel_rfl) (by as_aux_lemma => kernel_rfl) (exec_append (.tmp 161) (.tmp 163) 27 27 rfl _ _ rfl rfl hr)
      clear hr
      refine Mono.meet (hJ.out (W2', p2, c2, .slice (some ⟨X24.heap.size, 0, none⟩) 1 1, .slice p1 (1 + k) c1, .slice (some ⟨(X24.alloc (.cells (frow (one1 ⟨na, fp, fq⟩) 1).toArray 24)).heap.size, 0, none⟩) 1 1) ⟨hHeld, ownsRow_films ho2 (by omega)⟩)
    ·intro K hK
     refine Mono.arma (some 163) hK (.slice (some ⟨X24.heap.size, 0, none⟩) 1 1) ((X24.alloc (.cells (frow (one1 ⟨nb, gp, gq⟩) 1).toArray 24))) (belowAlloc hHeld _) (fun hHeld => Mono.pt ?_)
     clear hK K
     refine Mono.sta 1 (some 159) (.slice (some ⟨(X24.alloc (.cells (frow (one1 ⟨nb, gp, gq⟩) 1).toArray 24)).heap.size, 0, none⟩) 1 1) (((X24.alloc (.cells (frow (one1 ⟨nb, gp, gq⟩) 1).toArray 24)).alloc (.cells (frow (one1 ⟨na, fp, fq⟩) 1).toArray 24))) (belowAlloc hHeld _) (fun hHeld => Mono.pt ?_)
     have hXg : V23.heap.size ≤ (X24.alloc (.cells (frow (one1 ⟨nb, gp, gq⟩) 1).toArray 24)).heap.size := by rw [World.size_alloc]; omega
     obtain ⟨p1, c1, W1', hr, ho, hb, _⟩ := app_films 27 ((X24.alloc (.cells (frow (one1 ⟨nb, gp, gq⟩) 1).toArray 24)).alloc (.cells (frow (one1 ⟨na, fp, fq⟩) 1).toArray 24)) (X24.alloc (.cells (frow (one1 ⟨nb, gp, gq⟩) 1).toArray 24)).heap.size _ 1 (one1 ⟨na, fp, fq⟩) (owns_one (X24.alloc (.cells (frow (one1 ⟨nb, gp, gq⟩) 1).toArray 24)) ⟨na, fp, fq⟩ (X24.alloc (.cells (frow (one1 ⟨nb, gp, gq⟩) 1).toArray 24)).heap.size (Nat.le_refl _)) p' k c' F (hfm.below (belowAlloc (belowAlloc BX _) _)) hnil (by rw [World.size_alloc (X24.alloc (.cells (frow (one1 ⟨nb, gp, gq⟩) 1).toArray 24))]; omega) (by omega)
     refine Mono.sta 3 (some 161) (.slice p1 (1 + k) c1) W1' (hHeld.trans (hb.mono hXg)) (fun hHeld => Mono.pt ?_) rfl rfl (by as_aux_lemma => kernel_rfl) (by as_aux_lemma => kernel_rfl) (exec_append (.tmp 159) (.tmp 160) 27 27 rfl _ _ rfl rfl hr)
     clear hr
     have bg := ((Box.new X24 24 (frow (one1 ⟨nb, gp, gq⟩) 1).toArray).alloc (.cells (frow (one1 ⟨na, fp, fq⟩) 1).toArray 24)).low hb (by rw [World.size_alloc]; omega)
     have hs1 := hb.size
     rw [World.size_alloc (X24.alloc (.cells (frow (one1 ⟨nb, gp, gq⟩) 1).toArray 24))] at hs1
     obtain ⟨p2, c2, W2', hr, ho2, hb, _⟩ := app_films 27 W1' (X24.alloc (.cells (frow (one1 ⟨nb, gp, gq⟩) 1).toArray 24)).heap.size _ (1 + k) _ ho (some ⟨X24.heap.size, 0, none⟩) 1 1 (one1 ⟨nb, gp, gq⟩) (Go.Mono.films_box (by decide) bg) (fun h => by cases h) (by omega) (by omega)
     refine Mono.sta 6 (some 164) (.slice p2 (1 + k + 1) c2) W2' (hHeld.trans (hb.mono hXg)) (fun hHeld => Mono.pt ?_) rfl rfl (by as_aux_lemma => kernel_rfl) (by as_aux_lemma => kernel_rfl) (exec_append (.tmp 161) (.tmp 163) 27 27 rfl _ _ rfl rfl hr)
     clear hr
     refine Mono.meet (hJ.out (W2', p2, c2, .slice (some ⟨(X24.alloc (.cells (frow (one1 ⟨nb, gp, gq⟩) 1).toArray 24)).heap.size, 0, none⟩) 1 1, .slice p1 (1 + k) c1, .slice (some ⟨X24.heap.size, 0, none⟩) 1 1) ⟨hHeld, ownsRow_films ho2 (by omega)⟩)
   intro x hx
   obtain ⟨Z24, p24, c24, va24, vb24, vc24⟩ := x
   obtain ⟨hHeld, hfm24⟩ := hx
   dsimp only at hHeld hfm24 ⊢
   refine Mono.pt ?_
   refine tkf 7 (some 29) ?_
   refine wpAnyH_done (by as_aux_lemma => kernel_rfl) ?_ _
   clear BX hX b13 b14
   replace BW := belowCall BW hHeld
   clear hHeld
   go_wp2_with fail
   have okf : (Flm.mk na fp fq).ok := ⟨by dsimp only; omega, by dsimp only; omega, by dsimp only; omega, by dsimp only; omega, by dsimp only; omega, by dsimp only; omega⟩
   have okg : (Flm.mk nb gp gq).ok := ⟨by dsimp only; omega, by dsimp only; omega, by dsimp only; omega, by dsimp only; omega, by dsimp only; omega, by dsimp only; omega⟩
   obtain ⟨pe1, pe2⟩ := ends_padded F k ⟨na, fp, fq⟩ ⟨nb, gp, gq⟩ (by dsimp only; omega) (by dsimp only; omega) (Flm.ok.sq' okf) (Flm.ok.sq' okg)
   have hokp : ∀ j, j < 1 + k + 1 → ((ins (ins (one1 ⟨na, fp, fq⟩) 1 F k) (1 + k) (one1 ⟨nb, gp, gq⟩) 1) j).ok := ins_ok (Nat.le_refl _) (ins_ok (Nat.le_refl _) (fun _ _ => okf) hF) (fun _ _ => okg)
   have hr1 := fun W h => refl_ex na nb a1 a2 b1 b2 F k (by omega) hF p' c' W h
   have hr2 := fun W h => refl_ex na nb a1 a2 b1 b2 (ins (ins (one1 ⟨na, fp, fq⟩) 1 F k) (1 + k) (one1 ⟨nb, gp, gq⟩) 1) (1 + k + 1) (by omega) hokp p24 c24 W h
   dsimp only at pe1 pe2
   rw [pe1, pe2] at hr2
   clear pe1 pe2 hokp okf okg
   generalize (ins (ins (one1 ⟨na, fp, fq⟩) 1 F k) (1 + k) (one1 ⟨nb, gp, gq⟩) 1) = FP at *
   generalize back (idx na) (idx nb) (stackN F k) = r at *
   generalize through (idx na) (idx nb) (stackN F k) = t at *
   refine (hr1 _ (hfm.below BW)).mono ?_
   rintro e U25 ⟨C30, C31, rfl, q30, q31, hbF⟩
   replace BW := belowCall BW hbF
   replace hfm24 := hfm24.below hbF
   clear hbF hr1
   go_wp2_with first | (refine wpList_put2 37 30 31 _ _ C30 C31 _ rfl rfl rfl rfl rfl rfl rfl rfl rfl rfl rfl rfl alloc_quot (by as_aux_lemma => (intro _ _; kernel_rfl)) (by as_aux_lemma => (intro _ _; kernel_rfl)) (by as_aux_lemma => (intro _ _; kernel_rfl)) (by as_aux_lemma => (intro _ _; kernel_rfl)) sizeQuot (by rw [q30.size]; rfl) (by rw [q31.size]; rfl) q30.one q31.one ?_; intro V25 B30 B31 _ _ _ hv x30 x31; have y30 := QB.mk x30 (q30.ext (.of_below hv)); have y31 := QB.mk x31 (q31.ext (.of_below hv)); replace BW := belowCall BW hv; replace hfm24 := hfm24.below hv; clear x30 x31 q30 q31 hv)
   refine (hr2 _ hfm24).mono ?_
   rintro e U26 ⟨C33, C34, rfl, q33, q34, hbG⟩
   replace BW := belowCall BW hbG
   replace y30 := y30.below hbG
   replace y31 := y31.below hbG
   clear hbG hr2 hfm24
   go_wp2_with first | (refine wpList_put2 37 33 34 _ _ C33 C34 _ rfl rfl rfl rfl rfl rfl rfl rfl rfl rfl rfl rfl alloc_quot (by as_aux_lemma => (intro _ _; kernel_rfl)) (by as_aux_lemma => (intro _ _; kernel_rfl)) (by as_aux_lemma => (intro _ _; kernel_rfl)) (by as_aux_lemma => (intro _ _; kernel_rfl)) sizeQuot (by rw [q33.size]; rfl) (by rw [q34.size]; rfl) q33.one q34.one ?_; intro V26 B33 B34 _ _ _ hv x33 x34; have y33 := QB.mk x33 (q33.ext (.of_below hv)); have y34 := QB.mk x34 (q34.ext (.of_below hv)); replace BW := belowCall BW hv; replace y30 := y30.below hv; replace y31 := y31.below hv; clear x33 x34 q33 q34 hv) | (refine wpList_load_midG (by rfl) 37 (.tmp 30) rfl B30 0 rfl C30.toList _ y30.box.range Tryz.underlying37 rfl (by rw [Array.length_toList, y30.qv.size]; exact sizeQuot) ?_) | (refine wpList_load_midG (by rfl) 37 (.tmp 33) rfl B33 0 rfl C33.toList _ y33.box.range Tryz.underlying37 rfl (by rw [Array.length_toList, y33.qv.size]; exact sizeQuot) ?_)
   refine (qsame_self _ _ r _ y30.qv y33.qv).mono ?_
   rintro e U27 ⟨rfl, hbH⟩
   replace BW := belowCall BW hbH
   replace y31 := y31.below hbH
   replace y34 := y34.below hbH
   clear hbH y30 y33
   go_wp2_with first | (refine wpList_load_midG (by rfl) 37 (.tmp 31) rfl B31 0 rfl C31.toList _ y31.box.range Tryz.underlying37 rfl (by rw [Array.length_toList, y31.qv.size]; exact sizeQuot) ?_) | (refine wpList_load_midG (by rfl) 37 (.tmp 34) rfl B34 0 rfl C34.toList _ y34.box.range Tryz.underlying37 rfl (by rw [Array.length_toList, y34.qv.size]; exact sizeQuot) ?_)
   refine (qsame_self _ _ t _ y31.qv y34.qv).mono ?_
   rintro e U28 ⟨rfl, hbI⟩
   replace BW := belowCall BW hbI
   clear hbI y31 y34
   go_wp2
   go_ret
   exact ⟨rfl, belowCall B0 BW⟩
 ·intro hJ
  have hLow := hHeld.size
  refine Mono.fork3 1 4 5 ?_ ?_ ?_
  ·intro K hK
   refine Mono.armc (some 47) hK (hq1 X0) (fun e Y1 hR => ?_)
   clear hK K
   obtain ⟨rfl, hbN⟩ := hR
   refine ⟨(belowCall hHeld hbN), fun hHeld => Mono.pt ?_⟩
   replace hLow := hHeld.size
   refine Mono.fork3 3 4 5 ?_ ?_ ?_
   ·intro K hK
    refine Mono.armc (some 49) hK (hq2 Y1) (fun e Y2 hR => ?_)
    clear hK K
    obtain ⟨rfl, hbN⟩ := hR
    refine ⟨(belowCall hHeld hbN), fun hHeld => Mono.pt ?_⟩
    replace hLow := hHeld.size
    refine Mono.fork2 4 5 ?_ ?_
    ·intro K hK
     refine Mono.arma (some 13) hK (.pointer (some ⟨Y2.heap.size, 0, none⟩)) ((Y2.alloc (.cells #[.int .i64 0, .int .i64 0, .int .i64 0] 24))) (belowAlloc hHeld _) (fun hHeld => Mono.pt ?_)
     clear hK K
     have b13 := Box.new Y2 24 #[.int .i64 0, .int .i64 0, .int .i64 0]
     have ge13 := hHeld.size
     obtain ⟨Y3, hY3⟩ : ∃ Y, Y = (Y2.alloc (.cells #[.int .i64 0, .int .i64 0, .int .i64 0] 24)) := ⟨_, rfl⟩
     obtain ⟨N13, hN13⟩ : ∃ Y, Y = Y2.heap.size := ⟨_, rfl⟩
     have lo13 : W1.heap.size ≤ N13 := by rw [hN13]; exact hLow
     rw [← hY3] at hHeld b13 ⊢
     rw [← hN13] at b13 ⊢
     clear hY3 hN13
     replace hLow := hHeld.size
     refine Mono.sta 5 (some 14) (.pointer (some ⟨Y3.heap.size, 0, none⟩)) ((Y3.alloc (.cells #[.int .i64 0, .int .i64 0, .int .i64 0] 24))) (belowAlloc hHeld _) (fun hHeld => Mono.pt ?_)
     have lt13 := b13.lt
     replace b13 := b13.alloc (.cells #[.int .i64 0, .int .i64 0, .int .i64 0] 24)
     have b14 := Box.new Y3 24 #[.int .i64 0, .int .i64 0, .int .i64 0]
     have ge14 := hHeld.size
     obtain ⟨Y4, hY4⟩ : ∃ Y, Y = (Y3.alloc (.cells #[.int .i64 0, .int .i64 0, .int .i64 0] 24)) := ⟨_, rfl⟩
     obtain ⟨N14, hN14⟩ : ∃ Y, Y = Y3.heap.size := ⟨_, rfl⟩
     have lo14 : W1.heap.size ≤ N14 := by rw [hN14]; exact hLow
     rw [← hN14] at lt13
     rw [← hY4] at hHeld b14 b13 ⊢
     rw [← hN14] at b14 ⊢
     clear hY4 hN14
     replace hLow := hHeld.size
     have hne : N13 ≠ N14 := by omega
     refine Mono.meet (hJ.out (Y4, N13, N14) ⟨hHeld, lo13, lo14, hne, b13, b14⟩)
    ·intro K hK
     refine Mono.arma (some 14) hK (.pointer (some ⟨Y2.heap.size, 0, none⟩)) ((Y2.alloc (.cells #[.int .i64 0, .int .i64 0, .int .i64 0] 24))) (belowAlloc hHeld _) (fun hHeld => Mono.pt ?_)
     clear hK K
     have b14 := Box.new Y2 24 #[.int .i64 0, .int .i64 0, .int .i64 0]
     have ge14 := hHeld.size
     obtain ⟨Y3, hY3⟩ : ∃ Y, Y = (Y2.alloc (.cells #[.int .i64 0, .int .i64 0, .int .i64 0] 24)) := ⟨_, rfl⟩
     obtain ⟨N14, hN14⟩ : ∃ Y, Y = Y2.heap.size := ⟨_, rfl⟩
     have lo14 : W1.heap.size ≤ N14 := by rw [hN14]; exact hLow
     rw [← hY3] at hHeld b14 ⊢
     rw [← hN14] at b14 ⊢
     clear hY3 hN14
     replace hLow := hHeld.size
     refine Mono.sta 4 (some 13) (.pointer (some ⟨Y3.heap.size, 0, none⟩)) ((Y3.alloc (.cells #[.int .i64 0, .int .i64 0, .int .i64 0] 24))) (belowAlloc hHeld _) (fun hHeld => Mono.pt ?_)
     have lt14 := b14.lt
     replace b14 := b14.alloc (.cells #[.int .i64 0, .int .i64 0, .int .i64 0] 24)
     have b13 := Box.new Y3 24 #[.int .i64 0, .int .i64 0, .int .i64 0]
     have ge13 := hHeld.size
     obtain ⟨Y4, hY4⟩ : ∃ Y, Y = (Y3.alloc (.cells #[.int .i64 0, .int .i64 0, .int .i64 0] 24)) := ⟨_, rfl⟩
     obtain ⟨N13, hN13⟩ : ∃ Y, Y = Y3.heap.size := ⟨_, rfl⟩
     have lo13 : W1.heap.size ≤ N13 := by rw [hN13]; exact hLow
     rw [← hN13] at lt14
     rw [← hY4] at hHeld b13 b14 ⊢
     rw [← hN13] at b13 ⊢
     clear hY4 hN13
     replace hLow := hHeld.size
     have hne : N13 ≠ N14 := by omega
     refine Mono.meet (hJ.out (Y4, N13, N14) ⟨hHeld, lo13, lo14, hne, b13, b14⟩)
   ·intro K hK
    refine Mono.arma (some 13) hK (.pointer (some ⟨Y1.heap.size, 0, none⟩)) ((Y1.alloc (.cells #[.int .i64 0, .int .i64 0, .int .i64 0] 24))) (belowAlloc hHeld _) (fun hHeld => Mono.pt ?_)
    clear hK K
    have b13 := Box.new Y1 24 #[.int .i64 0, .int .i64 0, .int .i64 0]
    have ge13 := hHeld.size
    obtain ⟨Y2, hY2⟩ : ∃ Y, Y = (Y1.alloc (.cells #[.int .i64 0, .int .i64 0, .int .i64 0] 24)) := ⟨_, rfl⟩
    obtain ⟨N13, hN13⟩ : ∃ Y, Y = Y1.heap.size := ⟨_, rfl⟩
    have lo13 : W1.heap.size ≤ N13 := by rw [hN13]; exact hLow
    rw [← hY2] at hHeld b13 ⊢
    rw [← hN13] at b13 ⊢
    clear hY2 hN13
    replace hLow := hHeld.size
    refine Mono.fork2 3 5 ?_ ?_
    ·intro K hK
     refine Mono.armc (some 49) hK (hq2 Y2) (fun e Y3 hR => ?_)
     clear hK K
     obtain ⟨rfl, hbN⟩ := hR
     refine ⟨(belowCall hHeld hbN), fun hHeld => Mono.pt ?_⟩
     replace b13 := b13.below hbN
     replace hLow := hHeld.size
     refine Mono.sta 5 (some 14) (.pointer (some ⟨Y3.heap.size, 0, none⟩)) ((Y3.alloc (.cells #[.int .i64 0, .int .i64 0, .int .i64 0] 24))) (belowAlloc hHeld _) (fun hHeld => Mono.pt ?_)
     have lt13 := b13.lt
     replace b13 := b13.alloc (.cells #[.int .i64 0, .int .i64 0, .int .i64 0] 24)
     have b14 := Box.new Y3 24 #[.int .i64 0, .int .i64 0, .int .i64 0]
     have ge14 := hHeld.size
     obtain ⟨Y4, hY4⟩ : ∃ Y, Y = (Y3.alloc (.cells #[.int .i64 0, .int .i64 0, .int .i64 0] 24)) := ⟨_, rfl⟩
     obtain ⟨N14, hN14⟩ : ∃ Y, Y = Y3.heap.size := ⟨_, rfl⟩
     have lo14 : W1.heap.size ≤ N14 := by rw [hN14]; exact hLow
     rw [← hN14] at lt13
     rw [← hY4] at hHeld b14 b13 ⊢
     rw [← hN14] at b14 ⊢
     clear hY4 hN14
     replace hLow := hHeld.size
     have hne : N13 ≠ N14 := by omega
     refine Mono.meet (hJ.out (Y4, N13, N14) ⟨hHeld, lo13, lo14, hne, b13, b14⟩)
    ·intro K hK
     refine Mono.arma (some 14) hK (.pointer (some ⟨Y2.heap.size, 0, none⟩)) ((Y2.alloc (.cells #[.int .i64 0, .int .i64 0, .int .i64 0] 24))) (belowAlloc hHeld _) (fun hHeld => Mono.pt ?_)
     clear hK K
     have lt13 := b13.lt
     replace b13 := b13.alloc (.cells #[.int .i64 0, .int .i64 0, .int .i64 0] 24)
     have b14 := Box.new Y2 24 #[.int .i64 0, .int .i64 0, .int .i64 0]
     have ge14 := hHeld.size
     obtain ⟨Y3, hY3⟩ : ∃ Y, Y = (Y2.alloc (.cells #[.int .i64 0, .int .i64 0, .int .i64 0] 24)) := ⟨_, rfl⟩
     obtain ⟨N14, hN14⟩ : ∃ Y, Y = Y2.heap.size := ⟨_, rfl⟩
     have lo14 : W1.heap.size ≤ N14 := by rw [hN14]; exact hLow
     rw [← hN14] at lt13
     rw [← hY3] at hHeld b14 b13 ⊢
     rw [← hN14] at b14 ⊢
     clear hY3 hN14
     replace hLow := hHeld.size
     refine Mono.stc 3 (some 49) (hq2 Y3) (fun e Y4 hR => ?_)
     obtain ⟨rfl, hbN⟩ := hR
     refine ⟨(belowCall hHeld hbN), fun hHeld => Mono.pt ?_⟩
     replace b13 := b13.below hbN
     replace b14 := b14.below hbN
     replace hLow := hHeld.size
     have hne : N13 ≠ N14 := by omega
     refine Mono.meet (hJ.out (Y4, N13, N14) ⟨hHeld, lo13, lo14, hne, b13, b14⟩)
   ·intro K hK
    refine Mono.arma (some 14) hK (.pointer (some ⟨Y1.heap.size, 0, none⟩)) ((Y1.alloc (.cells #[.int .i64 0, .int .i64 0, .int .i64 0] 24))) (belowAlloc hHeld _) (fun hHeld => Mono.pt ?_)
    clear hK K
    have b14 := Box.new Y1 24 #[.int .i64 0, .int .i64 0, .int .i64 0]
    have ge14 := hHeld.size
    obtain ⟨Y2, hY2⟩ : ∃ Y, Y = (Y1.alloc (.cells #[.int .i64 0, .int .i64 0, .int .i64 0] 24)) := ⟨_, rfl⟩
    obtain ⟨N14, hN14⟩ : ∃ Y, Y = Y1.heap.size := ⟨_, rfl⟩
    have lo14 : W1.heap.size ≤ N14 := by rw [hN14]; exact hLow
    rw [← hY2] at hHeld b14 ⊢
    rw [← hN14] at b14 ⊢
    clear hY2 hN14
    replace hLow := hHeld.size
    refine Mono.fork2 3 4 ?_ ?_
    ·intro K hK
     refine Mono.armc (some 49) hK (hq2 Y2) (fun e Y3 hR => ?_)
     clear hK K
     obtain ⟨rfl, hbN⟩ := hR
     refine ⟨(belowCall hHeld hbN), fun hHeld => Mono.pt ?_⟩
     replace b14 := b14.below hbN
     replace hLow := hHeld.size
     refine Mono.sta 4 (some 13) (.pointer (some ⟨Y3.heap.size, 0, none⟩)) ((Y3.alloc (.cells #[.int .i64 0, .int .i64 0, .int .i64 0] 24))) (belowAlloc hHeld _) (fun hHeld => Mono.pt ?_)
     have lt14 := b14.lt
     replace b14 := b14.alloc (.cells #[.int .i64 0, .int .i64 0, .int .i64 0] 24)
     have b13 := Box.new Y3 24 #[.int .i64 0, .int .i64 0, .int .i64 0]
     have ge13 := hHeld.size
     obtain ⟨Y4, hY4⟩ : ∃ Y, Y = (Y3.alloc (.cells #[.int .i64 0, .int .i64 0, .int .i64 0] 24)) := ⟨_, rfl⟩
     obtain ⟨N13, hN13⟩ : ∃ Y, Y = Y3.heap.size := ⟨_, rfl⟩
     have lo13 : W1.heap.size ≤ N13 := by rw [hN13]; exact hLow
     rw [← hN13] at lt14
     rw [← hY4] at hHeld b13 b14 ⊢
     rw [← hN13] at b13 ⊢
     clear hY4 hN13
     replace hLow := hHeld.size
     have hne : N13 ≠ N14 := by omega
     refine Mono.meet (hJ.out (Y4, N13, N14) ⟨hHeld, lo13, lo14, hne, b13, b14⟩)
    ·intro K hK
     refine Mono.arma (some 13) hK (.pointer (some ⟨Y2.heap.size, 0, none⟩)) ((Y2.alloc (.cells #[.int .i64 0, .int .i64 0, .int .i64 0] 24))) (belowAlloc hHeld _) (fun hHeld => Mono.pt ?_)
     clear hK K
     have lt14 := b14.lt
     replace b14 := b14.alloc (.cells #[.int .i64 0, .int .i64 0, .int .i64 0] 24)
     have b13 := Box.new Y2 24 #[.int .i64 0, .int .i64 0, .int .i64 0]
     have ge13 := hHeld.size
     obtain ⟨Y3, hY3⟩ : ∃ Y, Y = (Y2.alloc (.cells #[.int .i64 0, .int .i64 0, .int .i64 0] 24)) := ⟨_, rfl⟩
     obtain ⟨N13, hN13⟩ : ∃ Y, Y = Y2.heap.size := ⟨_, rfl⟩
     have lo13 : W1.heap.size ≤ N13 := by rw [hN13]; exact hLow
     rw [← hN13] at lt14
     rw [← hY3] at hHeld b13 b14 ⊢
     rw [← hN13] at b13 ⊢
     clear hY3 hN13
     replace hLow := hHeld.size
     refine Mono.stc 3 (some 49) (hq2 Y3) (fun e Y4 hR => ?_)
     obtain ⟨rfl, hbN⟩ := hR
     refine ⟨(belowCall hHeld hbN), fun hHeld => Mono.pt ?_⟩
     replace b13 := b13.below hbN
     replace b14 := b14.below hbN
     replace hLow := hHeld.size
     have hne : N13 ≠ N14 := by omega
     refine Mono.meet (hJ.out (Y4, N13, N14) ⟨hHeld, lo13, lo14, hne, b13, b14⟩)
  ·intro K hK
   refine Mono.arma (some 13) hK (.pointer (some ⟨X0.heap.size, 0, none⟩)) ((X0.alloc (.cells #[.int .i64 0, .int .i64 0, .int .i64 0] 24))) (belowAlloc hHeld _) (fun hHeld => Mono.pt ?_)
   clear hK K
   have b13 := Box.new X0 24 #[.int .i64 0, .int .i64 0, .int .i64 0]
   have ge13 := hHeld.size
   obtain ⟨Y1, hY1⟩ : ∃ Y, Y = (X0.alloc (.cells #[.int .i64 0, .int .i64 0, .int .i64 0] 24)) := ⟨_, rfl⟩
   obtain ⟨N13, hN13⟩ : ∃ Y, Y = X0.heap.size := ⟨_, rfl⟩
   have lo13 : W1.heap.size ≤ N13 := by rw [hN13]; exact hLow
   rw [← hY1] at hHeld b13 ⊢
   rw [← hN13] at b13 ⊢
   clear hY1 hN13
   replace hLow := hHeld.size
   refine Mono.fork2 1 5 ?_ ?_
   ·intro K hK
    refine Mono.armc (some 47) hK (hq1 Y1) (fun e Y2 hR => ?_)
    clear hK K
    obtain ⟨rfl, hbN⟩ := hR
    refine ⟨(belowCall hHeld hbN), fun hHeld => Mono.pt ?_⟩
    replace b13 := b13.below hbN
    replace hLow := hHeld.size
    refine Mono.fork2 3 5 ?_ ?_
    ·intro K hK
     refine Mono.armc (some 49) hK (hq2 Y2) (fun e Y3 hR => ?_)
     clear hK K
     obtain ⟨rfl, hbN⟩ := hR
     refine ⟨(belowCall hHeld hbN), fun hHeld => Mono.pt ?_⟩
     replace b13 := b13.below hbN
     replace hLow := hHeld.size
     refine Mono.sta 5 (some 14) (.pointer (some ⟨Y3.heap.size, 0, none⟩)) ((Y3.alloc (.cells #[.int .i64 0, .int .i64 0, .int .i64 0] 24))) (belowAlloc hHeld _) (fun hHeld => Mono.pt ?_)
     have lt13 := b13.lt
     replace b13 := b13.alloc (.cells #[.int .i64 0, .int .i64 0, .int .i64 0] 24)
     have b14 := Box.new Y3 24 #[.int .i64 0, .int .i64 0, .int .i64 0]
     have ge14 := hHeld.size
     obtain ⟨Y4, hY4⟩ : ∃ Y, Y = (Y3.alloc (.cells #[.int .i64 0, .int .i64 0, .int .i64 0] 24)) := ⟨_, rfl⟩
     obtain ⟨N14, hN14⟩ : ∃ Y, Y = Y3.heap.size := ⟨_, rfl⟩
     have lo14 : W1.heap.size ≤ N14 := by rw [hN14]; exact hLow
     rw [← hN14] at lt13
     rw [← hY4] at hHeld b14 b13 ⊢
     rw [← hN14] at b14 ⊢
     clear hY4 hN14
     replace hLow := hHeld.size
     have hne : N13 ≠ N14 := by omega
     refine Mono.meet (hJ.out (Y4, N13, N14) ⟨hHeld, lo13, lo14, hne, b13, b14⟩)
    ·intro K hK
     refine Mono.arma (some 14) hK (.pointer (some ⟨Y2.heap.size, 0, none⟩)) ((Y2.alloc (.cells #[.int .i64 0, .int .i64 0, .int .i64 0] 24))) (belowAlloc hHeld _) (fun hHeld => Mono.pt ?_)
     clear hK K
     have lt13 := b13.lt
     replace b13 := b13.alloc (.cells #[.int .i64 0, .int .i64 0, .int .i64 0] 24)
     have b14 := Box.new Y2 24 #[.int .i64 0, .int .i64 0, .int .i64 0]
     have ge14 := hHeld.size
     obtain ⟨Y3, hY3⟩ : ∃ Y, Y = (Y2.alloc (.cells #[.int .i64 0, .int .i64 0, .int .i64 0] 24)) := ⟨_, rfl⟩
     obtain ⟨N14, hN14⟩ : ∃ Y, Y = Y2.heap.size := ⟨_, rfl⟩
     have lo14 : W1.heap.size ≤ N14 := by rw [hN14]; exact hLow
     rw [← hN14] at lt13
     rw [← hY3] at hHeld b14 b13 ⊢
     rw [← hN14] at b14 ⊢
     clear hY3 hN14
     replace hLow := hHeld.size
     refine Mono.stc 3 (some 49) (hq2 Y3) (fun e Y4 hR => ?_)
     obtain ⟨rfl, hbN⟩ := hR
     refine ⟨(belowCall hHeld hbN), fun hHeld => Mono.pt ?_⟩
     replace b13 := b13.below hbN
     replace b14 := b14.below hbN
     replace hLow := hHeld.size
     have hne : N13 ≠ N14 := by omega
     refine Mono.meet (hJ.out (Y4, N13, N14) ⟨hHeld, lo13, lo14, hne, b13, b14⟩)
   ·intro K hK
    refine Mono.arma (some 14) hK (.pointer (some ⟨Y1.heap.size, 0, none⟩)) ((Y1.alloc (.cells #[.int .i64 0, .int .i64 0, .int .i64 0] 24))) (belowAlloc hHeld _) (fun hHeld => Mono.pt ?_)
    clear hK K
    have lt13 := b13.lt
    replace b13 := b13.alloc (.cells #[.int .i64 0, .int .i64 0, .int .i64 0] 24)
    have b14 := Box.new Y1 24 #[.int .i64 0, .int .i64 0, .int .i64 0]
    have ge14 := hHeld.size
    obtain ⟨Y2, hY2⟩ : ∃ Y, Y = (Y1.alloc (.cells #[.int .i64 0, .int .i64 0, .int .i64 0] 24)) := ⟨_, rfl⟩
    obtain ⟨N14, hN14⟩ : ∃ Y, Y = Y1.heap.size := ⟨_, rfl⟩
    have lo14 : W1.heap.size ≤ N14 := by rw [hN14]; exact hLow
    rw [← hN14] at lt13
    rw [← hY2] at hHeld b14 b13 ⊢
    rw [← hN14] at b14 ⊢
    clear hY2 hN14
    replace hLow := hHeld.size
    refine Mono.stc 1 (some 47) (hq1 Y2) (fun e Y3 hR => ?_)
    obtain ⟨rfl, hbN⟩ := hR
    refine ⟨(belowCall hHeld hbN), fun hHeld => Mono.pt ?_⟩
    replace b13 := b13.below hbN
    replace b14 := b14.below hbN
    replace hLow := hHeld.size
    refine Mono.stc 3 (some 49) (hq2 Y3) (fun e Y4 hR => ?_)
    obtain ⟨rfl, hbN⟩ := hR
    refine ⟨(belowCall hHeld hbN), fun hHeld => Mono.pt ?_⟩
    replace b13 := b13.below hbN
    replace b14 := b14.below hbN
    replace hLow := hHeld.size
    have hne : N13 ≠ N14 := by omega
    refine Mono.meet (hJ.out (Y4, N13, N14) ⟨hHeld, lo13, lo14, hne, b13, b14⟩)
  ·intro K hK
   refine Mono.arma (some 14) hK (.pointer (some ⟨X0.heap.size, 0, none⟩)) ((X0.alloc (.cells #[.int .i64 0, .int .i64 0, .int .i64 0] 24))) (belowAlloc hHeld _) (fun hHeld => Mono.pt ?_)
   clear hK K
   have b14 := Box.new X0 24 #[.int .i64 0, .int .i64 0, .int .i64 0]
   have ge14 := hHeld.size
   obtain ⟨Y1, hY1⟩ : ∃ Y, Y = (X0.alloc (.cells #[.int .i64 0, .int .i64 0, .int .i64 0] 24)) := ⟨_, rfl⟩
   obtain ⟨N14, hN14⟩ : ∃ Y, Y = X0.heap.size := ⟨_, rfl⟩
   have lo14 : W1.heap.size ≤ N14 := by rw [hN14]; exact hLow
   rw [← hY1] at hHeld b14 ⊢
   rw [← hN14] at b14 ⊢
   clear hY1 hN14
   replace hLow := hHeld.size
   refine Mono.fork2 1 4 ?_ ?_
   ·intro K hK
    refine Mono.armc (some 47) hK (hq1 Y1) (fun e Y2 hR => ?_)
    clear hK K
    obtain ⟨rfl, hbN⟩ := hR
    refine ⟨(belowCall hHeld hbN), fun hHeld => Mono.pt ?_⟩
    replace b14 := b14.below hbN
    replace hLow := hHeld.size
    refine Mono.fork2 3 4 ?_ ?_
    ·intro K hK
     refine Mono.armc (some 49) hK (hq2 Y2) (fun e Y3 hR => ?_)
     clear hK K
     obtain ⟨rfl, hbN⟩ := hR
     refine ⟨(belowCall hHeld hbN), fun hHeld => Mono.pt ?_⟩
     replace b14 := b14.below hbN
     replace hLow := hHeld.size
     refine Mono.sta 4 (some 13) (.pointer (some ⟨Y3.heap.size, 0, none⟩)) ((Y3.alloc (.cells #[.int .i64 0, .int .i64 0, .int .i64 0] 24))) (belowAlloc hHeld _) (fun hHeld => Mono.pt ?_)
     have lt14 := b14.lt
     replace b14 := b14.alloc (.cells #[.int .i64 0, .int .i64 0, .int .i64 0] 24)
     have b13 := Box.new Y3 24 #[.int .i64 0, .int .i64 0, .int .i64 0]
     have ge13 := hHeld.size
     obtain ⟨Y4, hY4⟩ : ∃ Y, Y = (Y3.alloc (.cells #[.int .i64 0, .int .i64 0, .int .i64 0] 24)) := ⟨_, rfl⟩
     obtain ⟨N13, hN13⟩ : ∃ Y, Y = Y3.heap.size := ⟨_, rfl⟩
     have lo13 : W1.heap.size ≤ N13 := by rw [hN13]; exact hLow
     rw [← hN13] at lt14
     rw [← hY4] at hHeld b13 b14 ⊢
     rw [← hN13] at b13 ⊢
     clear hY4 hN13
     replace hLow := hHeld.size
     have hne : N13 ≠ N14 := by omega
     refine Mono.meet (hJ.out (Y4, N13, N14) ⟨hHeld, lo13, lo14, hne, b13, b14⟩)
    ·intro K hK
     refine Mono.arma (some 13) hK (.pointer (some ⟨Y2.heap.size, 0, none⟩)) ((Y2.alloc (.cells #[.int .i64 0, .int .i64 0, .int .i64 0] 24))) (belowAlloc hHeld _) (fun hHeld => Mono.pt ?_)
     clear hK K
     have lt14 := b14.lt
     replace b14 := b14.alloc (.cells #[.int .i64 0, .int .i64 0, .int .i64 0] 24)
     have b13 := Box.new Y2 24 #[.int .i64 0, .int .i64 0, .int .i64 0]
     have ge13 := hHeld.size
     obtain ⟨Y3, hY3⟩ : ∃ Y, Y = (Y2.alloc (.cells #[.int .i64 0, .int .i64 0, .int .i64 0] 24)) := ⟨_, rfl⟩
     obtain ⟨N13, hN13⟩ : ∃ Y, Y = Y2.heap.size := ⟨_, rfl⟩
     have lo13 : W1.heap.size ≤ N13 := by rw [hN13]; exact hLow
     rw [← hN13] at lt14
     rw [← hY3] at hHeld b13 b14 ⊢
     rw [← hN13] at b13 ⊢
     clear hY3 hN13
     replace hLow := hHeld.size
     refine Mono.stc 3 (some 49) (hq2 Y3) (fun e Y4 hR => ?_)
     obtain ⟨rfl, hbN⟩ := hR
     refine ⟨(belowCall hHeld hbN), fun hHeld => Mono.pt ?_⟩
     replace b13 := b13.below hbN
     replace b14 := b14.below hbN
     replace hLow := hHeld.size
     have hne : N13 ≠ N14 := by omega
     refine Mono.meet (hJ.out (Y4, N13, N14) ⟨hHeld, lo13, lo14, hne, b13, b14⟩)
   ·intro K hK
    refine Mono.arma (some 13) hK (.pointer (some ⟨Y1.heap.size, 0, none⟩)) ((Y1.alloc (.cells #[.int .i64 0, .int .i64 0, .int .i64 0] 24))) (belowAlloc hHeld _) (fun hHeld => Mono.pt ?_)
    clear hK K
    have lt14 := b14.lt
    replace b14 := b14.alloc (.cells #[.int .i64 0, .int .i64 0, .int .i64 0] 24)
    have b13 := Box.new Y1 24 #[.int .i64 0, .int .i64 0, .int .i64 0]
    have ge13 := hHeld.size
    obtain ⟨Y2, hY2⟩ : ∃ Y, Y = (Y1.alloc (.cells #[.int .i64 0, .int .i64 0, .int .i64 0] 24)) := ⟨_, rfl⟩
    obtain ⟨N13, hN13⟩ : ∃ Y, Y = Y1.heap.size := ⟨_, rfl⟩
    have lo13 : W1.heap.size ≤ N13 := by rw [hN13]; exact hLow
    rw [← hN13] at lt14
    rw [← hY2] at hHeld b13 b14 ⊢
    rw [← hN13] at b13 ⊢
    clear hY2 hN13
    replace hLow := hHeld.size
    refine Mono.stc 1 (some 47) (hq1 Y2) (fun e Y3 hR => ?_)
    obtain ⟨rfl, hbN⟩ := hR
    refine ⟨(belowCall hHeld hbN), fun hHeld => Mono.pt ?_⟩
    replace b13 := b13.below hbN
    replace b14 := b14.below hbN
    replace hLow := hHeld.size
    refine Mono.stc 3 (some 49) (hq2 Y3) (fun e Y4 hR => ?_)
    obtain ⟨rfl, hbN⟩ := hR
    refine ⟨(belowCall hHeld hbN), fun hHeld => Mono.pt ?_⟩
    replace b13 := b13.below hbN
    replace b14 := b14.below hbN
    replace hLow := hHeld.size
    have hne : N13 ≠ N14 := by omega
    refine Mono.meet (hJ.out (Y4, N13, N14) ⟨hHeld, lo13, lo14, hne, b13, b14⟩)
end Go.Proofs.YtdgodcgdlfjpaaaGreatDoor
