/-
  The laws CqlBack, CqlAgain, CqlTexts walked. Own text, printed by a program. Conditions: none.
-/
import Derived.Test.YtlfpehljahgbkaaGreatDoorCqV
import Derived.Test.YtlfpehljahgbkaaGreatDoorCqWide
namespace Go.Proofs.YtlfpehljahgbkaaGreatDoor
open Go Go.Sx
theorem q_small {s : List UInt8} (h : s.length ≤ 10000) : (Cq.parse s).1.size ≤ 1000000000 ∧ (Cq.parse s).1.wide ≤ 300000000 ∧ (Cq.form (Cq.parse s).1 = true → (Cq.write (Cq.parse s).1).length ≤ 1000000000) := by
  have h1 := Cq.parse_size s
  have h2 := Cq.parse_wide s
  have h3 : (s.length + 1) * (s.length + 10) ≤ 10001 * 10010 := Nat.mul_le_mul (by omega) (by omega)
  refine ⟨by omega, by omega, fun hf => ?_⟩
  have := Cq.write_le hf
  omega
set_option maxRecDepth 20000 in
theorem Back_ok (l : List Int) (v : Value) (I : Heap) (ht : Tabs I) (hl : IntSl I l v) : Pure Tryz.prog 4 [v] I (.bool true) := by
  refine Ctr.toPure ?_
  obtain ⟨hf, hd, hw, hz⟩ := Cq.madeQ_form l
  have hwd := Cq.wide_write hf
  have hr : Cq.right (Cq.madeQ l) = true := by unfold Cq.right; rw [hf]; simp; omega
  have hpr : Cq.print (Cq.madeQ l) = Cq.write (Cq.madeQ l) := by unfold Cq.print; rw [if_pos hr]
  have hp1 := Cq.parse_write hf (by omega)
  have hp2 := Cq.parse_paren hf (by omega)
  refine Ctr.of_body Tryz.func4 rfl (by decide) (Nat.le_of_ble_eq_true rfl) ?_
  intro w0 hw0
  refine Cj.seq ?_
  refine Cj.region ?_
  refine J.y (yl_assign rfl rfl) rfl rfl rfl ?_
  refine J.nil ?_
  refine Ej.seq ?_
  refine Cj.seq ?_
  refine Cj.region ?_
  refine J.op rfl (op_pure rfl rfl rfl rfl rfl (sanity_ok _ ht) ?_)
  refine J.y (yl_assign rfl rfl) rfl rfl rfl ?_
  refine J.nil ?_
  refine Ej.seq ?_
  refine Cj.seq ?_
  refine Cj.region ?_
  refine J.y (yl_move rfl rfl) rfl rfl rfl ?_
  refine J.op rfl (op_call (H1 := []) rfl rfl rfl rfl rfl (Made_ok v l _ hl) ?_ (fun _ _ _ _ h => by obtain ⟨⟨_, h, _⟩, _⟩ := h; cases h) (fun _ _ h => by obtain ⟨⟨_, h, _⟩, _⟩ := h; cases h))
  intro v1 I2 H3 hle4 hp5
  have ht := ht.mono hle4
  have hl := hl.mono hle4
  obtain ⟨⟨w, h, pp, cc, rfl, hps⟩, rfl⟩ := hp5; cases h
  refine J.op rfl (op_alloc rfl rfl rfl Tryz.zeroValue28 rfl ?_)
  intro b6 hb6
  refine J.op rfl (op_store 0 rfl rfl rfl rfl rfl rfl Tryz.sizeOf28 rfl rfl (LSpl.c (LSpl.c (LSpl.c (LSpl.c (LSpl.c LSpl.z))))) LSet.z ?_)
  refine J.nil ?_
  refine Ej.seq ?_
  refine Cj.seq ?_
  refine Cj.region ?_
  refine J.y (yl_loadAgg rfl rfl Tryz.isAgg28 Tryz.sizeOf28 (Blk.at 0 rfl) rfl rfl) rfl rfl rfl ?_
  refine J.op rfl (op_pure rfl rfl rfl rfl rfl (cPrint_ok (Cq.madeQ l) pp cc (by omega) (by omega) (fun _ => by omega) _ hps) ?_)
  refine J.eqv 16 rfl (show _ = str (Cq.write (Cq.madeQ l)) from (by rw [hpr])) ?_
  refine J.y (yl_assign rfl rfl) rfl rfl rfl ?_
  refine J.nil ?_
  refine Ej.seq ?_
  refine Cj.seq ?_
  refine Cj.region ?_
  refine J.y (yl_move rfl rfl) rfl rfl rfl ?_
  refine J.op rfl (op_call (H1 := []) rfl rfl rfl rfl rfl (cParse_at (Cq.write (Cq.madeQ l)) (by omega) (Cq.madeQ l) 0 0 hp1 _ ht) ?_ (fun _ _ _ _ h => by obtain ⟨⟨_, _, h, _⟩, _⟩ := h; cases h) (fun _ _ h => by obtain ⟨⟨_, _, h, _⟩, _⟩ := h; cases h))
  intro v7 I8 H9 hle10 hp11
  have ht := ht.mono hle10
  have hl := hl.mono hle10
  have hps := hps.mono hle10
  obtain ⟨⟨p1, c1, h, hps1⟩, rfl⟩ := hp11; cases h
  refine J.y (yl_move rfl rfl) rfl rfl rfl ?_
  refine J.y (yl_extract rfl rfl rfl) rfl rfl rfl ?_
  refine J.y (yl_extract rfl rfl rfl) rfl rfl rfl ?_
  refine J.y (yl_extract rfl rfl rfl) rfl rfl rfl ?_
  refine J.op rfl (op_alloc rfl rfl rfl Tryz.zeroValue28 rfl ?_)
  intro b12 hb12
  refine J.op rfl (op_store 0 rfl rfl rfl rfl rfl rfl Tryz.sizeOf28 rfl rfl (LSpl.c (LSpl.c (LSpl.c (LSpl.c (LSpl.c LSpl.z))))) LSet.z ?_)
  refine J.y (yl_assign rfl rfl) rfl rfl rfl ?_
  refine J.y (yl_assign rfl rfl) rfl rfl rfl ?_
  refine J.nil ?_
  refine Ej.seq ?_
  refine Cj.seq ?_
  refine Cj.region ?_
  refine J.y (yl_move rfl rfl) rfl rfl rfl ?_
  refine J.y (yl_cat rfl rfl rfl (by first | omega | (simp only [List.length_append]; omega) | (simp; omega))) rfl rfl rfl ?_
  refine J.y (yl_cat rfl rfl rfl (by first | omega | (simp only [List.length_append]; omega) | (simp; omega))) rfl rfl rfl ?_
  refine J.op rfl (op_call (H1 := []) rfl rfl rfl rfl rfl (cParse_at ([40, 32] ++ Cq.write (Cq.madeQ l) ++ [41]) (by simp; omega) (Cq.madeQ l) 0 0 hp2 _ ht) ?_ (fun _ _ _ _ h => by obtain ⟨⟨_, _, h, _⟩, _⟩ := h; cases h) (fun _ _ h => by obtain ⟨⟨_, _, h, _⟩, _⟩ := h; cases h))
  intro v13 I14 H15 hle16 hp17
  have ht := ht.mono hle16
  have hl := hl.mono hle16
  have hps := hps.mono hle16
  have hps1 := hps1.mono hle16
  obtain ⟨⟨p2, c2, h, hps2⟩, rfl⟩ := hp17; cases h
  refine J.y (yl_move rfl rfl) rfl rfl rfl ?_
  refine J.y (yl_extract rfl rfl rfl) rfl rfl rfl ?_
  refine J.y (yl_extract rfl rfl rfl) rfl rfl rfl ?_
  refine J.y (yl_extract rfl rfl rfl) rfl rfl rfl ?_
  refine J.op rfl (op_alloc rfl rfl rfl Tryz.zeroValue28 rfl ?_)
  intro b18 hb18
  refine J.op rfl (op_store 0 rfl rfl rfl rfl rfl rfl Tryz.sizeOf28 rfl rfl (LSpl.c (LSpl.c (LSpl.c (LSpl.c (LSpl.c LSpl.z))))) LSet.z ?_)
  refine J.y (yl_assign rfl rfl) rfl rfl rfl ?_
  refine J.y (yl_assign rfl rfl) rfl rfl rfl ?_
  refine J.nil ?_
  refine Ej.seq ?_
  refine Cj.seq ?_
  refine Cj.region ?_
  refine J.y (yl_move rfl rfl) rfl rfl rfl ?_
  refine J.y (yl_move rfl rfl) rfl rfl rfl ?_
  refine J.opG 1 32 true _ rfl rfl rfl rfl (op_yld (yl_loadAgg rfl rfl Tryz.isAgg28 Tryz.sizeOf28 (Blk.at 2 rfl) rfl rfl) rfl rfl ?_)
  refine J.opG 1 32 true _ rfl rfl rfl rfl (op_pure rfl rfl rfl rfl rfl (cRight_ok (Cq.madeQ l) pp cc (by omega) (by omega) _ hps) ?_)
  refine J.y (yl_pick1 rfl rfl rfl rfl) rfl rfl rfl ?_
  refine J.y (yl_move rfl rfl) rfl rfl rfl ?_
  refine J.opG 5 36 true _ rfl rfl rfl hr (op_yld (yl_move rfl rfl) rfl rfl ?_)
  refine J.opG 5 36 true _ rfl rfl rfl hr (op_yld (yl_eql rfl rfl rfl) rfl rfl ?_)
  refine J.y (yl_pick1 rfl rfl hr rfl) rfl rfl rfl ?_
  refine J.y (yl_move rfl rfl) rfl rfl rfl ?_
  refine J.opG 9 40 true _ rfl rfl rfl (by first | rfl | decide) (op_yld (yl_move rfl rfl) rfl rfl ?_)
  refine J.opG 9 40 true _ rfl rfl rfl (by first | rfl | decide) (op_yld (yl_eql rfl rfl rfl) rfl rfl ?_)
  refine J.y (yl_pick1 rfl rfl (by first | rfl | decide) rfl) rfl rfl rfl ?_
  refine J.y (yl_move rfl rfl) rfl rfl rfl ?_
  refine J.opG 13 44 true _ rfl rfl rfl (by first | rfl | decide) (op_yld (yl_move rfl rfl) rfl rfl ?_)
  refine J.opG 13 44 true _ rfl rfl rfl (by first | rfl | decide) (op_yld (yl_eql rfl rfl rfl) rfl rfl ?_)
  refine J.y (yl_pick1 rfl rfl (by first | rfl | decide) rfl) rfl rfl rfl ?_
  refine J.y (yl_move rfl rfl) rfl rfl rfl ?_
  refine J.opG 17 48 true _ rfl rfl rfl (by first | rfl | decide) (op_yld (yl_move rfl rfl) rfl rfl ?_)
  refine J.opG 17 48 true _ rfl rfl rfl (by first | rfl | decide) (op_yld (yl_eql rfl rfl rfl) rfl rfl ?_)
  refine J.y (yl_pick1 rfl rfl (by first | rfl | decide) rfl) rfl rfl rfl ?_
  refine J.y (yl_move rfl rfl) rfl rfl rfl ?_
  refine J.opG 21 52 true _ rfl rfl rfl (by first | rfl | decide) (op_yld (yl_loadAgg rfl rfl Tryz.isAgg28 Tryz.sizeOf28 (Blk.at 2 rfl) rfl rfl) rfl rfl ?_)
  refine J.opG 21 52 true _ rfl rfl rfl (by first | rfl | decide) (op_yld (yl_loadAgg rfl rfl Tryz.isAgg28 Tryz.sizeOf28 (Blk.at 1 rfl) rfl rfl) rfl rfl ?_)
  refine J.opG 21 52 true _ rfl rfl rfl (by first | rfl | decide) (op_pure rfl rfl rfl rfl rfl (Same_ok (Cq.madeQ l) (Cq.madeQ l) pp p1 cc c1 _ hps hps1 (by omega)) ?_)
  refine J.y (yl_pick1 rfl rfl (by first | rfl | decide) rfl) rfl rfl rfl ?_
  refine J.y (yl_move rfl rfl) rfl rfl rfl ?_
  refine J.opG 26 57 true _ rfl rfl rfl (by simp) (op_yld (yl_loadAgg rfl rfl Tryz.isAgg28 Tryz.sizeOf28 (Blk.at 2 rfl) rfl rfl) rfl rfl ?_)
  refine J.opG 26 57 true _ rfl rfl rfl (by simp) (op_yld (yl_loadAgg rfl rfl Tryz.isAgg28 Tryz.sizeOf28 (Blk.at 0 rfl) rfl rfl) rfl rfl ?_)
  refine J.opG 26 57 true _ rfl rfl rfl (by simp) (op_pure rfl rfl rfl rfl rfl (Same_ok (Cq.madeQ l) (Cq.madeQ l) pp p2 cc c2 _ hps hps2 (by omega)) ?_)
  refine J.y (yl_pick1 rfl rfl (by simp) rfl) rfl rfl rfl ?_
  refine J.y (yl_assign rfl rfl) rfl rfl rfl ?_
  refine J.nil ?_
  refine Ej.seq ?_
  refine Cj.ret ?_
  refine Ej.bare ?_
  refine Ej.ret1 rfl rfl rfl ?_
  refine ⟨?_, rfl⟩
  simp

set_option maxRecDepth 20000 in
theorem Again_ok (l : List Int) (v : Value) (I : Heap) (ht : Tabs I) (hl : IntSl I l v) : Pure Tryz.prog 5 [v] I (.bool true) := by
  refine Ctr.toPure ?_
  have hsl := Cq.soup_len l
  obtain ⟨z1, z2, z3⟩ := q_small (s := Cq.soup l) (by omega)
  obtain ⟨r1, r2⟩ := Cq.parse_right (Cq.soup l)
  obtain ⟨q, p, er, hp⟩ : ∃ q p er, Cq.parse (Cq.soup l) = (q, p, er) := ⟨_, _, _, rfl⟩
  rw [hp] at z1 z2 z3 r1 r2
  dsimp only at z1 z2 z3 r1 r2
  refine Ctr.of_body Tryz.func5 rfl (by decide) (Nat.le_of_ble_eq_true rfl) ?_
  intro w0 hw0
  refine Cj.seq ?_
  refine Cj.region ?_
  refine J.y (yl_assign rfl rfl) rfl rfl rfl ?_
  refine J.nil ?_
  refine Ej.seq ?_
  refine Cj.seq ?_
  refine Cj.region ?_
  refine J.op rfl (op_pure rfl rfl rfl rfl rfl (sanity_ok _ ht) ?_)
  refine J.y (yl_assign rfl rfl) rfl rfl rfl ?_
  refine J.nil ?_
  refine Ej.seq ?_
  refine Cj.seq ?_
  refine Cj.region ?_
  refine J.y (yl_move rfl rfl) rfl rfl rfl ?_
  refine J.op rfl (op_pure rfl rfl rfl rfl rfl (Soup_ok v l _ hl) ?_)
  refine J.op rfl (op_call (H1 := []) rfl rfl rfl rfl rfl (cParse_at (Cq.soup l) (by omega) q p er hp _ ht) ?_ (fun _ _ _ _ h => by obtain ⟨⟨_, _, h, _⟩, _⟩ := h; cases h) (fun _ _ h => by obtain ⟨⟨_, _, h, _⟩, _⟩ := h; cases h))
  intro v1 I2 H3 hle4 hp5
  have ht := ht.mono hle4
  have hl := hl.mono hle4
  obtain ⟨⟨p1, c1, h, hps1⟩, rfl⟩ := hp5; cases h
  refine J.y (yl_move rfl rfl) rfl rfl rfl ?_
  refine J.y (yl_extract rfl rfl rfl) rfl rfl rfl ?_
  refine J.y (yl_extract rfl rfl rfl) rfl rfl rfl ?_
  refine J.y (yl_extract rfl rfl rfl) rfl rfl rfl ?_
  refine J.op rfl (op_alloc rfl rfl rfl Tryz.zeroValue28 rfl ?_)
  intro b6 hb6
  refine J.op rfl (op_store 0 rfl rfl rfl rfl rfl rfl Tryz.sizeOf28 rfl rfl (LSpl.c (LSpl.c (LSpl.c (LSpl.c (LSpl.c LSpl.z))))) LSet.z ?_)
  refine J.y (yl_assign rfl rfl) rfl rfl rfl ?_
  refine J.y (yl_assign rfl rfl) rfl rfl rfl ?_
  refine J.nil ?_
  refine Ej.seq ?_
  refine Cj.seq ?_
  refine Cj.seq ?_
  refine Cj.region ?_
  refine J.y (yl_move rfl rfl) rfl rfl rfl ?_
  refine J.y (yl_neq rfl rfl rfl) rfl rfl rfl ?_
  refine J.nil ?_
  refine Ej.seq ?_
  refine Cj.cond rfl (fun hc7 => ?_) (fun hc7 => ?_)
  ·
    have hc7p := bne_iff_ne.1 hc7
    have hz : q = Cq.zero := r2 (by have := bne_iff_ne.1 hc7; omega)
    refine Cj.seq ?_
    refine Cj.region ?_
    refine J.y (yl_move rfl rfl) rfl rfl rfl ?_
    refine J.y (yl_move rfl rfl) rfl rfl rfl ?_
    refine J.opG 1 21 true _ rfl rfl rfl rfl (op_yld (yl_loadAgg rfl rfl Tryz.isAgg28 Tryz.sizeOf28 (Blk.at 0 rfl) rfl rfl) rfl rfl ?_)
    refine J.opG 1 21 true _ rfl rfl rfl rfl (op_pure rfl rfl rfl rfl rfl (cPrint_ok q p1 c1 (by omega) (by omega) z3 _ hps1) ?_)
    refine J.opG 1 21 true _ rfl rfl rfl rfl (op_yld (yl_eqlStr rfl rfl rfl) rfl rfl ?_)
    refine J.y (yl_pick1 rfl rfl rfl rfl) rfl rfl rfl ?_
    refine J.y (yl_move rfl rfl) rfl rfl rfl ?_
    refine J.opG 6 26 true _ rfl rfl rfl (by rw [hz, Cq.zero_print]; rfl) (op_yld (yl_loadAgg rfl rfl Tryz.isAgg28 Tryz.sizeOf28 (Blk.at 0 rfl) rfl rfl) rfl rfl ?_)
    refine J.opG 6 26 true _ rfl rfl rfl (by rw [hz, Cq.zero_print]; rfl) (op_pure rfl rfl rfl rfl rfl (cRight_ok q p1 c1 (by omega) (by omega) _ hps1) ?_)
    refine J.opG 6 26 true _ rfl rfl rfl (by rw [hz, Cq.zero_print]; rfl) (op_yld (yl_not rfl rfl) rfl rfl ?_)
    refine J.y (yl_pick1 rfl rfl (by rw [hz, Cq.zero_print]; rfl) rfl) rfl rfl rfl ?_
    refine J.y (yl_assign rfl rfl) rfl rfl rfl ?_
    refine J.nil ?_
    refine Ej.seq ?_
    refine Cj.ret ?_
    refine Ej.seqRet ?_
    refine Ej.bare ?_
    refine Ej.ret1 rfl rfl rfl ?_
    refine ⟨?_, rfl⟩
    first | (simp; done) | (rw [hz, Cq.zero_right]; rfl)
  ·
    have hc7p := bne_f hc7
    have hrr : Cq.right q = true := (r1 (by have := bne_f hc7; omega)).1
    have hpp := Cq.parse_print hrr
    have hpl : (Cq.print q).length ≤ 1000000000 := by unfold Cq.print; rw [if_pos hrr]; exact z3 (Cq.right_of hrr).1
    refine Cj.skip ?_
    refine Ej.seq ?_
    refine Cj.seq ?_
    refine Cj.region ?_
    refine J.y (yl_loadAgg rfl rfl Tryz.isAgg28 Tryz.sizeOf28 (Blk.at 0 rfl) rfl rfl) rfl rfl rfl ?_
    refine J.op rfl (op_pure rfl rfl rfl rfl rfl (cPrint_ok q p1 c1 (by omega) (by omega) z3 _ hps1) ?_)
    refine J.op rfl (op_call (H1 := []) rfl rfl rfl rfl rfl (cParse_at (Cq.print q) (by omega) q 0 0 hpp _ ht) ?_ (fun _ _ _ _ h => by obtain ⟨⟨_, _, h, _⟩, _⟩ := h; cases h) (fun _ _ h => by obtain ⟨⟨_, _, h, _⟩, _⟩ := h; cases h))
    intro v8 I9 H10 hle11 hp12
    have ht := ht.mono hle11
    have hl := hl.mono hle11
    have hps1 := hps1.mono hle11
    obtain ⟨⟨p2, c2, h, hps2⟩, rfl⟩ := hp12; cases h
    refine J.y (yl_move rfl rfl) rfl rfl rfl ?_
    refine J.y (yl_extract rfl rfl rfl) rfl rfl rfl ?_
    refine J.y (yl_extract rfl rfl rfl) rfl rfl rfl ?_
    refine J.y (yl_extract rfl rfl rfl) rfl rfl rfl ?_
    refine J.op rfl (op_alloc rfl rfl rfl Tryz.zeroValue28 rfl ?_)
    intro b13 hb13
    refine J.op rfl (op_store 0 rfl rfl rfl rfl rfl rfl Tryz.sizeOf28 rfl rfl (LSpl.c (LSpl.c (LSpl.c (LSpl.c (LSpl.c LSpl.z))))) LSet.z ?_)
    refine J.y (yl_assign rfl rfl) rfl rfl rfl ?_
    refine J.y (yl_assign rfl rfl) rfl rfl rfl ?_
    refine J.nil ?_
    refine Ej.seq ?_
    refine Cj.seq ?_
    refine Cj.region ?_
    refine J.y (yl_move rfl rfl) rfl rfl rfl ?_
    refine J.y (yl_move rfl rfl) rfl rfl rfl ?_
    refine J.opG 1 39 true _ rfl rfl rfl rfl (op_yld (yl_loadAgg rfl rfl Tryz.isAgg28 Tryz.sizeOf28 (Blk.at 1 rfl) rfl rfl) rfl rfl ?_)
    refine J.opG 1 39 true _ rfl rfl rfl rfl (op_pure rfl rfl rfl rfl rfl (cRight_ok q p1 c1 (by omega) (by omega) _ hps1) ?_)
    refine J.y (yl_pick1 rfl rfl rfl rfl) rfl rfl rfl ?_
    refine J.y (yl_move rfl rfl) rfl rfl rfl ?_
    refine J.opG 5 43 true _ rfl rfl rfl hrr (op_yld (yl_move rfl rfl) rfl rfl ?_)
    refine J.opG 5 43 true _ rfl rfl rfl hrr (op_yld (yl_eql rfl rfl rfl) rfl rfl ?_)
    refine J.y (yl_pick1 rfl rfl hrr rfl) rfl rfl rfl ?_
    refine J.y (yl_move rfl rfl) rfl rfl rfl ?_
    refine J.opG 9 47 true _ rfl rfl rfl (by first | rfl | decide) (op_yld (yl_loadAgg rfl rfl Tryz.isAgg28 Tryz.sizeOf28 (Blk.at 1 rfl) rfl rfl) rfl rfl ?_)
    refine J.opG 9 47 true _ rfl rfl rfl (by first | rfl | decide) (op_yld (yl_loadAgg rfl rfl Tryz.isAgg28 Tryz.sizeOf28 (Blk.at 0 rfl) rfl rfl) rfl rfl ?_)
    refine J.opG 9 47 true _ rfl rfl rfl (by first | rfl | decide) (op_pure rfl rfl rfl rfl rfl (Same_ok q q p1 p2 c1 c2 _ hps1 hps2 (by omega)) ?_)
    refine J.y (yl_pick1 rfl rfl (by first | rfl | decide) rfl) rfl rfl rfl ?_
    refine J.y (yl_assign rfl rfl) rfl rfl rfl ?_
    refine J.nil ?_
    refine Ej.seq ?_
    refine Cj.ret ?_
    refine Ej.bare ?_
    refine Ej.ret1 rfl rfl rfl ?_
    refine ⟨?_, rfl⟩
    first | (simp; done) | (rw [hz, Cq.zero_right]; rfl)

theorem idx_at {l : List (List UInt8)} {n : Nat} (h : n < l.length) : (l.map str)[n]? = some (str (l.getD n [])) := by
  simp [List.getD, List.getElem?_eq_getElem h]
theorem getD_in {l : List (List UInt8)} {n : Nat} (h : n < l.length) : l.getD n [] ∈ l := by
  rw [List.getD, List.getElem?_eq_getElem h]; exact List.getElem_mem h
theorem short6 {l : List (List UInt8)} (hl : ∀ w ∈ l, w.length ≤ 7) {n : Nat} (h : n < l.length) : (l.getD n []).length ≤ 7 := hl _ (getD_in h)
def termQ (i r s : List UInt8) : Cq.Qn := ⟨1, i, r, s, .nil⟩

set_option maxRecDepth 20000 in
theorem Texts_ok (s : List UInt8) (i r : UInt8) (hs : s.length ≤ 100000000) (I : Heap) (ht : Tabs I) : Pure Tryz.prog 7 [str s, u8 i, u8 r] I (.bool true) := by
  refine Ctr.toPure ?_
  have hi6 : i.toNat % 6 < 6 := Nat.mod_lt _ (by decide)
  have hr6 : r.toNat % 6 < 6 := Nat.mod_lt _ (by decide)
  obtain ⟨x, hx⟩ : ∃ x, x = Cq.indexes.getD (i.toNat % 6) [] := ⟨_, rfl⟩
  obtain ⟨y, hy⟩ : ∃ y, y = Cq.relations.getD (r.toNat % 6) [] := ⟨_, rfl⟩
  have hxi : x ∈ Cq.indexes := hx ▸ getD_in hi6
  have hyi : y ∈ Cq.relations := hy ▸ getD_in hr6
  have hxl : x.length ≤ 7 := (by decide : ∀ w ∈ Cq.indexes, w.length ≤ 7) _ hxi
  have hyl : y.length ≤ 7 := (by decide : ∀ w ∈ Cq.relations, w.length ≤ 7) _ hyi
  have hf : Cq.form (termQ x y s) = true := by rw [Cq.form_term rfl]; simp [termQ, hxi, hyi, Cq.Qs.len]
  have hd : Cq.depth (termQ x y s) = 0 := Cq.depth_term rfl
  have hr : Cq.right (termQ x y s) = true := by unfold Cq.right; rw [hf, hd]; rfl
  have hpr : Cq.print (termQ x y s) = Cq.write (termQ x y s) := by unfold Cq.print; rw [if_pos hr]
  have hp1 := Cq.parse_write hf (by omega)
  have hw := congrArg List.length (Cq.write_term (q := termQ x y s) rfl)
  have hel := Cq.escape_len s
  simp only [termQ, Cq.text, List.length_append, List.length_cons, List.length_nil] at hw
  have hwl : (Cq.write (termQ x y s)).length = x.length + y.length + (Cq.escape s).length + 4 := by rw [termQ, hw]; omega
  have hsz : (termQ x y s).size ≤ 0 := Nat.le_refl _
  have hwd : (termQ x y s).wide ≤ 200000000 := by simp [termQ, Cq.Qn.wide, Cq.Qs.wide]; omega
  refine Ctr.of_body Tryz.func7 rfl (by decide) (Nat.le_of_ble_eq_true rfl) ?_
  intro w0 hw0
  refine Cj.seq ?_
  refine Cj.region ?_
  refine J.y (yl_assign rfl rfl) rfl rfl rfl ?_
  refine J.nil ?_
  refine Ej.seq ?_
  refine Cj.seq ?_
  refine Cj.region ?_
  refine J.op rfl (op_pure rfl rfl rfl rfl rfl (sanity_ok _ ht) ?_)
  refine J.y (yl_assign rfl rfl) rfl rfl rfl ?_
  refine J.nil ?_
  refine Ej.seq ?_
  refine Cj.seq ?_
  refine Cj.region ?_
  refine J.op rfl (op_buildSlice rfl rfl rfl Tryz.underlying44 Tryz.sizeOf9 Tryz.zeroValue9 rfl rfl rfl rfl (LCat.one rfl (LCat.one rfl (LCat.one rfl (LCat.one rfl (LCat.one rfl (LCat.one rfl LCat.none)))))) ?_)
  intro b1 hb1
  refine J.y (yl_assign rfl rfl) rfl rfl rfl ?_
  refine J.nil ?_
  refine Ej.seq ?_
  refine Cj.seq ?_
  refine Cj.region ?_
  refine J.op rfl (op_buildSlice rfl rfl rfl Tryz.underlying44 Tryz.sizeOf9 Tryz.zeroValue9 rfl rfl rfl rfl (LCat.one rfl (LCat.one rfl (LCat.one rfl (LCat.one rfl (LCat.one rfl (LCat.one rfl LCat.none)))))) ?_)
  intro b2 hb2
  refine J.y (yl_assign rfl rfl) rfl rfl rfl ?_
  refine J.nil ?_
  refine Ej.seq ?_
  refine Cj.seq ?_
  refine Cj.drawSel [0, 1] [] 14 (by kernel_rfl) ?_
  refine JA.take 0 rfl rfl (by kernel_rfl) (by kernel_rfl) (by kernel_rfl) (fun _ _ _ h => h) rfl rfl rfl (HSub.c 0 rfl (HSub.c 1 rfl HSub.n)) CSub.n (Le.refl _) (yl_move rfl rfl) ?_
  refine JA.take 1 rfl rfl (by kernel_rfl) (by kernel_rfl) (by kernel_rfl) (fun _ _ _ h => h) rfl rfl rfl (HSub.c 0 rfl (HSub.c 1 rfl HSub.n)) CSub.n (Le.refl _) (yl_move rfl rfl) ?_
  refine JA.take 2 rfl rfl (by kernel_rfl) (by kernel_rfl) (by kernel_rfl) (fun _ _ _ h => h) rfl rfl rfl (HSub.c 0 rfl (HSub.c 1 rfl HSub.n)) CSub.n (Le.refl _) (yl_rem rfl rfl rfl (by omega)) ?_
  refine JA.eqv 20 rfl (show _ = (.int .u8 ((i.toNat % 6 : Nat) : Int)) from (congrArg (Value.int .u8) (Int.ofNat_tmod i.toNat 6).symm)) ?_
  refine JA.take 3 rfl rfl (by kernel_rfl) (by kernel_rfl) (by kernel_rfl) (fun _ _ _ h => h) rfl rfl rfl (HSub.c 0 rfl (HSub.c 1 rfl HSub.n)) CSub.n (Le.refl _) (yl_indexAddr (off' := (i.toNat % 6)) rfl rfl rfl Tryz.underlying44 Tryz.sizeOf9 (by omega) (by omega) (by simp; omega)) ?_
  refine JA.take 4 rfl rfl (by kernel_rfl) (by kernel_rfl) (by kernel_rfl) (fun _ _ _ h => h) rfl rfl rfl (HSub.c 0 rfl (HSub.c 1 rfl HSub.n)) CSub.n (Le.refl _) (yl_load rfl rfl Tryz.isAgg9 (Blk.atC 1 rfl) (idx_at (l := Cq.indexes) hi6)) ?_
  refine JA.eqv 22 rfl (show _ = str x from (by rw [hx])) ?_
  refine JA.take 5 rfl rfl (by kernel_rfl) (by kernel_rfl) (by kernel_rfl) (fun _ _ _ h => h) rfl rfl rfl (HSub.c 0 rfl (HSub.c 1 rfl HSub.n)) CSub.n (Le.refl _) (yl_move rfl rfl) ?_
  refine JA.take 6 rfl rfl (by kernel_rfl) (by kernel_rfl) (by kernel_rfl) (fun _ _ _ h => h) rfl rfl rfl (HSub.c 0 rfl (HSub.c 1 rfl HSub.n)) CSub.n (Le.refl _) (yl_move rfl rfl) ?_
  refine JA.take 7 rfl rfl (by kernel_rfl) (by kernel_rfl) (by kernel_rfl) (fun _ _ _ h => h) rfl rfl rfl (HSub.c 0 rfl (HSub.c 1 rfl HSub.n)) CSub.n (Le.refl _) (yl_rem rfl rfl rfl (by omega)) ?_
  refine JA.eqv 25 rfl (show _ = (.int .u8 ((r.toNat % 6 : Nat) : Int)) from (congrArg (Value.int .u8) (Int.ofNat_tmod r.toNat 6).symm)) ?_
  refine JA.take 8 rfl rfl (by kernel_rfl) (by kernel_rfl) (by kernel_rfl) (fun _ _ _ h => h) rfl rfl rfl (HSub.c 0 rfl (HSub.c 1 rfl HSub.n)) CSub.n (Le.refl _) (yl_indexAddr (off' := (r.toNat % 6)) rfl rfl rfl Tryz.underlying44 Tryz.sizeOf9 (by omega) (by omega) (by simp; omega)) ?_
  refine JA.take 9 rfl rfl (by kernel_rfl) (by kernel_rfl) (by kernel_rfl) (fun _ _ _ h => h) rfl rfl rfl (HSub.c 0 rfl (HSub.c 1 rfl HSub.n)) CSub.n (Le.refl _) (yl_load rfl rfl Tryz.isAgg9 (Blk.atC 0 rfl) (idx_at (l := Cq.relations) hr6)) ?_
  refine JA.eqv 27 rfl (show _ = str y from (by rw [hy])) ?_
  refine JA.take 10 rfl rfl (by kernel_rfl) (by kernel_rfl) (by kernel_rfl) (fun _ _ _ h => h) rfl rfl rfl (HSub.c 0 rfl (HSub.c 1 rfl HSub.n)) CSub.n (Le.refl _) (yl_move rfl rfl) ?_
  refine JA.take 11 rfl rfl (by kernel_rfl) (by kernel_rfl) (by kernel_rfl) (fun _ _ _ h => h) rfl rfl rfl (HSub.c 0 rfl (HSub.c 1 rfl HSub.n)) CSub.n (Le.refl _) (yl_buildS (pl := #[(0, 1), (1, 1), (2, 1), (3, 1), (4, 1)]) rfl rfl Tryz.zeroValue28 rfl Tryz.underlying28 (fun w => by simp [Tryz.sizeOf26, Tryz.sizeOf3, Tryz.sizeOf9]) (LBld.part rfl rfl rfl (LSpl.c LSpl.z) (LBld.part rfl rfl rfl (LSpl.s (LSpl.c LSpl.z)) (LBld.part rfl rfl rfl (LSpl.s (LSpl.s (LSpl.c LSpl.z))) (LBld.part rfl rfl rfl (LSpl.s (LSpl.s (LSpl.s (LSpl.c LSpl.z)))) LBld.none))))) ?_
  refine JA.step 12 (by kernel_rfl) rfl rfl (op_alloc rfl rfl rfl Tryz.zeroValue28 rfl ?_)
  intro b3 hb3
  refine ⟨⟨(Le.refl _), (HSub.c 1 rfl (HSub.c 2 rfl HSub.n)), CSub.n⟩, ?_⟩
  refine JA.step 13 (by kernel_rfl) rfl rfl (op_store 0 rfl rfl rfl rfl rfl rfl Tryz.sizeOf28 rfl rfl (LSpl.c (LSpl.c (LSpl.c (LSpl.c (LSpl.c LSpl.z))))) LSet.z ?_)
  refine ⟨⟨(Le.refl _), (HSub.c 1 rfl (HSub.c 2 rfl HSub.n)), CSub.n⟩, ?_⟩
  refine JA.done (by kernel_rfl) ?_
  refine Ej.seq ?_
  refine Cj.seq ?_
  refine Cj.region ?_
  refine J.y (yl_loadAgg rfl rfl Tryz.isAgg28 Tryz.sizeOf28 (Blk.at 0 rfl) rfl rfl) rfl rfl rfl ?_
  refine J.op rfl (op_pure rfl rfl rfl rfl rfl (cPrint_ok (termQ x y s) none 0 (by omega) (by omega) (fun _ => by omega) _ (.inl rfl)) ?_)
  refine J.eqv 31 rfl (show _ = str (Cq.write (termQ x y s)) from (by rw [hpr])) ?_
  refine J.y (yl_assign rfl rfl) rfl rfl rfl ?_
  refine J.nil ?_
  refine Ej.seq ?_
  refine Cj.seq ?_
  refine Cj.region ?_
  refine J.y (yl_move rfl rfl) rfl rfl rfl ?_
  refine J.op rfl (op_call (H1 := []) rfl rfl rfl rfl rfl (cParse_at (Cq.write (termQ x y s)) (by omega) (termQ x y s) 0 0 hp1 _ ht) ?_ (fun _ _ _ _ h => by obtain ⟨⟨_, _, h, _⟩, _⟩ := h; cases h) (fun _ _ h => by obtain ⟨⟨_, _, h, _⟩, _⟩ := h; cases h))
  intro v4 I5 H6 hle7 hp8
  have ht := ht.mono hle7
  obtain ⟨⟨p1, c1, h, hps1⟩, rfl⟩ := hp8; cases h
  refine J.y (yl_move rfl rfl) rfl rfl rfl ?_
  refine J.y (yl_extract rfl rfl rfl) rfl rfl rfl ?_
  refine J.y (yl_extract rfl rfl rfl) rfl rfl rfl ?_
  refine J.y (yl_extract rfl rfl rfl) rfl rfl rfl ?_
  refine J.op rfl (op_alloc rfl rfl rfl Tryz.zeroValue28 rfl ?_)
  intro b9 hb9
  refine J.op rfl (op_store 0 rfl rfl rfl rfl rfl rfl Tryz.sizeOf28 rfl rfl (LSpl.c (LSpl.c (LSpl.c (LSpl.c (LSpl.c LSpl.z))))) LSet.z ?_)
  refine J.y (yl_assign rfl rfl) rfl rfl rfl ?_
  refine J.y (yl_assign rfl rfl) rfl rfl rfl ?_
  refine J.nil ?_
  refine Ej.seq ?_
  refine Cj.seq ?_
  refine Cj.region ?_
  refine J.y (yl_move rfl rfl) rfl rfl rfl ?_
  refine J.y (yl_move rfl rfl) rfl rfl rfl ?_
  refine J.opG 1 39 true _ rfl rfl rfl rfl (op_yld (yl_loadAgg rfl rfl Tryz.isAgg28 Tryz.sizeOf28 (Blk.at 1 rfl) rfl rfl) rfl rfl ?_)
  refine J.opG 1 39 true _ rfl rfl rfl rfl (op_pure rfl rfl rfl rfl rfl (cRight_ok (termQ x y s) none 0 (by omega) (by omega) _ (.inl rfl)) ?_)
  refine J.y (yl_pick1 rfl rfl rfl rfl) rfl rfl rfl ?_
  refine J.y (yl_move rfl rfl) rfl rfl rfl ?_
  refine J.opG 5 43 true _ rfl rfl rfl hr (op_yld (yl_move rfl rfl) rfl rfl ?_)
  refine J.opG 5 43 true _ rfl rfl rfl hr (op_yld (yl_eql rfl rfl rfl) rfl rfl ?_)
  refine J.y (yl_pick1 rfl rfl hr rfl) rfl rfl rfl ?_
  refine J.y (yl_move rfl rfl) rfl rfl rfl ?_
  refine J.opG 9 47 true _ rfl rfl rfl (by first | rfl | decide) (op_yld (yl_loadAgg rfl rfl Tryz.isAgg28 Tryz.sizeOf28 (Blk.at 1 rfl) rfl rfl) rfl rfl ?_)
  refine J.opG 9 47 true _ rfl rfl rfl (by first | rfl | decide) (op_yld (yl_loadAgg rfl rfl Tryz.isAgg28 Tryz.sizeOf28 (Blk.at 0 rfl) rfl rfl) rfl rfl ?_)
  refine J.opG 9 47 true _ rfl rfl rfl (by first | rfl | decide) (op_pure rfl rfl rfl rfl rfl (Same_ok (termQ x y s) (termQ x y s) none p1 0 c1 _ (.inl rfl) hps1 (by omega)) ?_)
  refine J.y (yl_pick1 rfl rfl (by first | rfl | decide) rfl) rfl rfl rfl ?_
  refine J.y (yl_move rfl rfl) rfl rfl rfl ?_
  refine J.opG 14 52 true _ rfl rfl rfl (by simp) (op_yld (yl_move rfl rfl) rfl rfl ?_)
  refine J.opG 14 52 true _ rfl rfl rfl (by simp) (op_yld (yl_lenStr rfl rfl Tryz.underlying9) rfl rfl ?_)
  refine J.opG 14 52 true _ rfl rfl rfl (by simp) (op_yld (yl_move rfl rfl) rfl rfl ?_)
  refine J.opG 14 52 true _ rfl rfl rfl (by simp) (op_yld (yl_lenStr rfl rfl Tryz.underlying9) rfl rfl ?_)
  refine J.opG 14 52 true _ rfl rfl rfl (by simp) (op_yld (yl_fieldAddr (off' := 1) rfl rfl Tryz.underlying28 rfl Tryz.sizeOf9 rfl) rfl rfl ?_)
  refine J.opG 14 52 true _ rfl rfl rfl (by simp) (op_yld (yl_load rfl rfl Tryz.isAgg9 (Blk.at 1 rfl) rfl) rfl rfl ?_)
  refine J.opG 14 52 true _ rfl rfl rfl (by simp) (op_yld (yl_lenStr rfl rfl Tryz.underlying9) rfl rfl ?_)
  refine J.opG 14 52 true _ rfl rfl rfl (by simp) (op_yld (yl_add rfl rfl rfl (w64 (by omega))) rfl rfl ?_)
  refine J.opG 14 52 true _ rfl rfl rfl (by simp) (op_yld (yl_fieldAddr (off' := 2) rfl rfl Tryz.underlying28 rfl Tryz.sizeOf9 rfl) rfl rfl ?_)
  refine J.opG 14 52 true _ rfl rfl rfl (by simp) (op_yld (yl_load rfl rfl Tryz.isAgg9 (Blk.at 1 rfl) rfl) rfl rfl ?_)
  refine J.opG 14 52 true _ rfl rfl rfl (by simp) (op_yld (yl_lenStr rfl rfl Tryz.underlying9) rfl rfl ?_)
  refine J.opG 14 52 true _ rfl rfl rfl (by simp) (op_yld (yl_add rfl rfl rfl (w64 (by omega))) rfl rfl ?_)
  refine J.opG 14 52 true _ rfl rfl rfl (by simp) (op_yld (yl_add rfl rfl rfl (w64 (by omega))) rfl rfl ?_)
  refine J.opG 14 52 true _ rfl rfl rfl (by simp) (op_yld (yl_geq rfl rfl rfl) rfl rfl ?_)
  refine J.y (yl_pick1 rfl rfl (by simp) rfl) rfl rfl rfl ?_
  refine J.y (yl_assign rfl rfl) rfl rfl rfl ?_
  refine J.nil ?_
  refine Ej.seq ?_
  refine Cj.ret ?_
  refine Ej.bare ?_
  refine Ej.ret1 rfl rfl rfl ?_
  refine ⟨?_, rfl⟩
  simp only [Ending.returned.injEq, Value.bool.injEq, decide_eq_true_eq]
  rw [hwl]; omega

end Go.Proofs.YtlfpehljahgbkaaGreatDoor
