/-
  slices.AppendSeq and Collect over a sequence of texts; strings.Join; the program's keys.Words and keys.Fold. Own text, printed by a program. Conditions: none.
-/
import Derived.Test.YtnogdccoekfnoaaGreatDoorKc
namespace Go.Proofs.YtnogdccoekfnoaaGreatDoor
open Go Go.Sx
theorem Join_ok (l : List (List UInt8)) (v : Value) (hl : l.length ≤ 1000000000000) (hj : (Ke.join l).length ≤ 1000000000000) (I : Heap) (hv : StrS 9 I l v) : Pure Tryz.prog 33 [v, str [32]] I (str (Ke.join l)) := by
  rcases hv with ⟨rfl, rfl⟩ | ⟨b, c, sp, rfl, hc, hb⟩
  · exact Pure.of_same (Enters.of Tryz.func33 (by decide) rfl) fun w _ => (Tryz.strings_Join_none none 0 ⟨#[32]⟩ w).mono fun e w' ⟨h1, h2⟩ => ⟨by rw [h1]; rfl, h2⟩
  · refine Pure.of_below (Enters.of Tryz.func33 (by decide) rfl) fun w hw => ?_
    have hbw := hw.1 _ _ hb
    have hblt : b < w.heap.size := by
      rcases Nat.lt_or_ge b w.heap.size with h' | h'
      · exact h'
      · simp [Array.getElem?_eq_none h'] at hbw
    have hmap : (l.map fun x => (⟨x.toArray⟩ : ByteArray)).map (fun x => x.data.toList) = l := by
      rw [List.map_map]; exact (List.map_congr_left fun x _ => by simp).trans (List.map_id l)
    have hjoin : Lib.join l [32] = Ke.join l := Ke.join_lib l
    have h := Tryz.strings_Join b 0 c (l.map fun x => ⟨x.toArray⟩) ⟨#[32]⟩ w (fun j x hx => by
      rw [List.getElem?_map] at hx
      cases hj : l[j]? with
      | none => rw [hj] at hx; cases hx
      | some y =>
        rw [hj] at hx; cases hx
        rw [Nat.zero_add]
        exact cell_of_heap hbw (str_get hj)) hblt (by simp; omega) (by simpa using hc) (by rw [hmap, show (⟨#[32]⟩ : ByteArray).data.toList = [32] from rfl, hjoin]; omega)
    rw [hmap, show (⟨#[32]⟩ : ByteArray).data.toList = [32] from rfl, hjoin, List.length_map] at h
    exact h
set_option maxRecDepth 20000 in
theorem words_ok (s : List UInt8) (I : Heap) : Ctr Tryz.prog 35 [str s] I [] (fun e _I' H' => ∃ b, e = .returned (.func (.func 61) #[] #[ptr b 0]) ∧ H' = [(b, cel 9 [str s])]) := by
 refine Ctr.of_body Tryz.func35 rfl (by decide) (Nat.le_of_ble_eq_true rfl) ?_
 intro w0 hw0
 refine Cj.seq (Cj.region (J.op rfl (op_box rfl rfl rfl rfl rfl ?_)))
 intro b1 hb1
 refine J.z (yl_assign rfl rfl) ?_
 refine J.nil (Ej.seq (Cj.seq (Cj.region (J.z (yl_makeFunc rfl rfl rfl) ?_))))
 refine J.z (yl_assign rfl rfl) ?_
 refine J.nil (Ej.seq (Cj.ret (Ej.ret1 rfl rfl rfl ?_)))
 exact ⟨b1, rfl, rfl⟩

theorem take_next {l : List (List UInt8)} {k : Nat} {x : List UInt8} (h : l[k]? = some x) : (l.take (k + 1)).map str = (l.take k).map str ++ [str x] := by
  obtain ⟨hlt, hg⟩ := List.getElem?_eq_some_iff.1 h
  rw [List.take_succ_eq_append_getElem hlt, hg, List.map_append]; rfl

set_option maxRecDepth 20000 in
theorem AppendSeq_ok (ws : List (List UInt8)) (f : Nat) (fst cap : List Value) (I : Heap) (hl : ws.length ≤ 1000000000000) (hgen : Gen Tryz.prog f fst cap I (ws.map fun w => [str w])) : Ctr Tryz.prog 60 [.slice none 0 0, .func (.func f) fst.toArray cap.toArray] I []
    (fun e _I' H' => ∃ g, gOk 0 1 ws.length (ws.map str) g ∧ e = .returned (gV ws.length g) ∧ H' = gH 9 (ws.map str) g) := by
 refine Ctr.of_bodyM Tryz.func60 rfl (by decide) (Nat.le_of_ble_eq_true rfl) ?_
 intro w0 hw0
 refine Cj.seq (Cj.region (J.op rfl (op_box rfl rfl rfl rfl rfl ?_)))
 intro b1 hb1
 refine J.z (yl_assign rfl rfl) ?_
 refine J.nil (Ej.seq (Cj.seq (Cj.seq (Cj.region (J.z (yl_move rfl rfl) ?_)))))
 refine J.nil (Ej.seq (Cj.block (Cj.rangeFunc (ps := [7]) (H1 := [_]) (R := []) (ws.map fun w => [str w]) (fun k I' H' => k ≤ ws.length ∧ ∃ g, gOk 0 1 k ((ws.take k).map str) g ∧ H' = (b1, cel 27 [gV k g]) :: gH 9 ((ws.take k).map str) g) (fun _ _ _ => False) rfl (one_blt rfl) (seq1 _ _) rfl hgen (fun _ _ _ _ _ h => h) ⟨Nat.zero_le _, none, ⟨rfl, rfl⟩, rfl⟩ ?_ ?_ ?_)))
 ·
  intro l r k args I1 Hk w1 hk hle hY
  obtain ⟨x, hx, rfl⟩ := seq1_at hk
  obtain ⟨hkl, g, hg, rfl⟩ := hY
  have hlt := (List.getElem?_eq_some_iff.1 hx).1
  refine Cj.region (J.z (yl_assign rfl rfl) ?_)
  refine J.nil (Ej.asg ?_)
  refine Cj.block (Cj.region (J.z (yl_load rfl rfl Tryz.isAgg27 (Blk.at 1 rfl) rfl) ?_))
  refine J.z (yl_move rfl rfl) ?_
  refine J.op rfl (op_buildSlice rfl rfl rfl Tryz.underlying27 Tryz.sizeOf9 Tryz.zeroValue9 rfl rfl rfl rfl (LCat.one rfl LCat.none) ?_)
  intro b2 hb2
  refine J.op rfl (op_appendB 0 (Nat.zero_le _) (by' := 15) [_, _, _] rfl rfl rfl rfl rfl Tryz.underlying27 (.inr ⟨_, Tryz.underlying27⟩) (by kernel_rfl) Tryz.sizeOf9 Tryz.zeroValue9 rfl hg rfl (Src.slice (Blk.at 0 rfl) rfl rfl rfl) (by omega) ?_)
  intro g3 hg3
  refine J.op rfl (op_store 2 rfl rfl rfl rfl (gV_cells _ _) (gV_one _ _) Tryz.sizeOf27 rfl rfl (LSpl.c LSpl.z) (LSet.s (LSet.s LSet.z)) ?_)
  refine J.nil (Ej.blkNormal (Ej.pull (Pull.s Pull.z) ?_))
  refine Ej.keep (Keeps.k (Keeps.d (Keeps.k Keeps.r))) ?_
  exact Ej.rdNormal ⟨hlt, _, by rw [take_next hx]; exact hg3, by rw [take_next hx]; rfl⟩
 ·
  intro mb4 I2 H2 hle hY
  rw [List.length_map] at hY
  obtain ⟨hkl, g, hg, rfl⟩ := hY
  rw [List.take_length] at hg
  rw [List.take_length]
  refine Ej.blkNormal (Ej.seq (Cj.seq (Cj.region (J.z (yl_load rfl rfl Tryz.isAgg27 (Blk.at 1 rfl) rfl) ?_))))
  refine J.z (yl_assign rfl rfl) ?_
  refine J.nil (Ej.seq (Cj.ret (Ej.leaveM (.inl rfl) ?_)))
  refine LvJ.mark 0 rfl LSet.z ?_
  refine LvJ.keep (Keeps.d (Keeps.d Keeps.r)) ?_
  exact LvJ.ret1 rfl rfl ⟨g, hg, rfl, List.append_nil _⟩
 ·
  exact fun _ _ _ _ _ hZ => hZ.elim

set_option maxRecDepth 20000 in
theorem Collect_ok (ws : List (List UInt8)) (f : Nat) (fst cap : List Value) (I : Heap) (hl : ws.length ≤ 1000000000000) (hgen : Gen Tryz.prog f fst cap I (ws.map fun w => [str w])) : Ctr Tryz.prog 34 [.func (.func f) fst.toArray cap.toArray] I []
    (fun e _I' H' => ∃ g, gOk 0 1 ws.length (ws.map str) g ∧ e = .returned (gV ws.length g) ∧ H' = gH 9 (ws.map str) g) := by
 refine Ctr.of_body Tryz.func34 rfl (by decide) (Nat.le_of_ble_eq_true rfl) ?_
 intro w0 hw0
 refine Cj.seq (Cj.region (J.z (yl_assign rfl rfl) ?_))
 refine J.nil (Ej.seq (Cj.seq (Cj.region (J.z (yl_move rfl rfl) ?_))))
 refine J.op rfl (op_call (H1 := []) rfl rfl rfl rfl rfl (AppendSeq_ok ws f fst cap _ hl hgen) ?_ (fun _ _ _ _ h => by obtain ⟨_, _, h, _⟩ := h; cases h) (fun _ _ h => by obtain ⟨_, _, h, _⟩ := h; cases h))
 intro v1 I2 H3 hle4 hp5
 obtain ⟨g, hg, h, rfl⟩ := hp5; cases h
 refine J.z (yl_assign rfl rfl) ?_
 refine J.nil (Ej.seq (Cj.ret (Ej.ret1 rfl rfl rfl ?_)))
 exact ⟨g, hg, rfl, List.append_nil _⟩

set_option maxRecDepth 20000 in
theorem Words_ok (s : List UInt8) (hs : s.length ≤ 1000000000) (I : Heap) : Ctr Tryz.prog 18 [str s] I [] (fun e I' H' => ∃ v, e = .returned v ∧ StrS 9 I' (Ke.words s) v ∧ H' = []) := by
 have hwl := Ke.words_len s
 refine Ctr.of_body Tryz.func18 rfl (by decide) (Nat.le_of_ble_eq_true rfl) ?_
 intro w0 hw0
 refine Cj.seq (Cj.region (J.z (yl_assign rfl rfl) ?_))
 refine J.nil (Ej.seq (Cj.seq (Cj.region (J.z (yl_move rfl rfl) ?_))))
 refine J.op rfl (op_callN rfl rfl rfl rfl rfl (words_ok s _) ?_ (fun _ _ _ _ h => by obtain ⟨_, h, _⟩ := h; cases h) (fun _ _ h => by obtain ⟨_, h, _⟩ := h; cases h))
 intro v2 I3 H4 hle5 hn1 hp6
 obtain ⟨sb, h, rfl⟩ := hp6; cases h
 refine J.persist (hn1 _ (.head _)) (fun I9 hle9 hsb => ?_)
 refine J.op rfl (op_callN rfl rfl rfl rfl rfl (Collect_ok (Ke.words s) _ [] [ptr sb 0] _ (by omega) (words1_ok sb s hs _ hsb)) ?_ (fun _ _ _ _ h => by obtain ⟨_, _, h, _⟩ := h; cases h) (fun _ _ h => by obtain ⟨_, _, h, _⟩ := h; cases h))
 intro v8 I9 H10 hle11 hn7 hp12
 have hsb := hle11 _ _ hsb
 obtain ⟨g, hg, h, rfl⟩ := hp12; cases h
 refine J.keepS (hg.base hn7) (fun I8 hle8 hv => ?_)
 refine J.z (yl_assign rfl rfl) ?_
 refine J.nil (Ej.seq (Cj.ret (Ej.ret1 rfl rfl rfl ?_)))
 exact ⟨_, rfl, hv, rfl⟩

set_option maxRecDepth 20000 in
theorem Fold_ok (s : List UInt8) (hs : s.length ≤ 1000000000) (I : Heap) : Pure Tryz.prog 15 [str s] I (str (Ke.fold s)) := by
 refine Ctr.toPure ?_
 have hwl := Ke.words_len s
 refine Ctr.of_body Tryz.func15 rfl (by decide) (Nat.le_of_ble_eq_true rfl) ?_
 intro w0 hw0
 refine Cj.seq (Cj.region (J.z (yl_assign rfl rfl) ?_))
 refine J.nil (Ej.seq (Cj.seq (Cj.region (J.z (yl_move rfl rfl) ?_))))
 refine J.op rfl (op_call (H1 := []) rfl rfl rfl rfl rfl (Words_ok s hs _) ?_ (fun _ _ _ _ h => by obtain ⟨_, h, _⟩ := h; cases h) (fun _ _ h => by obtain ⟨_, h, _⟩ := h; cases h))
 intro v1 I2 H3 hle4 hp5
 obtain ⟨v, h, hv, rfl⟩ := hp5; cases h
 refine J.op rfl (op_pure rfl rfl rfl rfl rfl (Join_ok (Ke.words s) _ (by omega) (by omega) _ hv) ?_)
 refine J.z (yl_assign rfl rfl) ?_
 refine J.nil (Ej.seq (Cj.ret (Ej.ret1 rfl rfl rfl ?_)))
 exact ⟨rfl, rfl⟩

end Go.Proofs.YtnogdccoekfnoaaGreatDoor
