/-
  The laws KeysFolds, KeysChars, KeysSorts, KeysTwice and KeysWords, walked. Own text, printed by a program. Conditions: none.
-/
import Derived.Test.YtnogdccoekfnoaaGreatDoorRc
import Derived.Test.YtnogdccoekfnoaaGreatDoorSn
import Derived.Test.YtnogdccoekfnoaaGreatDoorSxStr
import Derived.Test.YtnogdccoekfnoaaGreatDoorKeWords
namespace Go.Proofs.YtnogdccoekfnoaaGreatDoor
open Go Go.Sx
theorem enc4 (r : Int) : (Utf8.encode r).data.toList.length ≤ 4 := by
  unfold Utf8.encode
  dsimp only
  (repeat' split) <;> simp
theorem IntP.mono {I I' : Heap} {l : List Int} {v : Value} (h : IntP I l v) (hle : Le I I') : IntP I' l v := RowS.mono h hle
theorem fold_le {s : List UInt8} {n : Nat} (h : s.length ≤ n) : (Ke.fold s).length ≤ 5 * n + 1 := by
  have := (Ke.words_len s).2
  unfold Ke.fold; omega
theorem Words_size (s : List UInt8) (hs : s.length ≤ 1000000000) (I : Heap) : Ctr Tryz.prog 18 [str s] I [] (fun e I' H' => (∃ p c, e = .returned (.slice p (Ke.words s).length c)) ∧ I' = I ∧ H' = []) :=
  (Words_ok s hs I).forget fun e I' H' _ ⟨v, h1, h2, h3⟩ => by
    obtain ⟨p, c, rfl, _⟩ := StrP.of h2
    exact ⟨⟨p, c, h1⟩, rfl, h3⟩
set_option maxRecDepth 20000 in
theorem KeysFolds_ok (s : List UInt8) (hs : s.length ≤ 10000000) (l : List Int) (v : Value) (I : Heap) (hv : IntP I l v) : Pure Tryz.prog 3 [str s, v] I (.bool true) := by
 refine Ctr.toPure ?_
 have hml := Ke.made_len l
 have hwl := Ke.words_len s
 have hwm := Ke.words_len (Ke.made l)
 refine Ctr.of_body Tryz.func3 rfl (by decide) (Nat.le_of_ble_eq_true rfl) ?_
 intro w0 hw0
 refine Cj.seq (Cj.region (J.z (yl_assign rfl rfl) ?_))
 refine J.nil (Ej.seq (Cj.seq (Cj.region (J.op rfl (op_pure rfl rfl rfl rfl rfl (sanity_ok _) ?_)))))
 refine J.z (yl_assign rfl rfl) ?_
 refine J.nil (Ej.seq (Cj.seq (Cj.region (J.z (yl_move rfl rfl) ?_))))
 refine J.op rfl (op_pure rfl rfl rfl rfl rfl (Made_ok l _ _ hv) ?_)
 refine J.z (yl_assign rfl rfl) ?_
 refine J.nil (Ej.seq (Cj.seq (Cj.region (J.z (yl_move rfl rfl) ?_))))
 refine J.z (yl_move rfl rfl) ?_
 refine J.opG 1 11 true _ rfl rfl rfl rfl (op_yld (yl_move rfl rfl) rfl rfl ?_)
 refine J.opG 1 11 true _ rfl rfl rfl rfl (op_pure rfl rfl rfl rfl rfl (Fold_ok s (by omega) _) ?_)
 refine J.opG 1 11 true _ rfl rfl rfl rfl (op_yld (yl_move rfl rfl) rfl rfl ?_)
 refine J.opG 1 11 true _ rfl rfl rfl rfl (op_pure rfl rfl rfl rfl rfl (rFold_ok s (by omega) _) ?_)
 refine J.opG 1 11 true _ rfl rfl rfl rfl (op_yld (yl_eqlStr rfl rfl rfl) rfl rfl ?_)
 refine J.z (yl_pick1 rfl rfl rfl rfl) ?_
 refine J.z (yl_move rfl rfl) ?_
 refine J.opG 8 18 true _ rfl rfl rfl (beq_self_eq_true _) (op_yld (yl_move rfl rfl) rfl rfl ?_)
 refine J.opG 8 18 true _ rfl rfl rfl (beq_self_eq_true _) (op_pure rfl rfl rfl rfl rfl (Fold_ok (Ke.made l) (by omega) _) ?_)
 refine J.opG 8 18 true _ rfl rfl rfl (beq_self_eq_true _) (op_yld (yl_move rfl rfl) rfl rfl ?_)
 refine J.opG 8 18 true _ rfl rfl rfl (beq_self_eq_true _) (op_pure rfl rfl rfl rfl rfl (rFold_ok (Ke.made l) (by omega) _) ?_)
 refine J.opG 8 18 true _ rfl rfl rfl (beq_self_eq_true _) (op_yld (yl_eqlStr rfl rfl rfl) rfl rfl ?_)
 refine J.z (yl_pick1 rfl rfl (beq_self_eq_true _) rfl) ?_
 refine J.z (yl_move rfl rfl) ?_
 refine J.opG 15 25 true _ rfl rfl rfl (beq_self_eq_true _) (op_yld (yl_move rfl rfl) rfl rfl ?_)
 refine J.opG 15 25 true _ rfl rfl rfl (beq_self_eq_true _) (op_call (H1 := []) rfl rfl rfl rfl rfl (Words_ok s (by omega) _) ?_ (fun _ _ _ _ h => by obtain ⟨_, h, _⟩ := h; cases h) (fun _ _ h => by obtain ⟨_, h, _⟩ := h; cases h))
 intro v1 I2 H3 hle4 hp5
 have hv := hv.mono hle4
 obtain ⟨va1, h, a1, rfl⟩ := hp5; cases h
 refine J.opG 15 25 true _ rfl rfl rfl (beq_self_eq_true _) (op_yld (yl_move rfl rfl) rfl rfl ?_)
 refine J.opG 15 25 true _ rfl rfl rfl (beq_self_eq_true _) (op_callN rfl rfl rfl rfl rfl (rWords_ok s (by omega) _) ?_ (fun _ _ _ _ h => by obtain ⟨_, _, h, _⟩ := h; cases h) (fun _ _ h => by obtain ⟨_, _, h, _⟩ := h; cases h))
 intro v7 I8 H9 hle10 hn6 hp11
 have hv := hv.mono hle10
 have a1 := a1.mono hle10
 obtain ⟨gb1, hgb1, h, rfl⟩ := hp11; cases h
 refine J.keepS (hgb1.base hn6) (fun Ib1 hleb1 b1 => ?_)
 have hv := hv.mono hleb1
 have a1 := a1.mono hleb1
 refine J.opG 15 25 true _ rfl rfl rfl (beq_self_eq_true _) (op_pure rfl rfl rfl rfl rfl (Same_ok (Ke.words s) (Ke.words s) _ _ (by omega) _ (StrP.of a1) (StrP.of b1)) ?_)
 refine J.z (yl_pick1 rfl rfl (beq_self_eq_true _) rfl) ?_
 refine J.z (yl_move rfl rfl) ?_
 refine J.opG 22 32 true _ rfl rfl rfl (decide_eq_true rfl) (op_yld (yl_move rfl rfl) rfl rfl ?_)
 refine J.opG 22 32 true _ rfl rfl rfl (decide_eq_true rfl) (op_call (H1 := []) rfl rfl rfl rfl rfl (Words_ok (Ke.made l) (by omega) _) ?_ (fun _ _ _ _ h => by obtain ⟨_, h, _⟩ := h; cases h) (fun _ _ h => by obtain ⟨_, h, _⟩ := h; cases h))
 intro v12 I13 H14 hle15 hp16
 have hv := hv.mono hle15
 have a1 := a1.mono hle15
 have b1 := b1.mono hle15
 obtain ⟨va2, h, a2, rfl⟩ := hp16; cases h
 refine J.opG 22 32 true _ rfl rfl rfl (decide_eq_true rfl) (op_yld (yl_move rfl rfl) rfl rfl ?_)
 refine J.opG 22 32 true _ rfl rfl rfl (decide_eq_true rfl) (op_callN rfl rfl rfl rfl rfl (rWords_ok (Ke.made l) (by omega) _) ?_ (fun _ _ _ _ h => by obtain ⟨_, _, h, _⟩ := h; cases h) (fun _ _ h => by obtain ⟨_, _, h, _⟩ := h; cases h))
 intro v18 I19 H20 hle21 hn17 hp22
 have hv := hv.mono hle21
 have a1 := a1.mono hle21
 have b1 := b1.mono hle21
 have a2 := a2.mono hle21
 obtain ⟨gb2, hgb2, h, rfl⟩ := hp22; cases h
 refine J.keepS (hgb2.base hn17) (fun Ib2 hleb2 b2 => ?_)
 have hv := hv.mono hleb2
 have a1 := a1.mono hleb2
 have b1 := b1.mono hleb2
 have a2 := a2.mono hleb2
 refine J.opG 22 32 true _ rfl rfl rfl (decide_eq_true rfl) (op_pure rfl rfl rfl rfl rfl (Same_ok (Ke.words (Ke.made l)) (Ke.words (Ke.made l)) _ _ (by omega) _ (StrP.of a2) (StrP.of b2)) ?_)
 refine J.z (yl_pick1 rfl rfl (decide_eq_true rfl) rfl) ?_
 refine J.z (yl_assign rfl rfl) ?_
 refine J.nil (Ej.seq (Cj.ret (Ej.bare ?_)))
 refine Ej.ret1 rfl rfl rfl ?_
 exact ⟨congrArg (fun b => Ending.returned (.bool b)) (decide_eq_true rfl), rfl⟩

set_option maxRecDepth 20000 in
theorem KeysChars_ok (c : Int) (I : Heap) : Pure Tryz.prog 4 [.int .i32 c] I (.bool true) := by
 refine Ctr.toPure ?_
 have h1 := enc4 (IntKind.i32.wrap ((BitVec.ofInt IntKind.i32.bits c &&& BitVec.ofInt IntKind.i32.bits 2047).toNat : Int))
 have h2 := enc4 (IntKind.i32.wrap ((BitVec.ofInt IntKind.i32.bits c &&& BitVec.ofInt IntKind.i32.bits 131071).toNat : Int))
 refine Ctr.of_body Tryz.func4 rfl (by decide) (Nat.le_of_ble_eq_true rfl) ?_
 intro w0 hw0
 refine Cj.seq (Cj.region (J.z (yl_assign rfl rfl) ?_))
 refine J.nil (Ej.seq (Cj.seq (Cj.region (J.op rfl (op_pure rfl rfl rfl rfl rfl (sanity_ok _) ?_)))))
 refine J.z (yl_assign rfl rfl) ?_
 refine J.nil (Ej.seq (Cj.seq (Cj.region (J.z (yl_move rfl rfl) ?_))))
 refine J.z (yl_and rfl rfl rfl) ?_
 refine J.op rfl (op_buildSlice rfl rfl rfl Tryz.underlying30 Tryz.sizeOf21 Tryz.zeroValue21 rfl rfl rfl rfl (LCat.one rfl LCat.none) ?_)
 intro b1 hb1
 refine J.z (yl_toStr1 _ rfl rfl Tryz.underlying30 Tryz.underlying9 Tryz.underlying21 (Blk.at 0 rfl) rfl) ?_
 refine J.z (yl_assign rfl rfl) ?_
 refine J.nil (Ej.seq (Cj.seq (Cj.region (J.z (yl_move rfl rfl) ?_))))
 refine J.z (yl_and rfl rfl rfl) ?_
 refine J.op rfl (op_buildSlice rfl rfl rfl Tryz.underlying30 Tryz.sizeOf21 Tryz.zeroValue21 rfl rfl rfl rfl (LCat.one rfl LCat.none) ?_)
 intro b2 hb2
 refine J.z (yl_toStr1 _ rfl rfl Tryz.underlying30 Tryz.underlying9 Tryz.underlying21 (Blk.at 0 rfl) rfl) ?_
 refine J.z (yl_assign rfl rfl) ?_
 refine J.nil (Ej.seq (Cj.seq (Cj.region (J.z (yl_move rfl rfl) ?_))))
 refine J.z (yl_move rfl rfl) ?_
 refine J.opG 1 16 true _ rfl rfl rfl rfl (op_yld (yl_move rfl rfl) rfl rfl ?_)
 refine J.opG 1 16 true _ rfl rfl rfl rfl (op_pure rfl rfl rfl rfl rfl (Fold_ok _ (by omega) _) ?_)
 refine J.opG 1 16 true _ rfl rfl rfl rfl (op_yld (yl_move rfl rfl) rfl rfl ?_)
 refine J.opG 1 16 true _ rfl rfl rfl rfl (op_pure rfl rfl rfl rfl rfl (rFold_ok _ (by omega) _) ?_)
 refine J.opG 1 16 true _ rfl rfl rfl rfl (op_yld (yl_eqlStr rfl rfl rfl) rfl rfl ?_)
 refine J.z (yl_pick1 rfl rfl rfl rfl) ?_
 refine J.z (yl_move rfl rfl) ?_
 refine J.opG 8 23 true _ rfl rfl rfl (beq_self_eq_true _) (op_yld (yl_move rfl rfl) rfl rfl ?_)
 refine J.opG 8 23 true _ rfl rfl rfl (beq_self_eq_true _) (op_yld (yl_cat rfl rfl rfl (by first | omega | (simp only [List.length_cons, List.length_nil]; omega))) rfl rfl ?_)
 refine J.opG 8 23 true _ rfl rfl rfl (beq_self_eq_true _) (op_yld (yl_cat rfl rfl rfl (by first | omega | (simp only [List.length_append, List.length_cons, List.length_nil]; omega))) rfl rfl ?_)
 refine J.opG 8 23 true _ rfl rfl rfl (beq_self_eq_true _) (op_pure rfl rfl rfl rfl rfl (Fold_ok _ (by simp only [List.length_append, List.length_cons, List.length_nil]; omega) _) ?_)
 refine J.opG 8 23 true _ rfl rfl rfl (beq_self_eq_true _) (op_yld (yl_move rfl rfl) rfl rfl ?_)
 refine J.opG 8 23 true _ rfl rfl rfl (beq_self_eq_true _) (op_yld (yl_cat rfl rfl rfl (by first | omega | (simp only [List.length_cons, List.length_nil]; omega))) rfl rfl ?_)
 refine J.opG 8 23 true _ rfl rfl rfl (beq_self_eq_true _) (op_yld (yl_cat rfl rfl rfl (by first | omega | (simp only [List.length_append, List.length_cons, List.length_nil]; omega))) rfl rfl ?_)
 refine J.opG 8 23 true _ rfl rfl rfl (beq_self_eq_true _) (op_pure rfl rfl rfl rfl rfl (rFold_ok _ (by simp only [List.length_append, List.length_cons, List.length_nil]; omega) _) ?_)
 refine J.opG 8 23 true _ rfl rfl rfl (beq_self_eq_true _) (op_yld (yl_eqlStr rfl rfl rfl) rfl rfl ?_)
 refine J.z (yl_pick1 rfl rfl (beq_self_eq_true _) rfl) ?_
 refine J.z (yl_assign rfl rfl) ?_
 refine J.nil (Ej.seq (Cj.ret (Ej.bare ?_)))
 refine Ej.ret1 rfl rfl rfl ?_
 exact ⟨congrArg (fun b => Ending.returned (.bool b)) (beq_self_eq_true _), rfl⟩

set_option maxRecDepth 20000 in
theorem KeysSorts_ok (s : List UInt8) (hs : s.length ≤ 10000000) (l : List Int) (v : Value) (skip : Int) (I : Heap) (hv : IntP I l v) : Pure Tryz.prog 7 [str s, v, i64 skip] I (.bool true) := by
 refine Ctr.toPure ?_
 have hml := Ke.made_len l
 refine Ctr.of_body Tryz.func7 rfl (by decide) (Nat.le_of_ble_eq_true rfl) ?_
 intro w0 hw0
 refine Cj.seq (Cj.region (J.z (yl_assign rfl rfl) ?_))
 refine J.nil (Ej.seq (Cj.seq (Cj.region (J.op rfl (op_pure rfl rfl rfl rfl rfl (sanity_ok _) ?_)))))
 refine J.z (yl_assign rfl rfl) ?_
 refine J.nil (Ej.seq (Cj.seq (Cj.region (J.z (yl_move rfl rfl) ?_))))
 refine J.op rfl (op_pure rfl rfl rfl rfl rfl (Made_ok l _ _ hv) ?_)
 refine J.z (yl_assign rfl rfl) ?_
 refine J.nil (Ej.seq (Cj.seq (Cj.region (J.z (yl_move rfl rfl) ?_))))
 refine J.z (yl_move rfl rfl) ?_
 refine J.opG 1 13 true _ rfl rfl rfl rfl (op_yld (yl_move rfl rfl) rfl rfl ?_)
 refine J.opG 1 13 true _ rfl rfl rfl rfl (op_yld (yl_move rfl rfl) rfl rfl ?_)
 refine J.opG 1 13 true _ rfl rfl rfl rfl (op_pure rfl rfl rfl rfl rfl (Sort_ok s skip (by omega) _) ?_)
 refine J.opG 1 13 true _ rfl rfl rfl rfl (op_yld (yl_move rfl rfl) rfl rfl ?_)
 refine J.opG 1 13 true _ rfl rfl rfl rfl (op_yld (yl_move rfl rfl) rfl rfl ?_)
 refine J.opG 1 13 true _ rfl rfl rfl rfl (op_pure rfl rfl rfl rfl rfl (rSort_ok s skip (by omega) _) ?_)
 refine J.opG 1 13 true _ rfl rfl rfl rfl (op_yld (yl_eqlStr rfl rfl rfl) rfl rfl ?_)
 refine J.z (yl_pick1 rfl rfl rfl rfl) ?_
 refine J.z (yl_move rfl rfl) ?_
 refine J.opG 10 22 true _ rfl rfl rfl (beq_self_eq_true _) (op_yld (yl_move rfl rfl) rfl rfl ?_)
 refine J.opG 10 22 true _ rfl rfl rfl (beq_self_eq_true _) (op_yld (yl_move rfl rfl) rfl rfl ?_)
 refine J.opG 10 22 true _ rfl rfl rfl (beq_self_eq_true _) (op_pure rfl rfl rfl rfl rfl (Sort_ok (Ke.made l) skip (by omega) _) ?_)
 refine J.opG 10 22 true _ rfl rfl rfl (beq_self_eq_true _) (op_yld (yl_move rfl rfl) rfl rfl ?_)
 refine J.opG 10 22 true _ rfl rfl rfl (beq_self_eq_true _) (op_yld (yl_move rfl rfl) rfl rfl ?_)
 refine J.opG 10 22 true _ rfl rfl rfl (beq_self_eq_true _) (op_pure rfl rfl rfl rfl rfl (rSort_ok (Ke.made l) skip (by omega) _) ?_)
 refine J.opG 10 22 true _ rfl rfl rfl (beq_self_eq_true _) (op_yld (yl_eqlStr rfl rfl rfl) rfl rfl ?_)
 refine J.z (yl_pick1 rfl rfl (beq_self_eq_true _) rfl) ?_
 refine J.z (yl_move rfl rfl) ?_
 refine J.opG 19 31 true _ rfl rfl rfl (beq_self_eq_true _) (op_yld (yl_move rfl rfl) rfl rfl ?_)
 refine J.opG 19 31 true _ rfl rfl rfl (beq_self_eq_true _) (op_yld (yl_move rfl rfl) rfl rfl ?_)
 refine J.opG 19 31 true _ rfl rfl rfl (beq_self_eq_true _) (op_yld (yl_rem rfl rfl rfl (by decide)) rfl rfl ?_)
 refine J.opG 19 31 true _ rfl rfl rfl (beq_self_eq_true _) (op_pure rfl rfl rfl rfl rfl (Sort_ok (Ke.made l) (skip.tmod 20) (by omega) _) ?_)
 refine J.opG 19 31 true _ rfl rfl rfl (beq_self_eq_true _) (op_yld (yl_move rfl rfl) rfl rfl ?_)
 refine J.opG 19 31 true _ rfl rfl rfl (beq_self_eq_true _) (op_yld (yl_move rfl rfl) rfl rfl ?_)
 refine J.opG 19 31 true _ rfl rfl rfl (beq_self_eq_true _) (op_yld (yl_rem rfl rfl rfl (by decide)) rfl rfl ?_)
 refine J.opG 19 31 true _ rfl rfl rfl (beq_self_eq_true _) (op_pure rfl rfl rfl rfl rfl (rSort_ok (Ke.made l) (skip.tmod 20) (by omega) _) ?_)
 refine J.opG 19 31 true _ rfl rfl rfl (beq_self_eq_true _) (op_yld (yl_eqlStr rfl rfl rfl) rfl rfl ?_)
 refine J.z (yl_pick1 rfl rfl (beq_self_eq_true _) rfl) ?_
 refine J.z (yl_assign rfl rfl) ?_
 refine J.nil (Ej.seq (Cj.ret (Ej.bare ?_)))
 refine Ej.ret1 rfl rfl rfl ?_
 exact ⟨congrArg (fun b => Ending.returned (.bool b)) (beq_self_eq_true _), rfl⟩

set_option maxRecDepth 20000 in
theorem KeysTwice_ok (l m : List Int) (v w : Value) (I : Heap) (hv : IntP I l v) (hw : IntP I m w) : Pure Tryz.prog 5 [v, w] I (.bool true) := by
 refine Ctr.toPure ?_
 have hml := Ke.made_len l
 have hmm := Ke.made_len m
 have hfl := fold_le hml
 have hfm := fold_le hmm
 refine Ctr.of_body Tryz.func5 rfl (by decide) (Nat.le_of_ble_eq_true rfl) ?_
 intro w0 hw0
 refine Cj.seq (Cj.region (J.z (yl_assign rfl rfl) ?_))
 refine J.nil (Ej.seq (Cj.seq (Cj.region (J.op rfl (op_pure rfl rfl rfl rfl rfl (sanity_ok _) ?_)))))
 refine J.z (yl_assign rfl rfl) ?_
 refine J.nil (Ej.seq (Cj.seq (Cj.region (J.z (yl_move rfl rfl) ?_))))
 refine J.op rfl (op_pure rfl rfl rfl rfl rfl (Made_ok l _ _ hv) ?_)
 refine J.z (yl_assign rfl rfl) ?_
 refine J.nil (Ej.seq (Cj.seq (Cj.region (J.z (yl_move rfl rfl) ?_))))
 refine J.op rfl (op_pure rfl rfl rfl rfl rfl (Made_ok m _ _ hw) ?_)
 refine J.z (yl_assign rfl rfl) ?_
 refine J.nil (Ej.seq (Cj.seq (Cj.region (J.z (yl_move rfl rfl) ?_))))
 refine J.op rfl (op_pure rfl rfl rfl rfl rfl (Fold_ok (Ke.made l) (by first | omega | (simp only [List.length_append, List.length_cons, List.length_nil]; omega)) _) ?_)
 refine J.z (yl_assign rfl rfl) ?_
 refine J.nil (Ej.seq (Cj.seq (Cj.region (J.z (yl_move rfl rfl) ?_))))
 refine J.z (yl_assign rfl rfl) ?_
 refine J.nil (Ej.seq (Cj.seq (Cj.seq (Cj.region (J.z (yl_move rfl rfl) ?_)))))
 refine J.z (yl_neqStr rfl rfl rfl) ?_
 refine J.z (yl_move rfl rfl) ?_
 refine J.split 20 rfl (fun hg1 => ?_) (fun hg1 => ?_)
 ·
  have hfa : Ke.fold (Ke.made l) ≠ [] := bne_iff_ne.1 hg1
  refine J.opG 2 20 true _ rfl rfl rfl hg1 (op_yld (yl_move rfl rfl) rfl rfl ?_)
  refine J.opG 2 20 true _ rfl rfl rfl hg1 (op_pure rfl rfl rfl rfl rfl (Fold_ok (Ke.made m) (by first | omega | (simp only [List.length_append, List.length_cons, List.length_nil]; omega)) _) ?_)
  refine J.opG 2 20 true _ rfl rfl rfl hg1 (op_yld (yl_neqStr rfl rfl rfl) rfl rfl ?_)
  refine J.z (yl_pick1 rfl rfl hg1 rfl) ?_
  refine J.nil (Ej.seq (Cj.cond rfl (fun hc2 => ?_) (fun hc2 => ?_)))
  ·
   have hc2p := bne_iff_ne.1 hc2
   have hfb : Ke.fold (Ke.made m) ≠ [] := bne_iff_ne.1 hc2
   have hbo : (Ke.both (Ke.fold (Ke.made l)) (Ke.fold (Ke.made m))) = Ke.fold (Ke.made l) ++ [32] ++ Ke.fold (Ke.made m) := by unfold Ke.both; rw [if_pos ⟨hfa, hfb⟩]
   refine Cj.region (J.z (yl_move rfl rfl) ?_)
   refine J.z (yl_cat rfl rfl rfl (by first | omega | (simp only [List.length_cons, List.length_nil]; omega))) ?_
   refine J.z (yl_assign rfl rfl) ?_
   refine J.nil (Ej.seq (Cj.seq (Cj.region (J.z (yl_move rfl rfl) ?_))))
   refine J.z (yl_move rfl rfl) ?_
   refine J.op rfl (op_pure rfl rfl rfl rfl rfl (Fold_ok (Ke.made m) (by first | omega | (simp only [List.length_append, List.length_cons, List.length_nil]; omega)) _) ?_)
   refine J.z (yl_cat rfl rfl rfl (by first | omega | (simp only [List.length_append, List.length_cons, List.length_nil]; omega))) ?_
   refine J.eqv 30 rfl (show _ = str (Ke.both (Ke.fold (Ke.made l)) (Ke.fold (Ke.made m))) from (by rw [hbo])) ?_
   refine J.z (yl_assign rfl rfl) ?_
   refine J.nil (Ej.seq (Cj.seq (Cj.region (J.z (yl_move rfl rfl) ?_))))
   refine J.z (yl_move rfl rfl) ?_
   refine J.opG 1 32 true _ rfl rfl rfl rfl (op_yld (yl_move rfl rfl) rfl rfl ?_)
   refine J.opG 1 32 true _ rfl rfl rfl rfl (op_pure rfl rfl rfl rfl rfl (Fold_ok (Ke.fold (Ke.made l)) (by first | omega | (simp only [List.length_append, List.length_cons, List.length_nil]; omega)) _) ?_)
   refine J.opG 1 32 true _ rfl rfl rfl rfl (op_yld (yl_move rfl rfl) rfl rfl ?_)
   refine J.opG 1 32 true _ rfl rfl rfl rfl (op_yld (yl_eqlStr rfl rfl rfl) rfl rfl ?_)
   refine J.z (yl_pick1 rfl rfl rfl rfl) ?_
   refine J.z (yl_move rfl rfl) ?_
   refine J.opG 7 38 true _ rfl rfl rfl (beq_iff_eq.2 (Ke.fold_fold _)) (op_yld (yl_move rfl rfl) rfl rfl ?_)
   refine J.opG 7 38 true _ rfl rfl rfl (beq_iff_eq.2 (Ke.fold_fold _)) (op_yld (yl_cat rfl rfl rfl (by first | omega | (simp only [List.length_cons, List.length_nil]; omega))) rfl rfl ?_)
   refine J.opG 7 38 true _ rfl rfl rfl (beq_iff_eq.2 (Ke.fold_fold _)) (op_yld (yl_move rfl rfl) rfl rfl ?_)
   refine J.opG 7 38 true _ rfl rfl rfl (beq_iff_eq.2 (Ke.fold_fold _)) (op_yld (yl_cat rfl rfl rfl (by first | omega | (simp only [List.length_append, List.length_cons, List.length_nil]; omega))) rfl rfl ?_)
   refine J.opG 7 38 true _ rfl rfl rfl (beq_iff_eq.2 (Ke.fold_fold _)) (op_pure rfl rfl rfl rfl rfl (Fold_ok ((Ke.made l) ++ [44, 32, 45, 32] ++ (Ke.made m)) (by first | omega | (simp only [List.length_append, List.length_cons, List.length_nil]; omega)) _) ?_)
   refine J.opG 7 38 true _ rfl rfl rfl (beq_iff_eq.2 (Ke.fold_fold _)) (op_yld (yl_move rfl rfl) rfl rfl ?_)
   refine J.opG 7 38 true _ rfl rfl rfl (beq_iff_eq.2 (Ke.fold_fold _)) (op_yld (yl_eqlStr rfl rfl rfl) rfl rfl ?_)
   refine J.z (yl_pick1 rfl rfl (beq_iff_eq.2 (Ke.fold_fold _)) rfl) ?_
   refine J.z (yl_move rfl rfl) ?_
   refine J.opG 16 47 true _ rfl rfl rfl (beq_iff_eq.2 (Ke.fold_two _ _)) (op_yld (yl_move rfl rfl) rfl rfl ?_)
   refine J.opG 16 47 true _ rfl rfl rfl (beq_iff_eq.2 (Ke.fold_two _ _)) (op_yld (yl_cat rfl rfl rfl (by first | omega | (simp only [List.length_cons, List.length_nil]; omega))) rfl rfl ?_)
   refine J.opG 16 47 true _ rfl rfl rfl (beq_iff_eq.2 (Ke.fold_two _ _)) (op_yld (yl_cat rfl rfl rfl (by first | omega | (simp only [List.length_append, List.length_cons, List.length_nil]; omega))) rfl rfl ?_)
   refine J.opG 16 47 true _ rfl rfl rfl (beq_iff_eq.2 (Ke.fold_two _ _)) (op_pure rfl rfl rfl rfl rfl (Fold_ok ([32] ++ (Ke.made l) ++ [204, 129, 204, 163, 32]) (by first | omega | (simp only [List.length_append, List.length_cons, List.length_nil]; omega)) _) ?_)
   refine J.opG 16 47 true _ rfl rfl rfl (beq_iff_eq.2 (Ke.fold_two _ _)) (op_yld (yl_move rfl rfl) rfl rfl ?_)
   refine J.opG 16 47 true _ rfl rfl rfl (beq_iff_eq.2 (Ke.fold_two _ _)) (op_yld (yl_eqlStr rfl rfl rfl) rfl rfl ?_)
   refine J.z (yl_pick1 rfl rfl (beq_iff_eq.2 (Ke.fold_two _ _)) rfl) ?_
   refine J.z (yl_move rfl rfl) ?_
   refine J.opG 24 55 true _ rfl rfl rfl (beq_iff_eq.2 (Ke.fold_marks _)) (op_yld (yl_move rfl rfl) rfl rfl ?_)
   refine J.opG 24 55 true _ rfl rfl rfl (beq_iff_eq.2 (Ke.fold_marks _)) (op_yld (yl_cat rfl rfl rfl (by first | omega | (simp only [List.length_cons, List.length_nil]; omega))) rfl rfl ?_)
   refine J.opG 24 55 true _ rfl rfl rfl (beq_iff_eq.2 (Ke.fold_marks _)) (op_yld (yl_cat rfl rfl rfl (by first | omega | (simp only [List.length_append, List.length_cons, List.length_nil]; omega))) rfl rfl ?_)
   refine J.opG 24 55 true _ rfl rfl rfl (beq_iff_eq.2 (Ke.fold_marks _)) (op_pure rfl rfl rfl rfl rfl (Fold_ok ([40] ++ (Ke.made l) ++ [41]) (by first | omega | (simp only [List.length_append, List.length_cons, List.length_nil]; omega)) _) ?_)
   refine J.opG 24 55 true _ rfl rfl rfl (beq_iff_eq.2 (Ke.fold_marks _)) (op_yld (yl_move rfl rfl) rfl rfl ?_)
   refine J.opG 24 55 true _ rfl rfl rfl (beq_iff_eq.2 (Ke.fold_marks _)) (op_yld (yl_eqlStr rfl rfl rfl) rfl rfl ?_)
   refine J.z (yl_pick1 rfl rfl (beq_iff_eq.2 (Ke.fold_marks _)) rfl) ?_
   refine J.z (yl_assign rfl rfl) ?_
   refine J.nil (Ej.seq (Cj.ret (Ej.bare ?_)))
   refine Ej.ret1 rfl rfl rfl ?_
   exact ⟨congrArg (fun b => Ending.returned (.bool b)) (beq_iff_eq.2 (Ke.fold_paren _)), rfl⟩
  ·
   have hc2p := bne_f hc2
   have hfb : Ke.fold (Ke.made m) = [] := bne_f hc2
   have hbo : (Ke.both (Ke.fold (Ke.made l)) (Ke.fold (Ke.made m))) = Ke.fold (Ke.made l) ++ Ke.fold (Ke.made m) := by unfold Ke.both; rw [if_neg (fun h => h.2 hfb)]
   refine Cj.skip (Ej.seq (Cj.seq (Cj.region (J.z (yl_move rfl rfl) ?_))))
   refine J.z (yl_move rfl rfl) ?_
   refine J.op rfl (op_pure rfl rfl rfl rfl rfl (Fold_ok (Ke.made m) (by first | omega | (simp only [List.length_append, List.length_cons, List.length_nil]; omega)) _) ?_)
   refine J.z (yl_cat rfl rfl rfl (by first | omega | (simp only [List.length_append, List.length_cons, List.length_nil]; omega))) ?_
   refine J.eqv 30 rfl (show _ = str (Ke.both (Ke.fold (Ke.made l)) (Ke.fold (Ke.made m))) from (by rw [hbo])) ?_
   refine J.z (yl_assign rfl rfl) ?_
   refine J.nil (Ej.seq (Cj.seq (Cj.region (J.z (yl_move rfl rfl) ?_))))
   refine J.z (yl_move rfl rfl) ?_
   refine J.opG 1 32 true _ rfl rfl rfl rfl (op_yld (yl_move rfl rfl) rfl rfl ?_)
   refine J.opG 1 32 true _ rfl rfl rfl rfl (op_pure rfl rfl rfl rfl rfl (Fold_ok (Ke.fold (Ke.made l)) (by first | omega | (simp only [List.length_append, List.length_cons, List.length_nil]; omega)) _) ?_)
   refine J.opG 1 32 true _ rfl rfl rfl rfl (op_yld (yl_move rfl rfl) rfl rfl ?_)
   refine J.opG 1 32 true _ rfl rfl rfl rfl (op_yld (yl_eqlStr rfl rfl rfl) rfl rfl ?_)
   refine J.z (yl_pick1 rfl rfl rfl rfl) ?_
   refine J.z (yl_move rfl rfl) ?_
   refine J.opG 7 38 true _ rfl rfl rfl (beq_iff_eq.2 (Ke.fold_fold _)) (op_yld (yl_move rfl rfl) rfl rfl ?_)
   refine J.opG 7 38 true _ rfl rfl rfl (beq_iff_eq.2 (Ke.fold_fold _)) (op_yld (yl_cat rfl rfl rfl (by first | omega | (simp only [List.length_cons, List.length_nil]; omega))) rfl rfl ?_)
   refine J.opG 7 38 true _ rfl rfl rfl (beq_iff_eq.2 (Ke.fold_fold _)) (op_yld (yl_move rfl rfl) rfl rfl ?_)
   refine J.opG 7 38 true _ rfl rfl rfl (beq_iff_eq.2 (Ke.fold_fold _)) (op_yld (yl_cat rfl rfl rfl (by first | omega | (simp only [List.length_append, List.length_cons, List.length_nil]; omega))) rfl rfl ?_)
   refine J.opG 7 38 true _ rfl rfl rfl (beq_iff_eq.2 (Ke.fold_fold _)) (op_pure rfl rfl rfl rfl rfl (Fold_ok ((Ke.made l) ++ [44, 32, 45, 32] ++ (Ke.made m)) (by first | omega | (simp only [List.length_append, List.length_cons, List.length_nil]; omega)) _) ?_)
   refine J.opG 7 38 true _ rfl rfl rfl (beq_iff_eq.2 (Ke.fold_fold _)) (op_yld (yl_move rfl rfl) rfl rfl ?_)
   refine J.opG 7 38 true _ rfl rfl rfl (beq_iff_eq.2 (Ke.fold_fold _)) (op_yld (yl_eqlStr rfl rfl rfl) rfl rfl ?_)
   refine J.z (yl_pick1 rfl rfl (beq_iff_eq.2 (Ke.fold_fold _)) rfl) ?_
   refine J.z (yl_move rfl rfl) ?_
   refine J.opG 16 47 true _ rfl rfl rfl (beq_iff_eq.2 (Ke.fold_two _ _)) (op_yld (yl_move rfl rfl) rfl rfl ?_)
   refine J.opG 16 47 true _ rfl rfl rfl (beq_iff_eq.2 (Ke.fold_two _ _)) (op_yld (yl_cat rfl rfl rfl (by first | omega | (simp only [List.length_cons, List.length_nil]; omega))) rfl rfl ?_)
   refine J.opG 16 47 true _ rfl rfl rfl (beq_iff_eq.2 (Ke.fold_two _ _)) (op_yld (yl_cat rfl rfl rfl (by first | omega | (simp only [List.length_append, List.length_cons, List.length_nil]; omega))) rfl rfl ?_)
   refine J.opG 16 47 true _ rfl rfl rfl (beq_iff_eq.2 (Ke.fold_two _ _)) (op_pure rfl rfl rfl rfl rfl (Fold_ok ([32] ++ (Ke.made l) ++ [204, 129, 204, 163, 32]) (by first | omega | (simp only [List.length_append, List.length_cons, List.length_nil]; omega)) _) ?_)
   refine J.opG 16 47 true _ rfl rfl rfl (beq_iff_eq.2 (Ke.fold_two _ _)) (op_yld (yl_move rfl rfl) rfl rfl ?_)
   refine J.opG 16 47 true _ rfl rfl rfl (beq_iff_eq.2 (Ke.fold_two _ _)) (op_yld (yl_eqlStr rfl rfl rfl) rfl rfl ?_)
   refine J.z (yl_pick1 rfl rfl (beq_iff_eq.2 (Ke.fold_two _ _)) rfl) ?_
   refine J.z (yl_move rfl rfl) ?_
   refine J.opG 24 55 true _ rfl rfl rfl (beq_iff_eq.2 (Ke.fold_marks _)) (op_yld (yl_move rfl rfl) rfl rfl ?_)
   refine J.opG 24 55 true _ rfl rfl rfl (beq_iff_eq.2 (Ke.fold_marks _)) (op_yld (yl_cat rfl rfl rfl (by first | omega | (simp only [List.length_cons, List.length_nil]; omega))) rfl rfl ?_)
   refine J.opG 24 55 true _ rfl rfl rfl (beq_iff_eq.2 (Ke.fold_marks _)) (op_yld (yl_cat rfl rfl rfl (by first | omega | (simp only [List.length_append, List.length_cons, List.length_nil]; omega))) rfl rfl ?_)
   refine J.opG 24 55 true _ rfl rfl rfl (beq_iff_eq.2 (Ke.fold_marks _)) (op_pure rfl rfl rfl rfl rfl (Fold_ok ([40] ++ (Ke.made l) ++ [41]) (by first | omega | (simp only [List.length_append, List.length_cons, List.length_nil]; omega)) _) ?_)
   refine J.opG 24 55 true _ rfl rfl rfl (beq_iff_eq.2 (Ke.fold_marks _)) (op_yld (yl_move rfl rfl) rfl rfl ?_)
   refine J.opG 24 55 true _ rfl rfl rfl (beq_iff_eq.2 (Ke.fold_marks _)) (op_yld (yl_eqlStr rfl rfl rfl) rfl rfl ?_)
   refine J.z (yl_pick1 rfl rfl (beq_iff_eq.2 (Ke.fold_marks _)) rfl) ?_
   refine J.z (yl_assign rfl rfl) ?_
   refine J.nil (Ej.seq (Cj.ret (Ej.bare ?_)))
   refine Ej.ret1 rfl rfl rfl ?_
   exact ⟨congrArg (fun b => Ending.returned (.bool b)) (beq_iff_eq.2 (Ke.fold_paren _)), rfl⟩
 ·
  have hfa : Ke.fold (Ke.made l) = [] := bne_f hg1
  have hbo : (Ke.both (Ke.fold (Ke.made l)) (Ke.fold (Ke.made m))) = Ke.fold (Ke.made l) ++ Ke.fold (Ke.made m) := by unfold Ke.both; rw [if_neg (fun h => h.1 hfa)]
  refine J.skip 2 20 21 true _ rfl rfl rfl hg1 rfl rfl ?_
  refine J.skip 2 20 22 true _ rfl rfl rfl hg1 rfl rfl ?_
  refine J.skip 2 20 23 true _ rfl rfl rfl hg1 rfl rfl ?_
  refine J.z (yl_pick0 rfl rfl hg1 rfl) ?_
  refine J.nil (Ej.seq (Cj.cond rfl (fun hc3 => Bool.noConfusion (Eq.trans (Eq.symm rfl) hc3)) (fun hc3 => ?_)))
  refine Cj.skip (Ej.seq (Cj.seq (Cj.region (J.z (yl_move rfl rfl) ?_))))
  refine J.z (yl_move rfl rfl) ?_
  refine J.op rfl (op_pure rfl rfl rfl rfl rfl (Fold_ok (Ke.made m) (by first | omega | (simp only [List.length_append, List.length_cons, List.length_nil]; omega)) _) ?_)
  refine J.z (yl_cat rfl rfl rfl (by first | omega | (simp only [List.length_append, List.length_cons, List.length_nil]; omega))) ?_
  refine J.eqv 30 rfl (show _ = str (Ke.both (Ke.fold (Ke.made l)) (Ke.fold (Ke.made m))) from (by rw [hbo])) ?_
  refine J.z (yl_assign rfl rfl) ?_
  refine J.nil (Ej.seq (Cj.seq (Cj.region (J.z (yl_move rfl rfl) ?_))))
  refine J.z (yl_move rfl rfl) ?_
  refine J.opG 1 32 true _ rfl rfl rfl rfl (op_yld (yl_move rfl rfl) rfl rfl ?_)
  refine J.opG 1 32 true _ rfl rfl rfl rfl (op_pure rfl rfl rfl rfl rfl (Fold_ok (Ke.fold (Ke.made l)) (by first | omega | (simp only [List.length_append, List.length_cons, List.length_nil]; omega)) _) ?_)
  refine J.opG 1 32 true _ rfl rfl rfl rfl (op_yld (yl_move rfl rfl) rfl rfl ?_)
  refine J.opG 1 32 true _ rfl rfl rfl rfl (op_yld (yl_eqlStr rfl rfl rfl) rfl rfl ?_)
  refine J.z (yl_pick1 rfl rfl rfl rfl) ?_
  refine J.z (yl_move rfl rfl) ?_
  refine J.opG 7 38 true _ rfl rfl rfl (beq_iff_eq.2 (Ke.fold_fold _)) (op_yld (yl_move rfl rfl) rfl rfl ?_)
  refine J.opG 7 38 true _ rfl rfl rfl (beq_iff_eq.2 (Ke.fold_fold _)) (op_yld (yl_cat rfl rfl rfl (by first | omega | (simp only [List.length_cons, List.length_nil]; omega))) rfl rfl ?_)
  refine J.opG 7 38 true _ rfl rfl rfl (beq_iff_eq.2 (Ke.fold_fold _)) (op_yld (yl_move rfl rfl) rfl rfl ?_)
  refine J.opG 7 38 true _ rfl rfl rfl (beq_iff_eq.2 (Ke.fold_fold _)) (op_yld (yl_cat rfl rfl rfl (by first | omega | (simp only [List.length_append, List.length_cons, List.length_nil]; omega))) rfl rfl ?_)
  refine J.opG 7 38 true _ rfl rfl rfl (beq_iff_eq.2 (Ke.fold_fold _)) (op_pure rfl rfl rfl rfl rfl (Fold_ok ((Ke.made l) ++ [44, 32, 45, 32] ++ (Ke.made m)) (by first | omega | (simp only [List.length_append, List.length_cons, List.length_nil]; omega)) _) ?_)
  refine J.opG 7 38 true _ rfl rfl rfl (beq_iff_eq.2 (Ke.fold_fold _)) (op_yld (yl_move rfl rfl) rfl rfl ?_)
  refine J.opG 7 38 true _ rfl rfl rfl (beq_iff_eq.2 (Ke.fold_fold _)) (op_yld (yl_eqlStr rfl rfl rfl) rfl rfl ?_)
  refine J.z (yl_pick1 rfl rfl (beq_iff_eq.2 (Ke.fold_fold _)) rfl) ?_
  refine J.z (yl_move rfl rfl) ?_
  refine J.opG 16 47 true _ rfl rfl rfl (beq_iff_eq.2 (Ke.fold_two _ _)) (op_yld (yl_move rfl rfl) rfl rfl ?_)
  refine J.opG 16 47 true _ rfl rfl rfl (beq_iff_eq.2 (Ke.fold_two _ _)) (op_yld (yl_cat rfl rfl rfl (by first | omega | (simp only [List.length_cons, List.length_nil]; omega))) rfl rfl ?_)
  refine J.opG 16 47 true _ rfl rfl rfl (beq_iff_eq.2 (Ke.fold_two _ _)) (op_yld (yl_cat rfl rfl rfl (by first | omega | (simp only [List.length_append, List.length_cons, List.length_nil]; omega))) rfl rfl ?_)
  refine J.opG 16 47 true _ rfl rfl rfl (beq_iff_eq.2 (Ke.fold_two _ _)) (op_pure rfl rfl rfl rfl rfl (Fold_ok ([32] ++ (Ke.made l) ++ [204, 129, 204, 163, 32]) (by first | omega | (simp only [List.length_append, List.length_cons, List.length_nil]; omega)) _) ?_)
  refine J.opG 16 47 true _ rfl rfl rfl (beq_iff_eq.2 (Ke.fold_two _ _)) (op_yld (yl_move rfl rfl) rfl rfl ?_)
  refine J.opG 16 47 true _ rfl rfl rfl (beq_iff_eq.2 (Ke.fold_two _ _)) (op_yld (yl_eqlStr rfl rfl rfl) rfl rfl ?_)
  refine J.z (yl_pick1 rfl rfl (beq_iff_eq.2 (Ke.fold_two _ _)) rfl) ?_
  refine J.z (yl_move rfl rfl) ?_
  refine J.opG 24 55 true _ rfl rfl rfl (beq_iff_eq.2 (Ke.fold_marks _)) (op_yld (yl_move rfl rfl) rfl rfl ?_)
  refine J.opG 24 55 true _ rfl rfl rfl (beq_iff_eq.2 (Ke.fold_marks _)) (op_yld (yl_cat rfl rfl rfl (by first | omega | (simp only [List.length_cons, List.length_nil]; omega))) rfl rfl ?_)
  refine J.opG 24 55 true _ rfl rfl rfl (beq_iff_eq.2 (Ke.fold_marks _)) (op_yld (yl_cat rfl rfl rfl (by first | omega | (simp only [List.length_append, List.length_cons, List.length_nil]; omega))) rfl rfl ?_)
  refine J.opG 24 55 true _ rfl rfl rfl (beq_iff_eq.2 (Ke.fold_marks _)) (op_pure rfl rfl rfl rfl rfl (Fold_ok ([40] ++ (Ke.made l) ++ [41]) (by first | omega | (simp only [List.length_append, List.length_cons, List.length_nil]; omega)) _) ?_)
  refine J.opG 24 55 true _ rfl rfl rfl (beq_iff_eq.2 (Ke.fold_marks _)) (op_yld (yl_move rfl rfl) rfl rfl ?_)
  refine J.opG 24 55 true _ rfl rfl rfl (beq_iff_eq.2 (Ke.fold_marks _)) (op_yld (yl_eqlStr rfl rfl rfl) rfl rfl ?_)
  refine J.z (yl_pick1 rfl rfl (beq_iff_eq.2 (Ke.fold_marks _)) rfl) ?_
  refine J.z (yl_assign rfl rfl) ?_
  refine J.nil (Ej.seq (Cj.ret (Ej.bare ?_)))
  refine Ej.ret1 rfl rfl rfl ?_
  exact ⟨congrArg (fun b => Ending.returned (.bool b)) (beq_iff_eq.2 (Ke.fold_paren _)), rfl⟩

set_option maxRecDepth 20000 in
theorem KeysWords_ok (s : List UInt8) (hs : s.length ≤ 10000000) (l : List Int) (v : Value) (I : Heap) (hv : IntP I l v) : Pure Tryz.prog 6 [str s, v] I (.bool true) := by
 refine Ctr.toPure ?_
 have hml := Ke.made_len l
 have hTl : (s ++ [32] ++ Ke.made l).length ≤ 20000000 := by simp only [List.length_append, List.length_cons, List.length_nil]; omega
 have hwl := Ke.words_len (s ++ [32] ++ Ke.made l)
 refine Ctr.of_body Tryz.func6 rfl (by decide) (Nat.le_of_ble_eq_true rfl) ?_
 intro w0 hw0
 refine Cj.seq (Cj.region (J.z (yl_assign rfl rfl) ?_))
 refine J.nil (Ej.seq (Cj.seq (Cj.region (J.op rfl (op_pure rfl rfl rfl rfl rfl (sanity_ok _) ?_)))))
 refine J.z (yl_assign rfl rfl) ?_
 refine J.nil (Ej.seq (Cj.seq (Cj.region (J.z (yl_move rfl rfl) ?_))))
 refine J.z (yl_cat rfl rfl rfl (by simp only [List.length_cons, List.length_nil]; omega)) ?_
 refine J.z (yl_move rfl rfl) ?_
 refine J.op rfl (op_pure rfl rfl rfl rfl rfl (Made_ok l _ _ hv) ?_)
 refine J.z (yl_cat rfl rfl rfl (by simp only [List.length_append, List.length_cons, List.length_nil]; omega)) ?_
 refine J.z (yl_assign rfl rfl) ?_
 refine J.nil (Ej.seq (Cj.seq (Cj.region (J.z (yl_move rfl rfl) ?_))))
 refine J.op rfl (op_call (H1 := []) rfl rfl rfl rfl rfl (Words_ok (s ++ [32] ++ Ke.made l) (by omega) _) ?_ (fun _ _ _ _ h => by obtain ⟨_, h, _⟩ := h; cases h) (fun _ _ h => by obtain ⟨_, h, _⟩ := h; cases h))
 intro v1 I2 H3 hle4 hp5
 have hv := hv.mono hle4
 obtain ⟨vha, h, ha, rfl⟩ := hp5; cases h
 replace ha := StrP.of ha
 obtain ⟨p, cw, rfl, hcw, hp⟩ := id ha
 refine J.z (yl_assign rfl rfl) ?_
 refine J.nil (Ej.seq (Cj.seq (Cj.seq (Cj.region (J.z (yl_assign rfl rfl) ?_)))))
 refine J.nil (Ej.seq (Cj.block (Cj.loop (ι := Nat) (fun k => k ≤ (Ke.words (s ++ [32] ++ Ke.made l)).length) (fun k => (Ke.words (s ++ [32] ++ Ke.made l)).length - k) (fun k => [(0, str (s ++ [32] ++ Ke.made l)), (5, .bool true), (6, .slice p (Ke.words (s ++ [32] ++ Ke.made l)).length cw), (7, i64 (k : Int))]) (fun k => _) (fun k => []) 0 (Nat.zero_le _) ⟨rfl, rfl, rfl, rfl, trivial⟩ rfl rfl ?_)))
 intro k hk
 refine Cj.seq (Cj.seq (Cj.region (J.z (yl_move rfl rfl) ?_)))
 refine J.z (yl_move rfl rfl) ?_
 refine J.z (yl_lenSlice rfl rfl Tryz.underlying27) ?_
 refine J.z (yl_lss rfl rfl rfl) ?_
 refine J.nil (Ej.seq (Cj.cond rfl (fun hc6 => ?_) (fun hc6 => ?_)))
 ·
  have hc6p := of_decide_eq_true hc6
  refine Cj.skip (Ej.seq (Cj.seq (Cj.block (Cj.seq ?_))))
  have hlt : k < (Ke.words (s ++ [32] ++ Ke.made l)).length := by omega
  obtain ⟨x, hget⟩ : ∃ x, (Ke.words (s ++ [32] ++ Ke.made l))[k]? = some x := ⟨_, List.getElem?_eq_getElem hlt⟩
  obtain ⟨hxn, hx1⟩ := Ke.words_one (List.mem_of_getElem? hget)
  have hxl := Ke.words_each _ x (List.mem_of_getElem? hget)
  obtain ⟨wb, wo, wcs, wty, wfr, sp, rfl, hwb, hwd⟩ := hp (ne_nil_of hlt)
  refine Cj.region (J.z (yl_move rfl rfl) ?_)
  refine J.z (yl_move rfl rfl) ?_
  refine J.z (yl_indexAddr (off' := wo + k) rfl rfl rfl Tryz.underlying27 Tryz.sizeOf9 (by omega) (by omega) (by simp)) ?_
  refine J.z (yl_load rfl rfl Tryz.isAgg9 (Blk.imm hwb) (str_from hwd hget)) ?_
  refine J.z (yl_eqlStr rfl rfl rfl) ?_
  refine J.z (yl_move rfl rfl) ?_
  refine J.opG 5 27 false _ rfl rfl rfl (beq_eq_false_iff_ne.2 hxn) (op_yld (yl_move rfl rfl) rfl rfl ?_)
  refine J.opG 5 27 false _ rfl rfl rfl (beq_eq_false_iff_ne.2 hxn) (op_yld (yl_move rfl rfl) rfl rfl ?_)
  refine J.opG 5 27 false _ rfl rfl rfl (beq_eq_false_iff_ne.2 hxn) (op_yld (yl_indexAddr (off' := wo + k) rfl rfl rfl Tryz.underlying27 Tryz.sizeOf9 (by omega) (by omega) (by simp)) rfl rfl ?_)
  refine J.opG 5 27 false _ rfl rfl rfl (beq_eq_false_iff_ne.2 hxn) (op_yld (yl_load rfl rfl Tryz.isAgg9 (Blk.imm hwb) (str_from hwd hget)) rfl rfl ?_)
  refine J.opG 5 27 false _ rfl rfl rfl (beq_eq_false_iff_ne.2 hxn) (op_call (H1 := []) rfl rfl rfl rfl rfl (Words_size x (by omega) _) ?_ (fun _ _ _ _ h => by obtain ⟨⟨_, _, h⟩, _⟩ := h; cases h) (fun _ _ h => by obtain ⟨⟨_, _, h⟩, _⟩ := h; cases h))
  intro v7 I8 H9 hle10 hp11
  have hv := hv.mono hle10
  have ha := ha.mono hle10
  have hwb := hle10 _ _ hwb
  obtain ⟨⟨pc, cc, h⟩, hI, rfl⟩ := hp11; cases h; subst hI
  rw [hx1]
  refine J.opG 5 27 false _ rfl rfl rfl (beq_eq_false_iff_ne.2 hxn) (op_yld (yl_lenSlice rfl rfl Tryz.underlying27) rfl rfl ?_)
  refine J.opG 5 27 false _ rfl rfl rfl (beq_eq_false_iff_ne.2 hxn) (op_yld (yl_neq rfl rfl rfl) rfl rfl ?_)
  refine J.z (yl_pick0 rfl rfl (beq_eq_false_iff_ne.2 hxn) rfl) ?_
  refine J.nil (Ej.seq (Cj.cond rfl (fun hc12 => Bool.noConfusion (Eq.trans (Eq.symm (show (((([x] : List (List UInt8)).length : Nat) : Int) != 1) = false from rfl)) hc12)) (fun hc12 => ?_)))
  refine Cj.skip (Ej.blkNormal (Ej.seq (Cj.region (J.z (yl_move rfl rfl) ?_))))
  refine J.z (yl_add rfl rfl rfl (w64 (by omega))) ?_
  refine J.z (yl_assign rfl rfl) ?_
  refine J.nil (Ej.round (k + 1) (by omega) (by omega) ⟨rfl, rfl, rfl, rfl, trivial⟩ rfl rfl)
 ·
  have hc6p := of_decide_eq_false hc6
  refine Cj.exit (Ej.seqExit (Ej.loopExit (Ej.blkExit (Ej.seq (Cj.seq (Cj.region (J.z (yl_move rfl rfl) ?_)))))))
  refine J.z (yl_move rfl rfl) ?_
  refine J.opG 1 37 true _ rfl rfl rfl rfl (op_yld (yl_move rfl rfl) rfl rfl ?_)
  refine J.opG 1 37 true _ rfl rfl rfl rfl (op_pure rfl rfl rfl rfl rfl (rJoin_ok (Ke.words (s ++ [32] ++ Ke.made l)) _ (by omega) (by omega) _ ha) ?_)
  refine J.opG 1 37 true _ rfl rfl rfl rfl (op_yld (yl_move rfl rfl) rfl rfl ?_)
  refine J.opG 1 37 true _ rfl rfl rfl rfl (op_pure rfl rfl rfl rfl rfl (Fold_ok (s ++ [32] ++ Ke.made l) (by omega) _) ?_)
  refine J.opG 1 37 true _ rfl rfl rfl rfl (op_yld (yl_eqlStr rfl rfl rfl) rfl rfl ?_)
  refine J.z (yl_pick1 rfl rfl rfl rfl) ?_
  refine J.z (yl_assign rfl rfl) ?_
  refine J.nil (Ej.seq (Cj.ret (Ej.bare ?_)))
  refine Ej.ret1 rfl rfl rfl ?_
  exact ⟨congrArg (fun b => Ending.returned (.bool b)) (beq_self_eq_true _), rfl⟩

end Go.Proofs.YtnogdccoekfnoaaGreatDoor
