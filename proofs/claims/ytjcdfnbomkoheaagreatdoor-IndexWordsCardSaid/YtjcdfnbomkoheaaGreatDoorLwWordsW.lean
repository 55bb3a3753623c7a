/-
  The law IndexWords. Own text, printed by a program. Conditions: none.
-/
import Derived.Test.YtjcdfnbomkoheaaGreatDoorPW13
import Derived.Test.YtjcdfnbomkoheaaGreatDoorPW12
import Derived.Test.YtjcdfnbomkoheaaGreatDoorPW8
namespace Go.Proofs.YtjcdfnbomkoheaaGreatDoor
open Go Go.Sx
theorem eight_at {k : Nat} {a : List UInt8} {sp : List Value} (h : Ix.eight[k]? = some a) : (Ix.eight.map str ++ sp)[k]? = some (str a) := str_get h
theorem setT_next {P : List Ix.Rec} {i : Nat} {x : Ix.Rec} {l : ML Ix.Rec} {c : Nat} (hM : ∀ t ∈ P.take i, mget l t = some (.bool true)) (hx : P[i]? = some x) : ∀ t ∈ P.take (i + 1), mget (mset l x (.bool true) c) t = some (.bool true) := by
  intro t ht
  rw [mget_mset]
  by_cases h : (t == x) = true
  · rw [if_pos h]
  · rw [if_neg h]
    rw [List.take_add_one, hx] at ht
    rcases List.mem_append.1 ht with g | g
    · exact hM t g
    · rw [show t = x by simpa using g] at h
      exact absurd (beq_self_eq_true x) h
theorem eight_len : ∀ a ∈ Ix.eight, a.length ≤ 10 := by decide
theorem phrase_le (L : Ix.Ix) (n : List UInt8) (w : Ke.Row) : (Ix.phrase L n w).length ≤ L.length := by
  unfold Ix.phrase
  split
  · exact Nat.zero_le _
  · rw [List.length_map]; exact List.length_filter_le _ _
theorem rem8 (k m : Nat) : ((k : Int) + 1 + (m : Int)).tmod ((8 : Nat) : Int) = (((k + 1 + m) % 8 : Nat) : Int) := by
  rw [show (k : Int) + 1 + (m : Int) = ((k + 1 + m : Nat) : Int) by omega]; rfl
theorem two_none (L : Ix.Ix) (n : List UInt8) : Ix.word L n [119, 97, 114, 32, 112, 101, 97, 99, 101] = [] := word_no (by decide +kernel)
theorem dot_none (L : Ix.Ix) (n : List UInt8) : Ix.phrase L n (Ke.words [32, 46, 32]) = [] := if_pos (by decide +kernel)
set_option maxRecDepth 20000 in
set_option maxHeartbeats 1000000 in
theorem IndexWords_ok (xs : List Act) (v : Value) (hao : ActsOk xs) (n m : UInt8) (I : Heap) (hA : ActsS I xs v) : Pure Tryz.prog 5 [v, u8 n, u8 m] I (.bool true) := by
 refine Ctr.toPure ?_
 have hsrt := Ix.play_srt (acts xs)
 have hfew := Ix.play_few (acts xs)
 refine Ctr.of_body Tryz.func5 rfl (by decide) (Nat.le_of_ble_eq_true rfl) ?_
 intro w0 hw0
 refine Cj.seq (Cj.region (J.z (yl_assign rfl rfl) ?_))
 refine J.nil (Ej.seq (Cj.seq (Cj.region (J.op rfl (op_pure rfl rfl rfl rfl rfl (sanity_ok _) ?_)))))
 refine J.z (yl_assign rfl rfl) ?_
 refine J.nil (Ej.seq (Cj.seq (Cj.region (J.z (yl_move rfl rfl) ?_))))
 refine J.op rfl (op_callN rfl rfl rfl rfl rfl (play_ok xs _ hao _ hA) ?_ (fun _ _ _ _ h => by obtain ⟨_, _, h, _⟩ := h; cases h) (fun _ _ h => by obtain ⟨_, _, h, _⟩ := h; cases h))
 intro v2 I3 H4 hle5 hn1 hp6
 have hA := hA.mono hle5
 obtain ⟨ib, o, h, hok, rfl⟩ := hp6; cases h
 refine J.persists (ixH ib o) hn1 (fun Ip hlep hK => ?_)
 have hA := hA.mono hlep
 have hx : IxP Ip ib (Ix.play (acts xs)) := ⟨o, hok.mono hlep, hK⟩
 clear hok hK
 refine J.z (yl_assign rfl rfl) ?_
 refine J.nil (Ej.seq (Cj.seq (Cj.region (J.op rfl (op_buildSlice rfl rfl rfl Tryz.underlying28 Tryz.sizeOf9 Tryz.zeroValue9 rfl rfl rfl rfl (LCat.one rfl (LCat.one rfl (LCat.one rfl (LCat.one rfl (LCat.one rfl (LCat.one rfl (LCat.one rfl (LCat.one rfl LCat.none)))))))) ?_)))))
 intro b7 hb7
 refine J.z (yl_assign rfl rfl) ?_
 refine J.nil (Ej.seq (Cj.seq (Cj.seq (Cj.persist hb7 (fun I9 hle8 hb7i => ?_)))))
 have hA := hA.mono hle8
 have hx := hx.mono hle8
 have hwp : I9 b7 = some (cel 9 (Ix.eight.map str ++ [])) := hb7i
 refine Cj.region (J.z (yl_move rfl rfl) ?_)
 refine J.z (yl_lenSlice rfl rfl Tryz.underlying28) ?_
 refine J.z (yl_move rfl rfl) ?_
 refine J.nil (Ej.seq (Cj.block (Cj.loop (ι := Nat × Heap) (fun y => y.1 ≤ 8 ∧ Le I9 y.2) (fun y => 8 - y.1) (fun y => [(1, u8 n), (2, u8 m), (7, .bool true), (8, ptr ib 0), (9, .slice (some ⟨b7, 0, none⟩) 8 8), (23, .slice (some ⟨b7, 0, none⟩) 8 8), (24, i64 8), (25, i64 (y.1 : Int))]) (fun y => y.2) (fun y => []) (0, _) ⟨Nat.zero_le _, Le.refl _⟩ ⟨rfl, rfl, rfl, rfl, rfl, rfl, rfl, rfl, trivial⟩ rfl rfl ?_)))
 rintro ⟨k, J1⟩ ⟨hk, hIJ⟩
 dsimp only at hk hIJ ⊢
 have hx := hx.mono hIJ
 have hwp := hIJ _ _ hwp
 refine Cj.seq (Cj.region (J.z (yl_lss rfl rfl rfl) ?_))
 refine J.nil (Ej.seq (Cj.seq (Cj.cond rfl (fun hc10 => ?_) (fun hc10 => ?_))))
 ·
  have hc10p := of_decide_eq_true hc10
  refine Cj.skip (Ej.seq (Cj.seq (Cj.block (Cj.seq ?_))))
  have hkl : k < 8 := by omega
  obtain ⟨a, hga⟩ : ∃ x, Ix.eight[k]? = some x := ⟨_, List.getElem?_eq_getElem (by show k < 8; exact hkl)⟩
  have ham := List.mem_of_getElem? hga
  have hal := eight_len a ham
  have hwa : Ix.word (Ix.play (acts xs)) (nameN n) a = (Ix.phrase (Ix.play (acts xs)) (nameN n) [a]) := word_one (Ix.eight_one a ham)
  have hws : Ix.word (Ix.play (acts xs)) (nameN n) ([32] ++ a ++ [33]) = (Ix.phrase (Ix.play (acts xs)) (nameN n) [a]) := word_one (Ix.eight_sign a ham)
  have hpl : (Ix.phrase (Ix.play (acts xs)) (nameN n) [a]).length ≤ 20 := Nat.le_trans (phrase_le _ _ _) hfew.1
  refine Cj.region (J.z (yl_move rfl rfl) ?_)
  refine J.z (yl_indexAddr (off' := k) rfl rfl rfl Tryz.underlying28 Tryz.sizeOf9 (by omega) (by omega) (by omega)) ?_
  refine J.z (yl_load rfl rfl Tryz.isAgg9 (Blk.imm hwp) (eight_at hga)) ?_
  refine J.z (yl_assign rfl rfl) ?_
  refine J.z (yl_assign rfl rfl) ?_
  refine J.nil (Ej.seq (Cj.seq (Cj.region (J.z (yl_move rfl rfl) ?_))))
  refine J.z (yl_move rfl rfl) ?_
  refine J.op rfl (op_pure rfl rfl rfl rfl rfl (name_ok n _) ?_)
  refine J.z (yl_move rfl rfl) ?_
  refine J.op rfl (op_callN rfl rfl rfl rfl rfl (Word_ok ib (Ix.play (acts xs)) (nameN n) a (by omega) _ hx) ?_ (fun _ _ _ _ h => by obtain ⟨_, h, _⟩ := h; cases h) (fun _ _ h => by obtain ⟨_, h, _⟩ := h; cases h))
  intro v12 I13 H14 hle15 hn11 hp16
  have hIJ := hIJ.mono hle15
  have hx := hx.mono hle15
  have hwp := hle15 _ _ hwp
  obtain ⟨wa, h, hoa⟩ := hp16; cases h
  refine J.keepO hoa hn11 (fun Ia hlea hra => ?_)
  have hIJ := hIJ.mono hlea
  have hx := hx.mono hlea
  have hwp := hlea _ _ hwp
  replace hra := hra.row
  rw [hwa] at hra
  obtain ⟨pa, ca, hae⟩ := RowS.len hra
  refine J.eqv 34 rfl hae ?_
  rw [hae] at hra
  refine J.z (yl_assign rfl rfl) ?_
  refine J.nil (Ej.seq (Cj.seq (Cj.seq (Cj.region (J.z (yl_move rfl rfl) ?_)))))
  refine J.z (yl_move rfl rfl) ?_
  refine J.z (yl_move rfl rfl) ?_
  refine J.op rfl (op_pure rfl rfl rfl rfl rfl (name_ok n _) ?_)
  refine J.z (yl_move rfl rfl) ?_
  refine J.op rfl (op_callN rfl rfl rfl rfl rfl (Phrase_ok ib (Ix.play (acts xs)) (nameN n) a (by omega) _ hx) ?_ (fun _ _ _ _ h => by obtain ⟨_, h, _⟩ := h; cases h) (fun _ _ h => by obtain ⟨_, h, _⟩ := h; cases h))
  intro v18 I19 H20 hle21 hn17 hp22
  have hIJ := hIJ.mono hle21
  have hx := hx.mono hle21
  have hwp := hle21 _ _ hwp
  have hra := hra.mono hle21
  obtain ⟨wb, h, hob⟩ := hp22; cases h
  refine J.keepO hob hn17 (fun Ib hleb hrb => ?_)
  have hIJ := hIJ.mono hleb
  have hx := hx.mono hleb
  have hwp := hleb _ _ hwp
  have hra := hra.mono hleb
  replace hrb := hrb.row
  rw [Ix.eight_one a ham] at hrb
  refine J.op rfl (op_pure rfl rfl rfl rfl rfl (rRecs_ok (Ix.phrase (Ix.play (acts xs)) (nameN n) [a]) (Ix.phrase (Ix.play (acts xs)) (nameN n) [a]) _ _ (by omega) _ hra hrb) ?_)
  refine J.eqv 41 rfl (show _ = .bool true from (congrArg Value.bool (decide_eq_true rfl))) ?_
  refine J.z (yl_not rfl rfl) ?_
  refine J.z (yl_move rfl rfl) ?_
  refine J.opG 8 43 false _ rfl rfl rfl (congrArg not rfl) (op_yld (yl_move rfl rfl) rfl rfl ?_)
  refine J.opG 8 43 false _ rfl rfl rfl (congrArg not rfl) (op_yld (yl_move rfl rfl) rfl rfl ?_)
  refine J.opG 8 43 false _ rfl rfl rfl (congrArg not rfl) (op_yld (yl_move rfl rfl) rfl rfl ?_)
  refine J.opG 8 43 false _ rfl rfl rfl (congrArg not rfl) (op_pure rfl rfl rfl rfl rfl (name_ok n _) ?_)
  refine J.opG 8 43 false _ rfl rfl rfl (congrArg not rfl) (op_yld (yl_move rfl rfl) rfl rfl ?_)
  refine J.opG 8 43 false _ rfl rfl rfl (congrArg not rfl) (op_yld (yl_cat rfl rfl rfl (by first | omega | (simp only [List.length_append]; omega) | (simp; omega))) rfl rfl ?_)
  refine J.opG 8 43 false _ rfl rfl rfl (congrArg not rfl) (op_yld (yl_cat rfl rfl rfl (by first | omega | (simp only [List.length_append]; omega) | (simp; omega))) rfl rfl ?_)
  refine J.opG 8 43 false _ rfl rfl rfl (congrArg not rfl) (op_callN rfl rfl rfl rfl rfl (Word_ok ib (Ix.play (acts xs)) (nameN n) ([32] ++ a ++ [33]) (by simp only [List.length_append, List.length_cons, List.length_nil]; omega) _ hx) ?_ (fun _ _ _ _ h => by obtain ⟨_, h, _⟩ := h; cases h) (fun _ _ h => by obtain ⟨_, h, _⟩ := h; cases h))
  intro v24 I25 H26 hle27 hn23 hp28
  have hIJ := hIJ.mono hle27
  have hx := hx.mono hle27
  have hwp := hle27 _ _ hwp
  have hra := hra.mono hle27
  have hrb := hrb.mono hle27
  obtain ⟨wc, h, hoc⟩ := hp28; cases h
  refine J.keepO hoc hn23 (fun Ic hlec hrc => ?_)
  have hIJ := hIJ.mono hlec
  have hx := hx.mono hlec
  have hwp := hlec _ _ hwp
  have hra := hra.mono hlec
  have hrb := hrb.mono hlec
  replace hrc := hrc.row
  rw [hws] at hrc
  refine J.opG 8 43 false _ rfl rfl rfl (congrArg not rfl) (op_pure rfl rfl rfl rfl rfl (rRecs_ok (Ix.phrase (Ix.play (acts xs)) (nameN n) [a]) (Ix.phrase (Ix.play (acts xs)) (nameN n) [a]) _ _ (by omega) _ hra hrc) ?_)
  refine J.eqv 52 rfl (show _ = .bool true from (congrArg Value.bool (decide_eq_true rfl))) ?_
  refine J.opG 8 43 false _ rfl rfl rfl (congrArg not rfl) (op_yld (yl_not rfl rfl) rfl rfl ?_)
  refine J.z (yl_pick0 rfl rfl (congrArg not rfl) rfl) ?_
  refine J.nil (Ej.seq (Cj.cond rfl (fun hc29 => Bool.noConfusion (Eq.trans (Eq.symm (congrArg not rfl)) hc29)) (fun hc29 => ?_)))
  refine Cj.skip (Ej.seq (Cj.seq (Cj.region (J.op rfl (op_makeMap rfl rfl rfl ?_)))))
  intro b30 hb30
  refine J.z (yl_assign rfl rfl) ?_
  refine J.nil (Ej.seq (Cj.seq (Cj.seq (Cj.region (J.z (yl_move rfl rfl) ?_)))))
  refine J.z (yl_lenSlice rfl rfl Tryz.underlying44) ?_
  refine J.z (yl_move rfl rfl) ?_
  refine J.nil (Ej.seq (Cj.block (Cj.loop (ι := Nat × ML Ix.Rec × Nat) (fun y => y.1 ≤ (Ix.phrase (Ix.play (acts xs)) (nameN n) [a]).length ∧ ∀ t ∈ (Ix.phrase (Ix.play (acts xs)) (nameN n) [a]).take y.1, mget y.2.1 t = some (.bool true)) (fun y => (Ix.phrase (Ix.play (acts xs)) (nameN n) [a]).length - y.1) (fun y => [(1, u8 n), (2, u8 m), (7, .bool true), (8, ptr ib 0), (9, .slice (some ⟨b7, 0, none⟩) 8 8), (23, .slice (some ⟨b7, 0, none⟩) 8 8), (24, i64 8), (25, i64 (k : Int)), (10, i64 (k : Int)), (11, str a), (13, .map (some b30)), (56, .slice pa (Ix.phrase (Ix.play (acts xs)) (nameN n) [a]).length ca), (57, i64 ((Ix.phrase (Ix.play (acts xs)) (nameN n) [a]).length : Int)), (58, i64 (y.1 : Int))]) (fun y => _) (fun y => [(b30, mobj kvR y.2.1 y.2.2)]) (0, [], 0) ⟨Nat.zero_le _, fun t ht => by cases ht⟩ ⟨rfl, rfl, rfl, rfl, rfl, rfl, rfl, rfl, rfl, rfl, rfl, rfl, rfl, rfl, trivial⟩ rfl rfl ?_)))
  rintro ⟨i, l, cc⟩ ⟨hi, hM⟩
  dsimp only at hi hM ⊢
  refine Cj.seq (Cj.region (J.z (yl_lss rfl rfl rfl) ?_))
  refine J.nil (Ej.seq (Cj.seq (Cj.cond rfl (fun hc31 => ?_) (fun hc31 => ?_))))
  ·
   have hc31p := of_decide_eq_true hc31
   refine Cj.skip (Ej.seq (Cj.seq (Cj.block (Cj.seq ?_))))
   have hlt : i < (Ix.phrase (Ix.play (acts xs)) (nameN n) [a]).length := by omega
   obtain ⟨x, hget⟩ : ∃ x, (Ix.phrase (Ix.play (acts xs)) (nameN n) [a])[i]? = some x := ⟨_, List.getElem?_eq_getElem hlt⟩
   obtain ⟨p1, c1, hpe, hc1, hp⟩ := id hra
   cases hpe
   obtain ⟨ab, ao, acs, aty, afr, asp, rfl, hab, had⟩ := hp (ne_nil_of hlt)
   refine Cj.region (J.z (yl_indexAddr (off' := ao + i * 2) rfl rfl rfl Tryz.underlying44 Tryz.sizeOf26 (by omega) (by omega) (by simp)) ?_)
   refine J.z (yl_loadAgg rfl rfl Tryz.isAgg26 Tryz.sizeOf26 (Blk.imm hab) (row_from recC_len had hget) rfl) ?_
   refine J.op rfl (op_alloc rfl rfl rfl Tryz.zeroValue26 rfl ?_)
   intro b32 hb32
   refine J.op rfl (op_store 0 rfl rfl rfl rfl rfl rfl Tryz.sizeOf26 rfl rfl (LSpl.c (LSpl.c LSpl.z)) LSet.z ?_)
   refine J.nil (Ej.seq (Cj.region (J.z (yl_move rfl rfl) ?_)))
   refine J.z (yl_loadAgg rfl rfl Tryz.isAgg26 Tryz.sizeOf26 (Blk.at 0 rfl) rfl rfl) ?_
   refine J.op rfl (op_insert (kv := kvR) (a := x) 1 (.inr rfl) rfl rfl rfl rfl rfl Tryz.underlying60 keyR rfl (LSet.s LSet.z) ?_)
   refine J.nil (Ej.blkNormal (Ej.seq (Cj.region (J.z (yl_add rfl rfl rfl (w64 (by omega))) ?_))))
   refine J.z (yl_move rfl rfl) ?_
   refine J.nil (Ej.keep (Keeps.d (Keeps.k Keeps.n)) ?_)
   refine Ej.round (i + 1, _, _) ⟨by dsimp only; omega, setT_next hM hget⟩ (by dsimp only; omega) ⟨rfl, rfl, rfl, rfl, rfl, rfl, rfl, rfl, rfl, rfl, rfl, rfl, rfl, rfl, trivial⟩ rfl rfl
  ·
   have hc31p := of_decide_eq_false hc31
   refine Cj.exit (Ej.seqExit (Ej.loopExit (Ej.blkExit (Ej.seq (Cj.seq ?_)))))
   have hfull : (Ix.phrase (Ix.play (acts xs)) (nameN n) [a]).take i = (Ix.phrase (Ix.play (acts xs)) (nameN n) [a]) := List.take_of_length_le (by omega)
   rw [hfull] at hM
   have hml := m.toNat_lt
   obtain ⟨j, hj⟩ : ∃ j, j = (k + 1 + m.toNat) % 8 := ⟨_, rfl⟩
   have hjl : j < 8 := by omega
   obtain ⟨o, hgo⟩ : ∃ x, Ix.eight[j]? = some x := ⟨_, List.getElem?_eq_getElem (by show j < 8; exact hjl)⟩
   have hom := List.mem_of_getElem? hgo
   have hol := eight_len o hom
   have hw2 := Ix.eight_two a ham o hom
   have hpl1 : (Ix.phrase (Ix.play (acts xs)) (nameN n) [a, o]).length ≤ 20 := Nat.le_trans (phrase_le _ _ _) hfew.1
   have hpl2 : (Ix.phrase (Ix.play (acts xs)) (nameN n) [o, a]).length ≤ 20 := Nat.le_trans (phrase_le _ _ _) hfew.1
   refine Cj.region (J.z (yl_move rfl rfl) ?_)
   refine J.z (yl_move rfl rfl) ?_
   refine J.z (yl_add rfl rfl rfl (w64 (by omega))) ?_
   refine J.z (yl_move rfl rfl) ?_
   refine J.z (yl_convInt rfl rfl Tryz.underlying5 Tryz.underlying3) ?_
   refine J.eqv 69 rfl (show _ = i64 (m.toNat : Int) from (congrArg i64 (w64 (by omega)))) ?_
   refine J.z (yl_add rfl rfl rfl (w64 (by omega))) ?_
   refine J.z (yl_move rfl rfl) ?_
   refine J.z (yl_lenSlice rfl rfl Tryz.underlying28) ?_
   refine J.z (yl_rem rfl rfl rfl (by omega)) ?_
   refine J.eqv 73 rfl (show _ = i64 (j : Int) from (congrArg i64 ((rem8 k m.toNat).trans (by rw [hj])))) ?_
   refine J.z (yl_indexAddr (off' := j) rfl rfl rfl Tryz.underlying28 Tryz.sizeOf9 (by omega) (by omega) (by omega)) ?_
   refine J.z (yl_load rfl rfl Tryz.isAgg9 (Blk.imm hwp) (eight_at hgo)) ?_
   refine J.z (yl_assign rfl rfl) ?_
   refine J.nil (Ej.seq (Cj.seq (Cj.region (J.z (yl_move rfl rfl) ?_))))
   refine J.z (yl_move rfl rfl) ?_
   refine J.op rfl (op_pure rfl rfl rfl rfl rfl (name_ok n _) ?_)
   refine J.z (yl_move rfl rfl) ?_
   refine J.z (yl_cat rfl rfl rfl (by first | omega | (simp only [List.length_append]; omega) | (simp; omega))) ?_
   refine J.z (yl_move rfl rfl) ?_
   refine J.z (yl_cat rfl rfl rfl (by first | omega | (simp only [List.length_append]; omega) | (simp; omega))) ?_
   refine J.op rfl (op_callN rfl rfl rfl rfl rfl (PhraseG_ok ib (Ix.play (acts xs)) (nameN n) (a ++ [32] ++ o) (by simp only [List.length_append, List.length_cons, List.length_nil]; omega) _ hx) ?_ (fun _ _ _ _ h => by obtain ⟨_, _, h, _⟩ := h; cases h) (fun _ _ h => by obtain ⟨_, _, h, _⟩ := h; cases h))
   intro v34 I35 H36 hle37 hn33 hp38
   have hIJ := hIJ.mono hle37
   have hx := hx.mono hle37
   have hwp := hle37 _ _ hwp
   have hra := hra.mono hle37
   have hrb := hrb.mono hle37
   have hrc := hrc.mono hle37
   obtain ⟨gp, hgp0, h, rfl⟩ := hp38; cases h
   have hgp := hgp0.base hn33
   rw [hw2.1] at hgp
   rw [hw2.1]
   refine J.perm (H' := [_] ++ gH _ _ _) List.perm_append_comm ?_
   refine J.z (yl_move rfl rfl) ?_
   refine J.z (yl_move rfl rfl) ?_
   refine J.op rfl (op_pure rfl rfl rfl rfl rfl (name_ok n _) ?_)
   refine J.z (yl_move rfl rfl) ?_
   refine J.z (yl_cat rfl rfl rfl (by first | omega | (simp only [List.length_append]; omega) | (simp; omega))) ?_
   refine J.z (yl_move rfl rfl) ?_
   refine J.z (yl_cat rfl rfl rfl (by first | omega | (simp only [List.length_append]; omega) | (simp; omega))) ?_
   refine J.op rfl (op_callN rfl rfl rfl rfl rfl (Phrase_ok ib (Ix.play (acts xs)) (nameN n) (o ++ [44, 32] ++ a) (by simp only [List.length_append, List.length_cons, List.length_nil]; omega) _ hx) ?_ (fun _ _ _ _ h => by obtain ⟨_, h, _⟩ := h; cases h) (fun _ _ h => by obtain ⟨_, h, _⟩ := h; cases h))
   intro v40 I41 H42 hle43 hn39 hp44
   have hIJ := hIJ.mono hle43
   have hx := hx.mono hle43
   have hwp := hle43 _ _ hwp
   have hra := hra.mono hle43
   have hrb := hrb.mono hle43
   have hrc := hrc.mono hle43
   obtain ⟨wd, h, hod⟩ := hp44; cases h
   refine J.keepO hod hn39 (fun Id hled hrd => ?_)
   have hIJ := hIJ.mono hled
   have hx := hx.mono hled
   have hwp := hled _ _ hwp
   have hra := hra.mono hled
   have hrb := hrb.mono hled
   have hrc := hrc.mono hled
   replace hrd := hrd.row
   rw [hw2.2] at hrd
   obtain ⟨pd, cd, hde⟩ := RowS.len hrd
   refine J.eqv 91 rfl hde ?_
   rw [hde] at hrd
   refine J.op rfl (op_append (by' := 15) [_] rfl rfl rfl rfl rfl Tryz.underlying44 (.inr ⟨_, Tryz.underlying44⟩) (by kernel_rfl) Tryz.sizeOf26 Tryz.zeroValue26 rfl hgp rfl (Src.row recC_len hrd (fun _ _ => rfl)) (by omega) ?_)
   intro g45 hg45
   refine J.z (yl_lenG hg45 rfl rfl Tryz.underlying44) ?_
   refine J.z (yl_move rfl rfl) ?_
   refine J.nil (Ej.seq ?_)
   have hg8 : gOk w0.heap.size 2 ((Ix.phrase (Ix.play (acts xs)) (nameN n) [a, o]) ++ (Ix.phrase (Ix.play (acts xs)) (nameN n) [o, a])).length (((Ix.phrase (Ix.play (acts xs)) (nameN n) [a, o]) ++ (Ix.phrase (Ix.play (acts xs)) (nameN n) [o, a])).flatMap recC) g45 := by rw [List.length_append, List.flatMap_append]; exact hg45
   have hgv : gV ((Ix.phrase (Ix.play (acts xs)) (nameN n) [a, o]).length + (Ix.phrase (Ix.play (acts xs)) (nameN n) [o, a]).length) g45 = gV ((Ix.phrase (Ix.play (acts xs)) (nameN n) [a, o]) ++ (Ix.phrase (Ix.play (acts xs)) (nameN n) [o, a])).length g45 := by rw [List.length_append]
   have hgh : ∀ ys, ys = ((Ix.phrase (Ix.play (acts xs)) (nameN n) [a, o]) ++ (Ix.phrase (Ix.play (acts xs)) (nameN n) [o, a])).flatMap recC → gH 26 ys g45 = gH 26 (((Ix.phrase (Ix.play (acts xs)) (nameN n) [a, o]) ++ (Ix.phrase (Ix.play (acts xs)) (nameN n) [o, a])).flatMap recC) g45 := fun ys h => by rw [h]
   refine Cj.perm (H' := gH 26 (((Ix.phrase (Ix.play (acts xs)) (nameN n) [a, o]) ++ (Ix.phrase (Ix.play (acts xs)) (nameN n) [o, a])).flatMap recC) g45 ++ [_]) (by rw [← hgh _ List.flatMap_append.symm]; exact List.perm_append_comm) ?_
   refine Cj.keepR recC_len (by decide) hg8 rfl (fun I8 hle8 hv => ?_)
   have hIJ := hIJ.mono hle8
   have hx := hx.mono hle8
   have hwp := hle8 _ _ hwp
   have hra := hra.mono hle8
   have hrb := hrb.mono hle8
   have hrc := hrc.mono hle8
   have hrd := hrd.mono hle8
   obtain ⟨pv, cv, hve⟩ := RowS.len hv
   rw [hve] at hv
   refine Cj.eqv 92 rfl (hgv.trans hve) ?_
   refine Cj.eqv 93 rfl (show _ = i64 (((Ix.phrase (Ix.play (acts xs)) (nameN n) [a, o]) ++ (Ix.phrase (Ix.play (acts xs)) (nameN n) [o, a])).length : Int) from by rw [List.length_append]) ?_
   refine Cj.block (Cj.loop (ι := Nat) (fun y => y ≤ ((Ix.phrase (Ix.play (acts xs)) (nameN n) [a, o]) ++ (Ix.phrase (Ix.play (acts xs)) (nameN n) [o, a])).length) (fun y => ((Ix.phrase (Ix.play (acts xs)) (nameN n) [a, o]) ++ (Ix.phrase (Ix.play (acts xs)) (nameN n) [o, a])).length - y) (fun y => [(1, u8 n), (2, u8 m), (7, .bool true), (8, ptr ib 0), (9, .slice (some ⟨b7, 0, none⟩) 8 8), (23, .slice (some ⟨b7, 0, none⟩) 8 8), (24, i64 8), (25, i64 (k : Int)), (13, .map (some b30)), (92, .slice pv ((Ix.phrase (Ix.play (acts xs)) (nameN n) [a, o]) ++ (Ix.phrase (Ix.play (acts xs)) (nameN n) [o, a])).length cv), (93, i64 (((Ix.phrase (Ix.play (acts xs)) (nameN n) [a, o]) ++ (Ix.phrase (Ix.play (acts xs)) (nameN n) [o, a])).length : Int)), (94, i64 (y : Int))]) (fun y => _) (fun y => [(b30, mobj kvR l cc)]) 0 (Nat.zero_le _) ⟨rfl, rfl, rfl, rfl, rfl, rfl, rfl, rfl, rfl, rfl, rfl, rfl, trivial⟩ rfl rfl ?_)
   rintro y hyk
   have hTl : ((Ix.phrase (Ix.play (acts xs)) (nameN n) [a, o]) ++ (Ix.phrase (Ix.play (acts xs)) (nameN n) [o, a])).length ≤ 40 := by rw [List.length_append]; omega
   refine Cj.seq (Cj.region (J.z (yl_lss rfl rfl rfl) ?_))
   refine J.nil (Ej.seq (Cj.seq (Cj.cond rfl (fun hc46 => ?_) (fun hc46 => ?_))))
   ·
    have hc46p := of_decide_eq_true hc46
    refine Cj.skip (Ej.seq (Cj.seq (Cj.block (Cj.seq ?_))))
    have hlt : y < ((Ix.phrase (Ix.play (acts xs)) (nameN n) [a, o]) ++ (Ix.phrase (Ix.play (acts xs)) (nameN n) [o, a])).length := by omega
    obtain ⟨z, hgz⟩ : ∃ x, ((Ix.phrase (Ix.play (acts xs)) (nameN n) [a, o]) ++ (Ix.phrase (Ix.play (acts xs)) (nameN n) [o, a]))[y]? = some x := ⟨_, List.getElem?_eq_getElem hlt⟩
    obtain ⟨p2, c2, hpe2, hc2, hp2⟩ := id hv
    cases hpe2
    obtain ⟨vb, vo, vcs, vty, vfr, vsp, rfl, hvb, hvd⟩ := hp2 (ne_nil_of hlt)
    have hzm : mget l z = some (.bool true) := hM z ((List.mem_append.1 (List.mem_of_getElem? hgz)).elim (fun g => Ix.phrase_has (by simp) g) (fun g => Ix.phrase_has (by simp) g))
    refine Cj.region (J.z (yl_indexAddr (off' := vo + y * 2) rfl rfl rfl Tryz.underlying44 Tryz.sizeOf26 (by omega) (by omega) (by simp)) ?_)
    refine J.z (yl_loadAgg rfl rfl Tryz.isAgg26 Tryz.sizeOf26 (Blk.imm hvb) (row_from recC_len hvd hgz) rfl) ?_
    refine J.op rfl (op_alloc rfl rfl rfl Tryz.zeroValue26 rfl ?_)
    intro b47 hb47
    refine J.op rfl (op_store 0 rfl rfl rfl rfl rfl rfl Tryz.sizeOf26 rfl rfl (LSpl.c (LSpl.c LSpl.z)) LSet.z ?_)
    refine J.nil (Ej.seq (Cj.seq (Cj.region (J.z (yl_move rfl rfl) ?_))))
    refine J.z (yl_loadAgg rfl rfl Tryz.isAgg26 Tryz.sizeOf26 (Blk.at 0 rfl) rfl rfl) ?_
    refine J.z (yl_lookup1 (kv := kvR) (l := l) (a := z) rfl rfl rfl rfl Tryz.underlying60 keyR Tryz.zeroValue4 (Blk.at 1 rfl)) ?_
    refine J.eqv 100 rfl (show _ = .bool true from (by rw [hzm]; rfl)) ?_
    refine J.z (yl_not rfl rfl) ?_
    refine J.nil (Ej.seq (Cj.cond rfl (fun hc48 => Bool.noConfusion (Eq.trans (Eq.symm (congrArg not rfl)) hc48)) (fun hc48 => ?_)))
    refine Cj.skip (Ej.blkNormal (Ej.seq (Cj.region (J.z (yl_add rfl rfl rfl (w64 (by omega))) ?_))))
    refine J.z (yl_move rfl rfl) ?_
    refine J.nil (Ej.keep (Keeps.d (Keeps.k Keeps.n)) ?_)
    refine Ej.round (y + 1) (by omega) (by omega) ⟨rfl, rfl, rfl, rfl, rfl, rfl, rfl, rfl, rfl, rfl, rfl, rfl, trivial⟩ rfl rfl
   ·
    have hc46p := of_decide_eq_false hc46
    refine Cj.exit (Ej.seqExit (Ej.loopExit (Ej.blkExit (Ej.blkNormal (Ej.seq (Cj.region (J.z (yl_add rfl rfl rfl (w64 (by omega))) ?_)))))))
    refine J.z (yl_move rfl rfl) ?_
    refine J.nil (Ej.keep (Keeps.d Keeps.n) ?_)
    refine Ej.round (k + 1, _) ⟨by dsimp only; omega, hIJ⟩ (by dsimp only; omega) ⟨rfl, rfl, rfl, rfl, rfl, rfl, rfl, rfl, trivial⟩ rfl rfl
 ·
  have hc10p := of_decide_eq_false hc10
  refine Cj.exit (Ej.seqExit (Ej.loopExit (Ej.blkExit (Ej.seq (Cj.seq (Cj.region (J.z (yl_move rfl rfl) ?_)))))))
  refine J.z (yl_move rfl rfl) ?_
  refine J.opG 1 105 true _ rfl rfl rfl rfl (op_yld (yl_move rfl rfl) rfl rfl ?_)
  refine J.opG 1 105 true _ rfl rfl rfl rfl (op_yld (yl_move rfl rfl) rfl rfl ?_)
  refine J.opG 1 105 true _ rfl rfl rfl rfl (op_pure rfl rfl rfl rfl rfl (name_ok n _) ?_)
  refine J.opG 1 105 true _ rfl rfl rfl rfl (op_callN rfl rfl rfl rfl rfl (Word_ok ib (Ix.play (acts xs)) (nameN n) [119, 97, 114, 32, 112, 101, 97, 99, 101] (by decide) _ hx) ?_ (fun _ _ _ _ h => by obtain ⟨_, h, _⟩ := h; cases h) (fun _ _ h => by obtain ⟨_, h, _⟩ := h; cases h))
  intro v50 I51 H52 hle53 hn49 hp54
  have hIJ := hIJ.mono hle53
  have hx := hx.mono hle53
  have hwp := hle53 _ _ hwp
  obtain ⟨we, h, hoe⟩ := hp54; cases h
  refine J.keepO hoe hn49 (fun Ie hlee hre => ?_)
  have hIJ := hIJ.mono hlee
  have hx := hx.mono hlee
  have hwp := hlee _ _ hwp
  replace hre := hre.row
  rw [two_none] at hre
  obtain ⟨pe, ce, hee⟩ := RowS.len hre
  refine J.eqv 109 rfl hee ?_
  refine J.opG 1 105 true _ rfl rfl rfl rfl (op_yld (yl_lenSlice rfl rfl Tryz.underlying44) rfl rfl ?_)
  refine J.opG 1 105 true _ rfl rfl rfl rfl (op_yld (yl_eql rfl rfl rfl) rfl rfl ?_)
  refine J.eqv 111 rfl (show _ = .bool true from rfl) ?_
  refine J.z (yl_pick1 rfl rfl rfl rfl) ?_
  refine J.z (yl_move rfl rfl) ?_
  refine J.opG 9 113 true _ rfl rfl rfl rfl (op_yld (yl_move rfl rfl) rfl rfl ?_)
  refine J.opG 9 113 true _ rfl rfl rfl rfl (op_yld (yl_move rfl rfl) rfl rfl ?_)
  refine J.opG 9 113 true _ rfl rfl rfl rfl (op_pure rfl rfl rfl rfl rfl (name_ok n _) ?_)
  refine J.opG 9 113 true _ rfl rfl rfl rfl (op_callN rfl rfl rfl rfl rfl (Phrase_ok ib (Ix.play (acts xs)) (nameN n) [32, 46, 32] (by decide) _ hx) ?_ (fun _ _ _ _ h => by obtain ⟨_, h, _⟩ := h; cases h) (fun _ _ h => by obtain ⟨_, h, _⟩ := h; cases h))
  intro v56 I57 H58 hle59 hn55 hp60
  have hIJ := hIJ.mono hle59
  have hx := hx.mono hle59
  have hwp := hle59 _ _ hwp
  have hre := hre.mono hle59
  obtain ⟨wf, h, hof⟩ := hp60; cases h
  refine J.keepO hof hn55 (fun If hlef hrf => ?_)
  have hIJ := hIJ.mono hlef
  have hx := hx.mono hlef
  have hwp := hlef _ _ hwp
  have hre := hre.mono hlef
  replace hrf := hrf.row
  rw [dot_none] at hrf
  obtain ⟨pf, cf, hef⟩ := RowS.len hrf
  refine J.eqv 117 rfl hef ?_
  refine J.opG 9 113 true _ rfl rfl rfl rfl (op_yld (yl_lenSlice rfl rfl Tryz.underlying44) rfl rfl ?_)
  refine J.opG 9 113 true _ rfl rfl rfl rfl (op_yld (yl_eql rfl rfl rfl) rfl rfl ?_)
  refine J.eqv 119 rfl (show _ = .bool true from rfl) ?_
  refine J.z (yl_pick1 rfl rfl rfl rfl) ?_
  refine J.z (yl_assign rfl rfl) ?_
  refine J.nil (Ej.seq (Cj.ret (Ej.ret1 rfl rfl rfl ?_)))
  exact ⟨rfl, rfl⟩
end Go.Proofs.YtjcdfnbomkoheaaGreatDoor
