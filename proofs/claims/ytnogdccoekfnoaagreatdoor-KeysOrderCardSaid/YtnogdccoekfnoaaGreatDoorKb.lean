/-
  Contracts of strings.Cut at one byte, of the program's keys.alphabet and keys.letters. Own text, printed by a program. Conditions: none.
-/
import Derived.Test.YtnogdccoekfnoaaGreatDoorKa
import Derived.Test.YtnogdccoekfnoaaGreatDoorShelf
namespace Go.Proofs.YtnogdccoekfnoaaGreatDoor
open Go Go.Sx
theorem Index1_ok (s : List UInt8) (c : UInt8) (I : Heap) : Pure Tryz.prog 149 [str s, str [c]] I (i64 (Lib.indexByte s c)) :=
  Pure.of_same (Enters.of Tryz.func149 (by decide) rfl) fun w _ => by
    have h := Tryz.stringslite_Index_one ⟨s.toArray⟩ c w
    rw [ba_list] at h
    exact h
set_option maxRecDepth 20000 in
theorem sCut_ok (s : List UInt8) (c : UInt8) (hs : s.length ≤ 1000000000) (I : Heap) : Pure Tryz.prog 137 [str s, str [c]] I (.tuple #[str (Ke.cutAt c s).1, str (Ke.cutAt c s).2.1, .bool (Ke.cutAt c s).2.2]) := by
 refine Ctr.of_body Tryz.func137 rfl (by decide) (Nat.le_of_ble_eq_true rfl) ?_
 intro w0 hw0
 refine Cj.seq (Cj.region (J.z (yl_assign rfl rfl) ?_))
 refine J.z (yl_assign rfl rfl) ?_
 refine J.z (yl_assign rfl rfl) ?_
 refine J.nil (Ej.seq (Cj.seq (Cj.seq (Cj.region (J.z (yl_move rfl rfl) ?_)))))
 refine J.z (yl_move rfl rfl) ?_
 refine J.op rfl (op_pure rfl rfl rfl rfl rfl (Index1_ok s c _) ?_)
 refine J.z (yl_assign rfl rfl) ?_
 refine J.nil (Ej.seq (Cj.seq (Cj.region (J.z (yl_move rfl rfl) ?_))))
 refine J.z (yl_geq rfl rfl rfl) ?_
 refine J.nil (Ej.seq (Cj.cond rfl (fun hc1 => ?_) (fun hc1 => ?_)))
 ·
  have hc1p := of_decide_eq_true hc1
  obtain ⟨n, g1, g2, g3⟩ := (Ke.cut_index c s).resolve_left (fun h => by have := of_decide_eq_true hc1; omega)
  refine Cj.eqv 7 rfl (show _ = i64 (n : Int) from congrArg i64 g1) ?_
  refine Cj.seq (Cj.drawSel [] [] 12 (by kernel_rfl) ?_)
  refine JA.fix ⟨HSub.n, CSub.n, (Le.refl _)⟩ (fun fx2 => ?_)
  refine JA.tk 0 rfl fx2 (yl_move rfl rfl) ?_
  refine JA.tk 1 rfl fx2 (yl_move rfl rfl) ?_
  refine JA.tk 2 rfl fx2 (yl_sliceStr (p := 0) (q := n) rfl rfl Tryz.underlying9 rfl ⟨_, rfl⟩ (by omega) (by omega)) ?_
  refine JA.eqv 15 rfl (show _ = str (s.take n) from (by rw [List.drop_zero])) ?_
  refine JA.tk 3 rfl fx2 (yl_move rfl rfl) ?_
  refine JA.tk 4 rfl fx2 (yl_move rfl rfl) ?_
  refine JA.tk 5 rfl fx2 (yl_move rfl rfl) ?_
  refine JA.tk 6 rfl fx2 (yl_lenStr rfl rfl Tryz.underlying9) ?_
  refine JA.tk 7 rfl fx2 (yl_add rfl rfl rfl (w64 (by simp only [List.length_cons, List.length_nil]; omega))) ?_
  refine JA.tk 8 rfl fx2 (yl_sliceStr (p := n + 1) (q := s.length) rfl rfl Tryz.underlying9 ⟨_, rfl⟩ rfl (by omega) (by omega)) ?_
  refine JA.eqv 21 rfl (show _ = str (s.drop (n + 1)) from (by rw [List.take_length])) ?_
  refine JA.tk 9 rfl fx2 (yl_assign rfl rfl) ?_
  refine JA.tk 10 rfl fx2 (yl_assign rfl rfl) ?_
  refine JA.tk 11 rfl fx2 (yl_assign rfl rfl) ?_
  refine JA.done (by kernel_rfl) ?_
  refine Ej.seq (Cj.ret (Ej.seqRet (Ej.ret3 rfl rfl rfl rfl rfl ?_)))
  refine ⟨?_, rfl, rfl⟩
  rw [g3]
 ·
  have hc1p := of_decide_eq_false hc1
  have g := (Ke.cut_index c s).resolve_right (fun ⟨n, h, _⟩ => by have := of_decide_eq_false hc1; omega)
  refine Cj.skip (Ej.seq (Cj.seq (Cj.region (J.z (yl_move rfl rfl) ?_))))
  refine J.z (yl_assign rfl rfl) ?_
  refine J.z (yl_assign rfl rfl) ?_
  refine J.z (yl_assign rfl rfl) ?_
  refine J.nil (Ej.seq (Cj.ret (Ej.ret3 rfl rfl rfl rfl rfl ?_)))
  refine ⟨?_, rfl, rfl⟩
  rw [g.2]; rfl

set_option maxRecDepth 20000 in
theorem Cut_ok (s : List UInt8) (c : UInt8) (hs : s.length ≤ 1000000000) (I : Heap) : Pure Tryz.prog 119 [str s, str [c]] I (.tuple #[str (Ke.cutAt c s).1, str (Ke.cutAt c s).2.1, .bool (Ke.cutAt c s).2.2]) := by
 refine Ctr.of_body Tryz.func119 rfl (by decide) (Nat.le_of_ble_eq_true rfl) ?_
 intro w0 hw0
 refine Cj.seq (Cj.region (J.z (yl_assign rfl rfl) ?_))
 refine J.z (yl_assign rfl rfl) ?_
 refine J.z (yl_assign rfl rfl) ?_
 refine J.nil (Ej.seq (Cj.seq (Cj.region (J.z (yl_move rfl rfl) ?_))))
 refine J.z (yl_move rfl rfl) ?_
 refine J.op rfl (op_pure rfl rfl rfl rfl rfl (sCut_ok s c hs _) ?_)
 refine J.z (yl_extract rfl rfl rfl) ?_
 refine J.z (yl_extract rfl rfl rfl) ?_
 refine J.z (yl_extract rfl rfl rfl) ?_
 refine J.z (yl_assign rfl rfl) ?_
 refine J.z (yl_assign rfl rfl) ?_
 refine J.z (yl_assign rfl rfl) ?_
 refine J.nil (Ej.seq (Cj.ret (Ej.ret3 rfl rfl rfl rfl rfl ?_)))
 exact ⟨rfl, rfl, rfl⟩

set_option maxRecDepth 20000 in
theorem alphabet_ok (rb rc : Nat) (I : Heap) (hrb : I rb = some (cel 9 (Ke.prows.map str))) : Ctr Tryz.prog 87 [.slice (some ⟨rb, 0, none⟩) 31 rc] I []
    (fun e _I' H' => ∃ tb, e = .returned (.map (some tb)) ∧ H' = [(tb, mobj (fun a : Int => Value.int .i32 a) (Ke.mtab Ke.tab) 207)]) := by
 refine Ctr.of_body Tryz.func87 rfl (by decide) (Nat.le_of_ble_eq_true rfl) ?_
 intro w0 hw0
 refine Cj.seq (Cj.region (J.z (yl_assign rfl rfl) ?_))
 refine J.nil (Ej.seq (Cj.seq (Cj.region (J.op rfl (op_makeMap rfl rfl rfl ?_)))))
 intro b1 hb1
 refine J.z (yl_assign rfl rfl) ?_
 refine J.nil (Ej.seq (Cj.seq (Cj.seq (Cj.region (J.z (yl_move rfl rfl) ?_)))))
 refine J.z (yl_lenSlice rfl rfl Tryz.underlying27) ?_
 refine J.z (yl_move rfl rfl) ?_
 refine J.nil (Ej.seq (Cj.block (Cj.loop (ι := Nat) (fun k => k ≤ 31) (fun k => 31 - k) (fun k => [(3, .map (some b1)), (12, .slice (some ⟨rb, 0, none⟩) 31 rc), (13, .int .i64 ((31 : Nat) : Int)), (14, i64 (k : Int))]) (fun k => _) (fun k => [(b1, mobj (fun a : Int => Value.int .i32 a) (Ke.mtab (Ke.rowTab (Ke.rows.take k))) (Ke.rowTab (Ke.rows.take k)).length)]) 0 (Nat.zero_le _) ⟨rfl, rfl, rfl, rfl, trivial⟩ rfl rfl ?_)))
 intro k hk
 refine Cj.seq (Cj.region (J.z (yl_lss rfl rfl rfl) ?_))
 refine J.nil (Ej.seq (Cj.seq (Cj.cond rfl (fun hc2 => ?_) (fun hc2 => ?_))))
 ·
  have hc2p := of_decide_eq_true hc2
  have hlt : k < 31 := by have := of_decide_eq_true hc2; omega
  obtain ⟨⟨a, b⟩, hget⟩ : ∃ p, Ke.rows[k]? = some p := ⟨_, List.getElem?_eq_getElem (show k < Ke.rows.length from hlt)⟩
  obtain ⟨ha, hal, hbl⟩ := Ke.row_parts _ (List.mem_of_getElem? hget)
  have hpg : (Ke.prows.map str)[k]? = some (str (a ++ 32 :: b)) := by simp [Ke.prows, hget]
  refine Cj.skip (Ej.seq (Cj.seq (Cj.block (Cj.seq (Cj.region (J.z (yl_indexAddr (off' := k) rfl rfl rfl Tryz.underlying27 Tryz.sizeOf9 (by omega) (by omega) (by simp)) ?_))))))
  refine J.z (yl_load rfl rfl Tryz.isAgg9 (Blk.imm hrb) hpg) ?_
  refine J.z (yl_assign rfl rfl) ?_
  refine J.nil (Ej.seq (Cj.seq (Cj.region (J.z (yl_move rfl rfl) ?_))))
  refine J.op rfl (op_pure rfl rfl rfl rfl rfl (Cut_ok (a ++ 32 :: b) 32 (by dsimp only at hal hbl; simp; omega) _) ?_)
  refine J.eqv 20 rfl (show _ = .tuple #[str a, str b, .bool true] from (by rw [Ke.cutAt_row ha])) ?_
  refine J.z (yl_move rfl rfl) ?_
  refine J.z (yl_extract rfl rfl rfl) ?_
  refine J.z (yl_extract rfl rfl rfl) ?_
  refine J.z (yl_extract rfl rfl rfl) ?_
  refine J.z (yl_assign rfl rfl) ?_
  refine J.z (yl_assign rfl rfl) ?_
  refine J.z (yl_assign rfl rfl) ?_
  refine J.nil (Ej.seq (Cj.seq (Cj.region (J.z (yl_move rfl rfl) ?_))))
  refine J.op rfl (op_range rfl rfl rfl rfl Tryz.underlying9 ?_)
  intro b3 hb3
  refine J.nil (Ej.seq (Cj.block (Cj.loop (ι := Nat × List Nat) (fun j => j.1 ≤ b.length ∧ Ke.runes b = j.2 ++ Ke.runes (b.drop j.1)) (fun j => b.length - j.1) (fun j => [(3, .map (some b1)), (6, str a), (12, .slice (some ⟨rb, 0, none⟩) 31 rc), (13, .int .i64 ((31 : Nat) : Int)), (14, i64 (k : Int)), (25, ptr b3 0)]) (fun j => _) (fun j => [(b3, .stringIter ⟨b.toArray⟩ j.1), (b1, mobj (fun a : Int => Value.int .i32 a) (Ke.mtab (Ke.rowTab (Ke.rows.take k) ++ j.2.map (·, a))) (Ke.rowTab (Ke.rows.take k) ++ j.2.map (·, a)).length)]) (0, []) ⟨Nat.zero_le _, rfl⟩ ⟨rfl, rfl, rfl, rfl, rfl, rfl, trivial⟩ rfl (by simp) ?_)))
  rintro ⟨i, x⟩ ⟨hi, hx⟩
  dsimp only at hi hx ⊢
  rcases Nat.lt_or_ge i b.length with hp | hp
  ·
   have hw := Ke.decode_width b hp
   have hfr := Ke.fresh hget (Ke.runes_split hx hp)
   refine Cj.seq (Cj.region (J.op rfl (op_next 0 rfl rfl rfl rfl rfl (by rw [size_mk]; omega) LSet.z ?_)))
   refine J.z (yl_extract rfl rfl rfl) ?_
   refine J.nil (Ej.seq (Cj.seq (Cj.cond rfl (fun hc4 => ?_) (fun hc4 => Bool.noConfusion (Eq.trans (Eq.symm rfl) hc4)))))
   refine Cj.skip (Ej.seq (Cj.block (Cj.seq (Cj.region (J.z (yl_extract rfl rfl rfl) ?_)))))
   refine J.z (yl_assign rfl rfl) ?_
   refine J.nil (Ej.seq (Cj.region (J.z (yl_move rfl rfl) ?_)))
   refine J.z (yl_move rfl rfl) ?_
   refine J.z (yl_move rfl rfl) ?_
   refine J.op rfl (op_insert (kv := fun a : Int => Value.int .i32 a) (a := ((Utf8.decode ⟨b.toArray⟩ i).1 : Int)) 1 (.inr rfl) rfl rfl rfl rfl rfl Tryz.underlying97 (KeyK.int Tryz.underlying21) rfl (LSet.s LSet.z) ?_)
   rw [(Ke.mset_new (s := a) hfr).1, (Ke.mset_new (s := a) hfr).2]
   refine J.nil (Ej.blkNormal (Ej.round (i + (Utf8.decode ⟨b.toArray⟩ i).2, x ++ [(Utf8.decode ⟨b.toArray⟩ i).1]) ⟨hw.2, Ke.runes_split' hx hp⟩ (by dsimp only; omega) ⟨rfl, rfl, rfl, rfl, rfl, rfl, trivial⟩ rfl (by simp only [List.map_append, List.map_cons, List.map_nil, List.append_assoc])))
  ·
   
   refine Cj.seq (Cj.region (J.op rfl (op_nextEnd 0 rfl rfl rfl rfl rfl (by rw [size_mk]; omega) ?_)))
   refine J.z (yl_extract rfl rfl rfl) ?_
   refine J.nil (Ej.seq (Cj.seq (Cj.cond rfl (fun hc5 => Bool.noConfusion (Eq.trans (Eq.symm rfl) hc5)) (fun hc5 => ?_))))
   refine Cj.exit (Ej.seqExit (Ej.loopExit (Ej.blkExit (Ej.blkNormal (Ej.seq (Cj.region (J.z (yl_add rfl rfl rfl (w64 (by omega))) ?_)))))))
   refine J.z (yl_move rfl rfl) ?_
   refine J.nil (Ej.keep (Keeps.d (Keeps.k Keeps.n)) ?_)
   refine Ej.round (k + 1) (by omega) (by omega) ⟨rfl, rfl, rfl, rfl, trivial⟩ rfl (by rw [Ke.rowTab_next hget, Ke.runes_done hx (by omega)])
 ·
  have hc2p := of_decide_eq_false hc2
  refine Cj.exit (Ej.seqExit (Ej.loopExit (Ej.blkExit (Ej.seq (Cj.seq (Cj.region (J.z (yl_move rfl rfl) ?_)))))))
  refine J.z (yl_assign rfl rfl) ?_
  refine J.nil (Ej.seq (Cj.ret ?_))
  obtain rfl : k = 31 := by omega
  refine Ej.ret1 rfl rfl rfl ?_
  have he : Ke.rowTab (Ke.rows.take 31) = Ke.tab := by rw [List.take_of_length_le (by decide)]; exact Ke.tab_eq
  refine ⟨b1, rfl, ?_⟩
  rw [he]; rfl

theorem prows_eq : cel 9 (Ke.prows.map str) = cel 9 [str [97, 32, 195, 160, 195, 161, 195, 162, 195, 163, 195, 164, 195, 165, 196, 129, 196, 131, 196, 133, 195, 128, 195, 129, 195, 130, 195, 131, 195, 132, 195, 133, 196, 128, 196, 130, 196, 132], str [99, 32, 195, 167, 196, 135, 196, 137, 196, 139, 196, 141, 195, 135, 196, 134, 196, 136, 196, 138, 196, 140], str [100, 32, 196, 143, 196, 145, 195, 176, 196, 142, 196, 144, 195, 144], str [101, 32, 195, 168, 195, 169, 195, 170, 195, 171, 196, 147, 196, 149, 196, 151, 196, 153, 196, 155, 195, 136, 195, 137, 195, 138, 195, 139, 196, 146, 196, 148, 196, 150, 196, 152, 196, 154], str [103, 32, 196, 157, 196, 159, 196, 161, 196, 163, 196, 156, 196, 158, 196, 160, 196, 162], str [104, 32, 196, 165, 196, 167, 196, 164, 196, 166], str [105, 32, 195, 172, 195, 173, 195, 174, 195, 175, 196, 169, 196, 171, 196, 173, 196, 175, 196, 177, 195, 140, 195, 141, 195, 142, 195, 143, 196, 168, 196, 170, 196, 172, 196, 174, 196, 176], str [106, 32, 196, 181, 196, 180], str [107, 32, 196, 183, 196, 182], str [108, 32, 196, 186, 196, 188, 196, 190, 197, 130, 196, 185, 196, 187, 196, 189, 197, 129], str [110, 32, 195, 177, 197, 132, 197, 134, 197, 136, 195, 145, 197, 131, 197, 133, 197, 135], str [111, 32, 195, 178, 195, 179, 195, 180, 195, 181, 195, 182, 195, 184, 197, 141, 197, 143, 197, 145, 198, 161, 195, 146, 195, 147, 195, 148, 195, 149, 195, 150, 195, 152, 197, 140, 197, 142, 197, 144, 198, 160], str [114, 32, 197, 149, 197, 151, 197, 153, 197, 148, 197, 150, 197, 152], str [115, 32, 197, 155, 197, 157, 197, 159, 197, 161, 197, 154, 197, 156, 197, 158, 197, 160], str [116, 32, 197, 163, 197, 165, 197, 167, 197, 162, 197, 164, 197, 166], str [117, 32, 195, 185, 195, 186, 195, 187, 195, 188, 197, 169, 197, 171, 197, 173, 197, 175, 197, 177, 197, 179, 198, 176, 195, 153, 195, 154, 195, 155, 195, 156, 197, 168, 197, 170, 197, 172, 197, 174, 197, 176, 197, 178, 198, 175], str [119, 32, 197, 181, 197, 180], str [121, 32, 195, 189, 195, 191, 197, 183, 195, 157, 197, 184, 197, 182], str [122, 32, 197, 186, 197, 188, 197, 190, 197, 185, 197, 187, 197, 189], str [97, 101, 32, 195, 166, 195, 134], str [111, 101, 32, 197, 147, 197, 146], str [115, 115, 32, 195, 159], str [116, 104, 32, 195, 190, 195, 158], str [206, 177, 32, 206, 172, 206, 134], str [206, 181, 32, 206, 173, 206, 136], str [206, 183, 32, 206, 174, 206, 137], str [206, 185, 32, 206, 175, 207, 138, 206, 144, 206, 138, 206, 170], str [206, 191, 32, 207, 140, 206, 140], str [207, 133, 32, 207, 141, 207, 139, 206, 176, 206, 142, 206, 171], str [207, 137, 32, 207, 142, 206, 143], str [208, 181, 32, 209, 145, 208, 129]] := by kernel_rfl

set_option maxRecDepth 20000 in
theorem letters_ok (I : Heap) : Ctr Tryz.prog 62 [] I [] (fun e _I' H' => ∃ tb, e = .returned (.map (some tb)) ∧ H' = [(tb, mobj (fun a : Int => Value.int .i32 a) (Ke.mtab Ke.tab) 207)]) := by
 refine Ctr.of_body Tryz.func62 rfl (by decide) (Nat.le_of_ble_eq_true rfl) ?_
 intro w0 hw0
 refine Cj.seq (Cj.region (J.z (yl_assign rfl rfl) ?_))
 refine J.nil (Ej.seq (Cj.seq (Cj.region (J.op rfl (op_buildSlice rfl rfl rfl Tryz.underlying27 Tryz.sizeOf9 Tryz.zeroValue9 rfl rfl rfl rfl (LCat.one rfl (LCat.one rfl (LCat.one rfl (LCat.one rfl (LCat.one rfl (LCat.one rfl (LCat.one rfl (LCat.one rfl (LCat.one rfl (LCat.one rfl (LCat.one rfl (LCat.one rfl (LCat.one rfl (LCat.one rfl (LCat.one rfl (LCat.one rfl (LCat.one rfl (LCat.one rfl (LCat.one rfl (LCat.one rfl (LCat.one rfl (LCat.one rfl (LCat.one rfl (LCat.one rfl (LCat.one rfl (LCat.one rfl (LCat.one rfl (LCat.one rfl (LCat.one rfl (LCat.one rfl (LCat.one rfl LCat.none))))))))))))))))))))))))))))))) ?_)))))
 intro b1 hb1
 refine J.persist hb1 (fun I3 hle2 hb1i => ?_)
 refine J.op rfl (op_call (H1 := []) rfl rfl rfl rfl rfl (alphabet_ok b1 _ _ (by rw [prows_eq]; exact hb1i)) ?_ (fun _ _ _ _ h => by obtain ⟨_, h, _⟩ := h; cases h) (fun _ _ h => by obtain ⟨_, h, _⟩ := h; cases h))
 intro v4 I5 H6 hle7 hp8
 have hb1i := hle7 _ _ hb1i
 obtain ⟨tb, h, rfl⟩ := hp8; cases h
 refine J.z (yl_assign rfl rfl) ?_
 refine J.nil (Ej.seq (Cj.ret (Ej.ret1 rfl rfl rfl ?_)))
 exact ⟨tb, rfl, rfl⟩

end Go.Proofs.YtnogdccoekfnoaaGreatDoor
