/-
  The program's keys.check, keys.rightShort and keys.Isbn. Own text, printed by a program. Conditions: none.
-/
import Derived.Test.YtnogdccoekfnoaaGreatDoorRepT
import Derived.Test.YtnogdccoekfnoaaGreatDoorKr
namespace Go.Proofs.YtnogdccoekfnoaaGreatDoor
open Go Go.Sx
theorem bcs_at {l : List UInt8} {sp : List Value} {k : Nat} {c : UInt8} (h : l[k]? = some c) : (bcs l ++ sp)[k]? = some (u8 c) := by
  obtain ⟨hlt, _⟩ := List.getElem?_eq_some_iff.1 h
  rw [List.getElem?_append_left (by rw [bcs_len]; exact hlt), bcs, List.getElem?_map, h]; rfl
theorem w8 {x : Int} (h : 0 ≤ x ∧ x ≤ 255) : IntKind.u8.wrap x = x := by
  simp [IntKind.wrap, IntKind.bits, IntKind.signed]; omega
theorem csum_le : ∀ (l : List UInt8) (k : Nat), Ke.csum k l ≤ 1000 * l.length
  | [], _ => by simp [Ke.csum]
  | c :: r, k => by
    have h1 := csum_le r (k + 1)
    have h2 := c.toNat_lt
    have h3 : (c.toNat - 48) * (1 + 2 * (k % 2)) ≤ 255 * 3 := Nat.mul_le_mul (by omega) (by omega)
    simp only [Ke.csum, List.length_cons]; omega
theorem csum_next {l : List UInt8} {k : Nat} {c : UInt8} (h : l[k]? = some c) : Ke.csum 0 (l.take (k + 1)) = Ke.csum 0 (l.take k) + (c.toNat - 48) * (1 + 2 * (k % 2)) := by
  obtain ⟨hlt, hg⟩ := List.getElem?_eq_some_iff.1 h
  rw [List.take_succ_eq_append_getElem hlt, hg, Ke.csum_app, Ke.csum, Ke.csum, List.length_take, Nat.min_eq_left (by omega), Nat.zero_add, Nat.add_zero]
theorem val_le (c : UInt8) : Ke.val c ≤ 255 := by
  have h2 := c.toNat_lt
  unfold Ke.val; split <;> omega
theorem rsum_le : ∀ (l : List UInt8) (k : Nat), Ke.rsum k l ≤ 2550 * l.length
  | [], _ => by simp [Ke.rsum]
  | c :: r, k => by
    have h1 := rsum_le r (k + 1)
    have h3 : (10 - k) * Ke.val c ≤ 10 * 255 := Nat.mul_le_mul (by omega) (val_le c)
    simp only [Ke.rsum, List.length_cons]; omega
theorem rsum_next {l : List UInt8} {k : Nat} {c : UInt8} (h : l[k]? = some c) : Ke.rsum 0 (l.take (k + 1)) = Ke.rsum 0 (l.take k) + (10 - k) * Ke.val c := by
  obtain ⟨hlt, hg⟩ := List.getElem?_eq_some_iff.1 h
  rw [List.take_succ_eq_append_getElem hlt, hg, Ke.rsum_app, Ke.rsum, Ke.rsum, List.length_take, Nat.min_eq_left (by omega), Nat.zero_add, Nat.add_zero]
theorem digits_at {l : List UInt8} {k : Nat} {c : UInt8} (hd : Ke.digits l = true) (h : l[k]? = some c) : 48 ≤ c.toNat ∧ c.toNat ≤ 57 := Ke.digit_iff.1 (List.all_eq_true.1 hd c (List.mem_of_getElem? h))
set_option maxRecDepth 20000 in
theorem check_ok (s : List UInt8) (h12 : 12 ≤ s.length) (hs : s.length ≤ 1000000) (hd : Ke.digits (s.take 12) = true) (I : Heap) : Pure Tryz.prog 49 [str s] I (u8 (Ke.check s)) := by
 refine Ctr.toPure ?_
 have hul : (s.take 12).length = 12 := by rw [List.length_take]; omega
 refine Ctr.of_body Tryz.func49 rfl (by decide) (Nat.le_of_ble_eq_true rfl) ?_
 intro w0 hw0
 refine Cj.seq (Cj.region (J.z (yl_assign rfl rfl) ?_))
 refine J.nil (Ej.seq (Cj.seq (Cj.region (J.z (yl_assign rfl rfl) ?_))))
 refine J.nil (Ej.seq (Cj.seq (Cj.seq (Cj.region (J.z (yl_move rfl rfl) ?_)))))
 refine J.z (yl_sliceStr (p := 0) (q := 12) rfl rfl Tryz.underlying9 rfl ⟨_, rfl⟩ (by omega) (by omega)) ?_
 refine J.eqv 7 rfl (show _ = str (s.take 12) from (by rw [List.drop_zero])) ?_
 refine J.op rfl (op_toBytes rfl rfl rfl rfl Tryz.underlying9 Tryz.underlying46 Tryz.underlying5 ?_)
 intro b1 c2 sp3 fr4 hb1 hfr4
 refine J.z (yl_lenSlice rfl rfl Tryz.underlying46) ?_
 refine J.z (yl_move rfl rfl) ?_
 refine J.nil (Ej.seq (Cj.block (Cj.loop (ι := Nat) (fun j => j ≤ (s.take 12).length) (fun j => (s.take 12).length - j) (fun j => [(0, str s), (3, i64 ((Ke.csum 0 ((s.take 12).take j) : Nat) : Int)), (8, .slice (some ⟨b1, 0, none⟩) (s.take 12).length c2), (9, i64 ((s.take 12).length : Int)), (10, i64 (j : Int))]) (fun j => I) (fun j => [(b1, .cells (bcs (s.take 12) ++ sp3).toArray 5 (fr4, fr4 + 1))]) 0 (Nat.zero_le _) ⟨rfl, rfl, rfl, rfl, rfl, trivial⟩ rfl rfl ?_)))
 intro j hj
 have hsl := csum_le ((s.take 12).take j) 0
 rw [List.length_take, Nat.min_eq_left hj] at hsl
 refine Cj.seq (Cj.region (J.z (yl_lss rfl rfl rfl) ?_))
 refine J.nil (Ej.seq (Cj.seq (Cj.cond rfl (fun hc5 => ?_) (fun hc5 => ?_))))
 ·
  have hc5p := of_decide_eq_true hc5
  have hlt : j < (s.take 12).length := by omega
  obtain ⟨c, hget⟩ : ∃ c, (s.take 12)[j]? = some c := ⟨_, List.getElem?_eq_getElem hlt⟩
  have hc := digits_at hd hget
  have hm : (c.toNat - 48) * (1 + 2 * (j % 2)) ≤ 9 * 3 := Nat.mul_le_mul (by omega) (by omega)
  refine Cj.skip (Ej.seq (Cj.seq (Cj.block (Cj.seq (Cj.region (J.z (yl_move rfl rfl) ?_))))))
  refine J.z (yl_indexAddr (off' := j) rfl rfl rfl Tryz.underlying46 Tryz.sizeOf5 (by omega) (by omega) (by simp)) ?_
  refine J.z (yl_load rfl rfl Tryz.isAgg5 (Blk.at 0 rfl) (bcs_at hget)) ?_
  refine J.z (yl_assign rfl rfl) ?_
  refine J.z (yl_assign rfl rfl) ?_
  refine J.nil (Ej.seq (Cj.region (J.z (yl_move rfl rfl) ?_)))
  refine J.z (yl_move rfl rfl) ?_
  refine J.z (yl_sub rfl rfl rfl (w8 (by omega))) ?_
  refine J.z (yl_convInt rfl rfl Tryz.underlying5 Tryz.underlying3) ?_
  refine J.eqv 18 rfl (show _ = i64 ((c.toNat - 48 : Nat) : Int) from (congrArg i64 ((w64 (by omega)).trans (by omega)))) ?_
  refine J.z (yl_move rfl rfl) ?_
  refine J.z (yl_rem rfl rfl rfl (by decide)) ?_
  refine J.eqv 20 rfl (show _ = i64 ((j % 2 : Nat) : Int) from rfl) ?_
  refine J.z (yl_mul rfl rfl rfl (w64 (by omega))) ?_
  refine J.z (yl_add rfl rfl rfl (w64 (by omega))) ?_
  refine J.eqv 22 rfl (show _ = i64 ((1 + 2 * (j % 2) : Nat) : Int) from (congrArg i64 (by omega))) ?_
  refine J.z (yl_mul rfl rfl rfl (w64 (by rw [← Int.natCast_mul]; omega))) ?_
  refine J.eqv 23 rfl (show _ = i64 (((c.toNat - 48) * (1 + 2 * (j % 2)) : Nat) : Int) from (congrArg i64 (Int.natCast_mul _ _).symm)) ?_
  refine J.z (yl_add rfl rfl rfl (w64 (by omega))) ?_
  refine J.z (yl_assign rfl rfl) ?_
  refine J.nil (Ej.blkNormal (Ej.seq (Cj.region (J.z (yl_add rfl rfl rfl (w64 (by omega))) ?_))))
  refine J.z (yl_move rfl rfl) ?_
  refine J.nil (Ej.round (j + 1) (by omega) (by omega) ⟨rfl, by rw [csum_next hget]; exact congrArg (fun z => some (Value.int .i64 z)) (by omega), rfl, rfl, rfl, trivial⟩ rfl rfl)
 ·
  have hc5p := of_decide_eq_false hc5
  have hfull : (s.take 12).take j = s.take 12 := List.take_of_length_le (by omega)
  refine Cj.exit (Ej.seqExit (Ej.loopExit (Ej.blkExit (Ej.seq (Cj.seq (Cj.region (J.z (yl_move rfl rfl) ?_)))))))
  refine J.z (yl_rem rfl rfl rfl (by decide)) ?_
  refine J.eqv 27 rfl (show _ = i64 ((Ke.csum 0 (s.take 12) % 10 : Nat) : Int) from (by rw [hfull]; rfl)) ?_
  refine J.z (yl_sub rfl rfl rfl (w64 (by omega))) ?_
  refine J.eqv 28 rfl (show _ = i64 ((10 - Ke.csum 0 (s.take 12) % 10 : Nat) : Int) from (congrArg i64 (by omega))) ?_
  refine J.z (yl_rem rfl rfl rfl (by decide)) ?_
  refine J.eqv 29 rfl (show _ = i64 (((10 - Ke.csum 0 (s.take 12) % 10) % 10 : Nat) : Int) from rfl) ?_
  refine J.z (yl_add rfl rfl rfl (w64 (by omega))) ?_
  refine J.eqv 30 rfl (show _ = i64 ((48 + (10 - Ke.csum 0 (s.take 12) % 10) % 10 : Nat) : Int) from (congrArg i64 (by omega))) ?_
  refine J.z (yl_convInt rfl rfl Tryz.underlying3 Tryz.underlying5) ?_
  refine J.eqv 31 rfl (show _ = u8 (Ke.check s) from (congrArg (Value.int .u8) (conv8 (by omega)))) ?_
  refine J.z (yl_assign rfl rfl) ?_
  refine J.nil (Ej.seq (Cj.ret (Ej.keep (List.nil_sublist _) ?_)))
  refine Ej.ret1 rfl rfl rfl ?_
  exact ⟨rfl, rfl⟩

set_option maxRecDepth 20000 in
theorem rightShort_ok (s : List UInt8) (h10 : s.length = 10) (hx : ∀ c ∈ s, Ke.digit c = true ∨ c = 88) (I : Heap) : Pure Tryz.prog 48 [str s] I (.bool (Ke.rightShort s)) := by
 refine Ctr.toPure ?_
 refine Ctr.of_body Tryz.func48 rfl (by decide) (Nat.le_of_ble_eq_true rfl) ?_
 intro w0 hw0
 refine Cj.seq (Cj.region (J.z (yl_assign rfl rfl) ?_))
 refine J.nil (Ej.seq (Cj.seq (Cj.region (J.z (yl_assign rfl rfl) ?_))))
 refine J.nil (Ej.seq (Cj.seq (Cj.seq (Cj.region (J.z (yl_move rfl rfl) ?_)))))
 refine J.op rfl (op_toBytes rfl rfl rfl rfl Tryz.underlying9 Tryz.underlying46 Tryz.underlying5 ?_)
 intro b1 c2 sp3 fr4 hb1 hfr4
 refine J.z (yl_lenSlice rfl rfl Tryz.underlying46) ?_
 refine J.z (yl_move rfl rfl) ?_
 refine J.nil (Ej.seq (Cj.block (Cj.loop (ι := Nat) (fun j => j ≤ s.length) (fun j => s.length - j) (fun j => [(0, str s), (3, i64 ((Ke.rsum 0 (s.take j) : Nat) : Int)), (8, .slice (some ⟨b1, 0, none⟩) s.length c2), (9, i64 (s.length : Int)), (10, i64 (j : Int))]) (fun j => I) (fun j => [(b1, .cells (bcs s ++ sp3).toArray 5 (fr4, fr4 + 1))]) 0 (Nat.zero_le _) ⟨rfl, rfl, rfl, rfl, rfl, trivial⟩ rfl rfl ?_)))
 intro j hj
 have hsl := rsum_le (s.take j) 0
 rw [List.length_take, Nat.min_eq_left hj] at hsl
 refine Cj.seq (Cj.region (J.z (yl_lss rfl rfl rfl) ?_))
 refine J.nil (Ej.seq (Cj.seq (Cj.cond rfl (fun hc5 => ?_) (fun hc5 => ?_))))
 ·
  have hc5p := of_decide_eq_true hc5
  have hlt : j < s.length := by omega
  obtain ⟨c, hget⟩ : ∃ c, s[j]? = some c := ⟨_, List.getElem?_eq_getElem hlt⟩
  have hc : 48 ≤ c.toNat := (hx c (List.mem_of_getElem? hget)).elim (fun h => (Ke.digit_iff.1 h).1) (fun h => by subst h; decide)
  have hc2 := c.toNat_lt
  have hm : (10 - j) * Ke.val c ≤ 10 * 255 := Nat.mul_le_mul (by omega) (val_le c)
  refine Cj.skip (Ej.seq (Cj.seq (Cj.block (Cj.seq (Cj.region (J.z (yl_move rfl rfl) ?_))))))
  refine J.z (yl_indexAddr (off' := j) rfl rfl rfl Tryz.underlying46 Tryz.sizeOf5 (by omega) (by omega) (by simp)) ?_
  refine J.z (yl_load rfl rfl Tryz.isAgg5 (Blk.at 0 rfl) (bcs_at hget)) ?_
  refine J.z (yl_assign rfl rfl) ?_
  refine J.z (yl_assign rfl rfl) ?_
  refine J.nil (Ej.seq (Cj.seq (Cj.region (J.z (yl_move rfl rfl) ?_))))
  refine J.z (yl_sub rfl rfl rfl (w8 (by omega))) ?_
  refine J.z (yl_convInt rfl rfl Tryz.underlying5 Tryz.underlying3) ?_
  refine J.eqv 17 rfl (show _ = i64 ((c.toNat - 48 : Nat) : Int) from (congrArg i64 ((w64 (by omega)).trans (by omega)))) ?_
  refine J.z (yl_assign rfl rfl) ?_
  refine J.nil (Ej.seq (Cj.seq (Cj.seq (Cj.region (J.z (yl_move rfl rfl) ?_)))))
  refine J.z (yl_eql rfl rfl rfl) ?_
  refine J.nil (Ej.seq (Cj.cond rfl (fun hc6 => ?_) (fun hc6 => ?_)))
  ·
   have hc6p := eq_of_beq hc6
   have hcv : Ke.val c = 10 := by
     have h : (c.toNat : Int) = 88 := eq_of_beq hc6
     unfold Ke.val; rw [if_pos (UInt8.toNat_inj.1 (by rw [show (88 : UInt8).toNat = 88 from rfl]; omega))]
   refine Cj.region (J.z (yl_assign rfl rfl) ?_)
   refine J.nil (Ej.seq (Cj.region (J.z (yl_move rfl rfl) ?_)))
   refine J.z (yl_move rfl rfl) ?_
   refine J.z (yl_sub rfl rfl rfl (w64 (by omega))) ?_
   refine J.eqv 22 rfl (show _ = i64 ((10 - j : Nat) : Int) from (congrArg i64 (by omega))) ?_
   refine J.z (yl_move rfl rfl) ?_
   refine J.eqv 23 rfl (show _ = i64 ((Ke.val c : Nat) : Int) from (congrArg i64 (by omega))) ?_
   refine J.z (yl_mul rfl rfl rfl (w64 (by rw [← Int.natCast_mul]; omega))) ?_
   refine J.eqv 24 rfl (show _ = i64 (((10 - j) * Ke.val c : Nat) : Int) from (congrArg i64 (Int.natCast_mul _ _).symm)) ?_
   refine J.z (yl_add rfl rfl rfl (w64 (by omega))) ?_
   refine J.z (yl_assign rfl rfl) ?_
   refine J.nil (Ej.blkNormal (Ej.seq (Cj.region (J.z (yl_add rfl rfl rfl (w64 (by omega))) ?_))))
   refine J.z (yl_move rfl rfl) ?_
   refine J.nil (Ej.round (j + 1) (by omega) (by omega) ⟨rfl, by rw [rsum_next hget]; exact congrArg (fun z => some (Value.int .i64 z)) (by omega), rfl, rfl, rfl, trivial⟩ rfl rfl)
  ·
   have hc6p := ne_of_beq_false hc6
   have hcv : Ke.val c = c.toNat - 48 := by
     have h : ¬ (c.toNat : Int) = 88 := ne_of_beq_false hc6
     unfold Ke.val; rw [if_neg (fun e => h (by subst e; rfl))]
   refine Cj.skip (Ej.seq (Cj.region (J.z (yl_move rfl rfl) ?_)))
   refine J.z (yl_move rfl rfl) ?_
   refine J.z (yl_sub rfl rfl rfl (w64 (by omega))) ?_
   refine J.eqv 22 rfl (show _ = i64 ((10 - j : Nat) : Int) from (congrArg i64 (by omega))) ?_
   refine J.z (yl_move rfl rfl) ?_
   refine J.eqv 23 rfl (show _ = i64 ((Ke.val c : Nat) : Int) from (congrArg i64 (by omega))) ?_
   refine J.z (yl_mul rfl rfl rfl (w64 (by rw [← Int.natCast_mul]; omega))) ?_
   refine J.eqv 24 rfl (show _ = i64 (((10 - j) * Ke.val c : Nat) : Int) from (congrArg i64 (Int.natCast_mul _ _).symm)) ?_
   refine J.z (yl_add rfl rfl rfl (w64 (by omega))) ?_
   refine J.z (yl_assign rfl rfl) ?_
   refine J.nil (Ej.blkNormal (Ej.seq (Cj.region (J.z (yl_add rfl rfl rfl (w64 (by omega))) ?_))))
   refine J.z (yl_move rfl rfl) ?_
   refine J.nil (Ej.round (j + 1) (by omega) (by omega) ⟨rfl, by rw [rsum_next hget]; exact congrArg (fun z => some (Value.int .i64 z)) (by omega), rfl, rfl, rfl, trivial⟩ rfl rfl)
 ·
  have hc5p := of_decide_eq_false hc5
  have hfull : s.take j = s := List.take_of_length_le (by omega)
  refine Cj.exit (Ej.seqExit (Ej.loopExit (Ej.blkExit (Ej.seq (Cj.seq (Cj.region (J.z (yl_move rfl rfl) ?_)))))))
  refine J.z (yl_rem rfl rfl rfl (by decide)) ?_
  refine J.eqv 28 rfl (show _ = i64 ((Ke.rsum 0 s % 11 : Nat) : Int) from (by rw [hfull]; rfl)) ?_
  refine J.z (yl_eql rfl rfl rfl) ?_
  refine J.z (yl_move rfl rfl) ?_
  refine J.split 30 rfl (fun hg7 => ?_) (fun hg7 => ?_)
  ·
   have hr : (Ke.rsum 0 s % 11 == 0) = true := beq_iff_eq.2 (by have h := eq_of_beq hg7; omega)
   refine J.opG 3 30 true _ rfl rfl rfl hg7 (op_yld (yl_move rfl rfl) rfl rfl ?_)
   refine J.opG 3 30 true _ rfl rfl rfl hg7 (op_yld (yl_sliceStr (p := 0) (q := 9) rfl rfl Tryz.underlying9 rfl ⟨_, rfl⟩ (by omega) (by omega)) rfl rfl ?_)
   refine J.eqv 32 rfl (show _ = str (s.take 9) from (by rw [List.drop_zero])) ?_
   refine J.opG 3 30 true _ rfl rfl rfl hg7 (op_pure rfl rfl rfl rfl rfl (isDigits_ok (s.take 9) (by rw [List.length_take]; omega) _) ?_)
   refine J.z (yl_pick1 rfl rfl hg7 rfl) ?_
   refine J.z (yl_assign rfl rfl) ?_
   refine J.nil (Ej.seq (Cj.ret (Ej.keep (List.nil_sublist _) ?_)))
   refine Ej.ret1 rfl rfl rfl ?_
   exact ⟨congrArg (fun b => Ending.returned (.bool b)) (by unfold Ke.rightShort; rw [hr]; rfl), rfl⟩
  ·
   have hr : (Ke.rsum 0 s % 11 == 0) = false := beq_eq_false_iff_ne.2 (fun e => ne_of_beq_false hg7 (by rw [e]; rfl))
   refine J.skip 3 30 31 true _ rfl rfl rfl hg7 rfl rfl ?_
   refine J.skip 3 30 32 true _ rfl rfl rfl hg7 rfl rfl ?_
   refine J.skip 3 30 33 true _ rfl rfl rfl hg7 rfl rfl ?_
   refine J.z (yl_pick0 rfl rfl hg7 rfl) ?_
   refine J.z (yl_assign rfl rfl) ?_
   refine J.nil (Ej.seq (Cj.ret (Ej.keep (List.nil_sublist _) ?_)))
   refine Ej.ret1 rfl rfl rfl ?_
   exact ⟨congrArg (fun b => Ending.returned (.bool b)) (by unfold Ke.rightShort; rw [hr]; rfl), rfl⟩

theorem norm_chars (s : List UInt8) : ∀ c ∈ Ke.norm s, Ke.digit c = true ∨ c = 88 := fun c hc => by
  obtain ⟨d, hd, rfl⟩ := List.mem_map.1 hc
  obtain ⟨h1, h2⟩ := List.mem_filter.1 hd
  have h3 : Ke.okb d = true := List.all_eq_true.1 (List.all_takeWhile (p := Ke.okb)) d h1
  revert h2 h3
  exact Ke.byte_all (p := fun d => Ke.nb d = true → Ke.okb d = true → Ke.digit (Ke.up d) = true ∨ Ke.up d = 88) (by decide +kernel) d
theorem norm_len (s : List UInt8) : (Ke.norm s).length ≤ s.length := by
  unfold Ke.norm
  rw [List.length_map]
  exact Nat.le_trans (List.length_filter_le _ _) (List.takeWhile_prefix _).length_le
theorem ToUpper_ok (s : List UInt8) (hs : s.length ≤ 1000000000) (I : Heap) : Pure Tryz.prog 45 [str (Ke.rep (s.takeWhile Ke.okb))] I (str (Ke.norm s)) := by
  refine Pure.of_below (Enters.of Tryz.func45 (by decide) rfl) fun w _ => ?_
  have hall : ∀ c ∈ Ke.rep (s.takeWhile Ke.okb), c.toNat < 128 ∧ Lib.upperB c = Ke.up c := fun c hc => by
    obtain ⟨h1, h2⟩ := List.mem_filter.1 hc
    have h3 : Ke.okb c = true := List.all_eq_true.1 (List.all_takeWhile (p := Ke.okb)) c h1
    revert h3
    exact Ke.byte_all (p := fun c => Ke.okb c = true → c.toNat < 128 ∧ Lib.upperB c = Ke.up c) (by decide +kernel) c
  have hl : (Ke.rep (s.takeWhile Ke.okb)).length ≤ s.length := Nat.le_trans (List.length_filter_le _ _) (List.takeWhile_prefix _).length_le
  have h := Tryz.strings_ToUpper_ascii ⟨(Ke.rep (s.takeWhile Ke.okb)).toArray⟩ w (by rw [size_mk]; omega) (fun j b hb => by rw [ba_list] at hb; exact (hall b (List.mem_of_getElem? hb)).1)
  rw [ba_list] at h
  have e : Lib.toUpperA (Ke.rep (s.takeWhile Ke.okb)) = Ke.norm s := List.map_congr_left fun c hc => (hall c hc).2
  rw [e] at h
  exact h

theorem check_app {a b : List UInt8} (h : a.length = 12) : Ke.check (a ++ b) = Ke.check a := by
  unfold Ke.check; rw [List.take_append_of_le_length (by omega)]
theorem digits_12 {a b : List UInt8} (h : Ke.digits a = true) (hl : a.length = 9) : Ke.digits (([57, 55, 56] ++ a ++ b).take 12) = true := by
  rw [List.take_append_of_le_length (by simp; omega), List.take_of_length_le (by simp; omega), Ke.digits_app, h]; rfl

set_option maxRecDepth 20000 in
theorem Isbn_ok (s : List UInt8) (hs : s.length ≤ 100000000) (I : Heap) : Pure Tryz.prog 25 [str s] I (.tuple #[str (Ke.isbn s).1, .bool (Ke.isbn s).2]) := by
 refine Ctr.toPure ?_
 have hnc := norm_chars s
 have hnl := norm_len s
 have htl : (s.takeWhile Ke.okb).length ≤ s.length := (List.takeWhile_prefix _).length_le
 refine Ctr.of_body Tryz.func25 rfl (by decide) (Nat.le_of_ble_eq_true rfl) ?_
 intro w0 hw0
 refine Cj.seq (Cj.region (J.z (yl_assign rfl rfl) ?_))
 refine J.z (yl_assign rfl rfl) ?_
 refine J.nil (Ej.seq (Cj.seq (Cj.region (J.z (yl_move rfl rfl) ?_))))
 refine J.op rfl (op_call (H1 := []) rfl rfl rfl rfl rfl (IndexFunc_ok s _) ?_ (fun _ _ _ _ h => by obtain ⟨_, h, _⟩ := h; cases h) (fun _ _ h => by obtain ⟨_, h, _⟩ := h; cases h))
 intro v1 I2 H3 hle4 hp5
 obtain ⟨n, h, hn, rfl⟩ := hp5; cases h
 refine J.z (yl_assign rfl rfl) ?_
 refine J.nil (Ej.seq (Cj.seq (Cj.seq (Cj.region (J.z (yl_move rfl rfl) ?_)))))
 refine J.z (yl_geq rfl rfl rfl) ?_
 refine J.nil (Ej.seq (Cj.cond rfl (fun hc6 => ?_) (fun hc6 => ?_)))
 ·
  have hc6p := of_decide_eq_true hc6
  obtain ⟨k, rfl, hk, htw⟩ : ∃ k : Nat, n = k ∧ k ≤ s.length ∧ s.takeWhile Ke.okb = s.take k := hn.elim (fun h => absurd (of_decide_eq_true hc6) (by rw [h.1]; decide)) id
  refine Cj.region (J.z (yl_move rfl rfl) ?_)
  refine J.z (yl_move rfl rfl) ?_
  refine J.z (yl_sliceStr (p := 0) (q := k) rfl rfl Tryz.underlying9 rfl ⟨_, rfl⟩ (by omega) (by omega)) ?_
  refine J.eqv 11 rfl (show _ = str (s.takeWhile Ke.okb) from (by rw [htw, List.drop_zero])) ?_
  refine J.z (yl_assign rfl rfl) ?_
  refine J.nil (Ej.seq (Cj.seq (Cj.region (J.op rfl (op_buildSlice rfl rfl rfl Tryz.underlying27 Tryz.sizeOf9 Tryz.zeroValue9 rfl rfl rfl rfl (LCat.one rfl (LCat.one rfl (LCat.one rfl (LCat.one rfl LCat.none)))) ?_)))))
  intro b7 hb7
  refine J.pull Pull.z ?_
  refine J.op rfl (op_call (H1 := [_]) rfl rfl rfl rfl rfl (NewReplacer_ok b7 _ _) ?_ (fun _ _ _ _ h => by obtain ⟨_, _, h, _⟩ := h; cases h) (fun _ _ h => by obtain ⟨_, _, h, _⟩ := h; cases h))
  intro v8 I9 H10 hle11 hp12
  obtain ⟨rb, osl, h, rfl, ho⟩ := hp12; cases h
  refine J.z (yl_move rfl rfl) ?_
  refine J.pull Pull.z ?_
  refine J.op rfl (op_call (H1 := [_]) rfl rfl rfl rfl rfl (Replace_ok rb osl (s.takeWhile Ke.okb) (by omega) _ ho) ?_ (fun _ _ _ _ h => by cases h.1) (fun _ _ h => by cases h.1))
  intro v13 I14 H15 hle16 hp17
  have ho := ho.mono hle16
  obtain ⟨h, rfl⟩ := hp17; cases h
  refine J.eqv 15 rfl (show _ = str (Ke.rep (s.takeWhile Ke.okb)) from rfl) ?_
  refine J.op rfl (op_pure rfl rfl rfl rfl rfl (ToUpper_ok s (by omega) _) ?_)
  refine J.z (yl_assign rfl rfl) ?_
  refine J.nil (Ej.seq (Cj.seq (Cj.block (Cj.seq (Cj.region (J.z (yl_move rfl rfl) ?_))))))
  refine J.z (yl_lenStr rfl rfl Tryz.underlying9) ?_
  refine J.z (yl_eql rfl rfl rfl) ?_
  refine J.z (yl_move rfl rfl) ?_
  refine J.split 21 rfl (fun hg18 => ?_) (fun hg18 => ?_)
  ·
   have h10 : (Ke.norm s).length = 10 := by have h := eq_of_beq hg18; omega
   refine J.opG 3 21 true _ rfl rfl rfl hg18 (op_yld (yl_move rfl rfl) rfl rfl ?_)
   refine J.opG 3 21 true _ rfl rfl rfl hg18 (op_pure rfl rfl rfl rfl rfl (rightShort_ok (Ke.norm s) h10 hnc _) ?_)
   refine J.z (yl_pick1 rfl rfl hg18 rfl) ?_
   refine J.z (yl_assign rfl rfl) ?_
   refine J.nil (Ej.seq (Cj.cond rfl (fun hc19 => ?_) (fun hc19 => ?_)))
   ·
    have hrs : Ke.rightShort (Ke.norm s) = true := hc19
    have hd9 : Ke.digits ((Ke.norm s).take 9) = true := (Bool.and_eq_true_iff.1 hrs).2
    have hd12 := digits_12 (b := [48]) hd9 (by rw [List.length_take]; omega)
    refine Cj.seq (Cj.region (J.z (yl_move rfl rfl) ?_))
    refine J.z (yl_sliceStr (p := 0) (q := 9) rfl rfl Tryz.underlying9 rfl ⟨_, rfl⟩ (by omega) (by omega)) ?_
    refine J.eqv 26 rfl (show _ = str ((Ke.norm s).take 9) from (by rw [List.drop_zero])) ?_
    refine J.z (yl_cat rfl rfl rfl (by first | omega | (simp only [List.length_append]; omega) | (simp; omega))) ?_
    refine J.z (yl_assign rfl rfl) ?_
    refine J.nil (Ej.seq (Cj.seq (Cj.region (J.z (yl_move rfl rfl) ?_))))
    refine J.z (yl_move rfl rfl) ?_
    refine J.z (yl_cat rfl rfl rfl (by first | omega | (simp only [List.length_append]; omega) | (simp; omega))) ?_
    refine J.op rfl (op_pure rfl rfl rfl rfl rfl (check_ok _ (by simp; omega) (by simp; omega) hd12 _) ?_)
    refine J.eqv 31 rfl (show _ = u8 (Ke.check ([57, 55, 56] ++ (Ke.norm s).take 9)) from (by rw [check_app (by simp; omega)])) ?_
    refine J.op rfl (op_buildSlice rfl rfl rfl Tryz.underlying46 Tryz.sizeOf5 Tryz.zeroValue5 rfl rfl rfl rfl (LCat.one rfl LCat.none) ?_)
    intro b20 hb20
    refine J.z (yl_toStr [Ke.check ([57, 55, 56] ++ (Ke.norm s).take 9)] rfl rfl rfl Tryz.underlying46 Tryz.underlying9 Tryz.underlying5 (Blk.at 0 rfl) rfl) ?_
    refine J.z (yl_cat rfl rfl rfl (by first | omega | (simp only [List.length_append]; omega) | (simp; omega))) ?_
    refine J.z (yl_assign rfl rfl) ?_
    refine J.z (yl_assign rfl rfl) ?_
    refine J.nil (Ej.seq (Cj.ret (Ej.blkRet (Ej.seqRet (Ej.keep (List.nil_sublist _) ?_)))))
    refine Ej.ret2 rfl rfl rfl rfl ?_
    have he : Ke.isbn s = ([57, 55, 56] ++ (Ke.norm s).take 9 ++ [Ke.check ([57, 55, 56] ++ (Ke.norm s).take 9)], true) := by unfold Ke.isbn Ke.isbnN; rw [if_pos ⟨h10, hrs⟩]
    rw [he]
    exact ⟨rfl, rfl⟩
   ·
    have hno : ¬ ((Ke.norm s).length = 10 ∧ Ke.rightShort (Ke.norm s) = true) := fun e => Bool.noConfusion (e.2.symm.trans hc19)
    refine Cj.seq (Cj.drawSel [] [] 15 (by kernel_rfl) ?_)
    refine JA.fix ⟨HSub.n, CSub.n, (Le.refl _)⟩ (fun fx21 => ?_)
    refine JA.tk 0 rfl fx21 (yl_move rfl rfl) ?_
    refine JA.tk 1 rfl fx21 (yl_lenStr rfl rfl Tryz.underlying9) ?_
    refine JA.tk 2 rfl fx21 (yl_eql rfl rfl rfl) ?_
    refine JA.tk 3 rfl fx21 (yl_move rfl rfl) ?_
    refine JA.split 39 rfl (fun hg22 => ?_) (fun hg22 => ?_)
    ·
     have h13 : (Ke.norm s).length = 13 := by have h := eq_of_beq hg22; omega
     refine JA.tkG 4 3 39 true _ rfl fx21 rfl rfl hg22 (yl_move rfl rfl) ?_
     refine JA.stepG 5 3 39 true _ (by kernel_rfl) rfl rfl rfl rfl hg22 (op_pure rfl rfl rfl rfl rfl (isDigits_ok (Ke.norm s) (by omega) _) ?_)
     refine ⟨⟨(Le.refl _), HSub.n, CSub.n⟩, ?_⟩
     refine JA.fix ⟨HSub.n, CSub.n, (Le.refl _)⟩ (fun fx23 => ?_)
     refine JA.tk 6 rfl fx23 (yl_pick1 rfl rfl hg22 rfl) ?_
     refine JA.tk 7 rfl fx23 (yl_move rfl rfl) ?_
     refine JA.split 43 rfl (fun hg24 => ?_) (fun hg24 => ?_)
     ·
      have hdg : Ke.digits (Ke.norm s) = true := hg24
      have hd13 : Ke.digits ((Ke.norm s).take 12) = true := List.all_eq_true.2 fun c hc => List.all_eq_true.1 hdg c (List.mem_of_mem_take hc)
      obtain ⟨c, hg12⟩ : ∃ c, (Ke.norm s)[12]? = some c := ⟨_, List.getElem?_eq_getElem (by omega)⟩
      have hgd : (Ke.norm s).getD 12 0 = c := by rw [List.getD, hg12]; rfl
      refine JA.tkG 8 7 43 true _ rfl fx23 rfl rfl hg24 (yl_move rfl rfl) ?_
      refine JA.tkG 10 7 43 true _ rfl fx23 rfl rfl hg24 (yl_move rfl rfl) ?_
      refine JA.tkG 11 7 43 true _ rfl fx23 rfl rfl hg24 (yl_index rfl rfl rfl Tryz.underlying9 (by omega) hg12) ?_
      refine JA.stepG 9 7 43 true _ (by kernel_rfl) rfl rfl rfl rfl hg24 (op_pure rfl rfl rfl rfl rfl (check_ok (Ke.norm s) (by omega) (by omega) hd13 _) ?_)
      refine ⟨⟨(Le.refl _), HSub.n, CSub.n⟩, ?_⟩
      refine JA.fix ⟨HSub.n, CSub.n, (Le.refl _)⟩ (fun fx25 => ?_)
      refine JA.tkG 12 7 43 true _ rfl fx25 rfl rfl hg24 (yl_eql rfl rfl rfl) ?_
      refine JA.tk 13 rfl fx25 (yl_pick1 rfl rfl hg24 rfl) ?_
      refine JA.tk 14 rfl fx25 (yl_assign rfl rfl) ?_
      refine JA.done (by kernel_rfl) ?_
      refine Ej.seq (Cj.cond rfl (fun hc26 => ?_) (fun hc26 => ?_))
      ·
       have hc26p := eq_of_beq hc26
       have hck : Ke.check (Ke.norm s) = (Ke.norm s).getD 12 0 := by have h := eq_of_beq hc26; rw [hgd]; exact UInt8.toNat_inj.1 (by omega)
       refine Cj.seq (Cj.region (J.z (yl_move rfl rfl) ?_))
       refine J.z (yl_assign rfl rfl) ?_
       refine J.z (yl_assign rfl rfl) ?_
       refine J.nil (Ej.seq (Cj.ret (Ej.blkRet (Ej.seqRet (Ej.keep (List.nil_sublist _) ?_)))))
       refine Ej.ret2 rfl rfl rfl rfl ?_
       have he : Ke.isbn s = (Ke.norm s, true) := by unfold Ke.isbn Ke.isbnN; rw [if_neg hno, if_pos ⟨h13, hdg, hck⟩]
       rw [he]
       exact ⟨rfl, rfl⟩
      ·
       have hc26p := ne_of_beq_false hc26
       have hno2 : ¬ ((Ke.norm s).length = 13 ∧ Ke.digits (Ke.norm s) = true ∧ Ke.check (Ke.norm s) = (Ke.norm s).getD 12 0) := fun e => ne_of_beq_false hc26 (by rw [e.2.2, hgd])
       refine Cj.skip (Ej.blkNormal (Ej.seq (Cj.seq (Cj.region (J.z (yl_assign rfl rfl) ?_)))))
       refine J.z (yl_assign rfl rfl) ?_
       refine J.nil (Ej.seq (Cj.ret (Ej.keep (List.nil_sublist _) ?_)))
       refine Ej.ret2 rfl rfl rfl rfl ?_
       have he : Ke.isbn s = ([], false) := by unfold Ke.isbn Ke.isbnN; rw [if_neg hno, if_neg hno2]
       rw [he]
       exact ⟨rfl, rfl⟩
     ·
      have hno2 : ¬ ((Ke.norm s).length = 13 ∧ Ke.digits (Ke.norm s) = true ∧ Ke.check (Ke.norm s) = (Ke.norm s).getD 12 0) := fun e => Bool.noConfusion (e.2.1.symm.trans hg24)
      refine JA.tkS 8 7 43 true _ rfl fx23 rfl rfl (.inl (congrArg Value.bool hg24)) ?_
      refine JA.tkS 9 7 43 true _ rfl fx23 rfl rfl (.inl (congrArg Value.bool hg24)) ?_
      refine JA.tkS 10 7 43 true _ rfl fx23 rfl rfl (.inl (congrArg Value.bool hg24)) ?_
      refine JA.tkS 11 7 43 true _ rfl fx23 rfl rfl (.inl (congrArg Value.bool hg24)) ?_
      refine JA.tkS 12 7 43 true _ rfl fx23 rfl rfl (.inl (congrArg Value.bool hg24)) ?_
      refine JA.tk 13 rfl fx23 (yl_pick0 rfl rfl hg24 rfl) ?_
      refine JA.tk 14 rfl fx23 (yl_assign rfl rfl) ?_
      refine JA.done (by kernel_rfl) ?_
      refine Ej.seq (Cj.cond rfl (fun hc27 => Bool.noConfusion (Eq.trans (Eq.symm rfl) hc27)) (fun hc27 => ?_))
      refine Cj.skip (Ej.blkNormal (Ej.seq (Cj.seq (Cj.region (J.z (yl_assign rfl rfl) ?_)))))
      refine J.z (yl_assign rfl rfl) ?_
      refine J.nil (Ej.seq (Cj.ret (Ej.keep (List.nil_sublist _) ?_)))
      refine Ej.ret2 rfl rfl rfl rfl ?_
      have he : Ke.isbn s = ([], false) := by unfold Ke.isbn Ke.isbnN; rw [if_neg hno, if_neg hno2]
      rw [he]
      exact ⟨rfl, rfl⟩
    ·
     have hno2 : ¬ ((Ke.norm s).length = 13 ∧ Ke.digits (Ke.norm s) = true ∧ Ke.check (Ke.norm s) = (Ke.norm s).getD 12 0) := fun e => ne_of_beq_false hg22 (by rw [e.1]; rfl)
     refine JA.tkS 4 3 39 true _ rfl fx21 rfl rfl (.inl (congrArg Value.bool hg22)) ?_
     refine JA.tkS 5 3 39 true _ rfl fx21 rfl rfl (.inl (congrArg Value.bool hg22)) ?_
     refine JA.tk 6 rfl fx21 (yl_pick0 rfl rfl hg22 rfl) ?_
     refine JA.tk 7 rfl fx21 (yl_move rfl rfl) ?_
     refine JA.tkS 8 7 43 true _ rfl fx21 rfl rfl (.inl (congrArg Value.bool rfl)) ?_
     refine JA.tkS 9 7 43 true _ rfl fx21 rfl rfl (.inl (congrArg Value.bool rfl)) ?_
     refine JA.tkS 10 7 43 true _ rfl fx21 rfl rfl (.inl (congrArg Value.bool rfl)) ?_
     refine JA.tkS 11 7 43 true _ rfl fx21 rfl rfl (.inl (congrArg Value.bool rfl)) ?_
     refine JA.tkS 12 7 43 true _ rfl fx21 rfl rfl (.inl (congrArg Value.bool rfl)) ?_
     refine JA.tk 13 rfl fx21 (yl_pick0 rfl rfl rfl rfl) ?_
     refine JA.tk 14 rfl fx21 (yl_assign rfl rfl) ?_
     refine JA.done (by kernel_rfl) ?_
     refine Ej.seq (Cj.cond rfl (fun hc28 => Bool.noConfusion (Eq.trans (Eq.symm rfl) hc28)) (fun hc28 => ?_))
     refine Cj.skip (Ej.blkNormal (Ej.seq (Cj.seq (Cj.region (J.z (yl_assign rfl rfl) ?_)))))
     refine J.z (yl_assign rfl rfl) ?_
     refine J.nil (Ej.seq (Cj.ret (Ej.keep (List.nil_sublist _) ?_)))
     refine Ej.ret2 rfl rfl rfl rfl ?_
     have he : Ke.isbn s = ([], false) := by unfold Ke.isbn Ke.isbnN; rw [if_neg hno, if_neg hno2]
     rw [he]
     exact ⟨rfl, rfl⟩
  ·
   have hno : ¬ ((Ke.norm s).length = 10 ∧ Ke.rightShort (Ke.norm s) = true) := fun e => ne_of_beq_false hg18 (by rw [e.1]; rfl)
   refine J.skip 3 21 22 true _ rfl rfl rfl hg18 rfl rfl ?_
   refine J.skip 3 21 23 true _ rfl rfl rfl hg18 rfl rfl ?_
   refine J.z (yl_pick0 rfl rfl hg18 rfl) ?_
   refine J.z (yl_assign rfl rfl) ?_
   refine J.nil (Ej.seq (Cj.cond rfl (fun hc29 => Bool.noConfusion (Eq.trans (Eq.symm rfl) hc29)) (fun hc29 => ?_)))
   refine Cj.seq (Cj.drawSel [] [] 15 (by kernel_rfl) ?_)
   refine JA.fix ⟨HSub.n, CSub.n, (Le.refl _)⟩ (fun fx30 => ?_)
   refine JA.tk 0 rfl fx30 (yl_move rfl rfl) ?_
   refine JA.tk 1 rfl fx30 (yl_lenStr rfl rfl Tryz.underlying9) ?_
   refine JA.tk 2 rfl fx30 (yl_eql rfl rfl rfl) ?_
   refine JA.tk 3 rfl fx30 (yl_move rfl rfl) ?_
   refine JA.split 39 rfl (fun hg31 => ?_) (fun hg31 => ?_)
   ·
    have h13 : (Ke.norm s).length = 13 := by have h := eq_of_beq hg31; omega
    refine JA.tkG 4 3 39 true _ rfl fx30 rfl rfl hg31 (yl_move rfl rfl) ?_
    refine JA.stepG 5 3 39 true _ (by kernel_rfl) rfl rfl rfl rfl hg31 (op_pure rfl rfl rfl rfl rfl (isDigits_ok (Ke.norm s) (by omega) _) ?_)
    refine ⟨⟨(Le.refl _), HSub.n, CSub.n⟩, ?_⟩
    refine JA.fix ⟨HSub.n, CSub.n, (Le.refl _)⟩ (fun fx32 => ?_)
    refine JA.tk 6 rfl fx32 (yl_pick1 rfl rfl hg31 rfl) ?_
    refine JA.tk 7 rfl fx32 (yl_move rfl rfl) ?_
    refine JA.split 43 rfl (fun hg33 => ?_) (fun hg33 => ?_)
    ·
     have hdg : Ke.digits (Ke.norm s) = true := hg33
     have hd13 : Ke.digits ((Ke.norm s).take 12) = true := List.all_eq_true.2 fun c hc => List.all_eq_true.1 hdg c (List.mem_of_mem_take hc)
     obtain ⟨c, hg12⟩ : ∃ c, (Ke.norm s)[12]? = some c := ⟨_, List.getElem?_eq_getElem (by omega)⟩
     have hgd : (Ke.norm s).getD 12 0 = c := by rw [List.getD, hg12]; rfl
     refine JA.tkG 8 7 43 true _ rfl fx32 rfl rfl hg33 (yl_move rfl rfl) ?_
     refine JA.tkG 10 7 43 true _ rfl fx32 rfl rfl hg33 (yl_move rfl rfl) ?_
     refine JA.tkG 11 7 43 true _ rfl fx32 rfl rfl hg33 (yl_index rfl rfl rfl Tryz.underlying9 (by omega) hg12) ?_
     refine JA.stepG 9 7 43 true _ (by kernel_rfl) rfl rfl rfl rfl hg33 (op_pure rfl rfl rfl rfl rfl (check_ok (Ke.norm s) (by omega) (by omega) hd13 _) ?_)
     refine ⟨⟨(Le.refl _), HSub.n, CSub.n⟩, ?_⟩
     refine JA.fix ⟨HSub.n, CSub.n, (Le.refl _)⟩ (fun fx34 => ?_)
     refine JA.tkG 12 7 43 true _ rfl fx34 rfl rfl hg33 (yl_eql rfl rfl rfl) ?_
     refine JA.tk 13 rfl fx34 (yl_pick1 rfl rfl hg33 rfl) ?_
     refine JA.tk 14 rfl fx34 (yl_assign rfl rfl) ?_
     refine JA.done (by kernel_rfl) ?_
     refine Ej.seq (Cj.cond rfl (fun hc35 => ?_) (fun hc35 => ?_))
     ·
      have hc35p := eq_of_beq hc35
      have hck : Ke.check (Ke.norm s) = (Ke.norm s).getD 12 0 := by have h := eq_of_beq hc35; rw [hgd]; exact UInt8.toNat_inj.1 (by omega)
      refine Cj.seq (Cj.region (J.z (yl_move rfl rfl) ?_))
      refine J.z (yl_assign rfl rfl) ?_
      refine J.z (yl_assign rfl rfl) ?_
      refine J.nil (Ej.seq (Cj.ret (Ej.blkRet (Ej.seqRet (Ej.keep (List.nil_sublist _) ?_)))))
      refine Ej.ret2 rfl rfl rfl rfl ?_
      have he : Ke.isbn s = (Ke.norm s, true) := by unfold Ke.isbn Ke.isbnN; rw [if_neg hno, if_pos ⟨h13, hdg, hck⟩]
      rw [he]
      exact ⟨rfl, rfl⟩
     ·
      have hc35p := ne_of_beq_false hc35
      have hno2 : ¬ ((Ke.norm s).length = 13 ∧ Ke.digits (Ke.norm s) = true ∧ Ke.check (Ke.norm s) = (Ke.norm s).getD 12 0) := fun e => ne_of_beq_false hc35 (by rw [e.2.2, hgd])
      refine Cj.skip (Ej.blkNormal (Ej.seq (Cj.seq (Cj.region (J.z (yl_assign rfl rfl) ?_)))))
      refine J.z (yl_assign rfl rfl) ?_
      refine J.nil (Ej.seq (Cj.ret (Ej.keep (List.nil_sublist _) ?_)))
      refine Ej.ret2 rfl rfl rfl rfl ?_
      have he : Ke.isbn s = ([], false) := by unfold Ke.isbn Ke.isbnN; rw [if_neg hno, if_neg hno2]
      rw [he]
      exact ⟨rfl, rfl⟩
    ·
     have hno2 : ¬ ((Ke.norm s).length = 13 ∧ Ke.digits (Ke.norm s) = true ∧ Ke.check (Ke.norm s) = (Ke.norm s).getD 12 0) := fun e => Bool.noConfusion (e.2.1.symm.trans hg33)
     refine JA.tkS 8 7 43 true _ rfl fx32 rfl rfl (.inl (congrArg Value.bool hg33)) ?_
     refine JA.tkS 9 7 43 true _ rfl fx32 rfl rfl (.inl (congrArg Value.bool hg33)) ?_
     refine JA.tkS 10 7 43 true _ rfl fx32 rfl rfl (.inl (congrArg Value.bool hg33)) ?_
     refine JA.tkS 11 7 43 true _ rfl fx32 rfl rfl (.inl (congrArg Value.bool hg33)) ?_
     refine JA.tkS 12 7 43 true _ rfl fx32 rfl rfl (.inl (congrArg Value.bool hg33)) ?_
     refine JA.tk 13 rfl fx32 (yl_pick0 rfl rfl hg33 rfl) ?_
     refine JA.tk 14 rfl fx32 (yl_assign rfl rfl) ?_
     refine JA.done (by kernel_rfl) ?_
     refine Ej.seq (Cj.cond rfl (fun hc36 => Bool.noConfusion (Eq.trans (Eq.symm rfl) hc36)) (fun hc36 => ?_))
     refine Cj.skip (Ej.blkNormal (Ej.seq (Cj.seq (Cj.region (J.z (yl_assign rfl rfl) ?_)))))
     refine J.z (yl_assign rfl rfl) ?_
     refine J.nil (Ej.seq (Cj.ret (Ej.keep (List.nil_sublist _) ?_)))
     refine Ej.ret2 rfl rfl rfl rfl ?_
     have he : Ke.isbn s = ([], false) := by unfold Ke.isbn Ke.isbnN; rw [if_neg hno, if_neg hno2]
     rw [he]
     exact ⟨rfl, rfl⟩
   ·
    have hno2 : ¬ ((Ke.norm s).length = 13 ∧ Ke.digits (Ke.norm s) = true ∧ Ke.check (Ke.norm s) = (Ke.norm s).getD 12 0) := fun e => ne_of_beq_false hg31 (by rw [e.1]; rfl)
    refine JA.tkS 4 3 39 true _ rfl fx30 rfl rfl (.inl (congrArg Value.bool hg31)) ?_
    refine JA.tkS 5 3 39 true _ rfl fx30 rfl rfl (.inl (congrArg Value.bool hg31)) ?_
    refine JA.tk 6 rfl fx30 (yl_pick0 rfl rfl hg31 rfl) ?_
    refine JA.tk 7 rfl fx30 (yl_move rfl rfl) ?_
    refine JA.tkS 8 7 43 true _ rfl fx30 rfl rfl (.inl (congrArg Value.bool rfl)) ?_
    refine JA.tkS 9 7 43 true _ rfl fx30 rfl rfl (.inl (congrArg Value.bool rfl)) ?_
    refine JA.tkS 10 7 43 true _ rfl fx30 rfl rfl (.inl (congrArg Value.bool rfl)) ?_
    refine JA.tkS 11 7 43 true _ rfl fx30 rfl rfl (.inl (congrArg Value.bool rfl)) ?_
    refine JA.tkS 12 7 43 true _ rfl fx30 rfl rfl (.inl (congrArg Value.bool rfl)) ?_
    refine JA.tk 13 rfl fx30 (yl_pick0 rfl rfl rfl rfl) ?_
    refine JA.tk 14 rfl fx30 (yl_assign rfl rfl) ?_
    refine JA.done (by kernel_rfl) ?_
    refine Ej.seq (Cj.cond rfl (fun hc37 => Bool.noConfusion (Eq.trans (Eq.symm rfl) hc37)) (fun hc37 => ?_))
    refine Cj.skip (Ej.blkNormal (Ej.seq (Cj.seq (Cj.region (J.z (yl_assign rfl rfl) ?_)))))
    refine J.z (yl_assign rfl rfl) ?_
    refine J.nil (Ej.seq (Cj.ret (Ej.keep (List.nil_sublist _) ?_)))
    refine Ej.ret2 rfl rfl rfl rfl ?_
    have he : Ke.isbn s = ([], false) := by unfold Ke.isbn Ke.isbnN; rw [if_neg hno, if_neg hno2]
    rw [he]
    exact ⟨rfl, rfl⟩
 ·
  have hc6p := of_decide_eq_false hc6
  have htw : s.takeWhile Ke.okb = s := hn.elim (fun h => h.2) (fun ⟨k, h, _⟩ => absurd (of_decide_eq_false hc6) (by rw [h]; simp))
  refine Cj.skip (Ej.seq (Cj.seq (Cj.region (J.op rfl (op_buildSlice rfl rfl rfl Tryz.underlying27 Tryz.sizeOf9 Tryz.zeroValue9 rfl rfl rfl rfl (LCat.one rfl (LCat.one rfl (LCat.one rfl (LCat.one rfl LCat.none)))) ?_)))))
  intro b38 hb38
  refine J.pull Pull.z ?_
  refine J.op rfl (op_call (H1 := [_]) rfl rfl rfl rfl rfl (NewReplacer_ok b38 _ _) ?_ (fun _ _ _ _ h => by obtain ⟨_, _, h, _⟩ := h; cases h) (fun _ _ h => by obtain ⟨_, _, h, _⟩ := h; cases h))
  intro v39 I40 H41 hle42 hp43
  obtain ⟨rb, osl, h, rfl, ho⟩ := hp43; cases h
  refine J.z (yl_move rfl rfl) ?_
  refine J.pull Pull.z ?_
  refine J.op rfl (op_call (H1 := [_]) rfl rfl rfl rfl rfl (Replace_ok rb osl s (by omega) _ ho) ?_ (fun _ _ _ _ h => by cases h.1) (fun _ _ h => by cases h.1))
  intro v44 I45 H46 hle47 hp48
  have ho := ho.mono hle47
  obtain ⟨h, rfl⟩ := hp48; cases h
  refine J.eqv 15 rfl (show _ = str (Ke.rep (s.takeWhile Ke.okb)) from (by rw [htw])) ?_
  refine J.op rfl (op_pure rfl rfl rfl rfl rfl (ToUpper_ok s (by omega) _) ?_)
  refine J.z (yl_assign rfl rfl) ?_
  refine J.nil (Ej.seq (Cj.seq (Cj.block (Cj.seq (Cj.region (J.z (yl_move rfl rfl) ?_))))))
  refine J.z (yl_lenStr rfl rfl Tryz.underlying9) ?_
  refine J.z (yl_eql rfl rfl rfl) ?_
  refine J.z (yl_move rfl rfl) ?_
  refine J.split 21 rfl (fun hg49 => ?_) (fun hg49 => ?_)
  ·
   have h10 : (Ke.norm s).length = 10 := by have h := eq_of_beq hg49; omega
   refine J.opG 3 21 true _ rfl rfl rfl hg49 (op_yld (yl_move rfl rfl) rfl rfl ?_)
   refine J.opG 3 21 true _ rfl rfl rfl hg49 (op_pure rfl rfl rfl rfl rfl (rightShort_ok (Ke.norm s) h10 hnc _) ?_)
   refine J.z (yl_pick1 rfl rfl hg49 rfl) ?_
   refine J.z (yl_assign rfl rfl) ?_
   refine J.nil (Ej.seq (Cj.cond rfl (fun hc50 => ?_) (fun hc50 => ?_)))
   ·
    have hrs : Ke.rightShort (Ke.norm s) = true := hc50
    have hd9 : Ke.digits ((Ke.norm s).take 9) = true := (Bool.and_eq_true_iff.1 hrs).2
    have hd12 := digits_12 (b := [48]) hd9 (by rw [List.length_take]; omega)
    refine Cj.seq (Cj.region (J.z (yl_move rfl rfl) ?_))
    refine J.z (yl_sliceStr (p := 0) (q := 9) rfl rfl Tryz.underlying9 rfl ⟨_, rfl⟩ (by omega) (by omega)) ?_
    refine J.eqv 26 rfl (show _ = str ((Ke.norm s).take 9) from (by rw [List.drop_zero])) ?_
    refine J.z (yl_cat rfl rfl rfl (by first | omega | (simp only [List.length_append]; omega) | (simp; omega))) ?_
    refine J.z (yl_assign rfl rfl) ?_
    refine J.nil (Ej.seq (Cj.seq (Cj.region (J.z (yl_move rfl rfl) ?_))))
    refine J.z (yl_move rfl rfl) ?_
    refine J.z (yl_cat rfl rfl rfl (by first | omega | (simp only [List.length_append]; omega) | (simp; omega))) ?_
    refine J.op rfl (op_pure rfl rfl rfl rfl rfl (check_ok _ (by simp; omega) (by simp; omega) hd12 _) ?_)
    refine J.eqv 31 rfl (show _ = u8 (Ke.check ([57, 55, 56] ++ (Ke.norm s).take 9)) from (by rw [check_app (by simp; omega)])) ?_
    refine J.op rfl (op_buildSlice rfl rfl rfl Tryz.underlying46 Tryz.sizeOf5 Tryz.zeroValue5 rfl rfl rfl rfl (LCat.one rfl LCat.none) ?_)
    intro b51 hb51
    refine J.z (yl_toStr [Ke.check ([57, 55, 56] ++ (Ke.norm s).take 9)] rfl rfl rfl Tryz.underlying46 Tryz.underlying9 Tryz.underlying5 (Blk.at 0 rfl) rfl) ?_
    refine J.z (yl_cat rfl rfl rfl (by first | omega | (simp only [List.length_append]; omega) | (simp; omega))) ?_
    refine J.z (yl_assign rfl rfl) ?_
    refine J.z (yl_assign rfl rfl) ?_
    refine J.nil (Ej.seq (Cj.ret (Ej.blkRet (Ej.seqRet (Ej.keep (List.nil_sublist _) ?_)))))
    refine Ej.ret2 rfl rfl rfl rfl ?_
    have he : Ke.isbn s = ([57, 55, 56] ++ (Ke.norm s).take 9 ++ [Ke.check ([57, 55, 56] ++ (Ke.norm s).take 9)], true) := by unfold Ke.isbn Ke.isbnN; rw [if_pos ⟨h10, hrs⟩]
    rw [he]
    exact ⟨rfl, rfl⟩
   ·
    have hno : ¬ ((Ke.norm s).length = 10 ∧ Ke.rightShort (Ke.norm s) = true) := fun e => Bool.noConfusion (e.2.symm.trans hc50)
    refine Cj.seq (Cj.drawSel [] [] 15 (by kernel_rfl) ?_)
    refine JA.fix ⟨HSub.n, CSub.n, (Le.refl _)⟩ (fun fx52 => ?_)
    refine JA.tk 0 rfl fx52 (yl_move rfl rfl) ?_
    refine JA.tk 1 rfl fx52 (yl_lenStr rfl rfl Tryz.underlying9) ?_
    refine JA.tk 2 rfl fx52 (yl_eql rfl rfl rfl) ?_
    refine JA.tk 3 rfl fx52 (yl_move rfl rfl) ?_
    refine JA.split 39 rfl (fun hg53 => ?_) (fun hg53 => ?_)
    ·
     have h13 : (Ke.norm s).length = 13 := by have h := eq_of_beq hg53; omega
     refine JA.tkG 4 3 39 true _ rfl fx52 rfl rfl hg53 (yl_move rfl rfl) ?_
     refine JA.stepG 5 3 39 true _ (by kernel_rfl) rfl rfl rfl rfl hg53 (op_pure rfl rfl rfl rfl rfl (isDigits_ok (Ke.norm s) (by omega) _) ?_)
     refine ⟨⟨(Le.refl _), HSub.n, CSub.n⟩, ?_⟩
     refine JA.fix ⟨HSub.n, CSub.n, (Le.refl _)⟩ (fun fx54 => ?_)
     refine JA.tk 6 rfl fx54 (yl_pick1 rfl rfl hg53 rfl) ?_
     refine JA.tk 7 rfl fx54 (yl_move rfl rfl) ?_
     refine JA.split 43 rfl (fun hg55 => ?_) (fun hg55 => ?_)
     ·
      have hdg : Ke.digits (Ke.norm s) = true := hg55
      have hd13 : Ke.digits ((Ke.norm s).take 12) = true := List.all_eq_true.2 fun c hc => List.all_eq_true.1 hdg c (List.mem_of_mem_take hc)
      obtain ⟨c, hg12⟩ : ∃ c, (Ke.norm s)[12]? = some c := ⟨_, List.getElem?_eq_getElem (by omega)⟩
      have hgd : (Ke.norm s).getD 12 0 = c := by rw [List.getD, hg12]; rfl
      refine JA.tkG 8 7 43 true _ rfl fx54 rfl rfl hg55 (yl_move rfl rfl) ?_
      refine JA.tkG 10 7 43 true _ rfl fx54 rfl rfl hg55 (yl_move rfl rfl) ?_
      refine JA.tkG 11 7 43 true _ rfl fx54 rfl rfl hg55 (yl_index rfl rfl rfl Tryz.underlying9 (by omega) hg12) ?_
      refine JA.stepG 9 7 43 true _ (by kernel_rfl) rfl rfl rfl rfl hg55 (op_pure rfl rfl rfl rfl rfl (check_ok (Ke.norm s) (by omega) (by omega) hd13 _) ?_)
      refine ⟨⟨(Le.refl _), HSub.n, CSub.n⟩, ?_⟩
      refine JA.fix ⟨HSub.n, CSub.n, (Le.refl _)⟩ (fun fx56 => ?_)
      refine JA.tkG 12 7 43 true _ rfl fx56 rfl rfl hg55 (yl_eql rfl rfl rfl) ?_
      refine JA.tk 13 rfl fx56 (yl_pick1 rfl rfl hg55 rfl) ?_
      refine JA.tk 14 rfl fx56 (yl_assign rfl rfl) ?_
      refine JA.done (by kernel_rfl) ?_
      refine Ej.seq (Cj.cond rfl (fun hc57 => ?_) (fun hc57 => ?_))
      ·
       have hc57p := eq_of_beq hc57
       have hck : Ke.check (Ke.norm s) = (Ke.norm s).getD 12 0 := by have h := eq_of_beq hc57; rw [hgd]; exact UInt8.toNat_inj.1 (by omega)
       refine Cj.seq (Cj.region (J.z (yl_move rfl rfl) ?_))
       refine J.z (yl_assign rfl rfl) ?_
       refine J.z (yl_assign rfl rfl) ?_
       refine J.nil (Ej.seq (Cj.ret (Ej.blkRet (Ej.seqRet (Ej.keep (List.nil_sublist _) ?_)))))
       refine Ej.ret2 rfl rfl rfl rfl ?_
       have he : Ke.isbn s = (Ke.norm s, true) := by unfold Ke.isbn Ke.isbnN; rw [if_neg hno, if_pos ⟨h13, hdg, hck⟩]
       rw [he]
       exact ⟨rfl, rfl⟩
      ·
       have hc57p := ne_of_beq_false hc57
       have hno2 : ¬ ((Ke.norm s).length = 13 ∧ Ke.digits (Ke.norm s) = true ∧ Ke.check (Ke.norm s) = (Ke.norm s).getD 12 0) := fun e => ne_of_beq_false hc57 (by rw [e.2.2, hgd])
       refine Cj.skip (Ej.blkNormal (Ej.seq (Cj.seq (Cj.region (J.z (yl_assign rfl rfl) ?_)))))
       refine J.z (yl_assign rfl rfl) ?_
       refine J.nil (Ej.seq (Cj.ret (Ej.keep (List.nil_sublist _) ?_)))
       refine Ej.ret2 rfl rfl rfl rfl ?_
       have he : Ke.isbn s = ([], false) := by unfold Ke.isbn Ke.isbnN; rw [if_neg hno, if_neg hno2]
       rw [he]
       exact ⟨rfl, rfl⟩
     ·
      have hno2 : ¬ ((Ke.norm s).length = 13 ∧ Ke.digits (Ke.norm s) = true ∧ Ke.check (Ke.norm s) = (Ke.norm s).getD 12 0) := fun e => Bool.noConfusion (e.2.1.symm.trans hg55)
      refine JA.tkS 8 7 43 true _ rfl fx54 rfl rfl (.inl (congrArg Value.bool hg55)) ?_
      refine JA.tkS 9 7 43 true _ rfl fx54 rfl rfl (.inl (congrArg Value.bool hg55)) ?_
      refine JA.tkS 10 7 43 true _ rfl fx54 rfl rfl (.inl (congrArg Value.bool hg55)) ?_
      refine JA.tkS 11 7 43 true _ rfl fx54 rfl rfl (.inl (congrArg Value.bool hg55)) ?_
      refine JA.tkS 12 7 43 true _ rfl fx54 rfl rfl (.inl (congrArg Value.bool hg55)) ?_
      refine JA.tk 13 rfl fx54 (yl_pick0 rfl rfl hg55 rfl) ?_
      refine JA.tk 14 rfl fx54 (yl_assign rfl rfl) ?_
      refine JA.done (by kernel_rfl) ?_
      refine Ej.seq (Cj.cond rfl (fun hc58 => Bool.noConfusion (Eq.trans (Eq.symm rfl) hc58)) (fun hc58 => ?_))
      refine Cj.skip (Ej.blkNormal (Ej.seq (Cj.seq (Cj.region (J.z (yl_assign rfl rfl) ?_)))))
      refine J.z (yl_assign rfl rfl) ?_
      refine J.nil (Ej.seq (Cj.ret (Ej.keep (List.nil_sublist _) ?_)))
      refine Ej.ret2 rfl rfl rfl rfl ?_
      have he : Ke.isbn s = ([], false) := by unfold Ke.isbn Ke.isbnN; rw [if_neg hno, if_neg hno2]
      rw [he]
      exact ⟨rfl, rfl⟩
    ·
     have hno2 : ¬ ((Ke.norm s).length = 13 ∧ Ke.digits (Ke.norm s) = true ∧ Ke.check (Ke.norm s) = (Ke.norm s).getD 12 0) := fun e => ne_of_beq_false hg53 (by rw [e.1]; rfl)
     refine JA.tkS 4 3 39 true _ rfl fx52 rfl rfl (.inl (congrArg Value.bool hg53)) ?_
     refine JA.tkS 5 3 39 true _ rfl fx52 rfl rfl (.inl (congrArg Value.bool hg53)) ?_
     refine JA.tk 6 rfl fx52 (yl_pick0 rfl rfl hg53 rfl) ?_
     refine JA.tk 7 rfl fx52 (yl_move rfl rfl) ?_
     refine JA.tkS 8 7 43 true _ rfl fx52 rfl rfl (.inl (congrArg Value.bool rfl)) ?_
     refine JA.tkS 9 7 43 true _ rfl fx52 rfl rfl (.inl (congrArg Value.bool rfl)) ?_
     refine JA.tkS 10 7 43 true _ rfl fx52 rfl rfl (.inl (congrArg Value.bool rfl)) ?_
     refine JA.tkS 11 7 43 true _ rfl fx52 rfl rfl (.inl (congrArg Value.bool rfl)) ?_
     refine JA.tkS 12 7 43 true _ rfl fx52 rfl rfl (.inl (congrArg Value.bool rfl)) ?_
     refine JA.tk 13 rfl fx52 (yl_pick0 rfl rfl rfl rfl) ?_
     refine JA.tk 14 rfl fx52 (yl_assign rfl rfl) ?_
     refine JA.done (by kernel_rfl) ?_
     refine Ej.seq (Cj.cond rfl (fun hc59 => Bool.noConfusion (Eq.trans (Eq.symm rfl) hc59)) (fun hc59 => ?_))
     refine Cj.skip (Ej.blkNormal (Ej.seq (Cj.seq (Cj.region (J.z (yl_assign rfl rfl) ?_)))))
     refine J.z (yl_assign rfl rfl) ?_
     refine J.nil (Ej.seq (Cj.ret (Ej.keep (List.nil_sublist _) ?_)))
     refine Ej.ret2 rfl rfl rfl rfl ?_
     have he : Ke.isbn s = ([], false) := by unfold Ke.isbn Ke.isbnN; rw [if_neg hno, if_neg hno2]
     rw [he]
     exact ⟨rfl, rfl⟩
  ·
   have hno : ¬ ((Ke.norm s).length = 10 ∧ Ke.rightShort (Ke.norm s) = true) := fun e => ne_of_beq_false hg49 (by rw [e.1]; rfl)
   refine J.skip 3 21 22 true _ rfl rfl rfl hg49 rfl rfl ?_
   refine J.skip 3 21 23 true _ rfl rfl rfl hg49 rfl rfl ?_
   refine J.z (yl_pick0 rfl rfl hg49 rfl) ?_
   refine J.z (yl_assign rfl rfl) ?_
   refine J.nil (Ej.seq (Cj.cond rfl (fun hc60 => Bool.noConfusion (Eq.trans (Eq.symm rfl) hc60)) (fun hc60 => ?_)))
   refine Cj.seq (Cj.drawSel [] [] 15 (by kernel_rfl) ?_)
   refine JA.fix ⟨HSub.n, CSub.n, (Le.refl _)⟩ (fun fx61 => ?_)
   refine JA.tk 0 rfl fx61 (yl_move rfl rfl) ?_
   refine JA.tk 1 rfl fx61 (yl_lenStr rfl rfl Tryz.underlying9) ?_
   refine JA.tk 2 rfl fx61 (yl_eql rfl rfl rfl) ?_
   refine JA.tk 3 rfl fx61 (yl_move rfl rfl) ?_
   refine JA.split 39 rfl (fun hg62 => ?_) (fun hg62 => ?_)
   ·
    have h13 : (Ke.norm s).length = 13 := by have h := eq_of_beq hg62; omega
    refine JA.tkG 4 3 39 true _ rfl fx61 rfl rfl hg62 (yl_move rfl rfl) ?_
    refine JA.stepG 5 3 39 true _ (by kernel_rfl) rfl rfl rfl rfl hg62 (op_pure rfl rfl rfl rfl rfl (isDigits_ok (Ke.norm s) (by omega) _) ?_)
    refine ⟨⟨(Le.refl _), HSub.n, CSub.n⟩, ?_⟩
    refine JA.fix ⟨HSub.n, CSub.n, (Le.refl _)⟩ (fun fx63 => ?_)
    refine JA.tk 6 rfl fx63 (yl_pick1 rfl rfl hg62 rfl) ?_
    refine JA.tk 7 rfl fx63 (yl_move rfl rfl) ?_
    refine JA.split 43 rfl (fun hg64 => ?_) (fun hg64 => ?_)
    ·
     have hdg : Ke.digits (Ke.norm s) = true := hg64
     have hd13 : Ke.digits ((Ke.norm s).take 12) = true := List.all_eq_true.2 fun c hc => List.all_eq_true.1 hdg c (List.mem_of_mem_take hc)
     obtain ⟨c, hg12⟩ : ∃ c, (Ke.norm s)[12]? = some c := ⟨_, List.getElem?_eq_getElem (by omega)⟩
     have hgd : (Ke.norm s).getD 12 0 = c := by rw [List.getD, hg12]; rfl
     refine JA.tkG 8 7 43 true _ rfl fx63 rfl rfl hg64 (yl_move rfl rfl) ?_
     refine JA.tkG 10 7 43 true _ rfl fx63 rfl rfl hg64 (yl_move rfl rfl) ?_
     refine JA.tkG 11 7 43 true _ rfl fx63 rfl rfl hg64 (yl_index rfl rfl rfl Tryz.underlying9 (by omega) hg12) ?_
     refine JA.stepG 9 7 43 true _ (by kernel_rfl) rfl rfl rfl rfl hg64 (op_pure rfl rfl rfl rfl rfl (check_ok (Ke.norm s) (by omega) (by omega) hd13 _) ?_)
     refine ⟨⟨(Le.refl _), HSub.n, CSub.n⟩, ?_⟩
     refine JA.fix ⟨HSub.n, CSub.n, (Le.refl _)⟩ (fun fx65 => ?_)
     refine JA.tkG 12 7 43 true _ rfl fx65 rfl rfl hg64 (yl_eql rfl rfl rfl) ?_
     refine JA.tk 13 rfl fx65 (yl_pick1 rfl rfl hg64 rfl) ?_
     refine JA.tk 14 rfl fx65 (yl_assign rfl rfl) ?_
     refine JA.done (by kernel_rfl) ?_
     refine Ej.seq (Cj.cond rfl (fun hc66 => ?_) (fun hc66 => ?_))
     ·
      have hc66p := eq_of_beq hc66
      have hck : Ke.check (Ke.norm s) = (Ke.norm s).getD 12 0 := by have h := eq_of_beq hc66; rw [hgd]; exact UInt8.toNat_inj.1 (by omega)
      refine Cj.seq (Cj.region (J.z (yl_move rfl rfl) ?_))
      refine J.z (yl_assign rfl rfl) ?_
      refine J.z (yl_assign rfl rfl) ?_
      refine J.nil (Ej.seq (Cj.ret (Ej.blkRet (Ej.seqRet (Ej.keep (List.nil_sublist _) ?_)))))
      refine Ej.ret2 rfl rfl rfl rfl ?_
      have he : Ke.isbn s = (Ke.norm s, true) := by unfold Ke.isbn Ke.isbnN; rw [if_neg hno, if_pos ⟨h13, hdg, hck⟩]
      rw [he]
      exact ⟨rfl, rfl⟩
     ·
      have hc66p := ne_of_beq_false hc66
      have hno2 : ¬ ((Ke.norm s).length = 13 ∧ Ke.digits (Ke.norm s) = true ∧ Ke.check (Ke.norm s) = (Ke.norm s).getD 12 0) := fun e => ne_of_beq_false hc66 (by rw [e.2.2, hgd])
      refine Cj.skip (Ej.blkNormal (Ej.seq (Cj.seq (Cj.region (J.z (yl_assign rfl rfl) ?_)))))
      refine J.z (yl_assign rfl rfl) ?_
      refine J.nil (Ej.seq (Cj.ret (Ej.keep (List.nil_sublist _) ?_)))
      refine Ej.ret2 rfl rfl rfl rfl ?_
      have he : Ke.isbn s = ([], false) := by unfold Ke.isbn Ke.isbnN; rw [if_neg hno, if_neg hno2]
      rw [he]
      exact ⟨rfl, rfl⟩
    ·
     have hno2 : ¬ ((Ke.norm s).length = 13 ∧ Ke.digits (Ke.norm s) = true ∧ Ke.check (Ke.norm s) = (Ke.norm s).getD 12 0) := fun e => Bool.noConfusion (e.2.1.symm.trans hg64)
     refine JA.tkS 8 7 43 true _ rfl fx63 rfl rfl (.inl (congrArg Value.bool hg64)) ?_
     refine JA.tkS 9 7 43 true _ rfl fx63 rfl rfl (.inl (congrArg Value.bool hg64)) ?_
     refine JA.tkS 10 7 43 true _ rfl fx63 rfl rfl (.inl (congrArg Value.bool hg64)) ?_
     refine JA.tkS 11 7 43 true _ rfl fx63 rfl rfl (.inl (congrArg Value.bool hg64)) ?_
     refine JA.tkS 12 7 43 true _ rfl fx63 rfl rfl (.inl (congrArg Value.bool hg64)) ?_
     refine JA.tk 13 rfl fx63 (yl_pick0 rfl rfl hg64 rfl) ?_
     refine JA.tk 14 rfl fx63 (yl_assign rfl rfl) ?_
     refine JA.done (by kernel_rfl) ?_
     refine Ej.seq (Cj.cond rfl (fun hc67 => Bool.noConfusion (Eq.trans (Eq.symm rfl) hc67)) (fun hc67 => ?_))
     refine Cj.skip (Ej.blkNormal (Ej.seq (Cj.seq (Cj.region (J.z (yl_assign rfl rfl) ?_)))))
     refine J.z (yl_assign rfl rfl) ?_
     refine J.nil (Ej.seq (Cj.ret (Ej.keep (List.nil_sublist _) ?_)))
     refine Ej.ret2 rfl rfl rfl rfl ?_
     have he : Ke.isbn s = ([], false) := by unfold Ke.isbn Ke.isbnN; rw [if_neg hno, if_neg hno2]
     rw [he]
     exact ⟨rfl, rfl⟩
   ·
    have hno2 : ¬ ((Ke.norm s).length = 13 ∧ Ke.digits (Ke.norm s) = true ∧ Ke.check (Ke.norm s) = (Ke.norm s).getD 12 0) := fun e => ne_of_beq_false hg62 (by rw [e.1]; rfl)
    refine JA.tkS 4 3 39 true _ rfl fx61 rfl rfl (.inl (congrArg Value.bool hg62)) ?_
    refine JA.tkS 5 3 39 true _ rfl fx61 rfl rfl (.inl (congrArg Value.bool hg62)) ?_
    refine JA.tk 6 rfl fx61 (yl_pick0 rfl rfl hg62 rfl) ?_
    refine JA.tk 7 rfl fx61 (yl_move rfl rfl) ?_
    refine JA.tkS 8 7 43 true _ rfl fx61 rfl rfl (.inl (congrArg Value.bool rfl)) ?_
    refine JA.tkS 9 7 43 true _ rfl fx61 rfl rfl (.inl (congrArg Value.bool rfl)) ?_
    refine JA.tkS 10 7 43 true _ rfl fx61 rfl rfl (.inl (congrArg Value.bool rfl)) ?_
    refine JA.tkS 11 7 43 true _ rfl fx61 rfl rfl (.inl (congrArg Value.bool rfl)) ?_
    refine JA.tkS 12 7 43 true _ rfl fx61 rfl rfl (.inl (congrArg Value.bool rfl)) ?_
    refine JA.tk 13 rfl fx61 (yl_pick0 rfl rfl rfl rfl) ?_
    refine JA.tk 14 rfl fx61 (yl_assign rfl rfl) ?_
    refine JA.done (by kernel_rfl) ?_
    refine Ej.seq (Cj.cond rfl (fun hc68 => Bool.noConfusion (Eq.trans (Eq.symm rfl) hc68)) (fun hc68 => ?_))
    refine Cj.skip (Ej.blkNormal (Ej.seq (Cj.seq (Cj.region (J.z (yl_assign rfl rfl) ?_)))))
    refine J.z (yl_assign rfl rfl) ?_
    refine J.nil (Ej.seq (Cj.ret (Ej.keep (List.nil_sublist _) ?_)))
    refine Ej.ret2 rfl rfl rfl rfl ?_
    have he : Ke.isbn s = ([], false) := by unfold Ke.isbn Ke.isbnN; rw [if_neg hno, if_neg hno2]
    rw [he]
    exact ⟨rfl, rfl⟩

end Go.Proofs.YtnogdccoekfnoaaGreatDoor
