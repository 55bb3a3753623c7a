/-
  Own texts on the laws of match, joined: the logic, and contracts of functions. Conditions: none.
-/
import Derived.Test.YtadnofaleepkmaaGreatDoorPA4
import Derived.Test.YtadnofaleepkmaaGreatDoorPA5
import Derived.Test.YtadnofaleepkmaaGreatDoorPA2
import Derived.Sort.Grow
import Derived.Sort.EncStr
import Derived.Lib.SlicesCompact
section
namespace Go.Proofs.YtadnofaleepkmaaGreatDoor
open Go Go.Sx
theorem bcs_at {l : List UInt8} {sp : List Value} {k : Nat} {c : UInt8} (h : l[k]? = some c) : (bcs l ++ sp)[k]? = some (u8 c) := by
  obtain ⟨hlt, _⟩ := List.getElem?_eq_some_iff.1 h
  rw [List.getElem?_append_left (by rw [bcs_len]; exact hlt), bcs, List.getElem?_map, h]; rfl
theorem w8 {x : Int} (h : 0 ≤ x ∧ x ≤ 255) : IntKind.u8.wrap x = x := by
  simp [IntKind.wrap, IntKind.bits, IntKind.signed]; omega
theorem csum_le : ∀ (l : List UInt8) (k : Nat), Ke.csum k l ≤ 1000 * l.length
  | [], _ => by simp [Ke.csum]
  | c :: r, k => by
    have h1 := csum_le r (k + 1)
    have h2 := c.toNat_lt
    have h3 : (c.toNat - 48) * (1 + 2 * (k % 2)) ≤ 255 * 3 := Nat.mul_le_mul (by omega) (by omega)
    simp only [Ke.csum, List.length_cons]; omega
theorem csum_next {l : List UInt8} {k : Nat} {c : UInt8} (h : l[k]? = some c) : Ke.csum 0 (l.take (k + 1)) = Ke.csum 0 (l.take k) + (c.toNat - 48) * (1 + 2 * (k % 2)) := by
  obtain ⟨hlt, hg⟩ := List.getElem?_eq_some_iff.1 h
  rw [List.take_succ_eq_append_getElem hlt, hg, Ke.csum_app, Ke.csum, Ke.csum, List.length_take, Nat.min_eq_left (by omega), Nat.zero_add, Nat.add_zero]
theorem val_le (c : UInt8) : Ke.val c ≤ 255 := by
  have h2 := c.toNat_lt
  unfold Ke.val; split <;> omega
theorem rsum_le : ∀ (l : List UInt8) (k : Nat), Ke.rsum k l ≤ 2550 * l.length
  | [], _ => by simp [Ke.rsum]
  | c :: r, k => by
    have h1 := rsum_le r (k + 1)
    have h3 : (10 - k) * Ke.val c ≤ 10 * 255 := Nat.mul_le_mul (by omega) (val_le c)
    simp only [Ke.rsum, List.length_cons]; omega
theorem rsum_next {l : List UInt8} {k : Nat} {c : UInt8} (h : l[k]? = some c) : Ke.rsum 0 (l.take (k + 1)) = Ke.rsum 0 (l.take k) + (10 - k) * Ke.val c := by
  obtain ⟨hlt, hg⟩ := List.getElem?_eq_some_iff.1 h
  rw [List.take_succ_eq_append_getElem hlt, hg, Ke.rsum_app, Ke.rsum, Ke.rsum, List.length_take, Nat.min_eq_left (by omega), Nat.zero_add, Nat.add_zero]
theorem digits_at {l : List UInt8} {k : Nat} {c : UInt8} (hd : Ke.digits l = true) (h : l[k]? = some c) : 48 ≤ c.toNat ∧ c.toNat ≤ 57 := Ke.digit_iff.1 (List.all_eq_true.1 hd c (List.mem_of_getElem? h))
set_option maxRecDepth 20000 in
theorem check_ok (s : List UInt8) (h12 : 12 ≤ s.length) (hs : s.length ≤ 1000000) (hd : Ke.digits (s.take 12) = true) (I : Heap) : Pure Tryz.prog 74 [str s] I (u8 (Ke.check s)) := by
 refine Ctr.toPure ?_
 have hul : (s.take 12).length = 12 := by rw [List.length_take]; omega
 refine Ctr.of_body Tryz.func74 rfl (by decide) (Nat.le_of_ble_eq_true rfl) ?_
 intro w0 hw0
 refine Cj.seq (Cj.region (J.z (yl_assign rfl rfl) ?_))
 refine J.nil (Ej.seq (Cj.seq (Cj.region (J.z (yl_assign rfl rfl) ?_))))
 refine J.nil (Ej.seq (Cj.seq (Cj.seq (Cj.region (J.z (yl_move rfl rfl) ?_)))))
 refine J.z (yl_sliceStr (p := 0) (q := 12) rfl rfl Tryz.underlying9 rfl ⟨_, rfl⟩ (by omega) (by omega)) ?_
 refine J.eqv 7 rfl (show _ = str (s.take 12) from (by rw [List.drop_zero])) ?_
 refine J.op rfl (op_toBytes rfl rfl rfl rfl Tryz.underlying9 Tryz.underlying86 Tryz.underlying5 ?_)
 intro b1 c2 sp3 fr4 hb1 hfr4
 refine J.z (yl_lenSlice rfl rfl Tryz.underlying86) ?_
 refine J.z (yl_move rfl rfl) ?_
 refine J.nil (Ej.seq (Cj.block (Cj.loop (ι := Nat) (fun j => j ≤ (s.take 12).length) (fun j => (s.take 12).length - j) (fun j => [(0, str s), (3, i64 ((Ke.csum 0 ((s.take 12).take j) : Nat) : Int)), (8, .slice (some ⟨b1, 0, none⟩) (s.take 12).length c2), (9, i64 ((s.take 12).length : Int)), (10, i64 (j : Int))]) (fun j => I) (fun j => [(b1, .cells (bcs (s.take 12) ++ sp3).toArray 5 (fr4, fr4 + 1))]) 0 (Nat.zero_le _) ⟨rfl, rfl, rfl, rfl, rfl, trivial⟩ rfl rfl ?_)))
 intro j hj
 have hsl := csum_le ((s.take 12).take j) 0
 rw [List.length_take, Nat.min_eq_left hj] at hsl
 refine Cj.seq (Cj.region (J.z (yl_lss rfl rfl rfl) ?_))
 refine J.nil (Ej.seq (Cj.seq (Cj.cond rfl (fun hc5 => ?_) (fun hc5 => ?_))))
 ·
  have hc5p := of_decide_eq_true hc5
  have hlt : j < (s.take 12).length := by omega
  obtain ⟨c, hget⟩ : ∃ c, (s.take 12)[j]? = some c := ⟨_, List.getElem?_eq_getElem hlt⟩
  have hc := digits_at hd hget
  have hm : (c.toNat - 48) * (1 + 2 * (j % 2)) ≤ 9 * 3 := Nat.mul_le_mul (by omega) (by omega)
  refine Cj.skip (Ej.seq (Cj.seq (Cj.block (Cj.seq (Cj.region (J.z (yl_move rfl rfl) ?_))))))
  refine J.z (yl_indexAddr (off' := j) rfl rfl rfl Tryz.underlying86 Tryz.sizeOf5 (by omega) (by omega) (by simp)) ?_
  refine J.z (yl_load rfl rfl Tryz.isAgg5 (Blk.at 0 rfl) (bcs_at hget)) ?_
  refine J.z (yl_assign rfl rfl) ?_
  refine J.z (yl_assign rfl rfl) ?_
  refine J.nil (Ej.seq (Cj.region (J.z (yl_move rfl rfl) ?_)))
  refine J.z (yl_move rfl rfl) ?_
  refine J.z (yl_sub rfl rfl rfl (w8 (by omega))) ?_
  refine J.z (yl_convInt rfl rfl Tryz.underlying5 Tryz.underlying3) ?_
  refine J.eqv 18 rfl (show _ = i64 ((c.toNat - 48 : Nat) : Int) from (congrArg i64 ((w64 (by omega)).trans (by omega)))) ?_
  refine J.z (yl_move rfl rfl) ?_
  refine J.z (yl_rem rfl rfl rfl (by decide)) ?_
  refine J.eqv 20 rfl (show _ = i64 ((j % 2 : Nat) : Int) from rfl) ?_
  refine J.z (yl_mul rfl rfl rfl (w64 (by omega))) ?_
  refine J.z (yl_add rfl rfl rfl (w64 (by omega))) ?_
  refine J.eqv 22 rfl (show _ = i64 ((1 + 2 * (j % 2) : Nat) : Int) from (congrArg i64 (by omega))) ?_
  refine J.z (yl_mul rfl rfl rfl (w64 (by rw [← Int.natCast_mul]; omega))) ?_
  refine J.eqv 23 rfl (show _ = i64 (((c.toNat - 48) * (1 + 2 * (j % 2)) : Nat) : Int) from (congrArg i64 (Int.natCast_mul _ _).symm)) ?_
  refine J.z (yl_add rfl rfl rfl (w64 (by omega))) ?_
  refine J.z (yl_assign rfl rfl) ?_
  refine J.nil (Ej.blkNormal (Ej.seq (Cj.region (J.z (yl_add rfl rfl rfl (w64 (by omega))) ?_))))
  refine J.z (yl_move rfl rfl) ?_
  refine J.nil (Ej.round (j + 1) (by omega) (by omega) ⟨rfl, by rw [csum_next hget]; exact congrArg (fun z => some (Value.int .i64 z)) (by omega), rfl, rfl, rfl, trivial⟩ rfl rfl)
 ·
  have hc5p := of_decide_eq_false hc5
  have hfull : (s.take 12).take j = s.take 12 := List.take_of_length_le (by omega)
  refine Cj.exit (Ej.seqExit (Ej.loopExit (Ej.blkExit (Ej.seq (Cj.seq (Cj.region (J.z (yl_move rfl rfl) ?_)))))))
  refine J.z (yl_rem rfl rfl rfl (by decide)) ?_
  refine J.eqv 27 rfl (show _ = i64 ((Ke.csum 0 (s.take 12) % 10 : Nat) : Int) from (by rw [hfull]; rfl)) ?_
  refine J.z (yl_sub rfl rfl rfl (w64 (by omega))) ?_
  refine J.eqv 28 rfl (show _ = i64 ((10 - Ke.csum 0 (s.take 12) % 10 : Nat) : Int) from (congrArg i64 (by omega))) ?_
  refine J.z (yl_rem rfl rfl rfl (by decide)) ?_
  refine J.eqv 29 rfl (show _ = i64 (((10 - Ke.csum 0 (s.take 12) % 10) % 10 : Nat) : Int) from rfl) ?_
  refine J.z (yl_add rfl rfl rfl (w64 (by omega))) ?_
  refine J.eqv 30 rfl (show _ = i64 ((48 + (10 - Ke.csum 0 (s.take 12) % 10) % 10 : Nat) : Int) from (congrArg i64 (by omega))) ?_
  refine J.z (yl_convInt rfl rfl Tryz.underlying3 Tryz.underlying5) ?_
  refine J.eqv 31 rfl (show _ = u8 (Ke.check s) from (congrArg (Value.int .u8) (conv8 (by omega)))) ?_
  refine J.z (yl_assign rfl rfl) ?_
  refine J.nil (Ej.seq (Cj.ret (Ej.keep (List.nil_sublist _) ?_)))
  refine Ej.ret1 rfl rfl rfl ?_
  exact ⟨rfl, rfl⟩
set_option maxRecDepth 20000 in
theorem rightShort_ok (s : List UInt8) (h10 : s.length = 10) (hx : ∀ c ∈ s, Ke.digit c = true ∨ c = 88) (I : Heap) : Pure Tryz.prog 73 [str s] I (.bool (Ke.rightShort s)) := by
 refine Ctr.toPure ?_
 refine Ctr.of_body Tryz.func73 rfl (by decide) (Nat.le_of_ble_eq_true rfl) ?_
 intro w0 hw0
 refine Cj.seq (Cj.region (J.z (yl_assign rfl rfl) ?_))
 refine J.nil (Ej.seq (Cj.seq (Cj.region (J.z (yl_assign rfl rfl) ?_))))
 refine J.nil (Ej.seq (Cj.seq (Cj.seq (Cj.region (J.z (yl_move rfl rfl) ?_)))))
 refine J.op rfl (op_toBytes rfl rfl rfl rfl Tryz.underlying9 Tryz.underlying86 Tryz.underlying5 ?_)
 intro b1 c2 sp3 fr4 hb1 hfr4
 refine J.z (yl_lenSlice rfl rfl Tryz.underlying86) ?_
 refine J.z (yl_move rfl rfl) ?_
 refine J.nil (Ej.seq (Cj.block (Cj.loop (ι := Nat) (fun j => j ≤ s.length) (fun j => s.length - j) (fun j => [(0, str s), (3, i64 ((Ke.rsum 0 (s.take j) : Nat) : Int)), (8, .slice (some ⟨b1, 0, none⟩) s.length c2), (9, i64 (s.length : Int)), (10, i64 (j : Int))]) (fun j => I) (fun j => [(b1, .cells (bcs s ++ sp3).toArray 5 (fr4, fr4 + 1))]) 0 (Nat.zero_le _) ⟨rfl, rfl, rfl, rfl, rfl, trivial⟩ rfl rfl ?_)))
 intro j hj
 have hsl := rsum_le (s.take j) 0
 rw [List.length_take, Nat.min_eq_left hj] at hsl
 refine Cj.seq (Cj.region (J.z (yl_lss rfl rfl rfl) ?_))
 refine J.nil (Ej.seq (Cj.seq (Cj.cond rfl (fun hc5 => ?_) (fun hc5 => ?_))))
 ·
  have hc5p := of_decide_eq_true hc5
  have hlt : j < s.length := by omega
  obtain ⟨c, hget⟩ : ∃ c, s[j]? = some c := ⟨_, List.getElem?_eq_getElem hlt⟩
  have hc : 48 ≤ c.toNat := (hx c (List.mem_of_getElem? hget)).elim (fun h => (Ke.digit_iff.1 h).1) (fun h => by subst h; decide)
  have hc2 := c.toNat_lt
  have hm : (10 - j) * Ke.val c ≤ 10 * 255 := Nat.mul_le_mul (by omega) (val_le c)
  refine Cj.skip (Ej.seq (Cj.seq (Cj.block (Cj.seq (Cj.region (J.z (yl_move rfl rfl) ?_))))))
  refine J.z (yl_indexAddr (off' := j) rfl rfl rfl Tryz.underlying86 Tryz.sizeOf5 (by omega) (by omega) (by simp)) ?_
  refine J.z (yl_load rfl rfl Tryz.isAgg5 (Blk.at 0 rfl) (bcs_at hget)) ?_
  refine J.z (yl_assign rfl rfl) ?_
  refine J.z (yl_assign rfl rfl) ?_
  refine J.nil (Ej.seq (Cj.seq (Cj.region (J.z (yl_move rfl rfl) ?_))))
  refine J.z (yl_sub rfl rfl rfl (w8 (by omega))) ?_
  refine J.z (yl_convInt rfl rfl Tryz.underlying5 Tryz.underlying3) ?_
  refine J.eqv 17 rfl (show _ = i64 ((c.toNat - 48 : Nat) : Int) from (congrArg i64 ((w64 (by omega)).trans (by omega)))) ?_
  refine J.z (yl_assign rfl rfl) ?_
  refine J.nil (Ej.seq (Cj.seq (Cj.seq (Cj.region (J.z (yl_move rfl rfl) ?_)))))
  refine J.z (yl_eql rfl rfl rfl) ?_
  refine J.nil (Ej.seq (Cj.cond rfl (fun hc6 => ?_) (fun hc6 => ?_)))
  ·
   have hc6p := eq_of_beq hc6
   have hcv : Ke.val c = 10 := by
     have h : (c.toNat : Int) = 88 := eq_of_beq hc6
     unfold Ke.val; rw [if_pos (UInt8.toNat_inj.1 (by rw [show (88 : UInt8).toNat = 88 from rfl]; omega))]
   refine Cj.region (J.z (yl_assign rfl rfl) ?_)
   refine J.nil (Ej.seq (Cj.region (J.z (yl_move rfl rfl) ?_)))
   refine J.z (yl_move rfl rfl) ?_
   refine J.z (yl_sub rfl rfl rfl (w64 (by omega))) ?_
   refine J.eqv 22 rfl (show _ = i64 ((10 - j : Nat) : Int) from (congrArg i64 (by omega))) ?_
   refine J.z (yl_move rfl rfl) ?_
   refine J.eqv 23 rfl (show _ = i64 ((Ke.val c : Nat) : Int) from (congrArg i64 (by omega))) ?_
   refine J.z (yl_mul rfl rfl rfl (w64 (by rw [← Int.natCast_mul]; omega))) ?_
   refine J.eqv 24 rfl (show _ = i64 (((10 - j) * Ke.val c : Nat) : Int) from (congrArg i64 (Int.natCast_mul _ _).symm)) ?_
   refine J.z (yl_add rfl rfl rfl (w64 (by omega))) ?_
   refine J.z (yl_assign rfl rfl) ?_
   refine J.nil (Ej.blkNormal (Ej.seq (Cj.region (J.z (yl_add rfl rfl rfl (w64 (by omega))) ?_))))
   refine J.z (yl_move rfl rfl) ?_
   refine J.nil (Ej.round (j + 1) (by omega) (by omega) ⟨rfl, by rw [rsum_next hget]; exact congrArg (fun z => some (Value.int .i64 z)) (by omega), rfl, rfl, rfl, trivial⟩ rfl rfl)
  ·
   have hc6p := ne_of_beq_false hc6
   have hcv : Ke.val c = c.toNat - 48 := by
     have h : ¬ (c.toNat : Int) = 88 := ne_of_beq_false hc6
     unfold Ke.val; rw [if_neg (fun e => h (by subst e; rfl))]
   refine Cj.skip (Ej.seq (Cj.region (J.z (yl_move rfl rfl) ?_)))
   refine J.z (yl_move rfl rfl) ?_
   refine J.z (yl_sub rfl rfl rfl (w64 (by omega))) ?_
   refine J.eqv 22 rfl (show _ = i64 ((10 - j : Nat) : Int) from (congrArg i64 (by omega))) ?_
   refine J.z (yl_move rfl rfl) ?_
   refine J.eqv 23 rfl (show _ = i64 ((Ke.val c : Nat) : Int) from (congrArg i64 (by omega))) ?_
   refine J.z (yl_mul rfl rfl rfl (w64 (by rw [← Int.natCast_mul]; omega))) ?_
   refine J.eqv 24 rfl (show _ = i64 (((10 - j) * Ke.val c : Nat) : Int) from (congrArg i64 (Int.natCast_mul _ _).symm)) ?_
   refine J.z (yl_add rfl rfl rfl (w64 (by omega))) ?_
   refine J.z (yl_assign rfl rfl) ?_
   refine J.nil (Ej.blkNormal (Ej.seq (Cj.region (J.z (yl_add rfl rfl rfl (w64 (by omega))) ?_))))
   refine J.z (yl_move rfl rfl) ?_
   refine J.nil (Ej.round (j + 1) (by omega) (by omega) ⟨rfl, by rw [rsum_next hget]; exact congrArg (fun z => some (Value.int .i64 z)) (by omega), rfl, rfl, rfl, trivial⟩ rfl rfl)
 ·
  have hc5p := of_decide_eq_false hc5
  have hfull : s.take j = s := List.take_of_length_le (by omega)
  refine Cj.exit (Ej.seqExit (Ej.loopExit (Ej.blkExit (Ej.seq (Cj.seq (Cj.region (J.z (yl_move rfl rfl) ?_)))))))
  refine J.z (yl_rem rfl rfl rfl (by decide)) ?_
  refine J.eqv 28 rfl (show _ = i64 ((Ke.rsum 0 s % 11 : Nat) : Int) from (by rw [hfull]; rfl)) ?_
  refine J.z (yl_eql rfl rfl rfl) ?_
  refine J.z (yl_move rfl rfl) ?_
  refine J.split 30 rfl (fun hg7 => ?_) (fun hg7 => ?_)
  ·
   have hr : (Ke.rsum 0 s % 11 == 0) = true := beq_iff_eq.2 (by have h := eq_of_beq hg7; omega)
   refine J.opG 3 30 true _ rfl rfl rfl hg7 (op_yld (yl_move rfl rfl) rfl rfl ?_)
   refine J.opG 3 30 true _ rfl rfl rfl hg7 (op_yld (yl_sliceStr (p := 0) (q := 9) rfl rfl Tryz.underlying9 rfl ⟨_, rfl⟩ (by omega) (by omega)) rfl rfl ?_)
   refine J.eqv 32 rfl (show _ = str (s.take 9) from (by rw [List.drop_zero])) ?_
   refine J.opG 3 30 true _ rfl rfl rfl hg7 (op_pure rfl rfl rfl rfl rfl (isDigits_ok (s.take 9) (by rw [List.length_take]; omega) _) ?_)
   refine J.z (yl_pick1 rfl rfl hg7 rfl) ?_
   refine J.z (yl_assign rfl rfl) ?_
   refine J.nil (Ej.seq (Cj.ret (Ej.keep (List.nil_sublist _) ?_)))
   refine Ej.ret1 rfl rfl rfl ?_
   exact ⟨congrArg (fun b => Ending.returned (.bool b)) (by unfold Ke.rightShort; rw [hr]; rfl), rfl⟩
  ·
   have hr : (Ke.rsum 0 s % 11 == 0) = false := beq_eq_false_iff_ne.2 (fun e => ne_of_beq_false hg7 (by rw [e]; rfl))
   refine J.skip 3 30 31 true _ rfl rfl rfl hg7 rfl rfl ?_
   refine J.skip 3 30 32 true _ rfl rfl rfl hg7 rfl rfl ?_
   refine J.skip 3 30 33 true _ rfl rfl rfl hg7 rfl rfl ?_
   refine J.z (yl_pick0 rfl rfl hg7 rfl) ?_
   refine J.z (yl_assign rfl rfl) ?_
   refine J.nil (Ej.seq (Cj.ret (Ej.keep (List.nil_sublist _) ?_)))
   refine Ej.ret1 rfl rfl rfl ?_
   exact ⟨congrArg (fun b => Ending.returned (.bool b)) (by unfold Ke.rightShort; rw [hr]; rfl), rfl⟩
theorem norm_chars (s : List UInt8) : ∀ c ∈ Ke.norm s, Ke.digit c = true ∨ c = 88 := fun c hc => by
  obtain ⟨d, hd, rfl⟩ := List.mem_map.1 hc
  obtain ⟨h1, h2⟩ := List.mem_filter.1 hd
  have h3 : Ke.okb d = true := List.all_eq_true.1 (List.all_takeWhile (p := Ke.okb)) d h1
  revert h2 h3
  exact Ke.byte_all (p := fun d => Ke.nb d = true → Ke.okb d = true → Ke.digit (Ke.up d) = true ∨ Ke.up d = 88) (by decide +kernel) d
theorem norm_len (s : List UInt8) : (Ke.norm s).length ≤ s.length := by
  unfold Ke.norm
  rw [List.length_map]
  exact Nat.le_trans (List.length_filter_le _ _) (List.takeWhile_prefix _).length_le
theorem ToUpper_ok (s : List UInt8) (hs : s.length ≤ 1000000000) (I : Heap) : Pure Tryz.prog 70 [str (Ke.rep (s.takeWhile Ke.okb))] I (str (Ke.norm s)) := by
  refine Pure.of_below (Enters.of Tryz.func70 (by decide) rfl) fun w _ => ?_
  have hall : ∀ c ∈ Ke.rep (s.takeWhile Ke.okb), c.toNat < 128 ∧ Lib.upperB c = Ke.up c := fun c hc => by
    obtain ⟨h1, h2⟩ := List.mem_filter.1 hc
    have h3 : Ke.okb c = true := List.all_eq_true.1 (List.all_takeWhile (p := Ke.okb)) c h1
    revert h3
    exact Ke.byte_all (p := fun c => Ke.okb c = true → c.toNat < 128 ∧ Lib.upperB c = Ke.up c) (by decide +kernel) c
  have hl : (Ke.rep (s.takeWhile Ke.okb)).length ≤ s.length := Nat.le_trans (List.length_filter_le _ _) (List.takeWhile_prefix _).length_le
  have h := Tryz.strings_ToUpper_ascii ⟨(Ke.rep (s.takeWhile Ke.okb)).toArray⟩ w (by rw [size_mk]; omega) (fun j b hb => by rw [ba_list] at hb; exact (hall b (List.mem_of_getElem? hb)).1)
  rw [ba_list] at h
  have e : Lib.toUpperA (Ke.rep (s.takeWhile Ke.okb)) = Ke.norm s := List.map_congr_left fun c hc => (hall c hc).2
  rw [e] at h
  exact h
theorem check_app {a b : List UInt8} (h : a.length = 12) : Ke.check (a ++ b) = Ke.check a := by
  unfold Ke.check; rw [List.take_append_of_le_length (by omega)]
theorem digits_12 {a b : List UInt8} (h : Ke.digits a = true) (hl : a.length = 9) : Ke.digits (([57, 55, 56] ++ a ++ b).take 12) = true := by
  rw [List.take_append_of_le_length (by simp; omega), List.take_of_length_le (by simp; omega), Ke.digits_app, h]; rfl
set_option maxRecDepth 20000 in
theorem Isbn_ok (s : List UInt8) (hs : s.length ≤ 100000000) (I : Heap) : Pure Tryz.prog 42 [str s] I (.tuple #[str (Ke.isbn s).1, .bool (Ke.isbn s).2]) := by
 refine Ctr.toPure ?_
 have hnc := norm_chars s
 have hnl := norm_len s
 have htl : (s.takeWhile Ke.okb).length ≤ s.length := (List.takeWhile_prefix _).length_le
 refine Ctr.of_body Tryz.func42 rfl (by decide) (Nat.le_of_ble_eq_true rfl) ?_
 intro w0 hw0
 refine Cj.seq (Cj.region (J.z (yl_assign rfl rfl) ?_))
 refine J.z (yl_assign rfl rfl) ?_
 refine J.nil (Ej.seq (Cj.seq (Cj.region (J.z (yl_move rfl rfl) ?_))))
 refine J.op rfl (op_call (H1 := []) rfl rfl rfl rfl rfl (IndexFunc_ok s _) ?_ (fun _ _ _ _ h => by obtain ⟨_, h, _⟩ := h; cases h) (fun _ _ h => by obtain ⟨_, h, _⟩ := h; cases h))
 intro v1 I2 H3 hle4 hp5
 obtain ⟨n, h, hn, rfl⟩ := hp5; cases h
 refine J.z (yl_assign rfl rfl) ?_
 refine J.nil (Ej.seq (Cj.seq (Cj.seq (Cj.region (J.z (yl_move rfl rfl) ?_)))))
 refine J.z (yl_geq rfl rfl rfl) ?_
 refine J.nil (Ej.seq (Cj.cond rfl (fun hc6 => ?_) (fun hc6 => ?_)))
 ·
  have hc6p := of_decide_eq_true hc6
  obtain ⟨k, rfl, hk, htw⟩ : ∃ k : Nat, n = k ∧ k ≤ s.length ∧ s.takeWhile Ke.okb = s.take k := hn.elim (fun h => absurd (of_decide_eq_true hc6) (by rw [h.1]; decide)) id
  refine Cj.region (J.z (yl_move rfl rfl) ?_)
  refine J.z (yl_move rfl rfl) ?_
  refine J.z (yl_sliceStr (p := 0) (q := k) rfl rfl Tryz.underlying9 rfl ⟨_, rfl⟩ (by omega) (by omega)) ?_
  refine J.eqv 11 rfl (show _ = str (s.takeWhile Ke.okb) from (by rw [htw, List.drop_zero])) ?_
  refine J.z (yl_assign rfl rfl) ?_
  refine J.nil (Ej.seq (Cj.seq (Cj.region (J.op rfl (op_buildSlice rfl rfl rfl Tryz.underlying31 Tryz.sizeOf9 Tryz.zeroValue9 rfl rfl rfl rfl (LCat.one rfl (LCat.one rfl (LCat.one rfl (LCat.one rfl LCat.none)))) ?_)))))
  intro b7 hb7
  refine J.pull Pull.z ?_
  refine J.op rfl (op_call (H1 := [_]) rfl rfl rfl rfl rfl (NewReplacer_ok b7 _ _) ?_ (fun _ _ _ _ h => by obtain ⟨_, _, h, _⟩ := h; cases h) (fun _ _ h => by obtain ⟨_, _, h, _⟩ := h; cases h))
  intro v8 I9 H10 hle11 hp12
  obtain ⟨rb, osl, h, rfl, ho⟩ := hp12; cases h
  refine J.z (yl_move rfl rfl) ?_
  refine J.pull Pull.z ?_
  refine J.op rfl (op_call (H1 := [_]) rfl rfl rfl rfl rfl (Replace_ok rb osl (s.takeWhile Ke.okb) (by omega) _ ho) ?_ (fun _ _ _ _ h => by cases h.1) (fun _ _ h => by cases h.1))
  intro v13 I14 H15 hle16 hp17
  have ho := ho.mono hle16
  obtain ⟨h, rfl⟩ := hp17; cases h
  refine J.eqv 15 rfl (show _ = str (Ke.rep (s.takeWhile Ke.okb)) from rfl) ?_
  refine J.op rfl (op_pure rfl rfl rfl rfl rfl (ToUpper_ok s (by omega) _) ?_)
  refine J.z (yl_assign rfl rfl) ?_
  refine J.nil (Ej.seq (Cj.seq (Cj.block (Cj.seq (Cj.region (J.z (yl_move rfl rfl) ?_))))))
  refine J.z (yl_lenStr rfl rfl Tryz.underlying9) ?_
  refine J.z (yl_eql rfl rfl rfl) ?_
  refine J.z (yl_move rfl rfl) ?_
  refine J.split 21 rfl (fun hg18 => ?_) (fun hg18 => ?_)
  ·
   have h10 : (Ke.norm s).length = 10 := by have h := eq_of_beq hg18; omega
   refine J.opG 3 21 true _ rfl rfl rfl hg18 (op_yld (yl_move rfl rfl) rfl rfl ?_)
   refine J.opG 3 21 true _ rfl rfl rfl hg18 (op_pure rfl rfl rfl rfl rfl (rightShort_ok (Ke.norm s) h10 hnc _) ?_)
   refine J.z (yl_pick1 rfl rfl hg18 rfl) ?_
   refine J.z (yl_assign rfl rfl) ?_
   refine J.nil (Ej.seq (Cj.cond rfl (fun hc19 => ?_) (fun hc19 => ?_)))
   ·
    have hrs : Ke.rightShort (Ke.norm s) = true := hc19
    have hd9 : Ke.digits ((Ke.norm s).take 9) = true := (Bool.and_eq_true_iff.1 hrs).2
    have hd12 := digits_12 (b := [48]) hd9 (by rw [List.length_take]; omega)
    refine Cj.seq (Cj.region (J.z (yl_move rfl rfl) ?_))
    refine J.z (yl_sliceStr (p := 0) (q := 9) rfl rfl Tryz.underlying9 rfl ⟨_, rfl⟩ (by omega) (by omega)) ?_
    refine J.eqv 26 rfl (show _ = str ((Ke.norm s).take 9) from (by rw [List.drop_zero])) ?_
    refine J.z (yl_cat rfl rfl rfl (by first | omega | (simp only [List.length_append]; omega) | (simp; omega))) ?_
    refine J.z (yl_assign rfl rfl) ?_
    refine J.nil (Ej.seq (Cj.seq (Cj.region (J.z (yl_move rfl rfl) ?_))))
    refine J.z (yl_move rfl rfl) ?_
    refine J.z (yl_cat rfl rfl rfl (by first | omega | (simp only [List.length_append]; omega) | (simp; omega))) ?_
    refine J.op rfl (op_pure rfl rfl rfl rfl rfl (check_ok _ (by simp; omega) (by simp; omega) hd12 _) ?_)
    refine J.eqv 31 rfl (show _ = u8 (Ke.check ([57, 55, 56] ++ (Ke.norm s).take 9)) from (by rw [check_app (by simp; omega)])) ?_
    refine J.op rfl (op_buildSlice rfl rfl rfl Tryz.underlying86 Tryz.sizeOf5 Tryz.zeroValue5 rfl rfl rfl rfl (LCat.one rfl LCat.none) ?_)
    intro b20 hb20
    refine J.z (yl_toStr [Ke.check ([57, 55, 56] ++ (Ke.norm s).take 9)] rfl rfl rfl Tryz.underlying86 Tryz.underlying9 Tryz.underlying5 (Blk.at 0 rfl) rfl) ?_
    refine J.z (yl_cat rfl rfl rfl (by first | omega | (simp only [List.length_append]; omega) | (simp; omega))) ?_
    refine J.z (yl_assign rfl rfl) ?_
    refine J.z (yl_assign rfl rfl) ?_
    refine J.nil (Ej.seq (Cj.ret (Ej.blkRet (Ej.seqRet (Ej.keep (List.nil_sublist _) ?_)))))
    refine Ej.ret2 rfl rfl rfl rfl ?_
    have he : Ke.isbn s = ([57, 55, 56] ++ (Ke.norm s).take 9 ++ [Ke.check ([57, 55, 56] ++ (Ke.norm s).take 9)], true) := by unfold Ke.isbn Ke.isbnN; rw [if_pos ⟨h10, hrs⟩]
    rw [he]
    exact ⟨rfl, rfl⟩
   ·
    have hno : ¬ ((Ke.norm s).length = 10 ∧ Ke.rightShort (Ke.norm s) = true) := fun e => Bool.noConfusion (e.2.symm.trans hc19)
    refine Cj.seq (Cj.drawSel [] [] 15 (by kernel_rfl) ?_)
    refine JA.fix ⟨HSub.n, CSub.n, (Le.refl _)⟩ (fun fx21 => ?_)
    refine JA.tk 0 rfl fx21 (yl_move rfl rfl) ?_
    refine JA.tk 1 rfl fx21 (yl_lenStr rfl rfl Tryz.underlying9) ?_
    refine JA.tk 2 rfl fx21 (yl_eql rfl rfl rfl) ?_
    refine JA.tk 3 rfl fx21 (yl_move rfl rfl) ?_
    refine JA.split 39 rfl (fun hg22 => ?_) (fun hg22 => ?_)
    ·
     have h13 : (Ke.norm s).length = 13 := by have h := eq_of_beq hg22; omega
     refine JA.tkG 4 3 39 true _ rfl fx21 rfl rfl hg22 (yl_move rfl rfl) ?_
     refine JA.stepG 5 3 39 true _ (by kernel_rfl) rfl rfl rfl rfl hg22 (op_pure rfl rfl rfl rfl rfl (isDigits_ok (Ke.norm s) (by omega) _) ?_)
     refine ⟨⟨(Le.refl _), HSub.n, CSub.n⟩, ?_⟩
     refine JA.fix ⟨HSub.n, CSub.n, (Le.refl _)⟩ (fun fx23 => ?_)
     refine JA.tk 6 rfl fx23 (yl_pick1 rfl rfl hg22 rfl) ?_
     refine JA.tk 7 rfl fx23 (yl_move rfl rfl) ?_
     refine JA.split 43 rfl (fun hg24 => ?_) (fun hg24 => ?_)
     ·
      have hdg : Ke.digits (Ke.norm s) = true := hg24
      have hd13 : Ke.digits ((Ke.norm s).take 12) = true := List.all_eq_true.2 fun c hc => List.all_eq_true.1 hdg c (List.mem_of_mem_take hc)
      obtain ⟨c, hg12⟩ : ∃ c, (Ke.norm s)[12]? = some c := ⟨_, List.getElem?_eq_getElem (by omega)⟩
      have hgd : (Ke.norm s).getD 12 0 = c := by rw [List.getD, hg12]; rfl
      refine JA.tkG 8 7 43 true _ rfl fx23 rfl rfl hg24 (yl_move rfl rfl) ?_
      refine JA.tkG 10 7 43 true _ rfl fx23 rfl rfl hg24 (yl_move rfl rfl) ?_
      refine JA.tkG 11 7 43 true _ rfl fx23 rfl rfl hg24 (yl_index rfl rfl rfl Tryz.underlying9 (by omega) hg12) ?_
      refine JA.stepG 9 7 43 true _ (by kernel_rfl) rfl rfl rfl rfl hg24 (op_pure rfl rfl rfl rfl rfl (check_ok (Ke.norm s) (by omega) (by omega) hd13 _) ?_)
      refine ⟨⟨(Le.refl _), HSub.n, CSub.n⟩, ?_⟩
      refine JA.fix ⟨HSub.n, CSub.n, (Le.refl _)⟩ (fun fx25 => ?_)
      refine JA.tkG 12 7 43 true _ rfl fx25 rfl rfl hg24 (yl_eql rfl rfl rfl) ?_
      refine JA.tk 13 rfl fx25 (yl_pick1 rfl rfl hg24 rfl) ?_
      refine JA.tk 14 rfl fx25 (yl_assign rfl rfl) ?_
      refine JA.done (by kernel_rfl) ?_
      refine Ej.seq (Cj.cond rfl (fun hc26 => ?_) (fun hc26 => ?_))
      ·
       have hc26p := eq_of_beq hc26
       have hck : Ke.check (Ke.norm s) = (Ke.norm s).getD 12 0 := by have h := eq_of_beq hc26; rw [hgd]; exact UInt8.toNat_inj.1 (by omega)
       refine Cj.seq (Cj.region (J.z (yl_move rfl rfl) ?_))
       refine J.z (yl_assign rfl rfl) ?_
       refine J.z (yl_assign rfl rfl) ?_
       refine J.nil (Ej.seq (Cj.ret (Ej.blkRet (Ej.seqRet (Ej.keep (List.nil_sublist _) ?_)))))
       refine Ej.ret2 rfl rfl rfl rfl ?_
       have he : Ke.isbn s = (Ke.norm s, true) := by unfold Ke.isbn Ke.isbnN; rw [if_neg hno, if_pos ⟨h13, hdg, hck⟩]
       rw [he]
       exact ⟨rfl, rfl⟩
      ·
       have hc26p := ne_of_beq_false hc26
       have hno2 : ¬ ((Ke.norm s).length = 13 ∧ Ke.digits (Ke.norm s) = true ∧ Ke.check (Ke.norm s) = (Ke.norm s).getD 12 0) := fun e => ne_of_beq_false hc26 (by rw [e.2.2, hgd])
       refine Cj.skip (Ej.blkNormal (Ej.seq (Cj.seq (Cj.region (J.z (yl_assign rfl rfl) ?_)))))
       refine J.z (yl_assign rfl rfl) ?_
       refine J.nil (Ej.seq (Cj.ret (Ej.keep (List.nil_sublist _) ?_)))
       refine Ej.ret2 rfl rfl rfl rfl ?_
       have he : Ke.isbn s = ([], false) := by unfold Ke.isbn Ke.isbnN; rw [if_neg hno, if_neg hno2]
       rw [he]
       exact ⟨rfl, rfl⟩
     ·
      have hno2 : ¬ ((Ke.norm s).length = 13 ∧ Ke.digits (Ke.norm s) = true ∧ Ke.check (Ke.norm s) = (Ke.norm s).getD 12 0) := fun e => Bool.noConfusion (e.2.1.symm.trans hg24)
      refine JA.tkS 8 7 43 true _ rfl fx23 rfl rfl (.inl (congrArg Value.bool hg24)) ?_
      refine JA.tkS 9 7 43 true _ rfl fx23 rfl rfl (.inl (congrArg Value.bool hg24)) ?_
      refine JA.tkS 10 7 43 true _ rfl fx23 rfl rfl (.inl (congrArg Value.bool hg24)) ?_
      refine JA.tkS 11 7 43 true _ rfl fx23 rfl rfl (.inl (congrArg Value.bool hg24)) ?_
      refine JA.tkS 12 7 43 true _ rfl fx23 rfl rfl (.inl (congrArg Value.bool hg24)) ?_
      refine JA.tk 13 rfl fx23 (yl_pick0 rfl rfl hg24 rfl) ?_
      refine JA.tk 14 rfl fx23 (yl_assign rfl rfl) ?_
      refine JA.done (by kernel_rfl) ?_
      refine Ej.seq (Cj.cond rfl (fun hc27 => Bool.noConfusion (Eq.trans (Eq.symm rfl) hc27)) (fun hc27 => ?_))
      refine Cj.skip (Ej.blkNormal (Ej.seq (Cj.seq (Cj.region (J.z (yl_assign rfl rfl) ?_)))))
      refine J.z (yl_assign rfl rfl) ?_
      refine J.nil (Ej.seq (Cj.ret (Ej.keep (List.nil_sublist _) ?_)))
      refine Ej.ret2 rfl rfl rfl rfl ?_
      have he : Ke.isbn s = ([], false) := by unfold Ke.isbn Ke.isbnN; rw [if_neg hno, if_neg hno2]
      rw [he]
      exact ⟨rfl, rfl⟩
    ·
     have hno2 : ¬ ((Ke.norm s).length = 13 ∧ Ke.digits (Ke.norm s) = true ∧ Ke.check (Ke.norm s) = (Ke.norm s).getD 12 0) := fun e => ne_of_beq_false hg22 (by rw [e.1]; rfl)
     refine JA.tkS 4 3 39 true _ rfl fx21 rfl rfl (.inl (congrArg Value.bool hg22)) ?_
     refine JA.tkS 5 3 39 true _ rfl fx21 rfl rfl (.inl (congrArg Value.bool hg22)) ?_
     refine JA.tk 6 rfl fx21 (yl_pick0 rfl rfl hg22 rfl) ?_
     refine JA.tk 7 rfl fx21 (yl_move rfl rfl) ?_
     refine JA.tkS 8 7 43 true _ rfl fx21 rfl rfl (.inl (congrArg Value.bool rfl)) ?_
     refine JA.tkS 9 7 43 true _ rfl fx21 rfl rfl (.inl (congrArg Value.bool rfl)) ?_
     refine JA.tkS 10 7 43 true _ rfl fx21 rfl rfl (.inl (congrArg Value.bool rfl)) ?_
     refine JA.tkS 11 7 43 true _ rfl fx21 rfl rfl (.inl (congrArg Value.bool rfl)) ?_
     refine JA.tkS 12 7 43 true _ rfl fx21 rfl rfl (.inl (congrArg Value.bool rfl)) ?_
     refine JA.tk 13 rfl fx21 (yl_pick0 rfl rfl rfl rfl) ?_
     refine JA.tk 14 rfl fx21 (yl_assign rfl rfl) ?_
     refine JA.done (by kernel_rfl) ?_
     refine Ej.seq (Cj.cond rfl (fun hc28 => Bool.noConfusion (Eq.trans (Eq.symm rfl) hc28)) (fun hc28 => ?_))
     refine Cj.skip (Ej.blkNormal (Ej.seq (Cj.seq (Cj.region (J.z (yl_assign rfl rfl) ?_)))))
     refine J.z (yl_assign rfl rfl) ?_
     refine J.nil (Ej.seq (Cj.ret (Ej.keep (List.nil_sublist _) ?_)))
     refine Ej.ret2 rfl rfl rfl rfl ?_
     have he : Ke.isbn s = ([], false) := by unfold Ke.isbn Ke.isbnN; rw [if_neg hno, if_neg hno2]
     rw [he]
     exact ⟨rfl, rfl⟩
  ·
   have hno : ¬ ((Ke.norm s).length = 10 ∧ Ke.rightShort (Ke.norm s) = true) := fun e => ne_of_beq_false hg18 (by rw [e.1]; rfl)
   refine J.skip 3 21 22 true _ rfl rfl rfl hg18 rfl rfl ?_
   refine J.skip 3 21 23 true _ rfl rfl rfl hg18 rfl rfl ?_
   refine J.z (yl_pick0 rfl rfl hg18 rfl) ?_
   refine J.z (yl_assign rfl rfl) ?_
   refine J.nil (Ej.seq (Cj.cond rfl (fun hc29 => Bool.noConfusion (Eq.trans (Eq.symm rfl) hc29)) (fun hc29 => ?_)))
   refine Cj.seq (Cj.drawSel [] [] 15 (by kernel_rfl) ?_)
   refine JA.fix ⟨HSub.n, CSub.n, (Le.refl _)⟩ (fun fx30 => ?_)
   refine JA.tk 0 rfl fx30 (yl_move rfl rfl) ?_
   refine JA.tk 1 rfl fx30 (yl_lenStr rfl rfl Tryz.underlying9) ?_
   refine JA.tk 2 rfl fx30 (yl_eql rfl rfl rfl) ?_
   refine JA.tk 3 rfl fx30 (yl_move rfl rfl) ?_
   refine JA.split 39 rfl (fun hg31 => ?_) (fun hg31 => ?_)
   ·
    have h13 : (Ke.norm s).length = 13 := by have h := eq_of_beq hg31; omega
    refine JA.tkG 4 3 39 true _ rfl fx30 rfl rfl hg31 (yl_move rfl rfl) ?_
    refine JA.stepG 5 3 39 true _ (by kernel_rfl) rfl rfl rfl rfl hg31 (op_pure rfl rfl rfl rfl rfl (isDigits_ok (Ke.norm s) (by omega) _) ?_)
    refine ⟨⟨(Le.refl _), HSub.n, CSub.n⟩, ?_⟩
    refine JA.fix ⟨HSub.n, CSub.n, (Le.refl _)⟩ (fun fx32 => ?_)
    refine JA.tk 6 rfl fx32 (yl_pick1 rfl rfl hg31 rfl) ?_
    refine JA.tk 7 rfl fx32 (yl_move rfl rfl) ?_
    refine JA.split 43 rfl (fun hg33 => ?_) (fun hg33 => ?_)
    ·
     have hdg : Ke.digits (Ke.norm s) = true := hg33
     have hd13 : Ke.digits ((Ke.norm s).take 12) = true := List.all_eq_true.2 fun c hc => List.all_eq_true.1 hdg c (List.mem_of_mem_take hc)
     obtain ⟨c, hg12⟩ : ∃ c, (Ke.norm s)[12]? = some c := ⟨_, List.getElem?_eq_getElem (by omega)⟩
     have hgd : (Ke.norm s).getD 12 0 = c := by rw [List.getD, hg12]; rfl
     refine JA.tkG 8 7 43 true _ rfl fx32 rfl rfl hg33 (yl_move rfl rfl) ?_
     refine JA.tkG 10 7 43 true _ rfl fx32 rfl rfl hg33 (yl_move rfl rfl) ?_
     refine JA.tkG 11 7 43 true _ rfl fx32 rfl rfl hg33 (yl_index rfl rfl rfl Tryz.underlying9 (by omega) hg12) ?_
     refine JA.stepG 9 7 43 true _ (by kernel_rfl) rfl rfl rfl rfl hg33 (op_pure rfl rfl rfl rfl rfl (check_ok (Ke.norm s) (by omega) (by omega) hd13 _) ?_)
     refine ⟨⟨(Le.refl _), HSub.n, CSub.n⟩, ?_⟩
     refine JA.fix ⟨HSub.n, CSub.n, (Le.refl _)⟩ (fun fx34 => ?_)
     refine JA.tkG 12 7 43 true _ rfl fx34 rfl rfl hg33 (yl_eql rfl rfl rfl) ?_
     refine JA.tk 13 rfl fx34 (yl_pick1 rfl rfl hg33 rfl) ?_
     refine JA.tk 14 rfl fx34 (yl_assign rfl rfl) ?_
     refine JA.done (by kernel_rfl) ?_
     refine Ej.seq (Cj.cond rfl (fun hc35 => ?_) (fun hc35 => ?_))
     ·
      have hc35p := eq_of_beq hc35
      have hck : Ke.check (Ke.norm s) = (Ke.norm s).getD 12 0 := by have h := eq_of_beq hc35; rw [hgd]; exact UInt8.toNat_inj.1 (by omega)
      refine Cj.seq (Cj.region (J.z (yl_move rfl rfl) ?_))
      refine J.z (yl_assign rfl rfl) ?_
      refine J.z (yl_assign rfl rfl) ?_
      refine J.nil (Ej.seq (Cj.ret (Ej.blkRet (Ej.seqRet (Ej.keep (List.nil_sublist _) ?_)))))
      refine Ej.ret2 rfl rfl rfl rfl ?_
      have he : Ke.isbn s = (Ke.norm s, true) := by unfold Ke.isbn Ke.isbnN; rw [if_neg hno, if_pos ⟨h13, hdg, hck⟩]
      rw [he]
      exact ⟨rfl, rfl⟩
     ·
      have hc35p := ne_of_beq_false hc35
      have hno2 : ¬ ((Ke.norm s).length = 13 ∧ Ke.digits (Ke.norm s) = true ∧ Ke.check (Ke.norm s) = (Ke.norm s).getD 12 0) := fun e => ne_of_beq_false hc35 (by rw [e.2.2, hgd])
      refine Cj.skip (Ej.blkNormal (Ej.seq (Cj.seq (Cj.region (J.z (yl_assign rfl rfl) ?_)))))
      refine J.z (yl_assign rfl rfl) ?_
      refine J.nil (Ej.seq (Cj.ret (Ej.keep (List.nil_sublist _) ?_)))
      refine Ej.ret2 rfl rfl rfl rfl ?_
      have he : Ke.isbn s = ([], false) := by unfold Ke.isbn Ke.isbnN; rw [if_neg hno, if_neg hno2]
      rw [he]
      exact ⟨rfl, rfl⟩
    ·
     have hno2 : ¬ ((Ke.norm s).length = 13 ∧ Ke.digits (Ke.norm s) = true ∧ Ke.check (Ke.norm s) = (Ke.norm s).getD 12 0) := fun e => Bool.noConfusion (e.2.1.symm.trans hg33)
     refine JA.tkS 8 7 43 true _ rfl fx32 rfl rfl (.inl (congrArg Value.bool hg33)) ?_
     refine JA.tkS 9 7 43 true _ rfl fx32 rfl rfl (.inl (congrArg Value.bool hg33)) ?_
     refine JA.tkS 10 7 43 true _ rfl fx32 rfl rfl (.inl (congrArg Value.bool hg33)) ?_
     refine JA.tkS 11 7 43 true _ rfl fx32 rfl rfl (.inl (congrArg Value.bool hg33)) ?_
     refine JA.tkS 12 7 43 true _ rfl fx32 rfl rfl (.inl (congrArg Value.bool hg33)) ?_
     refine JA.tk 13 rfl fx32 (yl_pick0 rfl rfl hg33 rfl) ?_
     refine JA.tk 14 rfl fx32 (yl_assign rfl rfl) ?_
     refine JA.done (by kernel_rfl) ?_
     refine Ej.seq (Cj.cond rfl (fun hc36 => Bool.noConfusion (Eq.trans (Eq.symm rfl) hc36)) (fun hc36 => ?_))
     refine Cj.skip (Ej.blkNormal (Ej.seq (Cj.seq (Cj.region (J.z (yl_assign rfl rfl) ?_)))))
     refine J.z (yl_assign rfl rfl) ?_
     refine J.nil (Ej.seq (Cj.ret (Ej.keep (List.nil_sublist _) ?_)))
     refine Ej.ret2 rfl rfl rfl rfl ?_
     have he : Ke.isbn s = ([], false) := by unfold Ke.isbn Ke.isbnN; rw [if_neg hno, if_neg hno2]
     rw [he]
     exact ⟨rfl, rfl⟩
   ·
    have hno2 : ¬ ((Ke.norm s).length = 13 ∧ Ke.digits (Ke.norm s) = true ∧ Ke.check (Ke.norm s) = (Ke.norm s).getD 12 0) := fun e => ne_of_beq_false hg31 (by rw [e.1]; rfl)
    refine JA.tkS 4 3 39 true _ rfl fx30 rfl rfl (.inl (congrArg Value.bool hg31)) ?_
    refine JA.tkS 5 3 39 true _ rfl fx30 rfl rfl (.inl (congrArg Value.bool hg31)) ?_
    refine JA.tk 6 rfl fx30 (yl_pick0 rfl rfl hg31 rfl) ?_
    refine JA.tk 7 rfl fx30 (yl_move rfl rfl) ?_
    refine JA.tkS 8 7 43 true _ rfl fx30 rfl rfl (.inl (congrArg Value.bool rfl)) ?_
    refine JA.tkS 9 7 43 true _ rfl fx30 rfl rfl (.inl (congrArg Value.bool rfl)) ?_
    refine JA.tkS 10 7 43 true _ rfl fx30 rfl rfl (.inl (congrArg Value.bool rfl)) ?_
    refine JA.tkS 11 7 43 true _ rfl fx30 rfl rfl (.inl (congrArg Value.bool rfl)) ?_
    refine JA.tkS 12 7 43 true _ rfl fx30 rfl rfl (.inl (congrArg Value.bool rfl)) ?_
    refine JA.tk 13 rfl fx30 (yl_pick0 rfl rfl rfl rfl) ?_
    refine JA.tk 14 rfl fx30 (yl_assign rfl rfl) ?_
    refine JA.done (by kernel_rfl) ?_
    refine Ej.seq (Cj.cond rfl (fun hc37 => Bool.noConfusion (Eq.trans (Eq.symm rfl) hc37)) (fun hc37 => ?_))
    refine Cj.skip (Ej.blkNormal (Ej.seq (Cj.seq (Cj.region (J.z (yl_assign rfl rfl) ?_)))))
    refine J.z (yl_assign rfl rfl) ?_
    refine J.nil (Ej.seq (Cj.ret (Ej.keep (List.nil_sublist _) ?_)))
    refine Ej.ret2 rfl rfl rfl rfl ?_
    have he : Ke.isbn s = ([], false) := by unfold Ke.isbn Ke.isbnN; rw [if_neg hno, if_neg hno2]
    rw [he]
    exact ⟨rfl, rfl⟩
 ·
  have hc6p := of_decide_eq_false hc6
  have htw : s.takeWhile Ke.okb = s := hn.elim (fun h => h.2) (fun ⟨k, h, _⟩ => absurd (of_decide_eq_false hc6) (by rw [h]; simp))
  refine Cj.skip (Ej.seq (Cj.seq (Cj.region (J.op rfl (op_buildSlice rfl rfl rfl Tryz.underlying31 Tryz.sizeOf9 Tryz.zeroValue9 rfl rfl rfl rfl (LCat.one rfl (LCat.one rfl (LCat.one rfl (LCat.one rfl LCat.none)))) ?_)))))
  intro b38 hb38
  refine J.pull Pull.z ?_
  refine J.op rfl (op_call (H1 := [_]) rfl rfl rfl rfl rfl (NewReplacer_ok b38 _ _) ?_ (fun _ _ _ _ h => by obtain ⟨_, _, h, _⟩ := h; cases h) (fun _ _ h => by obtain ⟨_, _, h, _⟩ := h; cases h))
  intro v39 I40 H41 hle42 hp43
  obtain ⟨rb, osl, h, rfl, ho⟩ := hp43; cases h
  refine J.z (yl_move rfl rfl) ?_
  refine J.pull Pull.z ?_
  refine J.op rfl (op_call (H1 := [_]) rfl rfl rfl rfl rfl (Replace_ok rb osl s (by omega) _ ho) ?_ (fun _ _ _ _ h => by cases h.1) (fun _ _ h => by cases h.1))
  intro v44 I45 H46 hle47 hp48
  have ho := ho.mono hle47
  obtain ⟨h, rfl⟩ := hp48; cases h
  refine J.eqv 15 rfl (show _ = str (Ke.rep (s.takeWhile Ke.okb)) from (by rw [htw])) ?_
  refine J.op rfl (op_pure rfl rfl rfl rfl rfl (ToUpper_ok s (by omega) _) ?_)
  refine J.z (yl_assign rfl rfl) ?_
  refine J.nil (Ej.seq (Cj.seq (Cj.block (Cj.seq (Cj.region (J.z (yl_move rfl rfl) ?_))))))
  refine J.z (yl_lenStr rfl rfl Tryz.underlying9) ?_
  refine J.z (yl_eql rfl rfl rfl) ?_
  refine J.z (yl_move rfl rfl) ?_
  refine J.split 21 rfl (fun hg49 => ?_) (fun hg49 => ?_)
  ·
   have h10 : (Ke.norm s).length = 10 := by have h := eq_of_beq hg49; omega
   refine J.opG 3 21 true _ rfl rfl rfl hg49 (op_yld (yl_move rfl rfl) rfl rfl ?_)
   refine J.opG 3 21 true _ rfl rfl rfl hg49 (op_pure rfl rfl rfl rfl rfl (rightShort_ok (Ke.norm s) h10 hnc _) ?_)
   refine J.z (yl_pick1 rfl rfl hg49 rfl) ?_
   refine J.z (yl_assign rfl rfl) ?_
   refine J.nil (Ej.seq (Cj.cond rfl (fun hc50 => ?_) (fun hc50 => ?_)))
   ·
    have hrs : Ke.rightShort (Ke.norm s) = true := hc50
    have hd9 : Ke.digits ((Ke.norm s).take 9) = true := (Bool.and_eq_true_iff.1 hrs).2
    have hd12 := digits_12 (b := [48]) hd9 (by rw [List.length_take]; omega)
    refine Cj.seq (Cj.region (J.z (yl_move rfl rfl) ?_))
    refine J.z (yl_sliceStr (p := 0) (q := 9) rfl rfl Tryz.underlying9 rfl ⟨_, rfl⟩ (by omega) (by omega)) ?_
    refine J.eqv 26 rfl (show _ = str ((Ke.norm s).take 9) from (by rw [List.drop_zero])) ?_
    refine J.z (yl_cat rfl rfl rfl (by first | omega | (simp only [List.length_append]; omega) | (simp; omega))) ?_
    refine J.z (yl_assign rfl rfl) ?_
    refine J.nil (Ej.seq (Cj.seq (Cj.region (J.z (yl_move rfl rfl) ?_))))
    refine J.z (yl_move rfl rfl) ?_
    refine J.z (yl_cat rfl rfl rfl (by first | omega | (simp only [List.length_append]; omega) | (simp; omega))) ?_
    refine J.op rfl (op_pure rfl rfl rfl rfl rfl (check_ok _ (by simp; omega) (by simp; omega) hd12 _) ?_)
    refine J.eqv 31 rfl (show _ = u8 (Ke.check ([57, 55, 56] ++ (Ke.norm s).take 9)) from (by rw [check_app (by simp; omega)])) ?_
    refine J.op rfl (op_buildSlice rfl rfl rfl Tryz.underlying86 Tryz.sizeOf5 Tryz.zeroValue5 rfl rfl rfl rfl (LCat.one rfl LCat.none) ?_)
    intro b51 hb51
    refine J.z (yl_toStr [Ke.check ([57, 55, 56] ++ (Ke.norm s).take 9)] rfl rfl rfl Tryz.underlying86 Tryz.underlying9 Tryz.underlying5 (Blk.at 0 rfl) rfl) ?_
    refine J.z (yl_cat rfl rfl rfl (by first | omega | (simp only [List.length_append]; omega) | (simp; omega))) ?_
    refine J.z (yl_assign rfl rfl) ?_
    refine J.z (yl_assign rfl rfl) ?_
    refine J.nil (Ej.seq (Cj.ret (Ej.blkRet (Ej.seqRet (Ej.keep (List.nil_sublist _) ?_)))))
    refine Ej.ret2 rfl rfl rfl rfl ?_
    have he : Ke.isbn s = ([57, 55, 56] ++ (Ke.norm s).take 9 ++ [Ke.check ([57, 55, 56] ++ (Ke.norm s).take 9)], true) := by unfold Ke.isbn Ke.isbnN; rw [if_pos ⟨h10, hrs⟩]
    rw [he]
    exact ⟨rfl, rfl⟩
   ·
    have hno : ¬ ((Ke.norm s).length = 10 ∧ Ke.rightShort (Ke.norm s) = true) := fun e => Bool.noConfusion (e.2.symm.trans hc50)
    refine Cj.seq (Cj.drawSel [] [] 15 (by kernel_rfl) ?_)
    refine JA.fix ⟨HSub.n, CSub.n, (Le.refl _)⟩ (fun fx52 => ?_)
    refine JA.tk 0 rfl fx52 (yl_move rfl rfl) ?_
    refine JA.tk 1 rfl fx52 (yl_lenStr rfl rfl Tryz.underlying9) ?_
    refine JA.tk 2 rfl fx52 (yl_eql rfl rfl rfl) ?_
    refine JA.tk 3 rfl fx52 (yl_move rfl rfl) ?_
    refine JA.split 39 rfl (fun hg53 => ?_) (fun hg53 => ?_)
    ·
     have h13 : (Ke.norm s).length = 13 := by have h := eq_of_beq hg53; omega
     refine JA.tkG 4 3 39 true _ rfl fx52 rfl rfl hg53 (yl_move rfl rfl) ?_
     refine JA.stepG 5 3 39 true _ (by kernel_rfl) rfl rfl rfl rfl hg53 (op_pure rfl rfl rfl rfl rfl (isDigits_ok (Ke.norm s) (by omega) _) ?_)
     refine ⟨⟨(Le.refl _), HSub.n, CSub.n⟩, ?_⟩
     refine JA.fix ⟨HSub.n, CSub.n, (Le.refl _)⟩ (fun fx54 => ?_)
     refine JA.tk 6 rfl fx54 (yl_pick1 rfl rfl hg53 rfl) ?_
     refine JA.tk 7 rfl fx54 (yl_move rfl rfl) ?_
     refine JA.split 43 rfl (fun hg55 => ?_) (fun hg55 => ?_)
     ·
      have hdg : Ke.digits (Ke.norm s) = true := hg55
      have hd13 : Ke.digits ((Ke.norm s).take 12) = true := List.all_eq_true.2 fun c hc => List.all_eq_true.1 hdg c (List.mem_of_mem_take hc)
      obtain ⟨c, hg12⟩ : ∃ c, (Ke.norm s)[12]? = some c := ⟨_, List.getElem?_eq_getElem (by omega)⟩
      have hgd : (Ke.norm s).getD 12 0 = c := by rw [List.getD, hg12]; rfl
      refine JA.tkG 8 7 43 true _ rfl fx54 rfl rfl hg55 (yl_move rfl rfl) ?_
      refine JA.tkG 10 7 43 true _ rfl fx54 rfl rfl hg55 (yl_move rfl rfl) ?_
      refine JA.tkG 11 7 43 true _ rfl fx54 rfl rfl hg55 (yl_index rfl rfl rfl Tryz.underlying9 (by omega) hg12) ?_
      refine JA.stepG 9 7 43 true _ (by kernel_rfl) rfl rfl rfl rfl hg55 (op_pure rfl rfl rfl rfl rfl (check_ok (Ke.norm s) (by omega) (by omega) hd13 _) ?_)
      refine ⟨⟨(Le.refl _), HSub.n, CSub.n⟩, ?_⟩
      refine JA.fix ⟨HSub.n, CSub.n, (Le.refl _)⟩ (fun fx56 => ?_)
      refine JA.tkG 12 7 43 true _ rfl fx56 rfl rfl hg55 (yl_eql rfl rfl rfl) ?_
      refine JA.tk 13 rfl fx56 (yl_pick1 rfl rfl hg55 rfl) ?_
      refine JA.tk 14 rfl fx56 (yl_assign rfl rfl) ?_
      refine JA.done (by kernel_rfl) ?_
      refine Ej.seq (Cj.cond rfl (fun hc57 => ?_) (fun hc57 => ?_))
      ·
       have hc57p := eq_of_beq hc57
       have hck : Ke.check (Ke.norm s) = (Ke.norm s).getD 12 0 := by have h := eq_of_beq hc57; rw [hgd]; exact UInt8.toNat_inj.1 (by omega)
       refine Cj.seq (Cj.region (J.z (yl_move rfl rfl) ?_))
       refine J.z (yl_assign rfl rfl) ?_
       refine J.z (yl_assign rfl rfl) ?_
       refine J.nil (Ej.seq (Cj.ret (Ej.blkRet (Ej.seqRet (Ej.keep (List.nil_sublist _) ?_)))))
       refine Ej.ret2 rfl rfl rfl rfl ?_
       have he : Ke.isbn s = (Ke.norm s, true) := by unfold Ke.isbn Ke.isbnN; rw [if_neg hno, if_pos ⟨h13, hdg, hck⟩]
       rw [he]
       exact ⟨rfl, rfl⟩
      ·
       have hc57p := ne_of_beq_false hc57
       have hno2 : ¬ ((Ke.norm s).length = 13 ∧ Ke.digits (Ke.norm s) = true ∧ Ke.check (Ke.norm s) = (Ke.norm s).getD 12 0) := fun e => ne_of_beq_false hc57 (by rw [e.2.2, hgd])
       refine Cj.skip (Ej.blkNormal (Ej.seq (Cj.seq (Cj.region (J.z (yl_assign rfl rfl) ?_)))))
       refine J.z (yl_assign rfl rfl) ?_
       refine J.nil (Ej.seq (Cj.ret (Ej.keep (List.nil_sublist _) ?_)))
       refine Ej.ret2 rfl rfl rfl rfl ?_
       have he : Ke.isbn s = ([], false) := by unfold Ke.isbn Ke.isbnN; rw [if_neg hno, if_neg hno2]
       rw [he]
       exact ⟨rfl, rfl⟩
     ·
      have hno2 : ¬ ((Ke.norm s).length = 13 ∧ Ke.digits (Ke.norm s) = true ∧ Ke.check (Ke.norm s) = (Ke.norm s).getD 12 0) := fun e => Bool.noConfusion (e.2.1.symm.trans hg55)
      refine JA.tkS 8 7 43 true _ rfl fx54 rfl rfl (.inl (congrArg Value.bool hg55)) ?_
      refine JA.tkS 9 7 43 true _ rfl fx54 rfl rfl (.inl (congrArg Value.bool hg55)) ?_
      refine JA.tkS 10 7 43 true _ rfl fx54 rfl rfl (.inl (congrArg Value.bool hg55)) ?_
      refine JA.tkS 11 7 43 true _ rfl fx54 rfl rfl (.inl (congrArg Value.bool hg55)) ?_
      refine JA.tkS 12 7 43 true _ rfl fx54 rfl rfl (.inl (congrArg Value.bool hg55)) ?_
      refine JA.tk 13 rfl fx54 (yl_pick0 rfl rfl hg55 rfl) ?_
      refine JA.tk 14 rfl fx54 (yl_assign rfl rfl) ?_
      refine JA.done (by kernel_rfl) ?_
      refine Ej.seq (Cj.cond rfl (fun hc58 => Bool.noConfusion (Eq.trans (Eq.symm rfl) hc58)) (fun hc58 => ?_))
      refine Cj.skip (Ej.blkNormal (Ej.seq (Cj.seq (Cj.region (J.z (yl_assign rfl rfl) ?_)))))
      refine J.z (yl_assign rfl rfl) ?_
      refine J.nil (Ej.seq (Cj.ret (Ej.keep (List.nil_sublist _) ?_)))
      refine Ej.ret2 rfl rfl rfl rfl ?_
      have he : Ke.isbn s = ([], false) := by unfold Ke.isbn Ke.isbnN; rw [if_neg hno, if_neg hno2]
      rw [he]
      exact ⟨rfl, rfl⟩
    ·
     have hno2 : ¬ ((Ke.norm s).length = 13 ∧ Ke.digits (Ke.norm s) = true ∧ Ke.check (Ke.norm s) = (Ke.norm s).getD 12 0) := fun e => ne_of_beq_false hg53 (by rw [e.1]; rfl)
     refine JA.tkS 4 3 39 true _ rfl fx52 rfl rfl (.inl (congrArg Value.bool hg53)) ?_
     refine JA.tkS 5 3 39 true _ rfl fx52 rfl rfl (.inl (congrArg Value.bool hg53)) ?_
     refine JA.tk 6 rfl fx52 (yl_pick0 rfl rfl hg53 rfl) ?_
     refine JA.tk 7 rfl fx52 (yl_move rfl rfl) ?_
     refine JA.tkS 8 7 43 true _ rfl fx52 rfl rfl (.inl (congrArg Value.bool rfl)) ?_
     refine JA.tkS 9 7 43 true _ rfl fx52 rfl rfl (.inl (congrArg Value.bool rfl)) ?_
     refine JA.tkS 10 7 43 true _ rfl fx52 rfl rfl (.inl (congrArg Value.bool rfl)) ?_
     refine JA.tkS 11 7 43 true _ rfl fx52 rfl rfl (.inl (congrArg Value.bool rfl)) ?_
     refine JA.tkS 12 7 43 true _ rfl fx52 rfl rfl (.inl (congrArg Value.bool rfl)) ?_
     refine JA.tk 13 rfl fx52 (yl_pick0 rfl rfl rfl rfl) ?_
     refine JA.tk 14 rfl fx52 (yl_assign rfl rfl) ?_
     refine JA.done (by kernel_rfl) ?_
     refine Ej.seq (Cj.cond rfl (fun hc59 => Bool.noConfusion (Eq.trans (Eq.symm rfl) hc59)) (fun hc59 => ?_))
     refine Cj.skip (Ej.blkNormal (Ej.seq (Cj.seq (Cj.region (J.z (yl_assign rfl rfl) ?_)))))
     refine J.z (yl_assign rfl rfl) ?_
     refine J.nil (Ej.seq (Cj.ret (Ej.keep (List.nil_sublist _) ?_)))
     refine Ej.ret2 rfl rfl rfl rfl ?_
     have he : Ke.isbn s = ([], false) := by unfold Ke.isbn Ke.isbnN; rw [if_neg hno, if_neg hno2]
     rw [he]
     exact ⟨rfl, rfl⟩
  ·
   have hno : ¬ ((Ke.norm s).length = 10 ∧ Ke.rightShort (Ke.norm s) = true) := fun e => ne_of_beq_false hg49 (by rw [e.1]; rfl)
   refine J.skip 3 21 22 true _ rfl rfl rfl hg49 rfl rfl ?_
   refine J.skip 3 21 23 true _ rfl rfl rfl hg49 rfl rfl ?_
   refine J.z (yl_pick0 rfl rfl hg49 rfl) ?_
   refine J.z (yl_assign rfl rfl) ?_
   refine J.nil (Ej.seq (Cj.cond rfl (fun hc60 => Bool.noConfusion (Eq.trans (Eq.symm rfl) hc60)) (fun hc60 => ?_)))
   refine Cj.seq (Cj.drawSel [] [] 15 (by kernel_rfl) ?_)
   refine JA.fix ⟨HSub.n, CSub.n, (Le.refl _)⟩ (fun fx61 => ?_)
   refine JA.tk 0 rfl fx61 (yl_move rfl rfl) ?_
   refine JA.tk 1 rfl fx61 (yl_lenStr rfl rfl Tryz.underlying9) ?_
   refine JA.tk 2 rfl fx61 (yl_eql rfl rfl rfl) ?_
   refine JA.tk 3 rfl fx61 (yl_move rfl rfl) ?_
   refine JA.split 39 rfl (fun hg62 => ?_) (fun hg62 => ?_)
   ·
    have h13 : (Ke.norm s).length = 13 := by have h := eq_of_beq hg62; omega
    refine JA.tkG 4 3 39 true _ rfl fx61 rfl rfl hg62 (yl_move rfl rfl) ?_
    refine JA.stepG 5 3 39 true _ (by kernel_rfl) rfl rfl rfl rfl hg62 (op_pure rfl rfl rfl rfl rfl (isDigits_ok (Ke.norm s) (by omega) _) ?_)
    refine ⟨⟨(Le.refl _), HSub.n, CSub.n⟩, ?_⟩
    refine JA.fix ⟨HSub.n, CSub.n, (Le.refl _)⟩ (fun fx63 => ?_)
    refine JA.tk 6 rfl fx63 (yl_pick1 rfl rfl hg62 rfl) ?_
    refine JA.tk 7 rfl fx63 (yl_move rfl rfl) ?_
    refine JA.split 43 rfl (fun hg64 => ?_) (fun hg64 => ?_)
    ·
     have hdg : Ke.digits (Ke.norm s) = true := hg64
     have hd13 : Ke.digits ((Ke.norm s).take 12) = true := List.all_eq_true.2 fun c hc => List.all_eq_true.1 hdg c (List.mem_of_mem_take hc)
     obtain ⟨c, hg12⟩ : ∃ c, (Ke.norm s)[12]? = some c := ⟨_, List.getElem?_eq_getElem (by omega)⟩
     have hgd : (Ke.norm s).getD 12 0 = c := by rw [List.getD, hg12]; rfl
     refine JA.tkG 8 7 43 true _ rfl fx63 rfl rfl hg64 (yl_move rfl rfl) ?_
     refine JA.tkG 10 7 43 true _ rfl fx63 rfl rfl hg64 (yl_move rfl rfl) ?_
     refine JA.tkG 11 7 43 true _ rfl fx63 rfl rfl hg64 (yl_index rfl rfl rfl Tryz.underlying9 (by omega) hg12) ?_
     refine JA.stepG 9 7 43 true _ (by kernel_rfl) rfl rfl rfl rfl hg64 (op_pure rfl rfl rfl rfl rfl (check_ok (Ke.norm s) (by omega) (by omega) hd13 _) ?_)
     refine ⟨⟨(Le.refl _), HSub.n, CSub.n⟩, ?_⟩
     refine JA.fix ⟨HSub.n, CSub.n, (Le.refl _)⟩ (fun fx65 => ?_)
     refine JA.tkG 12 7 43 true _ rfl fx65 rfl rfl hg64 (yl_eql rfl rfl rfl) ?_
     refine JA.tk 13 rfl fx65 (yl_pick1 rfl rfl hg64 rfl) ?_
     refine JA.tk 14 rfl fx65 (yl_assign rfl rfl) ?_
     refine JA.done (by kernel_rfl) ?_
     refine Ej.seq (Cj.cond rfl (fun hc66 => ?_) (fun hc66 => ?_))
     ·
      have hc66p := eq_of_beq hc66
      have hck : Ke.check (Ke.norm s) = (Ke.norm s).getD 12 0 := by have h := eq_of_beq hc66; rw [hgd]; exact UInt8.toNat_inj.1 (by omega)
      refine Cj.seq (Cj.region (J.z (yl_move rfl rfl) ?_))
      refine J.z (yl_assign rfl rfl) ?_
      refine J.z (yl_assign rfl rfl) ?_
      refine J.nil (Ej.seq (Cj.ret (Ej.blkRet (Ej.seqRet (Ej.keep (List.nil_sublist _) ?_)))))
      refine Ej.ret2 rfl rfl rfl rfl ?_
      have he : Ke.isbn s = (Ke.norm s, true) := by unfold Ke.isbn Ke.isbnN; rw [if_neg hno, if_pos ⟨h13, hdg, hck⟩]
      rw [he]
      exact ⟨rfl, rfl⟩
     ·
      have hc66p := ne_of_beq_false hc66
      have hno2 : ¬ ((Ke.norm s).length = 13 ∧ Ke.digits (Ke.norm s) = true ∧ Ke.check (Ke.norm s) = (Ke.norm s).getD 12 0) := fun e => ne_of_beq_false hc66 (by rw [e.2.2, hgd])
      refine Cj.skip (Ej.blkNormal (Ej.seq (Cj.seq (Cj.region (J.z (yl_assign rfl rfl) ?_)))))
      refine J.z (yl_assign rfl rfl) ?_
      refine J.nil (Ej.seq (Cj.ret (Ej.keep (List.nil_sublist _) ?_)))
      refine Ej.ret2 rfl rfl rfl rfl ?_
      have he : Ke.isbn s = ([], false) := by unfold Ke.isbn Ke.isbnN; rw [if_neg hno, if_neg hno2]
      rw [he]
      exact ⟨rfl, rfl⟩
    ·
     have hno2 : ¬ ((Ke.norm s).length = 13 ∧ Ke.digits (Ke.norm s) = true ∧ Ke.check (Ke.norm s) = (Ke.norm s).getD 12 0) := fun e => Bool.noConfusion (e.2.1.symm.trans hg64)
     refine JA.tkS 8 7 43 true _ rfl fx63 rfl rfl (.inl (congrArg Value.bool hg64)) ?_
     refine JA.tkS 9 7 43 true _ rfl fx63 rfl rfl (.inl (congrArg Value.bool hg64)) ?_
     refine JA.tkS 10 7 43 true _ rfl fx63 rfl rfl (.inl (congrArg Value.bool hg64)) ?_
     refine JA.tkS 11 7 43 true _ rfl fx63 rfl rfl (.inl (congrArg Value.bool hg64)) ?_
     refine JA.tkS 12 7 43 true _ rfl fx63 rfl rfl (.inl (congrArg Value.bool hg64)) ?_
     refine JA.tk 13 rfl fx63 (yl_pick0 rfl rfl hg64 rfl) ?_
     refine JA.tk 14 rfl fx63 (yl_assign rfl rfl) ?_
     refine JA.done (by kernel_rfl) ?_
     refine Ej.seq (Cj.cond rfl (fun hc67 => Bool.noConfusion (Eq.trans (Eq.symm rfl) hc67)) (fun hc67 => ?_))
     refine Cj.skip (Ej.blkNormal (Ej.seq (Cj.seq (Cj.region (J.z (yl_assign rfl rfl) ?_)))))
     refine J.z (yl_assign rfl rfl) ?_
     refine J.nil (Ej.seq (Cj.ret (Ej.keep (List.nil_sublist _) ?_)))
     refine Ej.ret2 rfl rfl rfl rfl ?_
     have he : Ke.isbn s = ([], false) := by unfold Ke.isbn Ke.isbnN; rw [if_neg hno, if_neg hno2]
     rw [he]
     exact ⟨rfl, rfl⟩
   ·
    have hno2 : ¬ ((Ke.norm s).length = 13 ∧ Ke.digits (Ke.norm s) = true ∧ Ke.check (Ke.norm s) = (Ke.norm s).getD 12 0) := fun e => ne_of_beq_false hg62 (by rw [e.1]; rfl)
    refine JA.tkS 4 3 39 true _ rfl fx61 rfl rfl (.inl (congrArg Value.bool hg62)) ?_
    refine JA.tkS 5 3 39 true _ rfl fx61 rfl rfl (.inl (congrArg Value.bool hg62)) ?_
    refine JA.tk 6 rfl fx61 (yl_pick0 rfl rfl hg62 rfl) ?_
    refine JA.tk 7 rfl fx61 (yl_move rfl rfl) ?_
    refine JA.tkS 8 7 43 true _ rfl fx61 rfl rfl (.inl (congrArg Value.bool rfl)) ?_
    refine JA.tkS 9 7 43 true _ rfl fx61 rfl rfl (.inl (congrArg Value.bool rfl)) ?_
    refine JA.tkS 10 7 43 true _ rfl fx61 rfl rfl (.inl (congrArg Value.bool rfl)) ?_
    refine JA.tkS 11 7 43 true _ rfl fx61 rfl rfl (.inl (congrArg Value.bool rfl)) ?_
    refine JA.tkS 12 7 43 true _ rfl fx61 rfl rfl (.inl (congrArg Value.bool rfl)) ?_
    refine JA.tk 13 rfl fx61 (yl_pick0 rfl rfl rfl rfl) ?_
    refine JA.tk 14 rfl fx61 (yl_assign rfl rfl) ?_
    refine JA.done (by kernel_rfl) ?_
    refine Ej.seq (Cj.cond rfl (fun hc68 => Bool.noConfusion (Eq.trans (Eq.symm rfl) hc68)) (fun hc68 => ?_))
    refine Cj.skip (Ej.blkNormal (Ej.seq (Cj.seq (Cj.region (J.z (yl_assign rfl rfl) ?_)))))
    refine J.z (yl_assign rfl rfl) ?_
    refine J.nil (Ej.seq (Cj.ret (Ej.keep (List.nil_sublist _) ?_)))
    refine Ej.ret2 rfl rfl rfl rfl ?_
    have he : Ke.isbn s = ([], false) := by unfold Ke.isbn Ke.isbnN; rw [if_neg hno, if_neg hno2]
    rw [he]
    exact ⟨rfl, rfl⟩
end Go.Proofs.YtadnofaleepkmaaGreatDoor
end
section
namespace Go.Sx
open Go Go.Sort Go.Proofs
theorem row_holds {w : World} {b : Nat} {T : TypeId} {l : List (List UInt8)} {sp : List Value} (h : w.heap[b]? = some (cel T (l.map str ++ sp))) : Holds encStr w b 0 l.toArray := fun j hj => by
  have hj' : j < l.length := by simpa using hj
  have h1 : (l.map str ++ sp)[j]? = some (str l[j]) := str_get (List.getElem?_eq_getElem hj')
  have h2 : l.toArray[j]! = l[j] := by rw [getElem!_pos _ j hj]; simp
  refine ⟨?_, ?_⟩
  · rw [h2]
    simp only [World.cell?, h, cel, Nat.zero_add]
    simpa [str] using h1
  · simp only [World.frozen?, h, cel]; simp
theorem row_put {l l' : List (List UInt8)} {sp : List Value} (hl : l'.length = l.length) : putCells encStr 0 l'.toArray (l.map str ++ sp).toArray = (l'.map str ++ sp).toArray := by
  apply Array.ext_getElem?
  intro k
  simp only [putCells, Array.getElem?_mapIdx, List.getElem?_toArray, List.size_toArray, Nat.zero_le, true_and, Nat.zero_add, Nat.sub_zero]
  rcases Nat.lt_or_ge k l.length with h | h
  · have h1 : (l.map str ++ sp)[k]? = some (str l[k]) := str_get (List.getElem?_eq_getElem h)
    have h2 : (l'.map str ++ sp)[k]? = some (str (l'[k]'(by omega))) := str_get (List.getElem?_eq_getElem (by omega))
    have h3 : l'.toArray[k]! = l'[k]'(by omega) := by rw [getElem!_pos _ k (by simpa using (by omega : k < l'.length))]; simp
    rw [h1, h2, Option.map_some, if_pos (by omega), h3]
    rfl
  · rw [List.getElem?_append_right (by simpa using h), List.getElem?_append_right (by simp; omega), List.length_map, List.length_map, hl]
    cases sp[k - l.length]? with
    | none => rfl
    | some v => rw [Option.map_some, if_neg (by omega)]
theorem St.row {w : World} {I : Heap} {b : Nat} {T : TypeId} {l l' : List (List UInt8)} {sp : List Value} (n : Nat) (os : Array Obj) (hr : Ready I [(b, cel T (l.map str ++ sp))] w) (hl : l'.length = l.length) :
    St w [b] I I [(b, cel T (l'.map str ++ sp))] (grow (putRow encStr (Sort.ahead w n) b 0 l'.toArray) os) := by
  obtain ⟨r1, r2, r3, r4⟩ := hr
  have hb := r2 _ (List.mem_singleton.2 rfl)
  have hlt : ∀ {c : Nat} {o' : Obj}, w.heap[c]? = some o' → c < w.heap.size := fun {c o'} hc => by
    rcases Nat.lt_or_ge c w.heap.size with h' | h'
    · exact h'
    · simp [Array.getElem?_eq_none h'] at hc
  have hsz : (putRow encStr (Sort.ahead w n) b 0 l'.toArray).heap.size = w.heap.size := by simp [putRow, mapBlock, Sort.ahead]
  have hother : ∀ c, c < w.heap.size → c ≠ b → (grow (putRow encStr (Sort.ahead w n) b 0 l'.toArray) os).heap[c]? = w.heap[c]? := fun c hc hne => by
    simp only [grow]
    rw [Array.getElem?_append_left (by omega)]
    simp only [putRow, mapBlock, Sort.ahead, Array.getElem?_modify, if_neg (Ne.symm hne)]
  have hown : (grow (putRow encStr (Sort.ahead w n) b 0 l'.toArray) os).heap[b]? = some (cel T (l'.map str ++ sp)) := by
    have hbl := hlt hb
    simp only [grow]
    rw [Array.getElem?_append_left (by omega)]
    simp only [putRow, mapBlock, Sort.ahead, Array.getElem?_modify, if_true]
    rw [hb]
    simp only [Option.map_some, onCells, cel]
    rw [row_put hl]
  refine ⟨rfl, rfl, rfl, ?_, ?_, ?_, ?_, by simp, ?_, ?_, fun _ _ => rfl, Le.refl _⟩
  · simp only [grow, Array.size_append]; omega
  · intro c hc hd
    exact hother c hc (by simpa using hd)
  · intro c o hc
    have h1 := r1 c o hc
    refine (hother c (hlt h1) ?_).trans h1
    rintro rfl
    have := r4 _ (List.mem_singleton.2 rfl)
    rw [this] at hc; cases hc
  · intro p hp
    rw [List.mem_singleton.1 hp]; exact hown
  · intro p hp
    rw [List.mem_singleton.1 hp]; exact r4 (b, cel T (l.map str ++ sp)) (List.mem_singleton.2 rfl)
  · intro p hp
    rw [List.mem_singleton.1 hp]; exact .inl (.head _)
end Go.Sx
end
section
namespace Go.Sx
open Go
theorem row_at {α : Type} {f : α → List Value} {n : Nat} (hf : ∀ x, (f x).length = n) {sp : List Value} : ∀ {l : List α} {k : Nat} {x : α}, l[k]? = some x → ((l.flatMap f ++ sp).drop (k * n)).take n = f x
  | [], _, _, h => by simp at h
  | y :: l, 0, x, h => by
    simp at h; subst h
    rw [Nat.zero_mul, List.drop_zero, List.flatMap_cons, List.append_assoc, ← hf y, List.take_left]
  | y :: l, k + 1, x, h => by
    have h' : l[k]? = some x := by simpa using h
    have := row_at hf (sp := sp) h'
    rw [List.flatMap_cons, List.append_assoc, show (k + 1) * n = (f y).length + k * n by rw [hf y, Nat.add_mul]; omega, ← List.drop_drop, List.drop_left]
    exact this
theorem row_cell {α : Type} {f : α → List Value} {n : Nat} (hf : ∀ x, (f x).length = n) {sp : List Value} {l : List α} {k : Nat} {x : α} (h : l[k]? = some x) (j : Nat) (hj : j < n) : (l.flatMap f ++ sp)[k * n + j]? = (f x)[j]? := by
  rw [← row_at hf (sp := sp) h, List.getElem?_take, if_pos hj, List.getElem?_drop]
theorem row_from {α : Type} {f : α → List Value} {n : Nat} (hf : ∀ x, (f x).length = n) {cs sp : List Value} {o : Nat} {l : List α} (h : cs.drop o = l.flatMap f ++ sp) {k : Nat} {x : α} (hx : l[k]? = some x) : (cs.drop (o + k * n)).take n = f x := by
  rw [← List.drop_drop, h]; exact row_at hf hx
theorem row_fcell {α : Type} {f : α → List Value} {n : Nat} (hf : ∀ x, (f x).length = n) {cs sp : List Value} {o : Nat} {l : List α} (h : cs.drop o = l.flatMap f ++ sp) {k : Nat} {x : α} (hx : l[k]? = some x) (j : Nat) (hj : j < n) : cs[o + k * n + j]? = (f x)[j]? := by
  rw [← row_cell hf (sp := sp) hx j hj, ← h, List.getElem?_drop, Nat.add_assoc]
/-- A slice of structs whose cells stand for good, or an empty one. -/
def RowS {α : Type} (f : α → List Value) (I : Heap) (l : List α) (v : Value) : Prop :=
  ∃ p c, v = .slice p l.length c ∧ l.length ≤ c ∧ (l ≠ [] → ∃ b o cs t fr sp, p = some ⟨b, o, none⟩ ∧ I b = some (.cells (List.toArray cs) t fr) ∧ cs.drop o = l.flatMap f ++ sp)
theorem RowS.mono {α : Type} {f : α → List Value} {I I' : Heap} {l : List α} {v : Value} (h : RowS f I l v) (hle : Le I I') : RowS f I' l v :=
  let ⟨p, c, h1, h2, h3⟩ := h; ⟨p, c, h1, h2, fun hn => let ⟨b, o, cs, t, fr, sp, h4, h5, h6⟩ := h3 hn; ⟨b, o, cs, t, fr, sp, h4, hle _ _ h5, h6⟩⟩
theorem RowS.of {α : Type} {f : α → List Value} {I : Heap} {l : List α} {T b c : Nat} {sp : List Value} (hc : l.length ≤ c) (hb : I b = some (cel T (l.flatMap f ++ sp))) : RowS f I l (.slice (some ⟨b, 0, none⟩) l.length c) :=
  ⟨_, c, rfl, hc, fun _ => ⟨b, 0, _, T, _, sp, rfl, hb, rfl⟩⟩
theorem RowS.nil {α : Type} {f : α → List Value} {I : Heap} : RowS f I ([] : List α) (.slice none 0 0) := ⟨none, 0, rfl, Nat.le_refl _, fun h => absurd rfl h⟩
theorem ne_nil_of {α : Type} {l : List α} {k : Nat} (h : k < l.length) : l ≠ [] := fun e => by rw [e] at h; simp at h
/-- What comes behind, shown once for all the ways that lead to it. -/
theorem Cj.join {cx : Cx} {Q : Qt} {x y : Code} {e : Env} {I : Heap} {H : HL} {ι : Type} (pre : ι → Prop) (env : ι → Env) (hp : ι → Heap) (hl : ι → HL) (k2 : ∀ i, pre i → Cj cx Q y (env i) (hp i) (hl i))
    (k1 : (∀ j e' I' H', pre j → Sub (env j) e' → hp j = I' → hl j = H' → Ej cx (Exit.then (y.wpIn cx.F 0 cx.P Q) Q) .normal e' I' H') → Cj cx (Exit.then (y.wpIn cx.F 0 cx.P Q) Q) x e I H) : Cj cx Q (.seq x y) e I H :=
  Cj.seq (k1 fun j e' I' H' hj hs hI hH => Ej.seq (by subst hI hH; exact Cj.weak hs (k2 j hj)))
/-- Two results, the second out of a variable of the call's own. -/
theorem Ej.retTC {cx : Cx} {fn : Func} {post : Ending → Heap → HL → Prop} {e : Env} {I : Heap} {H H' : HL} {t t2 T b n : Nat} {x : Value} {cs : List Value} {ty : TypeId} {fr : Nat × Nat} (hk : Keeps H' H) (hr : fn.results = #[.tmp t2, .cell t T]) (hds : cx.ds = []) (hv : eg e t = some (ptr b 0))
    (hb : Blk (SS I H) b (.cells cs.toArray ty fr)) (ha0 : ∀ w, (isAgg T).run cx.P w = .ok true w) (hsz : ∀ w, (sizeOf T).run cx.P w = .ok n w) (hn : cs.length = n) (hx : eg e t2 = some x) (hp : post (.returned (.tuple #[x, .agg cs.toArray])) I H') :
    Ej cx (bodyPost cx.P fn (RR cx.w0 cx.D cx.I0 post)) .ret e I H := by
  intro a w ha hs
  refine ⟨ha.defs.trans hds, _, ?_, I, H', hs.sublist hk, hp⟩
  have h1 := ha.get t _ hv
  have h3 := ha.get t2 _ hx
  have hc : ∀ j v, cs[j]? = some v → w.cell? ((⟨b, 0, none⟩ : Addr).add j) = some v := fun j v hj => by
    rw [Addr.add_lit]; exact cell_of_heap (hb w hs.ss) (by simpa using hj)
  have h2 := run_loadCells_list (P := cx.P) (w := w) ⟨b, 0, none⟩ cs hc
  rw [hn] at h2
  simp [results, hr, h1, h3, asAddr, loadVar, ha0, hsz, h2]
end Go.Sx
end
section
namespace Ke
/-! ### Rows in order -/
abbrev Row := List Bs
def pg (s : Bs) : Bool → Row → Row
  | true, [] => []
  | false, [] => [s]
  | d, x :: r => if s < x ∧ d = false then s :: x :: pg s true r else x :: pg s d r
def put (l : Row) (s : Bs) : Row := if s ∈ l then l else pg s false l
def Inc (l : Row) : Prop := l.Pairwise (· < ·)
theorem pg_true (s : Bs) : ∀ l, pg s true l = l
  | [] => rfl
  | x :: r => by unfold pg; rw [if_neg (by simp), pg_true s r]
theorem pg_mem (s : Bs) : ∀ (l : Row) (x : Bs), x ∈ pg s false l ↔ x = s ∨ x ∈ l
  | [], x => by simp [pg]
  | y :: r, x => by
    unfold pg
    by_cases h : s < y
    · rw [if_pos ⟨h, rfl⟩, pg_true]; simp
    · rw [if_neg (fun e => h e.1), List.mem_cons, pg_mem s r x, List.mem_cons]
      constructor
      · rintro (h | h | h) <;> simp [h]
      · rintro (h | h | h) <;> simp [h]
theorem lt_of {a b : Bs} (h : ¬ b < a) (hne : a ≠ b) : a < b := by
  have h1 : a ≤ b := List.not_lt.1 h
  rcases Decidable.em (a < b) with h2 | h2
  · exact h2
  · exact absurd (List.le_antisymm h1 (List.not_lt.1 h2)) hne
theorem pg_inc (s : Bs) : ∀ {l : Row}, Inc l → s ∉ l → Inc (pg s false l)
  | [], _, _ => by simp [pg, Inc]
  | y :: r, hl, hn => by
    have hl' := List.pairwise_cons.1 hl
    unfold pg
    by_cases h : s < y
    · rw [if_pos ⟨h, rfl⟩, pg_true]
      refine List.pairwise_cons.2 ⟨fun z hz => ?_, hl⟩
      rcases List.mem_cons.1 hz with rfl | hz
      · exact h
      · exact List.lt_trans h (hl'.1 z hz)
    · rw [if_neg (fun e => h e.1)]
      refine List.pairwise_cons.2 ⟨fun z hz => ?_, pg_inc s hl'.2 fun e => hn (.tail _ e)⟩
      rcases (pg_mem s r z).1 hz with rfl | hz
      · exact lt_of h fun e => hn (e ▸ .head _)
      · exact hl'.1 z hz
theorem put_mem (l : Row) (s x : Bs) : x ∈ put l s ↔ x = s ∨ x ∈ l := by
  unfold put
  split
  · rename_i h
    exact ⟨.inr, fun e => e.elim (fun e => e ▸ h) id⟩
  · exact pg_mem s l x
theorem put_inc {l : Row} (s : Bs) (h : Inc l) : Inc (put l s) := by
  unfold put
  split
  · exact h
  · rename_i hn; exact pg_inc s h hn
theorem puts_inc : ∀ (xs : Row) {l : Row}, Inc l → Inc (xs.foldl put l)
  | [], _, h => h
  | x :: r, _, h => puts_inc r (put_inc x h)
theorem puts_mem : ∀ (xs l : Row) (x : Bs), x ∈ xs.foldl put l ↔ x ∈ xs ∨ x ∈ l
  | [], _, _ => by simp
  | y :: r, l, x => by
    rw [List.foldl_cons, puts_mem r, put_mem, List.mem_cons]
    constructor
    · rintro (h | h | h) <;> simp [h]
    · rintro ((h | h) | h) <;> simp [h]
theorem inc_eq : ∀ {a b : Row}, Inc a → Inc b → (∀ x, x ∈ a ↔ x ∈ b) → a = b
  | [], [], _, _, _ => rfl
  | [], y :: _, _, _, h => absurd ((h y).2 (.head _)) (by simp)
  | x :: _, [], _, _, h => absurd ((h x).1 (.head _)) (by simp)
  | x :: r, y :: t, ha, hb, h => by
    have ha' := List.pairwise_cons.1 ha
    have hb' := List.pairwise_cons.1 hb
    have hxy : x = y := by
      rcases List.mem_cons.1 ((h x).1 (.head _)) with e | e
      · exact e
      · rcases List.mem_cons.1 ((h y).2 (.head _)) with e2 | e2
        · exact e2.symm
        · exact absurd (List.lt_trans (hb'.1 x e) (ha'.1 y e2)) (List.lt_irrefl _)
    subst hxy
    rw [inc_eq ha'.2 hb'.2 fun z => ⟨fun hz => ?_, fun hz => ?_⟩]
    · rcases List.mem_cons.1 ((h z).1 (.tail _ hz)) with rfl | e
      · exact absurd (ha'.1 z hz) (List.lt_irrefl _)
      · exact e
    · rcases List.mem_cons.1 ((h z).2 (.tail _ hz)) with rfl | e
      · exact absurd (hb'.1 z hz) (List.lt_irrefl _)
      · exact e
open Go.Lib in
theorem compact_part (d : Array Bs) (hs : ∀ i j, i < j → j < d.size → d[i]! ≤ d[j]!) : ∀ m, m ≤ d.size → Inc (compactUpTo d m) ∧ ∀ x, x ∈ compactUpTo d m ↔ ∃ j, j < m ∧ x = d[j]!
  | 0, _ => ⟨List.Pairwise.nil, fun x => by simp [compactUpTo]⟩
  | m + 1, hm => by
    obtain ⟨h1, h2⟩ := compact_part d hs m (by omega)
    rw [compactUpTo_succ]
    by_cases hk : keeps d m = true
    · rw [if_pos hk]
      refine ⟨List.pairwise_append.2 ⟨h1, List.pairwise_singleton _ _, fun a ha b hb => ?_⟩, fun x => ?_⟩
      · rw [List.mem_singleton.1 hb]
        obtain ⟨j, hj, rfl⟩ := (h2 a).1 ha
        have hk' : m = 0 ∨ d[m]! ≠ d[m - 1]! := of_decide_eq_true hk
        have hne := hk'.resolve_left (by omega)
        have h3 : d[m - 1]! ≤ d[m]! := hs _ _ (by omega) (by omega)
        have h4 : d[m - 1]! < d[m]! := lt_of (List.not_lt.2 h3) hne.symm
        rcases Nat.lt_or_ge j (m - 1) with h | h
        · have h5 : d[j]! ≤ d[m - 1]! := hs _ _ h (by omega)
          exact List.lt_of_le_of_lt h5 h4
        · have : j = m - 1 := by omega
          rw [this]; exact h4
      · rw [List.mem_append, h2, List.mem_singleton]
        constructor
        · rintro (⟨j, hj, rfl⟩ | rfl)
          · exact ⟨j, by omega, rfl⟩
          · exact ⟨m, by omega, rfl⟩
        · rintro ⟨j, hj, rfl⟩
          rcases Nat.lt_or_ge j m with h | h
          · exact .inl ⟨j, h, rfl⟩
          · have : j = m := by omega
            exact .inr (by rw [this])
    · rw [if_neg hk, List.append_nil]
      refine ⟨h1, fun x => (h2 x).trans ⟨fun ⟨j, hj, e⟩ => ⟨j, by omega, e⟩, fun ⟨j, hj, e⟩ => ?_⟩⟩
      rcases Nat.lt_or_ge j m with h | h
      · exact ⟨j, h, e⟩
      · have hk' : ¬ (m = 0 ∨ d[m]! ≠ d[m - 1]!) := fun e => hk (decide_eq_true e)
        have hjm : j = m := by omega
        subst hjm
        have h5 : d[j]! = d[j - 1]! := Decidable.not_not.1 fun e => hk' (.inr e)
        have h6 : j ≠ 0 := fun e => hk' (.inl e)
        exact ⟨j - 1, by omega, e.trans h5⟩
/-- Sorted, each once: as if put in one by one. -/
theorem compact_sorted (l : Row) : Go.Lib.compact (l.mergeSort fun x y => decide (x ≤ y)) = l.foldl put [] := by
  have hp : (l.mergeSort fun x y => decide (x ≤ y)).Pairwise (fun a b => decide (a ≤ b) = true) :=
    List.pairwise_mergeSort (le := fun x y : Bs => decide (x ≤ y)) (fun a b c h1 h2 => decide_eq_true (List.le_trans (of_decide_eq_true h1) (of_decide_eq_true h2))) (fun a b => by
      rcases List.le_total a b with h | h <;> simp [h]) l
  have hc := compact_part (l.mergeSort fun x y => decide (x ≤ y)).toArray (fun i j hij hj => by
    have hj' : j < (l.mergeSort fun x y => decide (x ≤ y)).length := by simpa using hj
    have hi' : i < (l.mergeSort fun x y => decide (x ≤ y)).toArray.size := Nat.lt_trans hij hj
    rw [getElem!_pos _ i hi', getElem!_pos _ j hj]
    simp only [List.getElem_toArray]
    exact of_decide_eq_true (List.pairwise_iff_getElem.1 hp i j (by omega) hj' hij)) _ (Nat.le_refl _)
  refine inc_eq ?_ (puts_inc l List.Pairwise.nil) fun x => ?_
  · unfold Go.Lib.compact
    simpa using hc.1
  · have h2 := hc.2 x
    simp only [List.size_toArray] at h2
    unfold Go.Lib.compact
    rw [h2, puts_mem]
    have hm : x ∈ l ↔ x ∈ l.mergeSort fun x y => decide (x ≤ y) := List.mem_mergeSort.symm
    rw [show (x ∈ l ∨ x ∈ []) = (x ∈ l) by simp, hm, List.mem_iff_getElem]
    constructor
    · rintro ⟨j, hj, rfl⟩
      refine ⟨j, hj, ?_⟩
      rw [getElem!_pos _ j (by simpa using hj)]; simp
    · rintro ⟨j, hj, rfl⟩
      refine ⟨j, hj, ?_⟩
      rw [getElem!_pos _ j (by simpa using hj)]; simp
/-! ### Records -/
structure Sub where
  code : UInt8
  text : Bs
/-- A field, with the value that stands for its subfields. -/
structure Fld where
  tag : Bs
  ind : Bs
  data : Bs
  sv : Go.Value
  subs : List Sub
def zf : Fld := ⟨[], [], [], .slice none 0 0, []⟩
def find (fs : List Fld) (tag : Bs) : Option Fld := fs.find? fun f => decide (f.tag = tag)
def first (fs : List Fld) (tag : Bs) : Fld := (find fs tag).getD zf
def texts (f : Fld) (codes : Bs) : Row := (f.subs.filter fun s => codes.contains s.code).map (·.text)
def textOf (f : Fld) (codes : Bs) : Bs := join (texts f codes)
def skip (f : Fld) : Nat := match f.ind[1]? with
  | some c => if digit c then c.toNat - 48 else 0
  | none => 0
def title (fs : List Fld) : Bs := sortKey (textOf (first fs [50, 52, 53]) [97, 98]) (skip (first fs [50, 52, 53]))
def isbnPre : Bs := [105, 115, 98, 110, 32]
def book (s : Sub) : Option Bs := if (isbn s.text).2 = true ∧ s.code = 97 then some (isbnPre ++ (isbn s.text).1) else none
def books (f : Fld) : Row := if f.tag = [48, 50, 48] then f.subs.filterMap book else []
def titles (fs : List Fld) : Row := if title fs = [] then [] else [[116, 105, 116, 108, 101, 32] ++ title fs ++ [32, 47, 32] ++ ((words (textOf (first fs [49, 48, 48]) [97])).head?.getD [])]
def raw (fs : List Fld) : Row := fs.flatMap books ++ titles fs
def all (fs : List Fld) : Row := (raw fs).foldl put []
end Ke
end
section
namespace Go.Proofs.YtadnofaleepkmaaGreatDoor
open Go Go.Sx
def subC (s : Ke.Sub) : List Value := [u8 s.code, str s.text]
def fldC (f : Ke.Fld) : List Value := [str f.tag, str f.ind, str f.data, f.sv]
theorem subC_len (s : Ke.Sub) : (subC s).length = 2 := rfl
theorem fldC_len (f : Ke.Fld) : (fldC f).length = 4 := rfl
/-- A record's fields, as they lie in blocks that stand for good. -/
def RecS (I : Heap) (fs : List Ke.Fld) (v : Value) : Prop := RowS fldC I fs v ∧ ∀ f ∈ fs, RowS subC I f.subs f.sv
theorem RecS.mono {I I' : Heap} {fs : List Ke.Fld} {v : Value} (h : RecS I fs v) (hle : Le I I') : RecS I' fs v := ⟨h.1.mono hle, fun f hf => (h.2 f hf).mono hle⟩
def recV (k l : UInt8) (v : Value) : Value := .agg #[u8 k, u8 l, v]
def textsLen (ss : List Ke.Sub) : Nat := (ss.map (·.text.length)).sum
def FOK (fs : List Ke.Fld) : Prop := fs.length ≤ 2000000 ∧ ∀ f ∈ fs, f.subs.length ≤ 2000000 ∧ textsLen f.subs ≤ 2000000 ∧ f.ind.length ≤ 2000000
theorem find_none {fs : List Ke.Fld} {tag : List UInt8} (h : ∀ f ∈ fs, f.tag ≠ tag) : Ke.find fs tag = none := List.find?_eq_none.2 fun f hf => by simp [h f hf]
theorem find_some {fs : List Ke.Fld} {tag : List UInt8} {k : Nat} {f : Ke.Fld} (h : ∀ g ∈ fs.take k, g.tag ≠ tag) (hf : fs[k]? = some f) (ht : f.tag = tag) : Ke.find fs tag = some f := by
  obtain ⟨hlt, hg⟩ := List.getElem?_eq_some_iff.1 hf
  unfold Ke.find
  rw [List.find?_eq_some_iff_append]
  refine ⟨decide_eq_true ht, fs.take k, fs.drop (k + 1), ?_, fun g hg' => by simp [h g hg']⟩
  rw [← hg, List.getElem_cons_drop, List.take_append_drop]
/-- Where the first field with a tag is. -/
def foundAt (fs : List Ke.Fld) (tag : List UInt8) (n : Int) : Prop := (n = -1 ∧ Ke.find fs tag = none) ∨ ∃ (k : Nat) (f : Ke.Fld), n = k ∧ fs[k]? = some f ∧ Ke.find fs tag = some f
theorem tags_next {fs : List Ke.Fld} {tag : List UInt8} {k : Nat} {f : Ke.Fld} (h : ∀ g ∈ fs.take k, g.tag ≠ tag) (hf : fs[k]? = some f) (ht : f.tag ≠ tag) : ∀ g ∈ fs.take (k + 1), g.tag ≠ tag := fun g hg => by
  obtain ⟨hlt, hg'⟩ := List.getElem?_eq_some_iff.1 hf
  rw [List.take_succ_eq_append_getElem hlt, List.mem_append, List.mem_singleton] at hg
  rcases hg with hg | rfl
  · exact h g hg
  · rw [hg']; exact ht
set_option maxRecDepth 20000 in
theorem text1_ok (f : Ke.Fld) (tb : Nat) (tag : List UInt8) (I : Heap) (htb : I tb = some (cel 9 [str tag])) : Pure Tryz.prog 76 [.agg (fldC f).toArray, ptr tb 0] I (.bool (f.tag == tag)) := by
 refine Ctr.of_body Tryz.func76 rfl (by decide) (Nat.le_of_ble_eq_true rfl) ?_
 intro w0 hw0
 refine Cj.seq (Cj.region (J.op rfl (op_box rfl rfl rfl rfl rfl ?_)))
 intro b1 hb1
 refine J.z (yl_assign rfl rfl) ?_
 refine J.nil (Ej.seq (Cj.seq (Cj.region (J.z (yl_fieldAddr (off' := 0) rfl rfl Tryz.underlying35 rfl Tryz.sizeOf9 rfl) ?_))))
 refine J.z (yl_load rfl rfl Tryz.isAgg9 (Blk.at 0 rfl) rfl) ?_
 refine J.z (yl_load rfl rfl Tryz.isAgg9 (Blk.imm htb) rfl) ?_
 refine J.z (yl_eqlStr rfl rfl rfl) ?_
 refine J.z (yl_assign rfl rfl) ?_
 refine J.nil (Ej.seq (Cj.ret (Ej.bare ?_)))
 refine Ej.ret1 rfl rfl rfl ?_
 exact ⟨rfl, rfl, rfl⟩
set_option maxRecDepth 20000 in
theorem IndexFuncF_ok (fs : List Ke.Fld) (v : Value) (hfs : fs.length ≤ 2000000) (tb : Nat) (tag : List UInt8) (I : Heap) (hr : RecS I fs v) (htb : I tb = some (cel 9 [str tag])) : Ctr Tryz.prog 75 [v, .func (.func 76) #[] #[ptr tb 0]] I []
    (fun e _I' H' => ∃ n, e = .returned (i64 n) ∧ foundAt fs tag n ∧ H' = []) := by
 obtain ⟨⟨p, c, rfl, hc, hp⟩, hsub⟩ := hr
 refine Ctr.of_body Tryz.func75 rfl (by decide) (Nat.le_of_ble_eq_true rfl) ?_
 intro w0 hw0
 refine Cj.seq (Cj.region (J.z (yl_assign rfl rfl) ?_))
 refine J.nil (Ej.seq (Cj.seq (Cj.seq (Cj.region (J.z (yl_move rfl rfl) ?_)))))
 refine J.z (yl_lenSlice rfl rfl Tryz.underlying23) ?_
 refine J.z (yl_move rfl rfl) ?_
 refine J.nil (Ej.seq (Cj.block (Cj.loop (ι := Nat) (fun j => j ≤ fs.length ∧ ∀ g ∈ fs.take j, g.tag ≠ tag) (fun j => fs.length - j) (fun j => [(0, .slice p fs.length c), (1, .func (.func 76) #[] #[ptr tb 0]), (7, i64 (fs.length : Int)), (8, i64 (j : Int))]) (fun j => I) (fun j => []) 0 ⟨Nat.zero_le _, fun g hg => by simp at hg⟩ ⟨rfl, rfl, rfl, rfl, trivial⟩ rfl rfl ?_)))
 rintro j ⟨hj, hall⟩
 refine Cj.seq (Cj.region (J.z (yl_lss rfl rfl rfl) ?_))
 refine J.nil (Ej.seq (Cj.seq (Cj.cond rfl (fun hc1 => ?_) (fun hc1 => ?_))))
 ·
  have hc1p := of_decide_eq_true hc1
  have hlt : j < fs.length := by omega
  obtain ⟨f, hget⟩ : ∃ f, fs[j]? = some f := ⟨_, List.getElem?_eq_getElem hlt⟩
  obtain ⟨fb, fo, fcs, fty, ffr, sp, rfl, hfb, hfd⟩ := hp (ne_nil_of hlt)
  refine Cj.skip (Ej.seq (Cj.seq (Cj.block (Cj.seq (Cj.region (J.z (yl_move rfl rfl) ?_))))))
  refine J.z (yl_assign rfl rfl) ?_
  refine J.nil (Ej.seq (Cj.seq (Cj.region (J.z (yl_move rfl rfl) ?_))))
  refine J.z (yl_move rfl rfl) ?_
  refine J.z (yl_move rfl rfl) ?_
  refine J.z (yl_indexAddr (off' := fo + j * 4) rfl rfl rfl Tryz.underlying23 Tryz.sizeOf35 (by omega) (by omega) (by simp)) ?_
  refine J.z (yl_loadAgg rfl rfl Tryz.isAgg35 Tryz.sizeOf35 (Blk.imm hfb) (row_from fldC_len hfd hget) rfl) ?_
  refine J.op rfl (op_pure rfl rfl rfl rfl rfl (text1_ok f tb tag _ htb) ?_)
  refine J.nil (Ej.seq (Cj.cond rfl (fun hc2 => ?_) (fun hc2 => ?_)))
  ·
   have ht : f.tag = tag := eq_of_beq hc2
   refine Cj.seq (Cj.region (J.z (yl_move rfl rfl) ?_))
   refine J.z (yl_assign rfl rfl) ?_
   refine J.nil (Ej.seq (Cj.ret (Ej.blkRet (Ej.seqRet (Ej.loopRet (Ej.blkRet (Ej.seqRet (Ej.ret1 rfl rfl rfl ?_))))))))
   exact ⟨_, rfl, .inr ⟨j, f, rfl, hget, find_some hall hget ht⟩, rfl⟩
  ·
   have hnt : f.tag ≠ tag := ne_of_beq_false hc2
   refine Cj.skip (Ej.blkNormal (Ej.seq (Cj.region (J.z (yl_add rfl rfl rfl (w64 (by omega))) ?_))))
   refine J.z (yl_move rfl rfl) ?_
   refine J.nil (Ej.round (j + 1) ⟨by omega, tags_next hall hget hnt⟩ (by omega) ⟨rfl, rfl, rfl, rfl, trivial⟩ rfl rfl)
 ·
  have hc1p := of_decide_eq_false hc1
  have hfull : fs.take j = fs := List.take_of_length_le (by omega)
  rw [hfull] at hall
  refine Cj.exit (Ej.seqExit (Ej.loopExit (Ej.blkExit (Ej.seq (Cj.seq (Cj.region (J.z (yl_assign rfl rfl) ?_)))))))
  refine J.nil (Ej.seq (Cj.ret (Ej.ret1 rfl rfl rfl ?_)))
  exact ⟨_, rfl, .inl ⟨rfl, find_none hall⟩, rfl⟩
theorem fldC_one {f : Ke.Fld} {p : Option Addr} {n c : Nat} (h : f.sv = .slice p n c) : (fldC f).all Value.oneCell' = true := by
  unfold fldC; rw [h]; rfl
def tx (codes : List UInt8) (ss : List Ke.Sub) : List (List UInt8) := (ss.filter fun s => codes.contains s.code).map (·.text)
theorem tx_next {codes : List UInt8} {ss : List Ke.Sub} {k : Nat} {s : Ke.Sub} (h : ss[k]? = some s) : tx codes (ss.take (k + 1)) = tx codes (ss.take k) ++ (if codes.contains s.code then [s.text] else []) := by
  obtain ⟨hlt, hg⟩ := List.getElem?_eq_some_iff.1 h
  unfold tx
  rw [List.take_succ_eq_append_getElem hlt, hg, List.filter_append, List.map_append]
  by_cases hc : codes.contains s.code = true
  · rw [if_pos hc, List.filter_cons_of_pos (p := fun s : Ke.Sub => codes.contains s.code) hc]; rfl
  · rw [if_neg hc, List.filter_cons_of_neg (p := fun s : Ke.Sub => codes.contains s.code) hc]; rfl
theorem tx_len (codes : List UInt8) (ss : List Ke.Sub) : (tx codes ss).length ≤ ss.length := by
  unfold tx; rw [List.length_map]; exact List.length_filter_le _ _
theorem join_len : ∀ l : List (List UInt8), (Ke.join l).length ≤ (l.map List.length).sum + l.length
  | [] => by simp [Ke.join]
  | [a] => by simp [Ke.join]
  | a :: b :: r => by
    have := join_len (b :: r)
    simp only [Ke.join, List.length_append, List.map_cons, List.sum_cons, List.length_cons, List.length_nil] at this ⊢
    omega
theorem tx_sum (codes : List UInt8) : ∀ ss : List Ke.Sub, ((tx codes ss).map List.length).sum ≤ textsLen ss
  | [] => by simp [tx]
  | s :: r => by
    have := tx_sum codes r
    unfold tx textsLen at this ⊢
    rw [List.filter_cons]
    split
    · simp only [List.map_cons, List.sum_cons]; omega
    · simp only [List.map_cons, List.sum_cons]; omega
theorem textOf_len (f : Ke.Fld) (codes : List UInt8) : (Ke.textOf f codes).length ≤ textsLen f.subs + f.subs.length := by
  have h1 := join_len (tx codes f.subs); have h2 := tx_sum codes f.subs; have h3 := tx_len codes f.subs
  have : Ke.textOf f codes = Ke.join (tx codes f.subs) := rfl
  rw [this]; omega
theorem index_has (l : List UInt8) (c : UInt8) : decide (0 ≤ Lib.indexByte l c) = l.contains c := by
  induction l with
  | nil => rfl
  | cons d r ih =>
    rw [Lib.indexByte, List.contains_cons]
    simp only [beq_iff_eq]
    by_cases h : d = c
    · subst h; simp
    · rw [if_neg h, show (c == d) = false from beq_eq_false_iff_ne.2 (Ne.symm h), Bool.false_or, ← ih]
      by_cases h0 : Lib.indexByte r c < 0
      · have : ¬ 0 ≤ Lib.indexByte r c := by omega
        rw [decide_eq_false this]
        exact decide_eq_false (by split <;> omega)
      · have : 0 ≤ Lib.indexByte r c := by omega
        rw [decide_eq_true this]
        exact decide_eq_true (by split <;> omega)
set_option maxRecDepth 20000 in
theorem text_ok (fs : List Ke.Fld) (v : Value) (rk rl : UInt8) (tag codes : List UInt8) (hok : FOK fs) (I : Heap) (hr : RecS I fs v) : Ctr Tryz.prog 43 [recV rk rl v, str tag, str codes] I []
    (fun e _I' H' => e = .returned (.tuple #[str (Ke.textOf (Ke.first fs tag) codes), .agg (fldC (Ke.first fs tag)).toArray]) ∧ H' = []) := by
 have hfs := hok.1
 refine Ctr.of_body Tryz.func43 rfl (by decide) (Nat.le_of_ble_eq_true rfl) ?_
 intro w0 hw0
 refine Cj.seq (Cj.region (J.op rfl (op_box rfl rfl rfl rfl rfl ?_)))
 intro b1 hb1
 refine J.op rfl (op_box rfl rfl rfl rfl rfl ?_)
 intro b2 hb2
 refine J.z (yl_assign rfl rfl) ?_
 refine J.op rfl (op_alloc rfl rfl rfl Tryz.zeroValue35 rfl ?_)
 intro b3 hb3
 refine J.nil (Ej.seq (Cj.seq (Cj.pull (Pull.s Pull.z) ?_)))
 refine Cj.persist hb2 (fun I9 hle9 htb => ?_)
 have hr := hr.mono hle9
 refine Cj.region (J.z (yl_fieldAddr (off' := 2) rfl rfl Tryz.underlying26 rfl Tryz.sizeOf23 rfl) ?_)
 refine J.z (yl_load rfl rfl Tryz.isAgg23 (Blk.at 1 rfl) rfl) ?_
 refine J.z (yl_makeFunc rfl rfl rfl) ?_
 refine J.op rfl (op_call (H1 := []) rfl rfl rfl rfl rfl (IndexFuncF_ok fs v hfs b2 tag _ hr htb) ?_ (fun _ _ _ _ h => by obtain ⟨_, h, _⟩ := h; cases h) (fun _ _ h => by obtain ⟨_, h, _⟩ := h; cases h))
 intro v4 I5 H6 hle7 hp8
 have hr := hr.mono hle7
 have htb := hle7 _ _ htb
 obtain ⟨n, h, hn, rfl⟩ := hp8; cases h
 refine J.z (yl_assign rfl rfl) ?_
 refine J.nil (Ej.seq (Cj.seq (Cj.seq (Cj.region (J.z (yl_move rfl rfl) ?_)))))
 refine J.z (yl_lss rfl rfl rfl) ?_
 refine J.nil (Ej.seq (Cj.cond rfl (fun hc9 => ?_) (fun hc9 => ?_)))
 ·
  have hc9p := of_decide_eq_true hc9
  have hn0 := of_decide_eq_true hc9
  have hfind : Ke.find fs tag = none := (hn.resolve_right (fun ⟨k, f, h, _⟩ => by rw [h] at hn0; omega)).2
  refine Cj.seq (Cj.region (J.z (yl_buildS (pl := #[(0, 1), (1, 1), (2, 1), (3, 1)]) rfl rfl Tryz.zeroValue35 rfl Tryz.underlying35 (fun w => by simp [Tryz.sizeOf33, Tryz.sizeOf9]) LBld.none) ?_))
  refine J.z (yl_assign rfl rfl) ?_
  refine J.op rfl (op_store 0 rfl rfl rfl rfl rfl rfl Tryz.sizeOf35 rfl rfl (LSpl.c (LSpl.c (LSpl.c (LSpl.c LSpl.z)))) LSet.z ?_)
  refine J.nil (Ej.seq (Cj.ret (Ej.seqRet ?_)))
  have hfirst : Ke.first fs tag = Ke.zf := by unfold Ke.first; rw [hfind]; rfl
  rw [hfirst]
  refine Ej.retTC (Keeps.d (Keeps.d Keeps.n)) rfl rfl rfl (Blk.at 0 rfl) Tryz.isAgg35 Tryz.sizeOf35 rfl rfl ?_
  exact ⟨rfl, rfl⟩
 ·
  have hc9p := of_decide_eq_false hc9
  have hn0 := of_decide_eq_false hc9
  obtain ⟨k, f, rfl, hget, hfind⟩ := hn.resolve_left (fun h => hn0 (by rw [h.1]; decide))
  have hfm := List.mem_of_getElem? hget
  have hklt := (List.getElem?_eq_some_iff.1 hget).1
  have hsub := hr.2 f hfm
  have hfk := hok.2 f hfm
  obtain ⟨⟨p, c, rfl, hc, hp⟩, -⟩ := hr
  obtain ⟨fb, fo, fcs, fty, ffr, sp, rfl, hfb, hfd⟩ := hp (ne_nil_of hklt)
  obtain ⟨p2, c2, hsv, hc2, hp2⟩ := hsub
  refine Cj.skip (Ej.seq (Cj.seq (Cj.region (J.z (yl_assign rfl rfl) ?_))))
  refine J.nil (Ej.seq (Cj.seq (Cj.seq (Cj.region (J.z (yl_fieldAddr (off' := 2) rfl rfl Tryz.underlying26 rfl Tryz.sizeOf23 rfl) ?_)))))
  refine J.z (yl_load rfl rfl Tryz.isAgg23 (Blk.at 1 rfl) rfl) ?_
  refine J.z (yl_move rfl rfl) ?_
  refine J.z (yl_indexAddr (off' := fo + k * 4) rfl rfl rfl Tryz.underlying23 Tryz.sizeOf35 (by omega) (by omega) (by simp)) ?_
  refine J.z (yl_fieldAddr rfl rfl Tryz.underlying35 rfl Tryz.sizeOf33 rfl) ?_
  refine J.z (yl_load rfl rfl Tryz.isAgg33 (Blk.imm hfb) (row_fcell fldC_len hfd hget 3 (by decide))) ?_
  refine J.eqv 24 rfl (show _ = .slice p2 f.subs.length c2 from hsv) ?_
  refine J.z (yl_lenSlice rfl rfl Tryz.underlying33) ?_
  refine J.z (yl_move rfl rfl) ?_
  refine J.nil (Ej.seq (Cj.block (Cj.loop (ι := Nat × Gs) (fun j => j.1 ≤ f.subs.length ∧ gOk w0.heap.size 1 (tx codes (f.subs.take j.1)).length ((tx codes (f.subs.take j.1)).map str) j.2) (fun j => f.subs.length - j.1) (fun j => [(2, str codes), (3, ptr b1 0), (7, ptr b3 0), (8, i64 (k : Int)), (9, gV (tx codes (f.subs.take j.1)).length j.2), (24, .slice p2 f.subs.length c2), (25, i64 (f.subs.length : Int)), (26, i64 (j.1 : Int))]) (fun j => _) (fun j => (b3, cel 35 (fldC Ke.zf)) :: (b1, cel 26 [u8 rk, u8 rl, .slice (some ⟨fb, fo, none⟩) fs.length c]) :: gH 9 ((tx codes (f.subs.take j.1)).map str) j.2) (0, none) ⟨Nat.zero_le _, rfl, rfl⟩ ⟨rfl, rfl, rfl, rfl, rfl, rfl, rfl, rfl, trivial⟩ rfl rfl ?_)))
  rintro ⟨j, g⟩ ⟨hj, hg⟩
  dsimp only at hj hg ⊢
  have htl := tx_len codes (f.subs.take j)
  rw [List.length_take, Nat.min_eq_left hj] at htl
  refine Cj.seq (Cj.region (J.z (yl_lss rfl rfl rfl) ?_))
  refine J.nil (Ej.seq (Cj.seq (Cj.cond rfl (fun hc10 => ?_) (fun hc10 => ?_))))
  ·
   have hc10p := of_decide_eq_true hc10
   have hlt : j < f.subs.length := by omega
   obtain ⟨sb, hsget⟩ : ∃ x, f.subs[j]? = some x := ⟨_, List.getElem?_eq_getElem hlt⟩
   obtain ⟨sbk, so, scs, sty, sfr, sp2, rfl, hsbk, hsd⟩ := hp2 (ne_nil_of hlt)
   have hnx := tx_next (codes := codes) hsget
   refine Cj.skip (Ej.seq (Cj.seq (Cj.block (Cj.seq (Cj.region (J.z (yl_indexAddr (off' := so + j * 2) rfl rfl rfl Tryz.underlying33 Tryz.sizeOf47 (by omega) (by omega) (by simp)) ?_))))))
   refine J.z (yl_loadAgg rfl rfl Tryz.isAgg47 Tryz.sizeOf47 (Blk.imm hsbk) (row_from subC_len hsd hsget) rfl) ?_
   refine J.op rfl (op_alloc rfl rfl rfl Tryz.zeroValue47 rfl ?_)
   intro b11 hb11
   refine J.op rfl (op_store 0 rfl rfl rfl rfl rfl rfl Tryz.sizeOf47 rfl rfl (LSpl.c (LSpl.c LSpl.z)) LSet.z ?_)
   refine J.nil (Ej.seq (Cj.seq (Cj.region (J.z (yl_move rfl rfl) ?_))))
   refine J.z (yl_fieldAddr (off' := 0) rfl rfl Tryz.underlying47 rfl Tryz.sizeOf5 rfl) ?_
   refine J.z (yl_load rfl rfl Tryz.isAgg5 (Blk.at 0 rfl) rfl) ?_
   refine J.op rfl (op_pure rfl rfl rfl rfl rfl (IndexByte_ok _ _ _) ?_)
   refine J.z (yl_geq rfl rfl rfl) ?_
   refine J.nil (Ej.seq (Cj.cond rfl (fun hc12 => ?_) (fun hc12 => ?_)))
   ·
    have hc12p := of_decide_eq_true hc12
    have hcd : codes.contains sb.code = true := (index_has _ _).symm.trans hc12
    rw [if_pos hcd] at hnx
    refine Cj.region (J.z (yl_move rfl rfl) ?_)
    refine J.z (yl_fieldAddr (off' := 1) rfl rfl Tryz.underlying47 rfl Tryz.sizeOf9 rfl) ?_
    refine J.z (yl_load rfl rfl Tryz.isAgg9 (Blk.at 0 rfl) rfl) ?_
    refine J.op rfl (op_buildSlice rfl rfl rfl Tryz.underlying31 Tryz.sizeOf9 Tryz.zeroValue9 rfl rfl rfl rfl (LCat.one rfl LCat.none) ?_)
    intro b13 hb13
    refine J.op rfl (op_append (by' := 15) [_, _, _, _] rfl rfl rfl rfl rfl Tryz.underlying31 (.inr ⟨_, Tryz.underlying31⟩) (by kernel_rfl) Tryz.sizeOf9 Tryz.zeroValue9 rfl hg rfl (Src.slice (Blk.at 0 rfl) rfl rfl rfl) (by omega) ?_)
    intro g14 hg14
    refine J.z (yl_assign rfl rfl) ?_
    refine J.nil (Ej.blkNormal (Ej.seq (Cj.region (J.z (yl_add rfl rfl rfl (w64 (by omega))) ?_))))
    refine J.z (yl_move rfl rfl) ?_
    refine J.nil (Ej.keep (Keeps.d (Keeps.d (Keeps.k (Keeps.k Keeps.r)))) ?_)
    refine Ej.round (j + 1, g14) ⟨by dsimp only; omega, by dsimp only; rw [hnx, List.map_append, List.length_append]; exact hg14⟩ (by dsimp only; omega) ⟨rfl, rfl, rfl, rfl, by dsimp only; rw [hnx, List.length_append]; rfl, rfl, rfl, rfl, trivial⟩ rfl (by dsimp only; rw [hnx, List.map_append]; rfl)
   ·
    have hc12p := of_decide_eq_false hc12
    have hcd : ¬ codes.contains sb.code = true := fun e => Bool.noConfusion (e.symm.trans ((index_has _ _).symm.trans hc12))
    rw [if_neg hcd] at hnx
    refine Cj.skip (Ej.blkNormal (Ej.seq (Cj.region (J.z (yl_add rfl rfl rfl (w64 (by omega))) ?_))))
    refine J.z (yl_move rfl rfl) ?_
    refine J.nil (Ej.keep (Keeps.d (Keeps.k (Keeps.k Keeps.r))) ?_)
    refine Ej.round (j + 1, g) ⟨by dsimp only; omega, by dsimp only; rw [hnx, List.append_nil]; exact hg⟩ (by dsimp only; omega) ⟨rfl, rfl, rfl, rfl, by dsimp only; rw [hnx, List.append_nil]; rfl, rfl, rfl, rfl, trivial⟩ rfl (by dsimp only; rw [hnx, List.append_nil])
  ·
   have hc10p := of_decide_eq_false hc10
   refine Cj.exit (Ej.seqExit (Ej.loopExit (Ej.blkExit (Ej.seq (Cj.seq ?_)))))
   have hfull : f.subs.take j = f.subs := List.take_of_length_le (by omega)
   rw [hfull] at hg ⊢
   have htl2 := textOf_len f codes
   refine Cj.perm (H' := gH _ _ _ ++ [_, _]) List.perm_append_comm ?_
   refine Cj.keepS hg (fun I8 hle8 hv => ?_)
   have hfb := hle8 _ _ hfb
   refine Cj.drawSel [1] [] 9 (by kernel_rfl) ?_
   have htb_11 := htb
   have hfb_11 := hfb
   refine JA.fix ⟨(HSub.c 1 rfl HSub.n), CSub.n, (Le.refl _)⟩ (fun fx15 => ?_)
   refine JA.tk 0 rfl fx15 (yl_move rfl rfl) ?_
   refine JA.tk 2 rfl fx15 (yl_fieldAddr (off' := 2) rfl rfl Tryz.underlying26 rfl Tryz.sizeOf23 rfl) ?_
   refine JA.tk 3 rfl fx15 (yl_load rfl rfl Tryz.isAgg23 (Blk.atC 0 rfl) rfl) ?_
   refine JA.tk 4 rfl fx15 (yl_move rfl rfl) ?_
   refine JA.tk 5 rfl fx15 (yl_indexAddr (off' := fo + k * 4) rfl rfl rfl Tryz.underlying23 Tryz.sizeOf35 (by omega) (by omega) (by simp)) ?_
   refine JA.tk 6 rfl fx15 (yl_loadAgg rfl rfl Tryz.isAgg35 Tryz.sizeOf35 (Blk.immC hfb_11) (row_from fldC_len hfd hget) rfl) ?_
   refine JA.step 1 (by kernel_rfl) rfl rfl (op_pure rfl rfl rfl rfl rfl (Join_ok (tx codes f.subs) _ (by have := tx_len codes f.subs; omega) (by have e : Ke.join (tx codes f.subs) = Ke.textOf f codes := rfl; rw [e]; omega) _ hv) ?_)
   refine ⟨⟨(Le.refl _), (HSub.c 1 rfl HSub.n), CSub.n⟩, ?_⟩
   refine JA.fix ⟨(HSub.c 1 rfl HSub.n), CSub.n, (Le.refl _)⟩ (fun fx16 => ?_)
   refine JA.tk 7 rfl fx16 (yl_assign rfl rfl) ?_
   refine JA.step 8 (by kernel_rfl) rfl rfl (op_store 0 rfl rfl rfl rfl rfl (fldC_one hsv) Tryz.sizeOf35 rfl rfl (LSpl.c (LSpl.c (LSpl.c (LSpl.c LSpl.z)))) LSet.z ?_)
   refine ⟨⟨(Le.refl _), (HSub.c 1 rfl HSub.n), CSub.n⟩, ?_⟩
   refine JA.done (by kernel_rfl) ?_
   refine Ej.seq (Cj.ret ?_)
   have hfirst : Ke.first fs tag = f := by unfold Ke.first; rw [hfind]; rfl
   rw [hfirst]
   refine Ej.retTC (Keeps.d (Keeps.d Keeps.n)) rfl rfl rfl (Blk.at 0 rfl) Tryz.isAgg35 Tryz.sizeOf35 rfl rfl ?_
   exact ⟨rfl, rfl⟩
theorem first_in (fs : List Ke.Fld) (tag : List UInt8) : Ke.first fs tag = Ke.zf ∨ Ke.first fs tag ∈ fs := by
  unfold Ke.first
  cases h : Ke.find fs tag with
  | none => exact .inl rfl
  | some f => exact .inr (List.mem_of_find?_eq_some h)
theorem first_sv {I : Heap} {fs : List Ke.Fld} {v : Value} (tag : List UInt8) (h : RecS I fs v) : ∃ p n c, (Ke.first fs tag).sv = .slice p n c := by
  rcases first_in fs tag with e | e
  · rw [e]; exact ⟨_, _, _, rfl⟩
  · obtain ⟨p, c, h1, _⟩ := h.2 _ e
    exact ⟨p, _, c, h1⟩
theorem first_ok {fs : List Ke.Fld} (tag : List UInt8) (h : FOK fs) : (Ke.first fs tag).subs.length ≤ 2000000 ∧ textsLen (Ke.first fs tag).subs ≤ 2000000 ∧ (Ke.first fs tag).ind.length ≤ 2000000 := by
  rcases first_in fs tag with e | e
  · rw [e]; exact ⟨Nat.zero_le _, Nat.zero_le _, Nat.zero_le _⟩
  · exact h.2 _ e
theorem one_at {l : List UInt8} {c : UInt8} (h : l[1]? = some c) : (l.take 2).drop 1 = [c] := by
  obtain ⟨hlt, hg⟩ := List.getElem?_eq_some_iff.1 h
  rw [List.drop_take, drop_cons h]; rfl
theorem skip_at {f : Ke.Fld} {c : UInt8} (h : f.ind[1]? = some c) : Ke.skip f = if Ke.digits [c] = true then c.toNat - 48 else 0 := by
  unfold Ke.skip; rw [h]
  simp [Ke.digits]
theorem skip_no {f : Ke.Fld} (h : ¬ 1 < f.ind.length) : Ke.skip f = 0 := by
  unfold Ke.skip; rw [List.getElem?_eq_none (by omega)]
set_option maxRecDepth 20000 in
theorem Title_ok (fs : List Ke.Fld) (v : Value) (rk rl : UInt8) (hok : FOK fs) (I : Heap) (hr : RecS I fs v) : Pure Tryz.prog 22 [recV rk rl v] I (str (Ke.title fs)) := by
 refine Ctr.toPure ?_
 have hfo := first_ok [50, 52, 53] hok
 have htl := textOf_len (Ke.first fs [50, 52, 53]) [97, 98]
 obtain ⟨p, n, c0, hsv⟩ := first_sv [50, 52, 53] hr
 refine Ctr.of_body Tryz.func22 rfl (by decide) (Nat.le_of_ble_eq_true rfl) ?_
 intro w0 hw0
 refine Cj.seq (Cj.region (J.op rfl (op_box rfl rfl rfl rfl rfl ?_)))
 intro b1 hb1
 refine J.z (yl_assign rfl rfl) ?_
 refine J.nil (Ej.seq (Cj.seq (Cj.region (J.z (yl_loadAgg rfl rfl Tryz.isAgg26 Tryz.sizeOf26 (Blk.at 0 rfl) rfl rfl) ?_))))
 refine J.op rfl (op_call (H1 := []) rfl rfl rfl rfl rfl (text_ok fs v rk rl [50, 52, 53] [97, 98] hok _ hr) ?_ (fun _ _ _ _ h => by cases h.1) (fun _ _ h => by cases h.1))
 intro v2 I3 H4 hle5 hp6
 have hr := hr.mono hle5
 obtain ⟨h, rfl⟩ := hp6; cases h
 refine J.z (yl_move rfl rfl) ?_
 refine J.z (yl_extract rfl rfl rfl) ?_
 refine J.z (yl_extract rfl rfl rfl) ?_
 refine J.op rfl (op_alloc rfl rfl rfl Tryz.zeroValue35 rfl ?_)
 intro b7 hb7
 refine J.z (yl_assign rfl rfl) ?_
 refine J.op rfl (op_store 0 rfl rfl rfl rfl rfl (fldC_one hsv) Tryz.sizeOf35 rfl rfl (LSpl.c (LSpl.c (LSpl.c (LSpl.c LSpl.z)))) LSet.z ?_)
 refine J.nil (Ej.seq (Cj.seq (Cj.region (J.z (yl_assign rfl rfl) ?_))))
 refine J.nil (Ej.seq (Cj.seq (Cj.seq (Cj.region (J.z (yl_fieldAddr (off' := 1) rfl rfl Tryz.underlying35 rfl Tryz.sizeOf9 rfl) ?_)))))
 refine J.z (yl_load rfl rfl Tryz.isAgg9 (Blk.at 0 rfl) rfl) ?_
 refine J.z (yl_lenStr rfl rfl Tryz.underlying9) ?_
 refine J.z (yl_gtr rfl rfl rfl) ?_
 refine J.z (yl_move rfl rfl) ?_
 refine J.split 15 rfl (fun hg8 => ?_) (fun hg8 => ?_)
 ·
  have hl1 : 1 < (Ke.first fs [50, 52, 53]).ind.length := by have h := of_decide_eq_true hg8; omega
  obtain ⟨c, hget⟩ : ∃ c, (Ke.first fs [50, 52, 53]).ind[1]? = some c := ⟨_, List.getElem?_eq_getElem hl1⟩
  refine J.opG 4 15 true _ rfl rfl rfl hg8 (op_yld (yl_fieldAddr (off' := 1) rfl rfl Tryz.underlying35 rfl Tryz.sizeOf9 rfl) rfl rfl ?_)
  refine J.opG 4 15 true _ rfl rfl rfl hg8 (op_yld (yl_load rfl rfl Tryz.isAgg9 (Blk.at 0 rfl) rfl) rfl rfl ?_)
  refine J.opG 4 15 true _ rfl rfl rfl hg8 (op_yld (yl_sliceStr (p := 1) (q := 2) rfl rfl Tryz.underlying9 ⟨_, rfl⟩ ⟨_, rfl⟩ (by omega) (by omega)) rfl rfl ?_)
  refine J.eqv 18 rfl (show _ = str [c] from (by rw [one_at hget])) ?_
  refine J.opG 4 15 true _ rfl rfl rfl hg8 (op_pure rfl rfl rfl rfl rfl (isDigits_ok [c] (by simp) _) ?_)
  refine J.z (yl_pick1 rfl rfl hg8 rfl) ?_
  refine J.nil (Ej.seq (Cj.cond rfl (fun hc9 => ?_) (fun hc9 => ?_)))
  ·
   have hd : Ke.digits [c] = true := hc9
   have hcd := digits_at (k := 0) hd rfl
   refine Cj.region (J.z (yl_fieldAddr (off' := 1) rfl rfl Tryz.underlying35 rfl Tryz.sizeOf9 rfl) ?_)
   refine J.z (yl_load rfl rfl Tryz.isAgg9 (Blk.at 0 rfl) rfl) ?_
   refine J.z (yl_index rfl rfl rfl Tryz.underlying9 (by omega) hget) ?_
   refine J.z (yl_sub rfl rfl rfl (w8 (by omega))) ?_
   refine J.z (yl_convInt rfl rfl Tryz.underlying5 Tryz.underlying3) ?_
   refine J.eqv 25 rfl (show _ = i64 ((c.toNat - 48 : Nat) : Int) from (congrArg i64 ((w64 (by omega)).trans (by omega)))) ?_
   refine J.z (yl_assign rfl rfl) ?_
   refine J.nil (Ej.seq (Cj.seq (Cj.region (J.z (yl_move rfl rfl) ?_))))
   refine J.z (yl_move rfl rfl) ?_
   refine J.op rfl (op_pure rfl rfl rfl rfl rfl (Sort_ok (Ke.textOf (Ke.first fs [50, 52, 53]) [97, 98]) _ (by omega) _) ?_)
   refine J.z (yl_assign rfl rfl) ?_
   refine J.nil (Ej.seq (Cj.ret (Ej.bare ?_)))
   refine Ej.ret1 rfl rfl rfl ?_
   have hsk := (skip_at hget).trans (if_pos hd)
   unfold Ke.title
   rw [hsk]
   exact ⟨rfl, rfl⟩
  ·
   have hd : ¬ Ke.digits [c] = true := fun e => Bool.noConfusion (e.symm.trans hc9)
   refine Cj.skip (Ej.seq (Cj.seq (Cj.region (J.z (yl_move rfl rfl) ?_))))
   refine J.z (yl_move rfl rfl) ?_
   refine J.op rfl (op_pure rfl rfl rfl rfl rfl (Sort_ok (Ke.textOf (Ke.first fs [50, 52, 53]) [97, 98]) _ (by omega) _) ?_)
   refine J.z (yl_assign rfl rfl) ?_
   refine J.nil (Ej.seq (Cj.ret (Ej.bare ?_)))
   refine Ej.ret1 rfl rfl rfl ?_
   have hsk := (skip_at hget).trans (if_neg hd)
   unfold Ke.title
   rw [hsk]
   exact ⟨rfl, rfl⟩
 ·
  have hl1 : ¬ 1 < (Ke.first fs [50, 52, 53]).ind.length := by have h := of_decide_eq_false hg8; omega
  refine J.skip 4 15 16 true _ rfl rfl rfl hg8 rfl rfl ?_
  refine J.skip 4 15 17 true _ rfl rfl rfl hg8 rfl rfl ?_
  refine J.skip 4 15 18 true _ rfl rfl rfl hg8 rfl rfl ?_
  refine J.skip 4 15 19 true _ rfl rfl rfl hg8 rfl rfl ?_
  refine J.z (yl_pick0 rfl rfl hg8 rfl) ?_
  refine J.nil (Ej.seq (Cj.cond rfl (fun hc10 => Bool.noConfusion (Eq.trans (Eq.symm rfl) hc10)) (fun hc10 => ?_)))
  refine Cj.skip (Ej.seq (Cj.seq (Cj.region (J.z (yl_move rfl rfl) ?_))))
  refine J.z (yl_move rfl rfl) ?_
  refine J.op rfl (op_pure rfl rfl rfl rfl rfl (Sort_ok (Ke.textOf (Ke.first fs [50, 52, 53]) [97, 98]) _ (by omega) _) ?_)
  refine J.z (yl_assign rfl rfl) ?_
  refine J.nil (Ej.seq (Cj.ret (Ej.bare ?_)))
  refine Ej.ret1 rfl rfl rfl ?_
  have hsk := skip_no hl1
  unfold Ke.title
  rw [hsk]
  exact ⟨rfl, rfl⟩
end Go.Proofs.YtadnofaleepkmaaGreatDoor
end
