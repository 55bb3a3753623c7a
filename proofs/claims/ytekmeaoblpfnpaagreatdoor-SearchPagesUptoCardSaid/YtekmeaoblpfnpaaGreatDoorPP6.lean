/-
  Own texts on the laws of the seat, joined: the logic, and contracts of functions. Conditions: none.
-/
import Derived.Test.YtekmeaoblpfnpaaGreatDoorNmP
import Derived.Test.YtekmeaoblpfnpaaGreatDoorPP5
import Derived.Lib.SlicesCompact
import Derived.Sort.Walk0
set_option maxRecDepth 100000
set_option maxHeartbeats 40000000
set_option maxRecDepth 100000
set_option maxHeartbeats 40000000
namespace Go.Proofs.YtekmeaoblpfnpaaGreatDoor
open _root_.Go.Proofs.Tryz
open Go Go.Sx
theorem bcs_at {l : List UInt8} {sp : List Value} {k : Nat} {c : UInt8} (h : l[k]? = some c) : (bcs l ++ sp)[k]? = some (u8 c) := by
  obtain ⟨hlt, _⟩ := List.getElem?_eq_some_iff.1 h
  rw [List.getElem?_append_left (by rw [bcs_len]; exact hlt), bcs, List.getElem?_map, h]; rfl
theorem w8 {x : Int} (h : 0 ≤ x ∧ x ≤ 255) : IntKind.u8.wrap x = x := by
  simp [IntKind.wrap, IntKind.bits, IntKind.signed]; omega
theorem csum_le : ∀ (l : List UInt8) (k : Nat), Ke.csum k l ≤ 1000 * l.length
  | [], _ => by simp [Ke.csum]
  | c :: r, k => by
    have h1 := csum_le r (k + 1)
    have h2 := c.toNat_lt
    have h3 : (c.toNat - 48) * (1 + 2 * (k % 2)) ≤ 255 * 3 := Nat.mul_le_mul (by omega) (by omega)
    simp only [Ke.csum, List.length_cons]; omega
theorem csum_next {l : List UInt8} {k : Nat} {c : UInt8} (h : l[k]? = some c) : Ke.csum 0 (l.take (k + 1)) = Ke.csum 0 (l.take k) + (c.toNat - 48) * (1 + 2 * (k % 2)) := by
  obtain ⟨hlt, hg⟩ := List.getElem?_eq_some_iff.1 h
  rw [List.take_succ_eq_append_getElem hlt, hg, Ke.csum_app, Ke.csum, Ke.csum, List.length_take, Nat.min_eq_left (by omega), Nat.zero_add, Nat.add_zero]
theorem val_le (c : UInt8) : Ke.val c ≤ 255 := by
  have h2 := c.toNat_lt
  unfold Ke.val; split <;> omega
theorem rsum_le : ∀ (l : List UInt8) (k : Nat), Ke.rsum k l ≤ 2550 * l.length
  | [], _ => by simp [Ke.rsum]
  | c :: r, k => by
    have h1 := rsum_le r (k + 1)
    have h3 : (10 - k) * Ke.val c ≤ 10 * 255 := Nat.mul_le_mul (by omega) (val_le c)
    simp only [Ke.rsum, List.length_cons]; omega
theorem rsum_next {l : List UInt8} {k : Nat} {c : UInt8} (h : l[k]? = some c) : Ke.rsum 0 (l.take (k + 1)) = Ke.rsum 0 (l.take k) + (10 - k) * Ke.val c := by
  obtain ⟨hlt, hg⟩ := List.getElem?_eq_some_iff.1 h
  rw [List.take_succ_eq_append_getElem hlt, hg, Ke.rsum_app, Ke.rsum, Ke.rsum, List.length_take, Nat.min_eq_left (by omega), Nat.zero_add, Nat.add_zero]
theorem digits_at {l : List UInt8} {k : Nat} {c : UInt8} (hd : Ke.digits l = true) (h : l[k]? = some c) : 48 ≤ c.toNat ∧ c.toNat ≤ 57 := Ke.digit_iff.1 (List.all_eq_true.1 hd c (lmg h))
theorem check_ok (s : List UInt8) (h12 : 12 ≤ s.length) (hs : s.length ≤ 1000000) (hd : Ke.digits (s.take 12) = true) (I : Heap) : Pure Tryz.prog 200 [str s] I (u8 (Ke.check s)) := by
 refine Ctr.toPure ?_
 have hul : (s.take 12).length = 12 := by rw [List.length_take]; omega
 refine Ctr.ob func200 ?_
 intro w0 hw0
 refine Cj.sr (J.z q1 ?_)
 refine J.nssr (J.z q1 ?_)
 refine J.nsss (Cj.region (J.z q0 ?_))
 refine J.z (yl_sliceStr (p := 0) (q := 12) rfl rfl tU9 rfl ⟨_, rfl⟩ (by omega) (by omega)) ?_
 refine J.eqv 7 rfl (show _ = str (s.take 12) from (by rw [List.drop_zero])) ?_
 refine J.op rfl (op_toBytes rfl rfl rfl rfl tU9 tU192 tU5 ?_)
 intro b1 c2 sp3 fr4 hb1 hfr4
 refine J.z (q14 tU192) ?_
 refine J.z q0 ?_
 refine J.ns (Cj.block (Cj.loop (ι := Nat) (fun j => j ≤ (s.take 12).length) (fun j => (s.take 12).length - j) (fun j => [(0, str s), (3, i64 ((Ke.csum 0 ((s.take 12).take j) : Nat) : Int)), (8, .slice (some ⟨b1, 0, none⟩) (s.take 12).length c2), (9, i64 ((s.take 12).length : Int)), (10, i64 (j : Int))]) (fun j => I) (fun j => [(b1, .cells (bcs (s.take 12) ++ sp3).toArray 5 (fr4, fr4 + 1))]) 0 (Nat.zero_le _) ⟨rfl, rfl, rfl, rfl, rfl, trivial⟩ rfl rfl ?_))
 intro j hj
 have hsl := csum_le ((s.take 12).take j) 0
 rw [List.length_take, Nat.min_eq_left hj] at hsl
 refine Cj.sr (J.z q18 ?_)
 refine J.nss (Cj.cond rfl (fun hc5 => ?_) (fun hc5 => ?_))
 ·have hc5p := odt hc5
  have hlt : j < (s.take 12).length := by omega
  obtain ⟨c, hget⟩ : ∃ c, (s.take 12)[j]? = some c := ⟨_, lgg hlt⟩
  have hc := digits_at hd hget
  have hm : (c.toNat - 48) * (1 + 2 * (j % 2)) ≤ 9 * 3 := Nat.mul_le_mul (by omega) (by omega)
  refine Cj.skip (Ej.seq (Cj.seq (Cj.block (Cj.sr (J.z q0 ?_)))))
  refine J.z (q16 (off' := j) tU192 tS5) ?_
  refine J.z (yl_load rfl rfl tA5 (Blk.at 0 rfl) (bcs_at hget)) ?_
  refine J.z q1 ?_
  refine J.z q1 ?_
  refine J.nsr (J.z q0 ?_)
  refine J.z q0 ?_
  refine J.z (yl_sub rfl rfl rfl (w8 (by omega))) ?_
  refine J.z (yl_convInt rfl rfl tU5 tU3) ?_
  refine J.eqv 18 rfl (show _ = i64 ((c.toNat - 48 : Nat) : Int) from (congrArg i64 ((w64 (by omega)).trans (by omega)))) ?_
  refine J.z q0 ?_
  refine J.z (yl_rem rfl rfl rfl (by decide)) ?_
  refine J.eqv 20 rfl (show _ = i64 ((j % 2 : Nat) : Int) from rfl) ?_
  refine J.z (yl_mul rfl rfl rfl (w64 (by omega))) ?_
  refine J.z (yl_add rfl rfl rfl (w64 (by omega))) ?_
  refine J.eqv 22 rfl (show _ = i64 ((1 + 2 * (j % 2) : Nat) : Int) from (congrArg i64 (by omega))) ?_
  refine J.z (yl_mul rfl rfl rfl (w64 (by rw [← Int.natCast_mul]; omega))) ?_
  refine J.eqv 23 rfl (show _ = i64 (((c.toNat - 48) * (1 + 2 * (j % 2)) : Nat) : Int) from (congrArg i64 (Int.natCast_mul _ _).symm)) ?_
  refine J.z (yl_add rfl rfl rfl (w64 (by omega))) ?_
  refine J.z q1 ?_
  refine J.nil (Ej.blkNormal (Ej.seq (Cj.region (J.z (yl_add rfl rfl rfl (w64 (by omega))) ?_))))
  refine J.z q0 ?_
  refine J.nil (Ej.round (j + 1) (by omega) (by omega) ⟨rfl, by rw [csum_next hget]; exact congrArg (fun z => some (Value.int .i64 z)) (by omega), rfl, rfl, rfl, trivial⟩ rfl rfl)
 have hc5p := odf hc5
 have hfull : (s.take 12).take j = s.take 12 := List.take_of_length_le (by omega)
 refine Cj.exit (Ej.seqExit (Ej.loopExit (Ej.blkExit (Ej.seq (Cj.sr (J.z q0 ?_))))))
 refine J.z (yl_rem rfl rfl rfl (by decide)) ?_
 refine J.eqv 27 rfl (show _ = i64 ((Ke.csum 0 (s.take 12) % 10 : Nat) : Int) from (by rw [hfull]; rfl)) ?_
 refine J.z (yl_sub rfl rfl rfl (w64 (by omega))) ?_
 refine J.eqv 28 rfl (show _ = i64 ((10 - Ke.csum 0 (s.take 12) % 10 : Nat) : Int) from (congrArg i64 (by omega))) ?_
 refine J.z (yl_rem rfl rfl rfl (by decide)) ?_
 refine J.eqv 29 rfl (show _ = i64 (((10 - Ke.csum 0 (s.take 12) % 10) % 10 : Nat) : Int) from rfl) ?_
 refine J.z (yl_add rfl rfl rfl (w64 (by omega))) ?_
 refine J.eqv 30 rfl (show _ = i64 ((48 + (10 - Ke.csum 0 (s.take 12) % 10) % 10 : Nat) : Int) from (congrArg i64 (by omega))) ?_
 refine J.z (yl_convInt rfl rfl tU3 tU5) ?_
 refine J.eqv 31 rfl (show _ = u8 (Ke.check s) from (congrArg (Value.int .u8) (conv8 (by omega)))) ?_
 refine J.z q1 ?_
 refine J.ns (Cj.ret (Ej.keep (List.nil_sublist _) ?_))
 refine q5 ?_
 exact ⟨rfl, rfl⟩
theorem rightShort_ok (s : List UInt8) (h10 : s.length = 10) (hx : ∀ c ∈ s, Ke.digit c = true ∨ c = 88) (I : Heap) : Pure Tryz.prog 199 [str s] I (.bool (Ke.rightShort s)) := by
 refine Ctr.toPure ?_
 refine Ctr.ob func199 ?_
 intro w0 hw0
 refine Cj.sr (J.z q1 ?_)
 refine J.nssr (J.z q1 ?_)
 refine J.nsss (Cj.region (J.z q0 ?_))
 refine J.op rfl (op_toBytes rfl rfl rfl rfl tU9 tU192 tU5 ?_)
 intro b1 c2 sp3 fr4 hb1 hfr4
 refine J.z (q14 tU192) ?_
 refine J.z q0 ?_
 refine J.ns (Cj.block (Cj.loop (ι := Nat) (fun j => j ≤ s.length) (fun j => s.length - j) (fun j => [(0, str s), (3, i64 ((Ke.rsum 0 (s.take j) : Nat) : Int)), (8, .slice (some ⟨b1, 0, none⟩) s.length c2), (9, i64 (s.length : Int)), (10, i64 (j : Int))]) (fun j => I) (fun j => [(b1, .cells (bcs s ++ sp3).toArray 5 (fr4, fr4 + 1))]) 0 (Nat.zero_le _) ⟨rfl, rfl, rfl, rfl, rfl, trivial⟩ rfl rfl ?_))
 intro j hj
 have hsl := rsum_le (s.take j) 0
 rw [List.length_take, Nat.min_eq_left hj] at hsl
 refine Cj.sr (J.z q18 ?_)
 refine J.nss (Cj.cond rfl (fun hc5 => ?_) (fun hc5 => ?_))
 ·have hc5p := odt hc5
  have hlt : j < s.length := by omega
  obtain ⟨c, hget⟩ : ∃ c, s[j]? = some c := ⟨_, lgg hlt⟩
  have hc : 48 ≤ c.toNat := (hx c (lmg hget)).elim (fun h => (Ke.digit_iff.1 h).1) (fun h => by subst h; decide)
  have hc2 := c.toNat_lt
  have hm : (10 - j) * Ke.val c ≤ 10 * 255 := Nat.mul_le_mul (by omega) (val_le c)
  refine Cj.skip (Ej.seq (Cj.seq (Cj.block (Cj.sr (J.z q0 ?_)))))
  refine J.z (q16 (off' := j) tU192 tS5) ?_
  refine J.z (yl_load rfl rfl tA5 (Blk.at 0 rfl) (bcs_at hget)) ?_
  refine J.z q1 ?_
  refine J.z q1 ?_
  refine J.nssr (J.z q0 ?_)
  refine J.z (yl_sub rfl rfl rfl (w8 (by omega))) ?_
  refine J.z (yl_convInt rfl rfl tU5 tU3) ?_
  refine J.eqv 17 rfl (show _ = i64 ((c.toNat - 48 : Nat) : Int) from (congrArg i64 ((w64 (by omega)).trans (by omega)))) ?_
  refine J.z q1 ?_
  refine J.nsss (Cj.region (J.z q0 ?_))
  refine J.z q19 ?_
  refine J.cd (fun hc6 => ?_) (fun hc6 => ?_)
  ·have hc6p := ebq hc6
   have hcv : Ke.val c = 10 := by
     have h : (c.toNat : Int) = 88 := ebq hc6
     unfold Ke.val; rw [if_pos (UInt8.toNat_inj.1 (by rw [show (88 : UInt8).toNat = 88 from rfl]; omega))]
   refine Cj.region (J.z q1 ?_)
   refine J.nsr (J.z q0 ?_)
   refine J.z q0 ?_
   refine J.z (yl_sub rfl rfl rfl (w64 (by omega))) ?_
   refine J.eqv 22 rfl (show _ = i64 ((10 - j : Nat) : Int) from (congrArg i64 (by omega))) ?_
   refine J.z q0 ?_
   refine J.eqv 23 rfl (show _ = i64 ((Ke.val c : Nat) : Int) from (congrArg i64 (by omega))) ?_
   refine J.z (yl_mul rfl rfl rfl (w64 (by rw [← Int.natCast_mul]; omega))) ?_
   refine J.eqv 24 rfl (show _ = i64 (((10 - j) * Ke.val c : Nat) : Int) from (congrArg i64 (Int.natCast_mul _ _).symm)) ?_
   refine J.z (yl_add rfl rfl rfl (w64 (by omega))) ?_
   refine J.z q1 ?_
   refine J.nil (Ej.blkNormal (Ej.seq (Cj.region (J.z (yl_add rfl rfl rfl (w64 (by omega))) ?_))))
   refine J.z q0 ?_
   refine J.nil (Ej.round (j + 1) (by omega) (by omega) ⟨rfl, by rw [rsum_next hget]; exact congrArg (fun z => some (Value.int .i64 z)) (by omega), rfl, rfl, rfl, trivial⟩ rfl rfl)
  have hc6p := nbf hc6
  have hcv : Ke.val c = c.toNat - 48 := by
    have h : ¬ (c.toNat : Int) = 88 := nbf hc6
    unfold Ke.val; rw [if_neg (fun e => h (by subst e; rfl))]
  refine Cj.skip (Ej.seq (Cj.region (J.z q0 ?_)))
  refine J.z q0 ?_
  refine J.z (yl_sub rfl rfl rfl (w64 (by omega))) ?_
  refine J.eqv 22 rfl (show _ = i64 ((10 - j : Nat) : Int) from (congrArg i64 (by omega))) ?_
  refine J.z q0 ?_
  refine J.eqv 23 rfl (show _ = i64 ((Ke.val c : Nat) : Int) from (congrArg i64 (by omega))) ?_
  refine J.z (yl_mul rfl rfl rfl (w64 (by rw [← Int.natCast_mul]; omega))) ?_
  refine J.eqv 24 rfl (show _ = i64 (((10 - j) * Ke.val c : Nat) : Int) from (congrArg i64 (Int.natCast_mul _ _).symm)) ?_
  refine J.z (yl_add rfl rfl rfl (w64 (by omega))) ?_
  refine J.z q1 ?_
  refine J.nil (Ej.blkNormal (Ej.seq (Cj.region (J.z (yl_add rfl rfl rfl (w64 (by omega))) ?_))))
  refine J.z q0 ?_
  refine J.nil (Ej.round (j + 1) (by omega) (by omega) ⟨rfl, by rw [rsum_next hget]; exact congrArg (fun z => some (Value.int .i64 z)) (by omega), rfl, rfl, rfl, trivial⟩ rfl rfl)
 have hc5p := odf hc5
 have hfull : s.take j = s := List.take_of_length_le (by omega)
 refine Cj.exit (Ej.seqExit (Ej.loopExit (Ej.blkExit (Ej.seq (Cj.sr (J.z q0 ?_))))))
 refine J.z (yl_rem rfl rfl rfl (by decide)) ?_
 refine J.eqv 28 rfl (show _ = i64 ((Ke.rsum 0 s % 11 : Nat) : Int) from (by rw [hfull]; rfl)) ?_
 refine J.z q19 ?_
 refine J.z q0 ?_
 refine J.split 30 rfl (fun hg7 => ?_) (fun hg7 => ?_)
 ·have hr : (Ke.rsum 0 s % 11 == 0) = true := beq_iff_eq.2 (by have h := ebq hg7; omega)
  refine q13 3 30 true hg7 (q7 q0 ?_)
  refine J.opG 3 30 true _ rfl rfl rfl hg7 (op_yld (yl_sliceStr (p := 0) (q := 9) rfl rfl tU9 rfl ⟨_, rfl⟩ (by omega) (by omega)) rfl rfl ?_)
  refine J.eqv 32 rfl (show _ = str (s.take 9) from (by rw [List.drop_zero])) ?_
  refine J.opG 3 30 true _ rfl rfl rfl hg7 (op_pure rfl rfl rfl rfl rfl (isDigits_ok (s.take 9) (by rw [List.length_take]; omega) _) ?_)
  refine J.z (q22 hg7) ?_
  refine J.z q1 ?_
  refine J.ns (Cj.ret (Ej.keep (List.nil_sublist _) ?_))
  refine q5 ?_
  exact ⟨congrArg (fun b => Ending.returned (.bool b)) (by unfold Ke.rightShort; rw [hr]; rfl), rfl⟩
 have hr : (Ke.rsum 0 s % 11 == 0) = false := beq_eq_false_iff_ne.2 (fun e => nbf hg7 (by rw [e]; rfl))
 refine q12 3 30 31 true hg7 ?_
 refine q12 3 30 32 true hg7 ?_
 refine q12 3 30 33 true hg7 ?_
 refine J.z (q23 hg7) ?_
 refine J.z q1 ?_
 refine J.ns (Cj.ret (Ej.keep (List.nil_sublist _) ?_))
 refine q5 ?_
 exact ⟨congrArg (fun b => Ending.returned (.bool b)) (by unfold Ke.rightShort; rw [hr]; rfl), rfl⟩
theorem norm_chars (s : List UInt8) : ∀ c ∈ Ke.norm s, Ke.digit c = true ∨ c = 88 := fun c hc => by
  obtain ⟨d, hd, rfl⟩ := List.mem_map.1 hc
  obtain ⟨h1, h2⟩ := List.mem_filter.1 hd
  have h3 : Ke.okb d = true := List.all_eq_true.1 (List.all_takeWhile (p := Ke.okb)) d h1
  revert h2 h3
  exact Ke.byte_all (p := fun d => Ke.nb d = true → Ke.okb d = true → Ke.digit (Ke.up d) = true ∨ Ke.up d = 88) (by decide +kernel) d
theorem norm_len (s : List UInt8) : (Ke.norm s).length ≤ s.length := by
  unfold Ke.norm
  rw [List.length_map]
  exact nlt (List.length_filter_le _ _) (List.takeWhile_prefix _).length_le
theorem ToUpper_ok (s : List UInt8) (hs : s.length ≤ 1000000000) (I : Heap) : Pure Tryz.prog 196 [str (Ke.rep (s.takeWhile Ke.okb))] I (str (Ke.norm s)) := by
  refine Pure.of_below (Enters.of func196 (by decide) rfl) fun w _ => ?_
  have hall : ∀ c ∈ Ke.rep (s.takeWhile Ke.okb), c.toNat < 128 ∧ Lib.upperB c = Ke.up c := fun c hc => by
    obtain ⟨h1, h2⟩ := List.mem_filter.1 hc
    have h3 : Ke.okb c = true := List.all_eq_true.1 (List.all_takeWhile (p := Ke.okb)) c h1
    revert h3
    exact Ke.byte_all (p := fun c => Ke.okb c = true → c.toNat < 128 ∧ Lib.upperB c = Ke.up c) (by decide +kernel) c
  have hl : (Ke.rep (s.takeWhile Ke.okb)).length ≤ s.length := nlt (List.length_filter_le _ _) (List.takeWhile_prefix _).length_le
  have h := Tryz.strings_ToUpper_ascii ⟨(Ke.rep (s.takeWhile Ke.okb)).toArray⟩ w (by rw [size_mk]; omega) (fun j b hb => by rw [ba_list] at hb; exact (hall b (lmg hb)).1)
  rw [ba_list] at h
  have e : Lib.toUpperA (Ke.rep (s.takeWhile Ke.okb)) = Ke.norm s := List.map_congr_left fun c hc => (hall c hc).2
  rw [e] at h
  exact h
theorem check_app {a b : List UInt8} (h : a.length = 12) : Ke.check (a ++ b) = Ke.check a := by
  unfold Ke.check; rw [List.take_append_of_le_length (by omega)]
theorem digits_12 {a b : List UInt8} (h : Ke.digits a = true) (hl : a.length = 9) : Ke.digits (([57, 55, 56] ++ a ++ b).take 12) = true := by
  rw [List.take_append_of_le_length (by simp; omega), List.take_of_length_le (by simp; omega), Ke.digits_app, h]; rfl
theorem Isbn_ok (s : List UInt8) (hs : s.length ≤ 100000000) (I : Heap) : Pure Tryz.prog 137 [str s] I (.tuple #[str (Ke.isbn s).1, .bool (Ke.isbn s).2]) := by
 refine Ctr.toPure ?_
 have hnc := norm_chars s
 have hnl := norm_len s
 have htl : (s.takeWhile Ke.okb).length ≤ s.length := (List.takeWhile_prefix _).length_le
 refine Ctr.ob func137 ?_
 intro w0 hw0
 refine Cj.sr (J.z q1 ?_)
 refine J.z q1 ?_
 refine J.nssr (J.z q0 ?_)
 refine J.op rfl (op_call (H1 := []) rfl rfl rfl rfl rfl (IndexFunc_ok s _) ?_ (fun _ _ _ _ ⟨_, h, _⟩ => by cases h) (fun _ _ ⟨_, h, _⟩ => by cases h))
 intro v1 I2 H3 hle4 hp5
 obtain ⟨n, h, hn, rfl⟩ := hp5; cases h
 refine J.z q1 ?_
 refine J.nsss (Cj.region (J.z q0 ?_))
 refine J.z (yl_geq rfl rfl rfl) ?_
 refine J.cd (fun hc6 => ?_) (fun hc6 => ?_)
 ·have hc6p := odt hc6
  obtain ⟨k, rfl, hk, htw⟩ : ∃ k : Nat, n = k ∧ k ≤ s.length ∧ s.takeWhile Ke.okb = s.take k := hn.elim (fun h => absurd (odt hc6) (by rw [h.1]; decide)) id
  refine Cj.region (J.z q0 ?_)
  refine J.z q0 ?_
  refine J.z (yl_sliceStr (p := 0) (q := k) rfl rfl tU9 rfl ⟨_, rfl⟩ (by omega) (by omega)) ?_
  refine J.eqv 11 rfl (show _ = str (s.takeWhile Ke.okb) from (by rw [htw, List.drop_zero])) ?_
  refine J.z q1 ?_
  refine J.nssr (J.op rfl (q17 tU69 tS9 tZ9 (LCat.one rfl (LCat.one rfl (LCat.one rfl (LCat.one rfl LCat.none)))) ?_))
  intro b7 hb7
  refine J.pull Pull.z ?_
  refine J.op rfl (op_call (H1 := [_]) rfl rfl rfl rfl rfl (NewReplacer_ok b7 _ _) ?_ (fun _ _ _ _ ⟨_, _, h, _⟩ => by cases h) (fun _ _ ⟨_, _, h, _⟩ => by cases h))
  intro v8 I9 H10 hle11 hp12
  obtain ⟨rb, osl, h, rfl, ho⟩ := hp12; cases h
  refine J.z q0 ?_
  refine J.pull Pull.z ?_
  refine J.op rfl (op_call (H1 := [_]) rfl rfl rfl rfl rfl (Replace_ok rb osl (s.takeWhile Ke.okb) (by omega) _ ho) ?_ (fun _ _ _ _ h => by cases h.1) (fun _ _ h => by cases h.1))
  intro v13 I14 H15 hle16 hp17
  obtain ⟨h, rfl⟩ := hp17; cases h
  refine J.eqv 15 rfl (show _ = str (Ke.rep (s.takeWhile Ke.okb)) from rfl) ?_
  refine J.op rfl (op_pure rfl rfl rfl rfl rfl (ToUpper_ok s (by omega) _) ?_)
  refine J.z q1 ?_
  refine J.nss (Cj.block (Cj.sr (J.z q0 ?_)))
  refine J.z (yl_lenStr rfl rfl tU9) ?_
  refine J.z q19 ?_
  refine J.z q0 ?_
  refine J.split 21 rfl (fun hg18 => ?_) (fun hg18 => ?_)
  rotate_left
  ·have hno : ¬ ((Ke.norm s).length = 10 ∧ Ke.rightShort (Ke.norm s) = true) := fun e => nbf hg18 (by rw [e.1]; rfl)
   refine q12 3 21 22 true hg18 ?_
   refine q12 3 21 23 true hg18 ?_
   refine J.z (q23 hg18) ?_
   refine J.z q1 ?_
   refine J.c0 (fun hc29 => ?_)
   refine Cj.seq (Cj.drawSel [] [] 15 (by kernel_rfl) ?_)
   refine JA.fix fx1 (fun fx30 => ?_)
   refine JA.tk 0 rfl fx30 q0 ?_
   refine JA.tk 1 rfl fx30 (yl_lenStr rfl rfl tU9) ?_
   refine JA.tk 2 rfl fx30 q19 ?_
   refine JA.tk 3 rfl fx30 q0 ?_
   refine JA.split 39 rfl (fun hg31 => ?_) (fun hg31 => ?_)
   rotate_left
   ·have hno2 : ¬ ((Ke.norm s).length = 13 ∧ Ke.digits (Ke.norm s) = true ∧ Ke.check (Ke.norm s) = (Ke.norm s).getD 12 0) := fun e => nbf hg31 (by rw [e.1]; rfl)
    refine JA.tkS 4 3 39 true _ rfl fx30 rfl rfl (.inl (congrArg Value.bool hg31)) ?_
    refine JA.tkS 5 3 39 true _ rfl fx30 rfl rfl (.inl (congrArg Value.bool hg31)) ?_
    refine JA.tk 6 rfl fx30 (q23 hg31) ?_
    refine JA.tk 7 rfl fx30 q0 ?_
    refine JA.tkS 8 7 43 true _ rfl fx30 rfl rfl (.inl (congrArg Value.bool rfl)) ?_
    refine JA.tkS 9 7 43 true _ rfl fx30 rfl rfl (.inl (congrArg Value.bool rfl)) ?_
    refine JA.tkS 10 7 43 true _ rfl fx30 rfl rfl (.inl (congrArg Value.bool rfl)) ?_
    refine JA.tkS 11 7 43 true _ rfl fx30 rfl rfl (.inl (congrArg Value.bool rfl)) ?_
    refine JA.tkS 12 7 43 true _ rfl fx30 rfl rfl (.inl (congrArg Value.bool rfl)) ?_
    refine JA.tk 13 rfl fx30 (yl_pick0 rfl rfl rfl rfl) ?_
    refine JA.tk 14 rfl fx30 q1 ?_
    refine q8 ?_
    refine Ej.seq (Cj.cond rfl (fun hc37 => Bool.noConfusion (Eq.trans (Eq.symm rfl) hc37)) (fun hc37 => ?_))
    refine Cj.skip (Ej.blkNormal (Ej.seq (Cj.sr (J.z q1 ?_))))
    refine J.z q1 ?_
    refine J.ns (Cj.ret (Ej.keep (List.nil_sublist _) ?_))
    refine q20 ?_
    have he : Ke.isbn s = ([], false) := by unfold Ke.isbn Ke.isbnN; rw [if_neg hno, if_neg hno2]
    rw [he]
    exact ⟨rfl, rfl⟩
   have h13 : (Ke.norm s).length = 13 := by have h := ebq hg31; omega
   refine JA.tkG 4 3 39 true _ rfl fx30 rfl rfl hg31 q0 ?_
   refine JA.stepG 5 3 39 true _ (by kernel_rfl) rfl rfl rfl rfl hg31 (op_pure rfl rfl rfl rfl rfl (isDigits_ok (Ke.norm s) (by omega) _) ?_)
   refine ⟨fx0, ?_⟩
   refine JA.fix fx1 (fun fx32 => ?_)
   refine JA.tk 6 rfl fx32 (q22 hg31) ?_
   refine JA.tk 7 rfl fx32 q0 ?_
   refine JA.split 43 rfl (fun hg33 => ?_) (fun hg33 => ?_)
   rotate_left
   ·have hno2 : ¬ ((Ke.norm s).length = 13 ∧ Ke.digits (Ke.norm s) = true ∧ Ke.check (Ke.norm s) = (Ke.norm s).getD 12 0) := fun e => Bool.noConfusion (e.2.1.symm.trans hg33)
    refine JA.tkS 8 7 43 true _ rfl fx32 rfl rfl (.inl (congrArg Value.bool hg33)) ?_
    refine JA.tkS 9 7 43 true _ rfl fx32 rfl rfl (.inl (congrArg Value.bool hg33)) ?_
    refine JA.tkS 10 7 43 true _ rfl fx32 rfl rfl (.inl (congrArg Value.bool hg33)) ?_
    refine JA.tkS 11 7 43 true _ rfl fx32 rfl rfl (.inl (congrArg Value.bool hg33)) ?_
    refine JA.tkS 12 7 43 true _ rfl fx32 rfl rfl (.inl (congrArg Value.bool hg33)) ?_
    refine JA.tk 13 rfl fx32 (q23 hg33) ?_
    refine JA.tk 14 rfl fx32 q1 ?_
    refine q8 ?_
    refine Ej.seq (Cj.cond rfl (fun hc36 => Bool.noConfusion (Eq.trans (Eq.symm rfl) hc36)) (fun hc36 => ?_))
    refine Cj.skip (Ej.blkNormal (Ej.seq (Cj.sr (J.z q1 ?_))))
    refine J.z q1 ?_
    refine J.ns (Cj.ret (Ej.keep (List.nil_sublist _) ?_))
    refine q20 ?_
    have he : Ke.isbn s = ([], false) := by unfold Ke.isbn Ke.isbnN; rw [if_neg hno, if_neg hno2]
    rw [he]
    exact ⟨rfl, rfl⟩
   have hdg : Ke.digits (Ke.norm s) = true := hg33
   have hd13 : Ke.digits ((Ke.norm s).take 12) = true := List.all_eq_true.2 fun c hc => List.all_eq_true.1 hdg c (List.mem_of_mem_take hc)
   obtain ⟨c, hg12⟩ : ∃ c, (Ke.norm s)[12]? = some c := ⟨_, lgg (by omega)⟩
   have hgd : (Ke.norm s).getD 12 0 = c := by rw [List.getD, hg12]; rfl
   refine JA.tkG 8 7 43 true _ rfl fx32 rfl rfl hg33 q0 ?_
   refine JA.tkG 10 7 43 true _ rfl fx32 rfl rfl hg33 q0 ?_
   refine JA.tkG 11 7 43 true _ rfl fx32 rfl rfl hg33 (yl_index rfl rfl rfl tU9 (by omega) hg12) ?_
   refine JA.stepG 9 7 43 true _ (by kernel_rfl) rfl rfl rfl rfl hg33 (op_pure rfl rfl rfl rfl rfl (check_ok (Ke.norm s) (by omega) (by omega) hd13 _) ?_)
   refine ⟨fx0, ?_⟩
   refine JA.fix fx1 (fun fx34 => ?_)
   refine JA.tkG 12 7 43 true _ rfl fx34 rfl rfl hg33 q19 ?_
   refine JA.tk 13 rfl fx34 (q22 hg33) ?_
   refine JA.tk 14 rfl fx34 q1 ?_
   refine q8 ?_
   refine Ej.seq (Cj.cond rfl (fun hc35 => ?_) (fun hc35 => ?_))
   ·have hc35p := ebq hc35
    have hck : Ke.check (Ke.norm s) = (Ke.norm s).getD 12 0 := by have h := ebq hc35; rw [hgd]; exact UInt8.toNat_inj.1 (by omega)
    refine Cj.sr (J.z q0 ?_)
    refine J.z q1 ?_
    refine J.z q1 ?_
    refine J.ns (Cj.ret (Ej.blkRet (Ej.seqRet (Ej.keep (List.nil_sublist _) ?_))))
    refine q20 ?_
    have he : Ke.isbn s = (Ke.norm s, true) := by unfold Ke.isbn Ke.isbnN; rw [if_neg hno, if_pos ⟨h13, hdg, hck⟩]
    rw [he]
    exact ⟨rfl, rfl⟩
   ·have hc35p := nbf hc35
    have hno2 : ¬ ((Ke.norm s).length = 13 ∧ Ke.digits (Ke.norm s) = true ∧ Ke.check (Ke.norm s) = (Ke.norm s).getD 12 0) := fun e => nbf hc35 (by rw [e.2.2, hgd])
    refine Cj.skip (Ej.blkNormal (Ej.seq (Cj.sr (J.z q1 ?_))))
    refine J.z q1 ?_
    refine J.ns (Cj.ret (Ej.keep (List.nil_sublist _) ?_))
    refine q20 ?_
    have he : Ke.isbn s = ([], false) := by unfold Ke.isbn Ke.isbnN; rw [if_neg hno, if_neg hno2]
    rw [he]
    exact ⟨rfl, rfl⟩
  have h10 : (Ke.norm s).length = 10 := by have h := ebq hg18; omega
  refine q13 3 21 true hg18 (q7 q0 ?_)
  refine q13 3 21 true hg18 (op_pure rfl rfl rfl rfl rfl (rightShort_ok (Ke.norm s) h10 hnc _) ?_)
  refine J.z (q22 hg18) ?_
  refine J.z q1 ?_
  refine J.cd (fun hc19 => ?_) (fun hc19 => ?_)
  ·have hrs : Ke.rightShort (Ke.norm s) = true := hc19
   have hd9 : Ke.digits ((Ke.norm s).take 9) = true := (Bool.and_eq_true_iff.1 hrs).2
   have hd12 := digits_12 (b := [48]) hd9 (by rw [List.length_take]; omega)
   refine Cj.sr (J.z q0 ?_)
   refine J.z (yl_sliceStr (p := 0) (q := 9) rfl rfl tU9 rfl ⟨_, rfl⟩ (by omega) (by omega)) ?_
   refine J.eqv 26 rfl (show _ = str ((Ke.norm s).take 9) from (by rw [List.drop_zero])) ?_
   refine J.z (yl_cat rfl rfl rfl (by first | omega | (simp only [List.length_append]; omega) | (simp; omega))) ?_
   refine J.z q1 ?_
   refine J.nssr (J.z q0 ?_)
   refine J.z q0 ?_
   refine J.z (yl_cat rfl rfl rfl (by first | omega | (simp only [List.length_append]; omega) | (simp; omega))) ?_
   refine J.op rfl (op_pure rfl rfl rfl rfl rfl (check_ok _ (by simp; omega) (by simp; omega) hd12 _) ?_)
   refine J.eqv 31 rfl (show _ = u8 (Ke.check ([57, 55, 56] ++ (Ke.norm s).take 9)) from (by rw [check_app (by simp; omega)])) ?_
   refine J.op rfl (q17 tU192 tS5 tZ5 (LCat.one rfl LCat.none) ?_)
   intro b20 hb20
   refine J.z (yl_toStr [Ke.check ([57, 55, 56] ++ (Ke.norm s).take 9)] rfl rfl rfl tU192 tU9 tU5 (Blk.at 0 rfl) rfl) ?_
   refine J.z (yl_cat rfl rfl rfl (by first | omega | (simp only [List.length_append]; omega) | (simp; omega))) ?_
   refine J.z q1 ?_
   refine J.z q1 ?_
   refine J.ns (Cj.ret (Ej.blkRet (Ej.seqRet (Ej.keep (List.nil_sublist _) ?_))))
   refine q20 ?_
   have he : Ke.isbn s = ([57, 55, 56] ++ (Ke.norm s).take 9 ++ [Ke.check ([57, 55, 56] ++ (Ke.norm s).take 9)], true) := by unfold Ke.isbn Ke.isbnN; rw [if_pos ⟨h10, hrs⟩]
   rw [he]
   exact ⟨rfl, rfl⟩
  have hno : ¬ ((Ke.norm s).length = 10 ∧ Ke.rightShort (Ke.norm s) = true) := fun e => Bool.noConfusion (e.2.symm.trans hc19)
  refine Cj.seq (Cj.drawSel [] [] 15 (by kernel_rfl) ?_)
  refine JA.fix fx1 (fun fx21 => ?_)
  refine JA.tk 0 rfl fx21 q0 ?_
  refine JA.tk 1 rfl fx21 (yl_lenStr rfl rfl tU9) ?_
  refine JA.tk 2 rfl fx21 q19 ?_
  refine JA.tk 3 rfl fx21 q0 ?_
  refine JA.split 39 rfl (fun hg22 => ?_) (fun hg22 => ?_)
  rotate_left
  ·have hno2 : ¬ ((Ke.norm s).length = 13 ∧ Ke.digits (Ke.norm s) = true ∧ Ke.check (Ke.norm s) = (Ke.norm s).getD 12 0) := fun e => nbf hg22 (by rw [e.1]; rfl)
   refine JA.tkS 4 3 39 true _ rfl fx21 rfl rfl (.inl (congrArg Value.bool hg22)) ?_
   refine JA.tkS 5 3 39 true _ rfl fx21 rfl rfl (.inl (congrArg Value.bool hg22)) ?_
   refine JA.tk 6 rfl fx21 (q23 hg22) ?_
   refine JA.tk 7 rfl fx21 q0 ?_
   refine JA.tkS 8 7 43 true _ rfl fx21 rfl rfl (.inl (congrArg Value.bool rfl)) ?_
   refine JA.tkS 9 7 43 true _ rfl fx21 rfl rfl (.inl (congrArg Value.bool rfl)) ?_
   refine JA.tkS 10 7 43 true _ rfl fx21 rfl rfl (.inl (congrArg Value.bool rfl)) ?_
   refine JA.tkS 11 7 43 true _ rfl fx21 rfl rfl (.inl (congrArg Value.bool rfl)) ?_
   refine JA.tkS 12 7 43 true _ rfl fx21 rfl rfl (.inl (congrArg Value.bool rfl)) ?_
   refine JA.tk 13 rfl fx21 (yl_pick0 rfl rfl rfl rfl) ?_
   refine JA.tk 14 rfl fx21 q1 ?_
   refine q8 ?_
   refine Ej.seq (Cj.cond rfl (fun hc28 => Bool.noConfusion (Eq.trans (Eq.symm rfl) hc28)) (fun hc28 => ?_))
   refine Cj.skip (Ej.blkNormal (Ej.seq (Cj.sr (J.z q1 ?_))))
   refine J.z q1 ?_
   refine J.ns (Cj.ret (Ej.keep (List.nil_sublist _) ?_))
   refine q20 ?_
   have he : Ke.isbn s = ([], false) := by unfold Ke.isbn Ke.isbnN; rw [if_neg hno, if_neg hno2]
   rw [he]
   exact ⟨rfl, rfl⟩
  have h13 : (Ke.norm s).length = 13 := by have h := ebq hg22; omega
  refine JA.tkG 4 3 39 true _ rfl fx21 rfl rfl hg22 q0 ?_
  refine JA.stepG 5 3 39 true _ (by kernel_rfl) rfl rfl rfl rfl hg22 (op_pure rfl rfl rfl rfl rfl (isDigits_ok (Ke.norm s) (by omega) _) ?_)
  refine ⟨fx0, ?_⟩
  refine JA.fix fx1 (fun fx23 => ?_)
  refine JA.tk 6 rfl fx23 (q22 hg22) ?_
  refine JA.tk 7 rfl fx23 q0 ?_
  refine JA.split 43 rfl (fun hg24 => ?_) (fun hg24 => ?_)
  ·have hdg : Ke.digits (Ke.norm s) = true := hg24
   have hd13 : Ke.digits ((Ke.norm s).take 12) = true := List.all_eq_true.2 fun c hc => List.all_eq_true.1 hdg c (List.mem_of_mem_take hc)
   obtain ⟨c, hg12⟩ : ∃ c, (Ke.norm s)[12]? = some c := ⟨_, lgg (by omega)⟩
   have hgd : (Ke.norm s).getD 12 0 = c := by rw [List.getD, hg12]; rfl
   refine JA.tkG 8 7 43 true _ rfl fx23 rfl rfl hg24 q0 ?_
   refine JA.tkG 10 7 43 true _ rfl fx23 rfl rfl hg24 q0 ?_
   refine JA.tkG 11 7 43 true _ rfl fx23 rfl rfl hg24 (yl_index rfl rfl rfl tU9 (by omega) hg12) ?_
   refine JA.stepG 9 7 43 true _ (by kernel_rfl) rfl rfl rfl rfl hg24 (op_pure rfl rfl rfl rfl rfl (check_ok (Ke.norm s) (by omega) (by omega) hd13 _) ?_)
   refine ⟨fx0, ?_⟩
   refine JA.fix fx1 (fun fx25 => ?_)
   refine JA.tkG 12 7 43 true _ rfl fx25 rfl rfl hg24 q19 ?_
   refine JA.tk 13 rfl fx25 (q22 hg24) ?_
   refine JA.tk 14 rfl fx25 q1 ?_
   refine q8 ?_
   refine Ej.seq (Cj.cond rfl (fun hc26 => ?_) (fun hc26 => ?_))
   ·have hc26p := ebq hc26
    have hck : Ke.check (Ke.norm s) = (Ke.norm s).getD 12 0 := by have h := ebq hc26; rw [hgd]; exact UInt8.toNat_inj.1 (by omega)
    refine Cj.sr (J.z q0 ?_)
    refine J.z q1 ?_
    refine J.z q1 ?_
    refine J.ns (Cj.ret (Ej.blkRet (Ej.seqRet (Ej.keep (List.nil_sublist _) ?_))))
    refine q20 ?_
    have he : Ke.isbn s = (Ke.norm s, true) := by unfold Ke.isbn Ke.isbnN; rw [if_neg hno, if_pos ⟨h13, hdg, hck⟩]
    rw [he]
    exact ⟨rfl, rfl⟩
   ·have hc26p := nbf hc26
    have hno2 : ¬ ((Ke.norm s).length = 13 ∧ Ke.digits (Ke.norm s) = true ∧ Ke.check (Ke.norm s) = (Ke.norm s).getD 12 0) := fun e => nbf hc26 (by rw [e.2.2, hgd])
    refine Cj.skip (Ej.blkNormal (Ej.seq (Cj.sr (J.z q1 ?_))))
    refine J.z q1 ?_
    refine J.ns (Cj.ret (Ej.keep (List.nil_sublist _) ?_))
    refine q20 ?_
    have he : Ke.isbn s = ([], false) := by unfold Ke.isbn Ke.isbnN; rw [if_neg hno, if_neg hno2]
    rw [he]
    exact ⟨rfl, rfl⟩
  ·have hno2 : ¬ ((Ke.norm s).length = 13 ∧ Ke.digits (Ke.norm s) = true ∧ Ke.check (Ke.norm s) = (Ke.norm s).getD 12 0) := fun e => Bool.noConfusion (e.2.1.symm.trans hg24)
   refine JA.tkS 8 7 43 true _ rfl fx23 rfl rfl (.inl (congrArg Value.bool hg24)) ?_
   refine JA.tkS 9 7 43 true _ rfl fx23 rfl rfl (.inl (congrArg Value.bool hg24)) ?_
   refine JA.tkS 10 7 43 true _ rfl fx23 rfl rfl (.inl (congrArg Value.bool hg24)) ?_
   refine JA.tkS 11 7 43 true _ rfl fx23 rfl rfl (.inl (congrArg Value.bool hg24)) ?_
   refine JA.tkS 12 7 43 true _ rfl fx23 rfl rfl (.inl (congrArg Value.bool hg24)) ?_
   refine JA.tk 13 rfl fx23 (q23 hg24) ?_
   refine JA.tk 14 rfl fx23 q1 ?_
   refine q8 ?_
   refine Ej.seq (Cj.cond rfl (fun hc27 => Bool.noConfusion (Eq.trans (Eq.symm rfl) hc27)) (fun hc27 => ?_))
   refine Cj.skip (Ej.blkNormal (Ej.seq (Cj.sr (J.z q1 ?_))))
   refine J.z q1 ?_
   refine J.ns (Cj.ret (Ej.keep (List.nil_sublist _) ?_))
   refine q20 ?_
   have he : Ke.isbn s = ([], false) := by unfold Ke.isbn Ke.isbnN; rw [if_neg hno, if_neg hno2]
   rw [he]
   exact ⟨rfl, rfl⟩
 have hc6p := odf hc6
 have htw : s.takeWhile Ke.okb = s := hn.elim (fun h => h.2) (fun ⟨k, h, _⟩ => absurd (odf hc6) (by rw [h]; simp))
 refine Cj.skip (Ej.seq (Cj.sr (J.op rfl (q17 tU69 tS9 tZ9 (LCat.one rfl (LCat.one rfl (LCat.one rfl (LCat.one rfl LCat.none)))) ?_))))
 intro b38 hb38
 refine J.pull Pull.z ?_
 refine J.op rfl (op_call (H1 := [_]) rfl rfl rfl rfl rfl (NewReplacer_ok b38 _ _) ?_ (fun _ _ _ _ ⟨_, _, h, _⟩ => by cases h) (fun _ _ ⟨_, _, h, _⟩ => by cases h))
 intro v39 I40 H41 hle42 hp43
 obtain ⟨rb, osl, h, rfl, ho⟩ := hp43; cases h
 refine J.z q0 ?_
 refine J.pull Pull.z ?_
 refine J.op rfl (op_call (H1 := [_]) rfl rfl rfl rfl rfl (Replace_ok rb osl s (by omega) _ ho) ?_ (fun _ _ _ _ h => by cases h.1) (fun _ _ h => by cases h.1))
 intro v44 I45 H46 hle47 hp48
 obtain ⟨h, rfl⟩ := hp48; cases h
 refine J.eqv 15 rfl (show _ = str (Ke.rep (s.takeWhile Ke.okb)) from (by rw [htw])) ?_
 refine J.op rfl (op_pure rfl rfl rfl rfl rfl (ToUpper_ok s (by omega) _) ?_)
 refine J.z q1 ?_
 refine J.nss (Cj.block (Cj.sr (J.z q0 ?_)))
 refine J.z (yl_lenStr rfl rfl tU9) ?_
 refine J.z q19 ?_
 refine J.z q0 ?_
 refine J.split 21 rfl (fun hg49 => ?_) (fun hg49 => ?_)
 rotate_left
 ·have hno : ¬ ((Ke.norm s).length = 10 ∧ Ke.rightShort (Ke.norm s) = true) := fun e => nbf hg49 (by rw [e.1]; rfl)
  refine q12 3 21 22 true hg49 ?_
  refine q12 3 21 23 true hg49 ?_
  refine J.z (q23 hg49) ?_
  refine J.z q1 ?_
  refine J.c0 (fun hc60 => ?_)
  refine Cj.seq (Cj.drawSel [] [] 15 (by kernel_rfl) ?_)
  refine JA.fix fx1 (fun fx61 => ?_)
  refine JA.tk 0 rfl fx61 q0 ?_
  refine JA.tk 1 rfl fx61 (yl_lenStr rfl rfl tU9) ?_
  refine JA.tk 2 rfl fx61 q19 ?_
  refine JA.tk 3 rfl fx61 q0 ?_
  refine JA.split 39 rfl (fun hg62 => ?_) (fun hg62 => ?_)
  rotate_left
  ·have hno2 : ¬ ((Ke.norm s).length = 13 ∧ Ke.digits (Ke.norm s) = true ∧ Ke.check (Ke.norm s) = (Ke.norm s).getD 12 0) := fun e => nbf hg62 (by rw [e.1]; rfl)
   refine JA.tkS 4 3 39 true _ rfl fx61 rfl rfl (.inl (congrArg Value.bool hg62)) ?_
   refine JA.tkS 5 3 39 true _ rfl fx61 rfl rfl (.inl (congrArg Value.bool hg62)) ?_
   refine JA.tk 6 rfl fx61 (q23 hg62) ?_
   refine JA.tk 7 rfl fx61 q0 ?_
   refine JA.tkS 8 7 43 true _ rfl fx61 rfl rfl (.inl (congrArg Value.bool rfl)) ?_
   refine JA.tkS 9 7 43 true _ rfl fx61 rfl rfl (.inl (congrArg Value.bool rfl)) ?_
   refine JA.tkS 10 7 43 true _ rfl fx61 rfl rfl (.inl (congrArg Value.bool rfl)) ?_
   refine JA.tkS 11 7 43 true _ rfl fx61 rfl rfl (.inl (congrArg Value.bool rfl)) ?_
   refine JA.tkS 12 7 43 true _ rfl fx61 rfl rfl (.inl (congrArg Value.bool rfl)) ?_
   refine JA.tk 13 rfl fx61 (yl_pick0 rfl rfl rfl rfl) ?_
   refine JA.tk 14 rfl fx61 q1 ?_
   refine q8 ?_
   refine Ej.seq (Cj.cond rfl (fun hc68 => Bool.noConfusion (Eq.trans (Eq.symm rfl) hc68)) (fun hc68 => ?_))
   refine Cj.skip (Ej.blkNormal (Ej.seq (Cj.sr (J.z q1 ?_))))
   refine J.z q1 ?_
   refine J.ns (Cj.ret (Ej.keep (List.nil_sublist _) ?_))
   refine q20 ?_
   have he : Ke.isbn s = ([], false) := by unfold Ke.isbn Ke.isbnN; rw [if_neg hno, if_neg hno2]
   rw [he]
   exact ⟨rfl, rfl⟩
  have h13 : (Ke.norm s).length = 13 := by have h := ebq hg62; omega
  refine JA.tkG 4 3 39 true _ rfl fx61 rfl rfl hg62 q0 ?_
  refine JA.stepG 5 3 39 true _ (by kernel_rfl) rfl rfl rfl rfl hg62 (op_pure rfl rfl rfl rfl rfl (isDigits_ok (Ke.norm s) (by omega) _) ?_)
  refine ⟨fx0, ?_⟩
  refine JA.fix fx1 (fun fx63 => ?_)
  refine JA.tk 6 rfl fx63 (q22 hg62) ?_
  refine JA.tk 7 rfl fx63 q0 ?_
  refine JA.split 43 rfl (fun hg64 => ?_) (fun hg64 => ?_)
  rotate_left
  ·have hno2 : ¬ ((Ke.norm s).length = 13 ∧ Ke.digits (Ke.norm s) = true ∧ Ke.check (Ke.norm s) = (Ke.norm s).getD 12 0) := fun e => Bool.noConfusion (e.2.1.symm.trans hg64)
   refine JA.tkS 8 7 43 true _ rfl fx63 rfl rfl (.inl (congrArg Value.bool hg64)) ?_
   refine JA.tkS 9 7 43 true _ rfl fx63 rfl rfl (.inl (congrArg Value.bool hg64)) ?_
   refine JA.tkS 10 7 43 true _ rfl fx63 rfl rfl (.inl (congrArg Value.bool hg64)) ?_
   refine JA.tkS 11 7 43 true _ rfl fx63 rfl rfl (.inl (congrArg Value.bool hg64)) ?_
   refine JA.tkS 12 7 43 true _ rfl fx63 rfl rfl (.inl (congrArg Value.bool hg64)) ?_
   refine JA.tk 13 rfl fx63 (q23 hg64) ?_
   refine JA.tk 14 rfl fx63 q1 ?_
   refine q8 ?_
   refine Ej.seq (Cj.cond rfl (fun hc67 => Bool.noConfusion (Eq.trans (Eq.symm rfl) hc67)) (fun hc67 => ?_))
   refine Cj.skip (Ej.blkNormal (Ej.seq (Cj.sr (J.z q1 ?_))))
   refine J.z q1 ?_
   refine J.ns (Cj.ret (Ej.keep (List.nil_sublist _) ?_))
   refine q20 ?_
   have he : Ke.isbn s = ([], false) := by unfold Ke.isbn Ke.isbnN; rw [if_neg hno, if_neg hno2]
   rw [he]
   exact ⟨rfl, rfl⟩
  have hdg : Ke.digits (Ke.norm s) = true := hg64
  have hd13 : Ke.digits ((Ke.norm s).take 12) = true := List.all_eq_true.2 fun c hc => List.all_eq_true.1 hdg c (List.mem_of_mem_take hc)
  obtain ⟨c, hg12⟩ : ∃ c, (Ke.norm s)[12]? = some c := ⟨_, lgg (by omega)⟩
  have hgd : (Ke.norm s).getD 12 0 = c := by rw [List.getD, hg12]; rfl
  refine JA.tkG 8 7 43 true _ rfl fx63 rfl rfl hg64 q0 ?_
  refine JA.tkG 10 7 43 true _ rfl fx63 rfl rfl hg64 q0 ?_
  refine JA.tkG 11 7 43 true _ rfl fx63 rfl rfl hg64 (yl_index rfl rfl rfl tU9 (by omega) hg12) ?_
  refine JA.stepG 9 7 43 true _ (by kernel_rfl) rfl rfl rfl rfl hg64 (op_pure rfl rfl rfl rfl rfl (check_ok (Ke.norm s) (by omega) (by omega) hd13 _) ?_)
  refine ⟨fx0, ?_⟩
  refine JA.fix fx1 (fun fx65 => ?_)
  refine JA.tkG 12 7 43 true _ rfl fx65 rfl rfl hg64 q19 ?_
  refine JA.tk 13 rfl fx65 (q22 hg64) ?_
  refine JA.tk 14 rfl fx65 q1 ?_
  refine q8 ?_
  refine Ej.seq (Cj.cond rfl (fun hc66 => ?_) (fun hc66 => ?_))
  ·have hc66p := ebq hc66
   have hck : Ke.check (Ke.norm s) = (Ke.norm s).getD 12 0 := by have h := ebq hc66; rw [hgd]; exact UInt8.toNat_inj.1 (by omega)
   refine Cj.sr (J.z q0 ?_)
   refine J.z q1 ?_
   refine J.z q1 ?_
   refine J.ns (Cj.ret (Ej.blkRet (Ej.seqRet (Ej.keep (List.nil_sublist _) ?_))))
   refine q20 ?_
   have he : Ke.isbn s = (Ke.norm s, true) := by unfold Ke.isbn Ke.isbnN; rw [if_neg hno, if_pos ⟨h13, hdg, hck⟩]
   rw [he]
   exact ⟨rfl, rfl⟩
  ·have hc66p := nbf hc66
   have hno2 : ¬ ((Ke.norm s).length = 13 ∧ Ke.digits (Ke.norm s) = true ∧ Ke.check (Ke.norm s) = (Ke.norm s).getD 12 0) := fun e => nbf hc66 (by rw [e.2.2, hgd])
   refine Cj.skip (Ej.blkNormal (Ej.seq (Cj.sr (J.z q1 ?_))))
   refine J.z q1 ?_
   refine J.ns (Cj.ret (Ej.keep (List.nil_sublist _) ?_))
   refine q20 ?_
   have he : Ke.isbn s = ([], false) := by unfold Ke.isbn Ke.isbnN; rw [if_neg hno, if_neg hno2]
   rw [he]
   exact ⟨rfl, rfl⟩
 have h10 : (Ke.norm s).length = 10 := by have h := ebq hg49; omega
 refine q13 3 21 true hg49 (q7 q0 ?_)
 refine q13 3 21 true hg49 (op_pure rfl rfl rfl rfl rfl (rightShort_ok (Ke.norm s) h10 hnc _) ?_)
 refine J.z (q22 hg49) ?_
 refine J.z q1 ?_
 refine J.cd (fun hc50 => ?_) (fun hc50 => ?_)
 ·have hrs : Ke.rightShort (Ke.norm s) = true := hc50
  have hd9 : Ke.digits ((Ke.norm s).take 9) = true := (Bool.and_eq_true_iff.1 hrs).2
  have hd12 := digits_12 (b := [48]) hd9 (by rw [List.length_take]; omega)
  refine Cj.sr (J.z q0 ?_)
  refine J.z (yl_sliceStr (p := 0) (q := 9) rfl rfl tU9 rfl ⟨_, rfl⟩ (by omega) (by omega)) ?_
  refine J.eqv 26 rfl (show _ = str ((Ke.norm s).take 9) from (by rw [List.drop_zero])) ?_
  refine J.z (yl_cat rfl rfl rfl (by first | omega | (simp only [List.length_append]; omega) | (simp; omega))) ?_
  refine J.z q1 ?_
  refine J.nssr (J.z q0 ?_)
  refine J.z q0 ?_
  refine J.z (yl_cat rfl rfl rfl (by first | omega | (simp only [List.length_append]; omega) | (simp; omega))) ?_
  refine J.op rfl (op_pure rfl rfl rfl rfl rfl (check_ok _ (by simp; omega) (by simp; omega) hd12 _) ?_)
  refine J.eqv 31 rfl (show _ = u8 (Ke.check ([57, 55, 56] ++ (Ke.norm s).take 9)) from (by rw [check_app (by simp; omega)])) ?_
  refine J.op rfl (q17 tU192 tS5 tZ5 (LCat.one rfl LCat.none) ?_)
  intro b51 hb51
  refine J.z (yl_toStr [Ke.check ([57, 55, 56] ++ (Ke.norm s).take 9)] rfl rfl rfl tU192 tU9 tU5 (Blk.at 0 rfl) rfl) ?_
  refine J.z (yl_cat rfl rfl rfl (by first | omega | (simp only [List.length_append]; omega) | (simp; omega))) ?_
  refine J.z q1 ?_
  refine J.z q1 ?_
  refine J.ns (Cj.ret (Ej.blkRet (Ej.seqRet (Ej.keep (List.nil_sublist _) ?_))))
  refine q20 ?_
  have he : Ke.isbn s = ([57, 55, 56] ++ (Ke.norm s).take 9 ++ [Ke.check ([57, 55, 56] ++ (Ke.norm s).take 9)], true) := by unfold Ke.isbn Ke.isbnN; rw [if_pos ⟨h10, hrs⟩]
  rw [he]
  exact ⟨rfl, rfl⟩
 have hno : ¬ ((Ke.norm s).length = 10 ∧ Ke.rightShort (Ke.norm s) = true) := fun e => Bool.noConfusion (e.2.symm.trans hc50)
 refine Cj.seq (Cj.drawSel [] [] 15 (by kernel_rfl) ?_)
 refine JA.fix fx1 (fun fx52 => ?_)
 refine JA.tk 0 rfl fx52 q0 ?_
 refine JA.tk 1 rfl fx52 (yl_lenStr rfl rfl tU9) ?_
 refine JA.tk 2 rfl fx52 q19 ?_
 refine JA.tk 3 rfl fx52 q0 ?_
 refine JA.split 39 rfl (fun hg53 => ?_) (fun hg53 => ?_)
 rotate_left
 ·have hno2 : ¬ ((Ke.norm s).length = 13 ∧ Ke.digits (Ke.norm s) = true ∧ Ke.check (Ke.norm s) = (Ke.norm s).getD 12 0) := fun e => nbf hg53 (by rw [e.1]; rfl)
  refine JA.tkS 4 3 39 true _ rfl fx52 rfl rfl (.inl (congrArg Value.bool hg53)) ?_
  refine JA.tkS 5 3 39 true _ rfl fx52 rfl rfl (.inl (congrArg Value.bool hg53)) ?_
  refine JA.tk 6 rfl fx52 (q23 hg53) ?_
  refine JA.tk 7 rfl fx52 q0 ?_
  refine JA.tkS 8 7 43 true _ rfl fx52 rfl rfl (.inl (congrArg Value.bool rfl)) ?_
  refine JA.tkS 9 7 43 true _ rfl fx52 rfl rfl (.inl (congrArg Value.bool rfl)) ?_
  refine JA.tkS 10 7 43 true _ rfl fx52 rfl rfl (.inl (congrArg Value.bool rfl)) ?_
  refine JA.tkS 11 7 43 true _ rfl fx52 rfl rfl (.inl (congrArg Value.bool rfl)) ?_
  refine JA.tkS 12 7 43 true _ rfl fx52 rfl rfl (.inl (congrArg Value.bool rfl)) ?_
  refine JA.tk 13 rfl fx52 (yl_pick0 rfl rfl rfl rfl) ?_
  refine JA.tk 14 rfl fx52 q1 ?_
  refine q8 ?_
  refine Ej.seq (Cj.cond rfl (fun hc59 => Bool.noConfusion (Eq.trans (Eq.symm rfl) hc59)) (fun hc59 => ?_))
  refine Cj.skip (Ej.blkNormal (Ej.seq (Cj.sr (J.z q1 ?_))))
  refine J.z q1 ?_
  refine J.ns (Cj.ret (Ej.keep (List.nil_sublist _) ?_))
  refine q20 ?_
  have he : Ke.isbn s = ([], false) := by unfold Ke.isbn Ke.isbnN; rw [if_neg hno, if_neg hno2]
  rw [he]
  exact ⟨rfl, rfl⟩
 have h13 : (Ke.norm s).length = 13 := by have h := ebq hg53; omega
 refine JA.tkG 4 3 39 true _ rfl fx52 rfl rfl hg53 q0 ?_
 refine JA.stepG 5 3 39 true _ (by kernel_rfl) rfl rfl rfl rfl hg53 (op_pure rfl rfl rfl rfl rfl (isDigits_ok (Ke.norm s) (by omega) _) ?_)
 refine ⟨fx0, ?_⟩
 refine JA.fix fx1 (fun fx54 => ?_)
 refine JA.tk 6 rfl fx54 (q22 hg53) ?_
 refine JA.tk 7 rfl fx54 q0 ?_
 refine JA.split 43 rfl (fun hg55 => ?_) (fun hg55 => ?_)
 ·have hdg : Ke.digits (Ke.norm s) = true := hg55
  have hd13 : Ke.digits ((Ke.norm s).take 12) = true := List.all_eq_true.2 fun c hc => List.all_eq_true.1 hdg c (List.mem_of_mem_take hc)
  obtain ⟨c, hg12⟩ : ∃ c, (Ke.norm s)[12]? = some c := ⟨_, lgg (by omega)⟩
  have hgd : (Ke.norm s).getD 12 0 = c := by rw [List.getD, hg12]; rfl
  refine JA.tkG 8 7 43 true _ rfl fx54 rfl rfl hg55 q0 ?_
  refine JA.tkG 10 7 43 true _ rfl fx54 rfl rfl hg55 q0 ?_
  refine JA.tkG 11 7 43 true _ rfl fx54 rfl rfl hg55 (yl_index rfl rfl rfl tU9 (by omega) hg12) ?_
  refine JA.stepG 9 7 43 true _ (by kernel_rfl) rfl rfl rfl rfl hg55 (op_pure rfl rfl rfl rfl rfl (check_ok (Ke.norm s) (by omega) (by omega) hd13 _) ?_)
  refine ⟨fx0, ?_⟩
  refine JA.fix fx1 (fun fx56 => ?_)
  refine JA.tkG 12 7 43 true _ rfl fx56 rfl rfl hg55 q19 ?_
  refine JA.tk 13 rfl fx56 (q22 hg55) ?_
  refine JA.tk 14 rfl fx56 q1 ?_
  refine q8 ?_
  refine Ej.seq (Cj.cond rfl (fun hc57 => ?_) (fun hc57 => ?_))
  ·have hc57p := ebq hc57
   have hck : Ke.check (Ke.norm s) = (Ke.norm s).getD 12 0 := by have h := ebq hc57; rw [hgd]; exact UInt8.toNat_inj.1 (by omega)
   refine Cj.sr (J.z q0 ?_)
   refine J.z q1 ?_
   refine J.z q1 ?_
   refine J.ns (Cj.ret (Ej.blkRet (Ej.seqRet (Ej.keep (List.nil_sublist _) ?_))))
   refine q20 ?_
   have he : Ke.isbn s = (Ke.norm s, true) := by unfold Ke.isbn Ke.isbnN; rw [if_neg hno, if_pos ⟨h13, hdg, hck⟩]
   rw [he]
   exact ⟨rfl, rfl⟩
  ·have hc57p := nbf hc57
   have hno2 : ¬ ((Ke.norm s).length = 13 ∧ Ke.digits (Ke.norm s) = true ∧ Ke.check (Ke.norm s) = (Ke.norm s).getD 12 0) := fun e => nbf hc57 (by rw [e.2.2, hgd])
   refine Cj.skip (Ej.blkNormal (Ej.seq (Cj.sr (J.z q1 ?_))))
   refine J.z q1 ?_
   refine J.ns (Cj.ret (Ej.keep (List.nil_sublist _) ?_))
   refine q20 ?_
   have he : Ke.isbn s = ([], false) := by unfold Ke.isbn Ke.isbnN; rw [if_neg hno, if_neg hno2]
   rw [he]
   exact ⟨rfl, rfl⟩
 ·have hno2 : ¬ ((Ke.norm s).length = 13 ∧ Ke.digits (Ke.norm s) = true ∧ Ke.check (Ke.norm s) = (Ke.norm s).getD 12 0) := fun e => Bool.noConfusion (e.2.1.symm.trans hg55)
  refine JA.tkS 8 7 43 true _ rfl fx54 rfl rfl (.inl (congrArg Value.bool hg55)) ?_
  refine JA.tkS 9 7 43 true _ rfl fx54 rfl rfl (.inl (congrArg Value.bool hg55)) ?_
  refine JA.tkS 10 7 43 true _ rfl fx54 rfl rfl (.inl (congrArg Value.bool hg55)) ?_
  refine JA.tkS 11 7 43 true _ rfl fx54 rfl rfl (.inl (congrArg Value.bool hg55)) ?_
  refine JA.tkS 12 7 43 true _ rfl fx54 rfl rfl (.inl (congrArg Value.bool hg55)) ?_
  refine JA.tk 13 rfl fx54 (q23 hg55) ?_
  refine JA.tk 14 rfl fx54 q1 ?_
  refine q8 ?_
  refine Ej.seq (Cj.cond rfl (fun hc58 => Bool.noConfusion (Eq.trans (Eq.symm rfl) hc58)) (fun hc58 => ?_))
  refine Cj.skip (Ej.blkNormal (Ej.seq (Cj.sr (J.z q1 ?_))))
  refine J.z q1 ?_
  refine J.ns (Cj.ret (Ej.keep (List.nil_sublist _) ?_))
  refine q20 ?_
  have he : Ke.isbn s = ([], false) := by unfold Ke.isbn Ke.isbnN; rw [if_neg hno, if_neg hno2]
  rw [he]
  exact ⟨rfl, rfl⟩
end Go.Proofs.YtekmeaoblpfnpaaGreatDoor
namespace Ke
abbrev Row := List Bs
def pg (s : Bs) : Bool → Row → Row
  | true, [] => []
  | false, [] => [s]
  | d, x :: r => if s < x ∧ d = false then s :: x :: pg s true r else x :: pg s d r
def put (l : Row) (s : Bs) : Row := if s ∈ l then l else pg s false l
def Inc (l : Row) : Prop := l.Pairwise (· < ·)
theorem pg_true (s : Bs) : ∀ l, pg s true l = l
  | [] => rfl
  | x :: r => by unfold pg; rw [if_neg (by simp), pg_true s r]
theorem pg_mem (s : Bs) : ∀ (l : Row) (x : Bs), x ∈ pg s false l ↔ x = s ∨ x ∈ l
  | [], x => by simp [pg]
  | y :: r, x => by
    unfold pg
    by_cases h : s < y
    · rw [if_pos ⟨h, rfl⟩, pg_true]; simp
    rw [if_neg (fun e => h e.1), List.mem_cons, pg_mem s r x, List.mem_cons]
    constructor
    · rintro (h | h | h) <;> simp [h]
    rintro (h | h | h) <;> simp [h]
theorem lt_of {a b : Bs} (h : ¬ b < a) (hne : a ≠ b) : a < b := by grind
theorem pg_inc (s : Bs) : ∀ {l : Row}, Inc l → s ∉ l → Inc (pg s false l)
  | [], _, _ => by simp [pg, Inc]
  | y :: r, hl, hn => by
    have hl' := List.pairwise_cons.1 hl
    unfold pg
    by_cases h : s < y
    · rw [if_pos ⟨h, rfl⟩, pg_true]
      refine List.pairwise_cons.2 ⟨fun z hz => ?_, hl⟩
      rcases List.mem_cons.1 hz with rfl | hz
      · exact h
      exact List.lt_trans h (hl'.1 z hz)
    rw [if_neg (fun e => h e.1)]
    refine List.pairwise_cons.2 ⟨fun z hz => ?_, pg_inc s hl'.2 fun e => hn (.tail _ e)⟩
    rcases (pg_mem s r z).1 hz with rfl | hz
    · exact lt_of h fun e => hn (e ▸ .head _)
    exact hl'.1 z hz
theorem put_mem (l : Row) (s x : Bs) : x ∈ put l s ↔ x = s ∨ x ∈ l := by grind [put, pg_mem]
theorem put_inc {l : Row} (s : Bs) (h : Inc l) : Inc (put l s) := by grind [put, pg_inc]
theorem puts_inc : ∀ (xs : Row) {l : Row}, Inc l → Inc (xs.foldl put l)
  | [], _, h => h
  | x :: r, _, h => puts_inc r (put_inc x h)
theorem puts_mem : ∀ (xs l : Row) (x : Bs), x ∈ xs.foldl put l ↔ x ∈ xs ∨ x ∈ l
  | [], _, _ => by simp
  | y :: r, l, x => by
    rw [List.foldl_cons, puts_mem r, put_mem, List.mem_cons]
    constructor
    · rintro (h | h | h) <;> simp [h]
    rintro ((h | h) | h) <;> simp [h]
theorem inc_eq : ∀ {a b : Row}, Inc a → Inc b → (∀ x, x ∈ a ↔ x ∈ b) → a = b
  | [], [], _, _, _ => rfl
  | [], y :: _, _, _, h => absurd ((h y).2 (.head _)) (by simp)
  | x :: _, [], _, _, h => absurd ((h x).1 (.head _)) (by simp)
  | x :: r, y :: t, ha, hb, h => by
    have ha' := List.pairwise_cons.1 ha
    have hb' := List.pairwise_cons.1 hb
    have hxy : x = y := by
      rcases List.mem_cons.1 ((h x).1 (.head _)) with e | e
      · exact e
      rcases List.mem_cons.1 ((h y).2 (.head _)) with e2 | e2
      · exact e2.symm
      exact absurd (List.lt_trans (hb'.1 x e) (ha'.1 y e2)) (List.lt_irrefl _)
    subst hxy
    rw [inc_eq ha'.2 hb'.2 fun z => ⟨fun hz => ?_, fun hz => ?_⟩]
    · rcases List.mem_cons.1 ((h z).1 (.tail _ hz)) with rfl | e
      · exact absurd (ha'.1 z hz) (List.lt_irrefl _)
      exact e
    rcases List.mem_cons.1 ((h z).2 (.tail _ hz)) with rfl | e
    · exact absurd (hb'.1 z hz) (List.lt_irrefl _)
    exact e
structure Sub where
  code : UInt8
  text : Bs
structure Fld where
  tag : Bs
  ind : Bs
  data : Bs
  sv : Go.Value
  subs : List Sub
def texts (f : Fld) (codes : Bs) : Row := (f.subs.filter fun s => codes.contains s.code).map (·.text)
def textOf (f : Fld) (codes : Bs) : Bs := join (texts f codes)
def skip (f : Fld) : Nat := match f.ind[1]? with
  | some c => if digit c then c.toNat - 48 else 0
  | none => 0
end Ke
namespace Go.Proofs.YtekmeaoblpfnpaaGreatDoor
open Go Go.Sx
def subC (s : Ke.Sub) : List Value := [u8 s.code, str s.text]
def fldC (f : Ke.Fld) : List Value := [str f.tag, str f.ind, str f.data, f.sv]
theorem subC_len (s : Ke.Sub) : (subC s).length = 2 := rfl
theorem fldC_len (f : Ke.Fld) : (fldC f).length = 4 := rfl
def RecS (I : Heap) (fs : List Ke.Fld) (v : Value) : Prop := RowS fldC I fs v ∧ ∀ f ∈ fs, RowS subC I f.subs f.sv
theorem RecS.mono {I I' : Heap} {fs : List Ke.Fld} {v : Value} (h : RecS I fs v) (hle : Le I I') : RecS I' fs v := ⟨h.1.mono hle, fun f hf => (h.2 f hf).mono hle⟩
def recV (k l : UInt8) (v : Value) : Value := .agg #[u8 k, u8 l, v]
def textsLen (ss : List Ke.Sub) : Nat := (ss.map (·.text.length)).sum
theorem gOk_len {base sz n : Nat} {xs ys : List Value} {g : Gs} (h : gOk base sz n xs g) (hl : ys.length = xs.length) : gOk base sz n ys g := by
  cases g with
  | none =>
    obtain ⟨h1, h2⟩ := h
    exact ⟨h1, List.length_eq_zero_iff.1 (by rw [hl, h2]; rfl)⟩
  | some q =>
    obtain ⟨b, c, sp⟩ := q
    obtain ⟨h1, h2, h3⟩ := h
    exact ⟨h1, by rw [hl]; exact h2, by rw [hl]; exact h3⟩
theorem fldC_one {f : Ke.Fld} {p : Option Addr} {n c : Nat} (h : f.sv = .slice p n c) : (fldC f).all Value.oneCell' = true := by
  unfold fldC; rw [h]; rfl
def tx (codes : List UInt8) (ss : List Ke.Sub) : List (List UInt8) := (ss.filter fun s => codes.contains s.code).map (·.text)
theorem tx_len (codes : List UInt8) (ss : List Ke.Sub) : (tx codes ss).length ≤ ss.length := by
  unfold tx; rw [List.length_map]; exact List.length_filter_le _ _
theorem join_len : ∀ l : List (List UInt8), (Ke.join l).length ≤ (l.map List.length).sum + l.length
  | [] => by simp [Ke.join]
  | [a] => by simp [Ke.join]
  | a :: b :: r => by
    have := join_len (b :: r)
    simp only [Ke.join, List.length_append, List.map_cons, List.sum_cons, List.length_cons, List.length_nil] at this ⊢
    omega
theorem tx_sum (codes : List UInt8) : ∀ ss : List Ke.Sub, ((tx codes ss).map List.length).sum ≤ textsLen ss
  | [] => by simp [tx]
  | s :: r => by
    have := tx_sum codes r
    unfold tx textsLen at this ⊢
    rw [List.filter_cons]
    split
    · simp only [List.map_cons, List.sum_cons]; omega
    simp only [List.map_cons, List.sum_cons]; omega
theorem textOf_len (f : Ke.Fld) (codes : List UInt8) : (Ke.textOf f codes).length ≤ textsLen f.subs + f.subs.length := by
  have h1 := join_len (tx codes f.subs); have h2 := tx_sum codes f.subs; have h3 := tx_len codes f.subs
  have : Ke.textOf f codes = Ke.join (tx codes f.subs) := rfl
  rw [this]; omega
theorem index_has (l : List UInt8) (c : UInt8) : decide (0 ≤ Lib.indexByte l c) = l.contains c := by
  induction l with
  | nil => rfl
  | cons d r ih =>
    rw [Lib.indexByte, List.contains_cons]
    simp only [beq_iff_eq]
    by_cases h : d = c
    · subst h; simp
    rw [if_neg h, show (c == d) = false from beq_eq_false_iff_ne.2 (Ne.symm h), Bool.false_or, ← ih]
    by_cases h0 : Lib.indexByte r c < 0
    · have : ¬ 0 ≤ Lib.indexByte r c := by omega
      rw [decide_eq_false this]
      exact decide_eq_false (by split <;> omega)
    have : 0 ≤ Lib.indexByte r c := by omega
    rw [decide_eq_true this]
    exact decide_eq_true (by split <;> omega)
theorem skip_no {f : Ke.Fld} (h : ¬ 1 < f.ind.length) : Ke.skip f = 0 := by
  unfold Ke.skip; rw [List.getElem?_eq_none (by omega)]
def StrP (I : Heap) (l : List (List UInt8)) (v : Value) : Prop := ∃ p c, v = .slice p l.length c ∧ l.length ≤ c ∧ (l ≠ [] → ∃ b o cs t fr sp, p = some ⟨b, o, none⟩ ∧ I b = some (.cells (List.toArray cs) t fr) ∧ cs.drop o = l.map str ++ sp)
theorem str_from {cs sp : List Value} {o : Nat} {l : List (List UInt8)} (h : cs.drop o = l.map str ++ sp) {k : Nat} {x : List UInt8} (hx : l[k]? = some x) : cs[o + k]? = some (str x) := by
  rw [← List.getElem?_drop, h]; exact str_get hx
theorem StrP.of {I : Heap} {l : List (List UInt8)} {v : Value} (h : StrS 9 I l v) : StrP I l v := by
  rcases h with ⟨rfl, rfl⟩ | ⟨b, c, sp, rfl, hc, hb⟩
  · exact ⟨none, 0, rfl, Nat.le_refl _, fun h => absurd rfl h⟩
  exact ⟨_, c, rfl, hc, fun _ => ⟨b, 0, _, _, _, sp, rfl, hb, rfl⟩⟩
theorem StrP.mono {I I' : Heap} {l : List (List UInt8)} {v : Value} (h : StrP I l v) (hle : Le I I') : StrP I' l v :=
  let ⟨p, c, h1, h2, h3⟩ := h; ⟨p, c, h1, h2, fun hn => let ⟨b, o, cs, t, fr, sp, h4, h5, h6⟩ := h3 hn; ⟨b, o, cs, t, fr, sp, h4, hle _ _ h5, h6⟩⟩
end Go.Proofs.YtekmeaoblpfnpaaGreatDoor
namespace Go.Sx
open Go
section
variable {cx : Cx} {Q : Qt} {o : Oper} {e : Env} {I : Heap} {H : HL} {C : Ct} {S : World → Prop}
end
section
variable {cx : Cx} {Q : Qt} {o : Oper} {e : Env} {I : Heap} {H : HL} {C : Ct} {S : World → Prop}
theorem yl_lssStr {x y : Operand} {T U : Nat} {l m : List UInt8} (ho : o.op = .binOp .lss T x y U) (hx : ev e x = some (str l)) (hy : ev e y = some (str m)) : Yld cx o e S (.bool (decide (l < m))) := by
  intro a w ha _
  have h := Go.Proofs.bytesLess_eq l m
  simp [execOp, ho, ha.eval hx, ha.eval hy, str, eqGuard_at_string, binOp, Op.stringOp, h]
theorem yl_geqStr {x y : Operand} {T U : Nat} {l m : List UInt8} (ho : o.op = .binOp .geq T x y U) (hx : ev e x = some (str l)) (hy : ev e y = some (str m)) : Yld cx o e S (.bool (!decide (l < m))) := by
  intro a w ha _
  have h := Go.Proofs.bytesLess_eq l m
  simp [execOp, ho, ha.eval hx, ha.eval hy, str, eqGuard_at_string, binOp, Op.stringOp, h]
theorem yl_gtrStr {x y : Operand} {T U : Nat} {l m : List UInt8} (ho : o.op = .binOp .gtr T x y U) (hx : ev e x = some (str l)) (hy : ev e y = some (str m)) : Yld cx o e S (.bool (!(decide (l < m) || l == m))) := by
  intro a w ha _
  have h := Go.Proofs.bytesLess_eq l m
  simp [execOp, ho, ha.eval hx, ha.eval hy, str, eqGuard_at_string, binOp, Op.stringOp, h]
end
theorem Le.mono {I J K : Heap} (h : Le I J) (k : Le J K) : Le I K := h.trans k
theorem Ej.retC {cx : Cx} {fn : Func} {post : Ending → Heap → HL → Prop} {e : Env} {I : Heap} {H H' : HL} {t T b n : Nat} {cs : List Value} {ty : TypeId} {fr : Nat × Nat} (hk : Keeps H' H) (hr : fn.results = #[.cell t T]) (hds : cx.ds = []) (hv : eg e t = some (ptr b 0))
    (hb : Blk (SS I H) b (.cells cs.toArray ty fr)) (ha0 : ∀ w, (isAgg T).run cx.P w = .ok true w) (hsz : ∀ w, (sizeOf T).run cx.P w = .ok n w) (hn : cs.length = n) (hp : post (.returned (.agg cs.toArray)) I H') :
    Ej cx (bodyPost cx.P fn (RR cx.w0 cx.D cx.I0 post)) .ret e I H := by
  intro a w ha hs
  refine ⟨ha.defs.trans hds, _, ?_, I, H', hs.sublist hk, hp⟩
  have h1 := ha.get t _ hv
  have hc : ∀ j v, cs[j]? = some v → w.cell? ((⟨b, 0, none⟩ : Addr).add j) = some v := fun j v hj => by
    rw [Addr.add_lit]; exact cell_of_heap (hb w hs.ss) (by simpa using hj)
  have h2 := run_loadCells_list (P := cx.P) (w := w) ⟨b, 0, none⟩ cs hc
  rw [hn] at h2
  simp [results, hr, h1, asAddr, loadVar, ha0, hsz, h2]
theorem flat_len {α : Type} {f : α → List Value} {sz : Nat} (hf : ∀ x, (f x).length = sz) : ∀ l : List α, (l.flatMap f).length = l.length * sz
  | [] => by simp
  | a :: r => by rw [List.flatMap_cons, List.length_append, hf a, flat_len hf r, List.length_cons, Nat.add_mul]; omega
theorem flat_one {α : Type} (f : α → List Value) (l : List α) (x : α) : (l ++ [x]).flatMap f = l.flatMap f ++ f x := by simp
section
variable {cx : Cx} {Q : Qt} {e : Env} {I : Heap} {R : HL} {T : TypeId} {α : Type} {l : List α} {f : α → List Value} {sz n base : Nat} {g : Gs}
theorem gR_cases {X : Heap → HL → Prop} (hf : ∀ x, (f x).length = sz) (hpos : 0 < sz) (hg : gOk base sz n (l.flatMap f) g) (hn : n = l.length) (hp : ∀ b o, base ≤ b → (∀ I', Le I I' → I' b = some o → X I' R) → X I ((b, o) :: R)) (k : ∀ I', Le I I' → RowS f I' l (gV n g) → X I' R) : X I (gH T (l.flatMap f) g ++ R) := by
  subst hn
  cases g with
  | none =>
    obtain ⟨h1, h2⟩ := hg
    have : l = [] := List.length_eq_zero_iff.1 h1
    subst this
    exact k I (Le.refl _) RowS.nil
  | some q =>
    obtain ⟨b, c, sp⟩ := q
    obtain ⟨h1, h2, h3⟩ := hg
    have hc : l.length ≤ c := by
      rw [flat_len hf] at h3
      exact Nat.le_of_mul_le_mul_right (by omega : l.length * sz ≤ c * sz) hpos
    exact hp b _ h1 fun I' hle hb => k I' hle ⟨_, c, rfl, hc, fun _ => ⟨b, 0, _, T, _, sp, rfl, hb, rfl⟩⟩
theorem Cj.keepR {c : Code} (hf : ∀ x, (f x).length = sz) (hpos : 0 < sz) (hg : gOk cx.w0.heap.size sz n (l.flatMap f) g) (hn : n = l.length) (k : ∀ I', Le I I' → RowS f I' l (gV n g) → Cj cx Q c e I' R) : Cj cx Q c e I (gH T (l.flatMap f) g ++ R) :=
  gR_cases (X := fun I H => Cj cx Q c e I H) hf hpos hg hn (fun _ _ hb k => Cj.persist hb k) k
theorem Ej.keepR {x : Exit} (hf : ∀ x, (f x).length = sz) (hpos : 0 < sz) (hg : gOk cx.w0.heap.size sz n (l.flatMap f) g) (hn : n = l.length) (k : ∀ I', Le I I' → RowS f I' l (gV n g) → Ej cx Q x e I' R) : Ej cx Q x e I (gH T (l.flatMap f) g ++ R) :=
  gR_cases (X := fun I H => Ej cx Q x e I H) hf hpos hg hn (fun _ _ hb k => Ej.persist hb k) k
theorem gV_one' (n : Nat) (g : Gs) : Value.oneCell' (gV n g) = true := by
  cases g with
  | none => rfl
  | some q => obtain ⟨b, c, sp⟩ := q; rfl
end
section
variable {cx : Cx} {o : Oper} {e : Env} {S : World → Prop}
theorem yl_sliceTo {x y : Operand} {T E n c sz j : Nat} {b : Option Addr} {kl : IntKind} (ho : o.op = .slice T x none (some y) none) (hx : ev e x = some (.slice b n c)) (hy : ev e y = some (.int kl (j : Int))) (hu : cx.P.underlying T = some (.slice E)) (hsz : ∀ w, (sizeOf E).run cx.P w = .ok sz w) (hj : j ≤ c) :
    Yld cx o e S (.slice b j c) := by
  intro a w ha _
  have h1 : (j : Int) ≤ c := by omega
  cases b with
  | none => simp [execOp, ho, ha.eval hx, ha.eval hy, Instr.sliceAt, Instr.slice, run_underlying hu, Instr.sliceBounds, run_sliceBound, h1, hsz]
  | some q =>
    simp [execOp, ho, ha.eval hx, ha.eval hy, Instr.sliceAt, Instr.slice, run_underlying hu, Instr.sliceBounds, run_sliceBound, h1, hsz, Addr.add]
end
theorem RowS.take {α : Type} {f : α → List Value} {I : Heap} {l : List α} {p : Option Addr} {c : Nat} (h : RowS f I l (.slice p l.length c)) {m : Nat} (hm : m ≤ l.length) : RowS f I (l.take m) (.slice p m c) := by
  obtain ⟨p', c', he, hc, hb⟩ := h
  cases he
  refine ⟨p, c, by rw [List.length_take, Nat.min_eq_left hm], by rw [List.length_take]; omega, fun hn => ?_⟩
  have hl : l ≠ [] := fun e => hn (by rw [e]; simp)
  obtain ⟨b, o, cs, t, fr, sp, h1, h2, h3⟩ := hb hl
  refine ⟨b, o, cs, t, fr, (l.drop m).flatMap f ++ sp, h1, h2, ?_⟩
  rw [h3, ← List.append_assoc, ← List.flatMap_append, List.take_append_drop]
theorem perm_swap {α : Type} (A G G' : List α) : (A ++ (G' ++ G)).Perm (A ++ (G ++ G')) := List.Perm.append_left A List.perm_append_comm
theorem all_flat {α : Type} {f : α → List Value} : ∀ {l : List α}, (∀ x ∈ l, (f x).all Value.oneCell' = true) → (l.flatMap f).all Value.oneCell' = true
  | [], _ => rfl
  | a :: r, h => by rw [List.flatMap_cons, List.all_append, h a (.head _), all_flat fun x hx => h x (.tail _ hx)]; rfl
theorem Src.row {P : Program} {I : Heap} {H : HL} {α : Type} {f : α → List Value} {sz : Nat} {l : List α} {v : Value} (hf : ∀ x, (f x).length = sz) (h : RowS f I l v) (h1 : ∀ x ∈ l, (f x).all Value.oneCell' = true) : Src P I H sz l.length v (l.flatMap f) := by
  obtain ⟨p, c, rfl, _, hb⟩ := h
  cases l with
  | nil => exact Src.nil
  | cons a r =>
    obtain ⟨b, o, cs, t, fr, sp, rfl, h2, h3⟩ := hb (by simp)
    have hl := flat_len hf (a :: r)
    exact Src.slice (Blk.imm h2) (by rw [h3, ← hl, List.take_left]) hl (all_flat h1)
def hputs : HL → Heap → Heap
  | [], I => I
  | (b, o) :: r, I => hput b o (hputs r I)
theorem hputs_at : ∀ {H : HL} {I : Heap}, (H.map (·.1)).Nodup → ∀ p ∈ H, hputs H I p.1 = some p.2
  | [], _, _, p, hp => by cases hp
  | (b, o) :: r, I, hn, p, hp => by
    rw [List.map_cons, List.nodup_cons] at hn
    unfold hputs hput
    rcases List.mem_cons.1 hp with e | e
    · rw [e]; simp
    have : p.1 ≠ b := fun g => hn.1 (by rw [← g]; exact List.mem_map_of_mem (f := (·.1)) e)
    rw [if_neg this]; exact hputs_at hn.2 p e
theorem hputs_off : ∀ {H : HL} {I : Heap} {b : Nat}, b ∉ H.map (·.1) → hputs H I b = I b
  | [], _, _, _ => rfl
  | (c, o) :: r, I, b, h => by
    rw [List.map_cons, List.mem_cons, not_or] at h
    unfold hputs hput
    rw [if_neg h.1]; exact hputs_off h.2
theorem hputs_le {H : HL} {I : Heap} (hd : ∀ p ∈ H, I p.1 = none) : Le I (hputs H I) := fun b o hb => by
  by_cases h : b ∈ H.map (·.1)
  · obtain ⟨p, hp, rfl⟩ := List.mem_map.1 h
    rw [hd p hp] at hb; cases hb
  rw [hputs_off h]; exact hb
def hless (H : HL) (J : Heap) : Heap := fun b => if b ∈ H.map (·.1) then none else J b
theorem hless_off {H : HL} {J : Heap} {b : Nat} (h : b ∉ H.map (·.1)) : hless H J b = J b := if_neg h
theorem Ctr.borrow {P : Program} {f : FuncId} {args : List Value} {I : Heap} {B : HL} {post : Ending → Heap → HL → Prop} (h : Ctr P f args (hputs B I) [] post) :
    Ctr P f args I B (fun e I' H' => ∃ J K, post e J K ∧ H' = B ++ K ∧ I' = hless B J ∧ ∀ p ∈ B, J p.1 = some p.2) := by
  refine ⟨h.1, fun w hw => ?_⟩
  obtain ⟨r1, r2, r3, r4⟩ := hw
  have hr : Ready (hputs B I) [] w := by
    unfold Ready
    refine ⟨fun b o hb => ?_, (fun p hp => by cases hp), List.Pairwise.nil, (fun p hp => by cases hp)⟩
    by_cases hm : b ∈ B.map (·.1)
    · obtain ⟨p, hp, rfl⟩ := List.mem_map.1 hm
      rw [hputs_at r3 p hp] at hb; cases hb
      exact r2 p hp
    rw [hputs_off hm] at hb; exact r1 b o hb
  refine (h.2 w hr).mono ?_
  rintro e w' ⟨J, K, hs, hp⟩
  have hJ : ∀ p ∈ B, J p.1 = some p.2 := fun p hp => hs.le _ _ (hputs_at r3 p hp)
  have hlt : ∀ p ∈ B, p.1 < w.heap.size := fun p hp => by
    have := r2 p hp
    rcases Nat.lt_or_ge p.1 w.heap.size with g | g
    · exact g
    rw [Array.getElem?_eq_none g] at this; cases this
  have hKB : ∀ q ∈ K, q.1 ∉ B.map (·.1) := fun q hq hm => by
    obtain ⟨p, hp, he⟩ := List.mem_map.1 hm
    have := hs.dis q hq
    rw [← he, hJ p hp] at this; cases this
  refine ⟨hless B J, B ++ K, ⟨hs.os, hs.tape, hs.output, hs.size, fun b hb _ => hs.frm b hb (by simp), fun b o hb => ?_, fun p hp => ?_, ?_, fun p hp => ?_, fun p hp => ?_, fun b hb => ?_, fun b o hb => ?_, noDr⟩, J, K, hp, rfl, rfl, hJ⟩
  · unfold hless at hb
    split at hb
    · cases hb
    exact hs.sub b o hb
  · rcases List.mem_append.1 hp with g | g
    · exact hs.sub _ _ (hJ p g)
    exact hs.own p g
  · rw [List.map_append, List.nodup_append]
    refine ⟨r3, hs.nodup, fun x hx y hy he => ?_⟩
    obtain ⟨q, hq, rfl⟩ := List.mem_map.1 hy
    exact hKB q hq (he ▸ hx)
  · unfold hless
    split
    · rfl
    rename_i hm
    rcases List.mem_append.1 hp with g | g
    · exact absurd (List.mem_map_of_mem g) hm
    exact hs.dis p g
  · rcases List.mem_append.1 hp with g | g
    · exact .inl (List.mem_map_of_mem g)
    rcases hs.new p g with k | k
    · cases k
    exact .inr k
  · unfold hless
    split
    · rename_i hm
      obtain ⟨p, hp, rfl⟩ := List.mem_map.1 hm
      exact (r4 p hp).symm
    rename_i hm
    rw [hs.ifr b hb, hputs_off hm]
  have hm : b ∉ B.map (·.1) := fun hm => by
    obtain ⟨p, hp, rfl⟩ := List.mem_map.1 hm
    rw [r4 p hp] at hb; cases hb
  rw [hless_off hm]
  exact hs.le b o (by rw [hputs_off hm]; exact hb)
theorem Ctr.withReady {P : Program} {f : FuncId} {args : List Value} {I : Heap} {H : HL} {post : Ending → Heap → HL → Prop} (he : Enters P f) (h : (H.map (·.1)).Nodup → (∀ p ∈ H, I p.1 = none) → Ctr P f args I H post) : Ctr P f args I H post :=
  ⟨he, fun w hw => (h hw.2.2.1 hw.2.2.2).2 w hw⟩
section
variable {cx : Cx} {Q : Qt} {e : Env} {I : Heap} {R : HL}
theorem persists_any {X : Heap → HL → Prop} {base : Nat} (hp : ∀ I b o R, base ≤ b → (∀ I', Le I I' → I' b = some o → X I' R) → X I ((b, o) :: R)) : ∀ (B : HL) (I : Heap), (∀ p ∈ B, base ≤ p.1) → (∀ I', Le I I' → (∀ p ∈ B, I' p.1 = some p.2) → X I' R) → X I (B ++ R)
  | [], I, _, k => k I (Le.refl _) fun p hp => by cases hp
  | (b, o) :: r, I, hb, k => hp I b o (r ++ R) (hb _ (.head _)) fun I' hle hI => persists_any hp r I' (fun p hp => hb p (.tail _ hp)) fun I2 hle2 hI2 => k I2 (hle.trans hle2) fun p hp => by
    rcases List.mem_cons.1 hp with g | g
    · rw [g]; exact hle2 _ _ hI
    exact hI2 p g
theorem J.persists {ops : Array Oper} {l : List Oper} (B : HL) (hb : ∀ p ∈ B, cx.w0.heap.size ≤ p.1) (k : ∀ I', Le I I' → (∀ p ∈ B, I' p.1 = some p.2) → J cx Q ops l e I' R) : J cx Q ops l e I (B ++ R) :=
  persists_any (X := fun I H => J cx Q ops l e I H) (fun _ _ _ _ hb k => J.persist hb k) B I hb k
theorem Cj.persists {c : Code} (B : HL) (hb : ∀ p ∈ B, cx.w0.heap.size ≤ p.1) (k : ∀ I', Le I I' → (∀ p ∈ B, I' p.1 = some p.2) → Cj cx Q c e I' R) : Cj cx Q c e I (B ++ R) :=
  persists_any (X := fun I H => Cj cx Q c e I H) (fun _ _ _ _ hb k => Cj.persist hb k) B I hb k
end
def RowT {α : Type} (T : TypeId) (f : α → List Value) (I : Heap) (l : List α) (v : Value) : Prop :=
  ∃ p c, v = .slice p l.length c ∧ l.length ≤ c ∧ (l ≠ [] → ∃ b sp, p = some ⟨b, 0, none⟩ ∧ I b = some (cel T (l.flatMap f ++ sp)))
theorem RowT.mono {α : Type} {T : TypeId} {f : α → List Value} {I I' : Heap} {l : List α} {v : Value} (h : RowT T f I l v) (hle : Le I I') : RowT T f I' l v :=
  let ⟨p, c, h1, h2, h3⟩ := h; ⟨p, c, h1, h2, fun hn => let ⟨b, sp, h4, h5⟩ := h3 hn; ⟨b, sp, h4, hle _ _ h5⟩⟩
theorem RowT.row {α : Type} {T : TypeId} {f : α → List Value} {I : Heap} {l : List α} {v : Value} (h : RowT T f I l v) : RowS f I l v :=
  let ⟨p, c, h1, h2, h3⟩ := h; ⟨p, c, h1, h2, fun hn => let ⟨b, sp, h4, h5⟩ := h3 hn; ⟨b, 0, _, T, _, sp, h4, h5, rfl⟩⟩
theorem RowT.nil {α : Type} {T : TypeId} {f : α → List Value} {I : Heap} : RowT T f I ([] : List α) (.slice none 0 0) := ⟨none, 0, rfl, Nat.le_refl _, fun h => absurd rfl h⟩
section
variable {cx : Cx} {Q : Qt} {e : Env} {I : Heap} {R : HL} {T : TypeId} {α : Type} {l : List α} {f : α → List Value} {sz n base : Nat} {g : Gs}
theorem gT_cases {X : Heap → HL → Prop} (hf : ∀ x, (f x).length = sz) (hpos : 0 < sz) (hg : gOk base sz n (l.flatMap f) g) (hn : n = l.length) (hp : ∀ b o, base ≤ b → (∀ I', Le I I' → I' b = some o → X I' R) → X I ((b, o) :: R)) (k : ∀ I', Le I I' → RowT T f I' l (gV n g) → X I' R) : X I (gH T (l.flatMap f) g ++ R) := by
  subst hn
  cases g with
  | none =>
    obtain ⟨h1, h2⟩ := hg
    have : l = [] := List.length_eq_zero_iff.1 h1
    subst this
    exact k I (Le.refl _) RowT.nil
  | some q =>
    obtain ⟨b, c, sp⟩ := q
    obtain ⟨h1, h2, h3⟩ := hg
    have hc : l.length ≤ c := by
      rw [flat_len hf] at h3
      exact Nat.le_of_mul_le_mul_right (by omega : l.length * sz ≤ c * sz) hpos
    exact hp b _ h1 fun I' hle hb => k I' hle ⟨_, c, rfl, hc, fun _ => ⟨b, sp, rfl, hb⟩⟩
theorem Cj.keepT {c : Code} (hf : ∀ x, (f x).length = sz) (hpos : 0 < sz) (hg : gOk cx.w0.heap.size sz n (l.flatMap f) g) (hn : n = l.length) (k : ∀ I', Le I I' → RowT T f I' l (gV n g) → Cj cx Q c e I' R) : Cj cx Q c e I (gH T (l.flatMap f) g ++ R) :=
  gT_cases (X := fun I H => Cj cx Q c e I H) hf hpos hg hn (fun _ _ hb k => Cj.persist hb k) k
end
theorem St.dperm {w0 w : World} {D D' : List Nat} {I0 I : Heap} {H : HL} (h : St w0 D I0 I H w) (hd : ∀ b, b ∈ D ↔ b ∈ D') : St w0 D' I0 I H w :=
  ⟨h.os, h.tape, h.output, h.size, fun b hb hn => h.frm b hb (fun g => hn ((hd b).1 g)), h.sub, h.own, h.nodup, h.dis, fun p hp => (h.new p hp).imp (hd p.1).1 id, h.ifr, h.le, h.drw⟩
theorem Ctr.perm {P : Program} {f : FuncId} {args : List Value} {I : Heap} {H H1 : HL} {post : Ending → Heap → HL → Prop} (hp : H1.Perm H) (h : Ctr P f args I H1 post) : Ctr P f args I H post :=
  ⟨h.1, fun w hw => by
    obtain ⟨r1, r2, r3, r4⟩ := hw
    have hr : Ready I H1 w := ⟨r1, fun p g => r2 p (hp.mem_iff.1 g), (hp.map _).nodup_iff.2 r3, fun p g => r4 p (hp.mem_iff.1 g)⟩
    refine (h.2 w hr).mono ?_
    rintro e w' ⟨I', K, hk, hq⟩
    exact ⟨I', K, hk.dperm (fun b => (hp.map _).mem_iff), hq⟩⟩
theorem Ctr.leave {P : Program} {f : FuncId} {args : List Value} {I : Heap} {H : HL} {post post' : Ending → Heap → HL → Prop} (h : Ctr P f args I H post) (hp : ∀ e I' H', Le I I' → post e I' H' → ∃ K S, (K ++ S).Perm H' ∧ post' e I' K) : Ctr P f args I H post' :=
  ⟨h.1, fun w hw => (h.2 w hw).mono fun e w' ⟨I', H', hs, hq⟩ => by
    obtain ⟨K, S, hk, hq'⟩ := hp e I' H' hs.le hq
    exact ⟨I', K, (hs.perm hk).sublist (List.sublist_append_left K S), hq'⟩⟩
section
variable {cx : Cx} {Q : Qt} {o : Oper} {e : Env} {I : Heap} {H : HL} {C : Ct}
theorem op_callR {H1 : HL} (R : HL) {d f : Nat} {fo : Operand} {xs : List Operand} {ts : Array TypeId} {fst cap vs : List Value} {post : Ending → Heap → HL → Prop} (hH : H = R ++ H1)
    (ho : o.op = .call ⟨.value fo, xs.toArray, ts⟩) (hd : o.dst = some d) (hn : Nat.blt d cx.n = true) (hf : ev e fo = some (.func (.func f) fst.toArray cap.toArray)) (hx : evs e xs = some vs)
    (hs : Ctr cx.P f (fst ++ vs ++ cap) I H1 post)
    (k : ∀ v I' H1', Le I I' → post (.returned v) I' H1' → C ((d, v) :: e) I' (R ++ H1'))
    (kp : ∀ ch I' H1', Le I I' → post (.panicked ch) I' H1' → Ej cx Q (.panic ch) e I' (R ++ H1'))
    (ko : ∀ I' H1', ¬ post .outgrown I' H1') : OpJ cx Q o e I H C := by
  subst hH
  refine OpJ.perm (H' := H1 ++ R) List.perm_append_comm fun K hK => ?_
  exact op_call (C := fun e' I' H' => ∃ H1', H' = H1' ++ R ∧ C e' I' (R ++ H1')) ho hd hn hf hx hs (fun v I' H1' hle hp => ⟨H1', rfl, k v I' H1' hle hp⟩) (fun ch I' H1' hle hp => Ej.perm List.perm_append_comm (kp ch I' H1' hle hp)) ko K
    fun e' I' H' ⟨H1', hH, hC⟩ a w ha hs => hK e' I' (R ++ H1') hC a w ha (by subst hH; exact hs.perm List.perm_append_comm)
end
section
variable {cx : Cx} {Q : Qt} {o : Oper} {e : Env} {I : Heap} {H : HL} {C : Ct}
theorem op_deleteNil {α : Type} [BEq α] {kv : α → Value} {a : α} {T U : Nat} {m x : Operand} {K E : Nat} {kx : Value} (ho : o.op = .call ⟨.builtin .delete, #[m, x], #[T, U]⟩) (hd : o.dst = none) (hm : ev e m = some (.map none)) (hx : ev e x = some kx) (hkx : kx = kv a) (hT : cx.P.underlying T = some (.map K E)) (hK : KeyK cx.P K kv) (kk : C e I H) : OpJ cx Q o e I H C := by
  intro Kk hKk w0 w ha hs
  unfold Oper.wp
  subst hkx
  have : (execOp w0.eval o).run cx.P w = .ok (.value (.tuple #[])) w := by
    simp [execOp, ho, resolve, invoke, builtin, ha.eval hm, ha.eval hx, Builtin.delete_, run_underlying hT, hK.2.1]
  rw [this]
  simp only [Oper.upon, hd]
  exact hKk _ _ _ kk _ _ ha.putNone hs
end
def cutA (a : Option Addr) (c j sz : Nat) : Option Addr := if c = j then a else a.map (·.add (j * sz))
section
variable {cx : Cx} {o : Oper} {e : Env} {S : World → Prop}
theorem yl_slice2 {x y z : Operand} {T E n c sz j k : Nat} {a : Option Addr} {kl kh : IntKind} {kk : Int} (ho : o.op = .slice T x (some y) (some z) none) (hx : ev e x = some (.slice a n c)) (hy : ev e y = some (.int kl (j : Int))) (hz : ev e z = some (.int kh kk)) (hu : cx.P.underlying T = some (.slice E)) (hsz : ∀ w, (sizeOf E).run cx.P w = .ok sz w) (hk : kk = (k : Int)) (hj : j ≤ k) (hc : k ≤ c) :
    Yld cx o e S (.slice (cutA a c j sz) (k - j) (c - j)) := by
  intro w0 w ha _
  subst hk
  have h1 : (k : Int) ≤ c := by omega
  have h2 : (j : Int) ≤ k := by omega
  unfold cutA
  simp [execOp, ho, ha.eval hx, ha.eval hy, ha.eval hz, Instr.sliceAt, Instr.slice, run_underlying hu, Instr.sliceBounds, run_sliceBound, h1, h2, hsz]
theorem yl_slice1 {x y : Operand} {T E n c sz j : Nat} {a : Option Addr} {kl : IntKind} {jj : Int} (ho : o.op = .slice T x (some y) none none) (hx : ev e x = some (.slice a n c)) (hy : ev e y = some (.int kl jj)) (hu : cx.P.underlying T = some (.slice E)) (hsz : ∀ w, (sizeOf E).run cx.P w = .ok sz w) (hjj : jj = (j : Int)) (hj : j ≤ n) (_hc : n ≤ c) :
    Yld cx o e S (.slice (cutA a c j sz) (n - j) (c - j)) := by
  intro w0 w ha _
  subst hjj
  have h1 : (j : Int) ≤ n := by omega
  unfold cutA
  simp [execOp, ho, ha.eval hx, ha.eval hy, Instr.sliceAt, Instr.slice, run_underlying hu, Instr.sliceBounds, run_sliceBound, h1, hsz]
theorem yl_slice0 {x z : Operand} {T E n c sz k : Nat} {a : Option Addr} {kh : IntKind} {kk : Int} (ho : o.op = .slice T x none (some z) none) (hx : ev e x = some (.slice a n c)) (hz : ev e z = some (.int kh kk)) (hu : cx.P.underlying T = some (.slice E)) (hsz : ∀ w, (sizeOf E).run cx.P w = .ok sz w) (hk : kk = (k : Int)) (hc : k ≤ c) :
    Yld cx o e S (.slice a k c) := by
  subst hk
  exact yl_sliceTo ho hx hz hu hsz hc
end
theorem drop_flat {α : Type} {f : α → List Value} {sz : Nat} (hf : ∀ x, (f x).length = sz) : ∀ (l : List α) (j : Nat) (sp : List Value), j ≤ l.length → (l.flatMap f ++ sp).drop (j * sz) = (l.drop j).flatMap f ++ sp
  | l, 0, sp, _ => by simp
  | [], j + 1, sp, h => by simp at h
  | a :: r, j + 1, sp, h => by
    rw [List.flatMap_cons, List.append_assoc, show (j + 1) * sz = (f a).length + j * sz by rw [hf, Nat.add_mul]; omega, ← List.drop_drop, List.drop_left, List.drop_succ_cons]
    exact drop_flat hf r j sp (by simpa using h)
theorem RowS.cut {α : Type} {f : α → List Value} {sz : Nat} (hf : ∀ x, (f x).length = sz) {I : Heap} {l : List α} {a : Option Addr} {n c : Nat} (h : RowS f I l (.slice a n c)) {j k : Nat} (hj : j ≤ k) (hk : k ≤ l.length) : RowS f I ((l.drop j).take (k - j)) (.slice (cutA a c j sz) (k - j) (c - j)) := by
  obtain ⟨p', c', he, hc, hb⟩ := h
  cases he
  refine ⟨_, c - j, by rw [List.length_take, List.length_drop]; congr 1; omega, by rw [List.length_take, List.length_drop]; omega, fun hn => ?_⟩
  have hlt : j < k := by
    rcases Nat.lt_or_ge j k with g | g
    · exact g
    exact absurd (by rw [show k - j = 0 by omega, List.take_zero]) hn
  have hl : l ≠ [] := fun e => hn (by rw [e]; simp)
  obtain ⟨b, o, cs, t, fr, sp, h1, h2, h3⟩ := hb hl
  subst h1
  refine ⟨b, o + j * sz, cs, t, fr, ((l.drop j).drop (k - j)).flatMap f ++ sp, ?_, h2, ?_⟩
  · unfold cutA
    rw [if_neg (by omega), Option.map_some, Addr.add_lit]
  rw [← List.drop_drop, h3, drop_flat hf l j sp (by omega), ← List.append_assoc, ← List.flatMap_append, List.take_append_drop]
end Go.Sx
namespace Ix
open Ke
abbrev Rec := Int × Int
def lessR (a b : Rec) : Bool := decide (a.1 < b.1) || (decide (a.1 = b.1) && decide (a.2 < b.2))
theorem lessR_iff {a b : Rec} : lessR a b = true ↔ a.1 < b.1 ∨ (a.1 = b.1 ∧ a.2 < b.2) := by simp [lessR]
theorem lessR_irr (a : Rec) : lessR a a = false := by rw [Bool.eq_false_iff, Ne, lessR_iff]; omega
theorem lessR_trans {a b c : Rec} (h1 : lessR a b = true) (h2 : lessR b c = true) : lessR a c = true := by
  rw [lessR_iff] at *; omega
theorem lessR_tri (a b : Rec) : lessR a b = true ∨ a = b ∨ lessR b a = true := by grind [lessR_iff]
section
variable {β : Type}
abbrev Ls (β : Type) := List (Rec × β)
def Srt (l : Ls β) : Prop := l.Pairwise fun a b => lessR a.1 b.1 = true
def rput (t : Rec) (v : β) : Ls β → Ls β
  | [] => [(t, v)]
  | (u, x) :: r => if lessR u t then (u, x) :: rput t v r else if u = t then (t, v) :: r else (t, v) :: (u, x) :: r
def rdrop (t : Rec) (l : Ls β) : Ls β := l.filter fun e => decide (e.1 ≠ t)
def rget (l : Ls β) (t : Rec) : Option β := (l.find? fun e => decide (e.1 = t)).map (·.2)
theorem rput_mem (t : Rec) (v : β) : ∀ {l : Ls β}, Srt l → ∀ e, e ∈ rput t v l ↔ e = (t, v) ∨ (e ∈ l ∧ e.1 ≠ t)
  | [], _, e => by simp [rput]
  | (u, x) :: r, h, e => by
    have h' := List.pairwise_cons.1 h
    unfold rput
    by_cases h1 : lessR u t = true
    · rw [if_pos h1, List.mem_cons, rput_mem t v h'.2, List.mem_cons]
      have hu : u ≠ t := fun g => by rw [g, lessR_irr] at h1; cases h1
      constructor
      · rintro (g | g | g)
        · exact .inr ⟨.inl g, by rw [g]; exact hu⟩
        · exact .inl g
        exact .inr ⟨.inr g.1, g.2⟩
      rintro (g | ⟨g | g, h2⟩)
      · exact .inr (.inl g)
      · exact .inl g
      exact .inr (.inr ⟨g, h2⟩)
    rw [if_neg h1]
    by_cases h2 : u = t
    · rw [if_pos h2, List.mem_cons, List.mem_cons]
      subst h2
      constructor
      · rintro (g | g)
        · exact .inl g
        refine .inr ⟨.inr g, fun h3 => ?_⟩
        have := h'.1 e g
        rw [h3] at this
        simp only [lessR_irr] at this; cases this
      rintro (g | ⟨g | g, h3⟩)
      · exact .inl g
      · exact absurd (by rw [g]) h3
      exact .inr g
    rw [if_neg h2, List.mem_cons]
    have h3 : lessR t u = true := ((lessR_tri u t).resolve_left h1).resolve_left h2
    constructor
    · rintro (g | g)
      · exact .inl g
      refine .inr ⟨g, fun h4 => ?_⟩
      rcases List.mem_cons.1 g with g | g
      · rw [g] at h4; exact h2 h4
      have := lessR_trans h3 (h'.1 e g)
      rw [h4, lessR_irr] at this; cases this
    rintro (g | g)
    · exact .inl g
    exact .inr g.1
theorem rput_srt (t : Rec) (v : β) : ∀ {l : Ls β}, Srt l → Srt (rput t v l)
  | [], _ => List.pairwise_singleton _ _
  | (u, x) :: r, h => by
    have h' := List.pairwise_cons.1 h
    unfold rput
    by_cases h1 : lessR u t = true
    · rw [if_pos h1]
      refine List.pairwise_cons.2 ⟨fun e he => ?_, rput_srt t v h'.2⟩
      rcases (rput_mem t v h'.2 e).1 he with g | g
      · rw [g]; exact h1
      exact h'.1 e g.1
    rw [if_neg h1]
    by_cases h2 : u = t
    · rw [if_pos h2]
      subst h2
      exact List.pairwise_cons.2 ⟨fun e he => h'.1 e he, h'.2⟩
    rw [if_neg h2]
    have h3 : lessR t u = true := ((lessR_tri u t).resolve_left h1).resolve_left h2
    refine List.pairwise_cons.2 ⟨fun e he => ?_, h⟩
    rcases List.mem_cons.1 he with g | g
    · rw [g]; exact h3
    exact lessR_trans h3 (h'.1 e g)
theorem rdrop_srt (t : Rec) {l : Ls β} (h : Srt l) : Srt (rdrop t l) := h.filter _
theorem rdrop_mem (t : Rec) (l : Ls β) (e : Rec × β) : e ∈ rdrop t l ↔ e ∈ l ∧ e.1 ≠ t := by simp [rdrop]
theorem srt_eq {a b : Ls β} (ha : Srt a) (hb : Srt b) (h : ∀ e, e ∈ a ↔ e ∈ b) : a = b := by
  induction a generalizing b with
  | nil =>
    rcases b with _ | ⟨y, t⟩
    · rfl
    exact absurd ((h y).2 (.head _)) (by simp)
  | cons x r ih =>
    rcases b with _ | ⟨y, t⟩
    · exact absurd ((h x).1 (.head _)) (by simp)
    have ha' := List.pairwise_cons.1 ha
    have hb' := List.pairwise_cons.1 hb
    have hxy : x = y := by
      rcases List.mem_cons.1 ((h x).1 (.head _)) with e | e
      · exact e
      rcases List.mem_cons.1 ((h y).2 (.head _)) with e2 | e2
      · exact e2.symm
      have := lessR_trans (hb'.1 x e) (ha'.1 y e2)
      rw [lessR_irr] at this; cases this
    subst hxy
    rw [ih ha'.2 hb'.2 fun z => ⟨fun hz => ?_, fun hz => ?_⟩]
    · rcases List.mem_cons.1 ((h z).1 (.tail _ hz)) with rfl | e
      · have := ha'.1 z hz; rw [lessR_irr] at this; cases this
      exact e
    rcases List.mem_cons.1 ((h z).2 (.tail _ hz)) with rfl | e
    · have := hb'.1 z hz; rw [lessR_irr] at this; cases this
    exact e
theorem srt_key {l : Ls β} (h : Srt l) {a b : Rec × β} (ha : a ∈ l) (hb : b ∈ l) (he : a.1 = b.1) : a = b := by
  induction l with
  | nil => cases ha
  | cons x r ih =>
    have h' := List.pairwise_cons.1 h
    rcases List.mem_cons.1 ha with g1 | g1 <;> rcases List.mem_cons.1 hb with g2 | g2
    · rw [g1, g2]
    · have := h'.1 b g2; rw [← g1, he, lessR_irr] at this; cases this
    · have := h'.1 a g1; rw [← g2, ← he, lessR_irr] at this; cases this
    exact ih h'.2 g1 g2
theorem srt_nodup {l : Ls β} (h : Srt l) : (l.map (·.1)).Nodup := by
  rw [List.nodup_iff_pairwise_ne, List.pairwise_map]
  exact h.imp fun {a b} g e => by rw [e, lessR_irr] at g; cases g
theorem rget_iff {l : Ls β} (h : Srt l) {t : Rec} {v : β} : rget l t = some v ↔ (t, v) ∈ l := by
  unfold rget
  constructor
  · intro g
    obtain ⟨e, he, rfl⟩ := Option.map_eq_some_iff.1 g
    have h1 := List.find?_some he
    have h2 : e.1 = t := of_decide_eq_true h1
    have := List.mem_of_find?_eq_some he
    rw [← h2]; exact this
  intro g
  have hs : (l.find? fun e => decide (e.1 = t)).isSome = true := by
    rw [List.find?_isSome]; exact ⟨_, g, by simp⟩
  obtain ⟨e, he⟩ := Option.isSome_iff_exists.1 hs
  have h0 := List.find?_some he
  have h1 : e.1 = t := of_decide_eq_true h0
  have h2 := srt_key h (List.mem_of_find?_eq_some he) g h1
  rw [he, h2]; rfl
theorem rget_none {l : Ls β} {t : Rec} : rget l t = none ↔ ∀ e ∈ l, e.1 ≠ t := by grind [rget, Option.map_eq_none_iff]
def rputs (es l : Ls β) : Ls β := es.foldl (fun l e => rput e.1 e.2 l) l
end
end Ix
namespace Ke
def isb (s : Sub) : Option Bs := if (isbn s.text).2 = true ∧ s.code = 97 then some (isbn s.text).1 else none
end Ke
namespace Ix
open Ke
def runsF (w : Bs) : Bs → List Bs
  | [] => if w = [] then [] else [w]
  | c :: r => if digit c then runsF (w ++ [c]) r else if w = [] then runsF [] r else w :: runsF [] r
def runsD (s : Bs) : List Bs := runsF [] s
def yearOf (s : Bs) : Option Bs := (runsD s).find? fun x => decide (x.length = 4)
structure V where
  name : Bs
  text : Bs
  skip : Nat
def V.key (v : V) : Bs := sortKey v.text v.skip
def V.ws (v : V) : Row := words v.text
def nTitle : Bs := [116, 105, 116, 108, 101]
def nAuthor : Bs := [97, 117, 116, 104, 111, 114]
def nSubject : Bs := [115, 117, 98, 106, 101, 99, 116]
def nIsbn : Bs := [105, 115, 98, 110]
def nYear : Bs := [121, 101, 97, 114]
def nAny : Bs := [97, 110, 121]
def allText (f : Fld) : Bs := join (f.subs.map (·.text))
def yr (s : Sub) : Option Bs := if s.code = 99 then yearOf s.text else none
def named (f : Fld) : Bs × Row :=
  if f.tag = [50, 52, 53] ∨ f.tag = [50, 52, 54] then (nTitle, [textOf f [97, 98]])
  else if f.tag = [49, 48, 48] ∨ f.tag = [49, 49, 48] ∨ f.tag = [55, 48, 48] then (nAuthor, [textOf f [97]])
  else if f.tag = [54, 48, 48] ∨ f.tag = [54, 53, 48] then (nSubject, [textOf f [97, 120]])
  else if f.tag = [48, 50, 48] then (nIsbn, f.subs.filterMap isb)
  else if f.tag = [50, 54, 48] then (nYear, f.subs.filterMap yr)
  else ([], [])
def skipT (f : Fld) : Nat := if f.tag = [50, 52, 53] then skip f else 0
def anyOk (f : Fld) : Bool := !([48, 48] : Bs).isPrefixOf f.tag && !([57] : Bs).isPrefixOf f.tag
def vals1 (f : Fld) : List V := (named f).2.map (fun s => ⟨(named f).1, s, skipT f⟩) ++ if anyOk f then [⟨nAny, allText f, 0⟩] else []
def vals (fs : List Fld) : List V := fs.flatMap vals1
abbrev Ix := Ls (List V)
def within (w : Row) : Row → Bool
  | [] => w.isEmpty
  | x :: r => w.isPrefixOf (x :: r) || within w r
def hasW (n : Bs) (w : Row) (vs : List V) : Bool := vs.any fun v => decide (v.name = n) && within w v.ws
def hasK (n k : Bs) (vs : List V) : Bool := vs.any fun v => decide (v.name = n) && decide (v.key = k)
def phrase (L : Ix) (n : Bs) (w : Row) : List Rec := if w = [] then [] else (L.filter fun e => hasW n w e.2).map (·.1)
def word (L : Ix) (n s : Bs) : List Rec := if (words s).length = 1 then phrase L n (words s) else []
def withK (L : Ix) (n k : Bs) : List Rec := if k = [] then [] else (L.filter fun e => hasK n k e.2).map (·.1)
def keyOf (n s : Bs) : Bs := if (isbn s).2 = true ∧ n = nIsbn then sortKey (isbn s).1 0 else sortKey s 0
def keysOf (n : Bs) (vs : List V) : Row := ((vs.filter fun v => decide (v.name = n)).map V.key).filter fun k => decide (k ≠ [])
def keysAll (L : Ix) (n begin : Bs) : Row := ((L.flatMap fun e => keysOf n e.2).filter fun k => decide (¬ k < begin)).foldl put []
def scan (L : Ix) (n s : Bs) (most : Int) : List (Bs × Nat) := ((keysAll L n (keyOf n s)).take most.toNat).map fun k => (k, (withK L n k).length)
def sortOf (L : Ix) (t : Rec) : Bs := match rget L t with
  | none => []
  | some vs => match vs.find? fun v => decide (v.name = nTitle) with
    | none => []
    | some v => v.key
theorem within_iff {w : Row} : ∀ {l : Row}, within w l = true ↔ w <:+: l
  | [] => by
    unfold within
    rw [List.infix_nil]
    cases w <;> simp
  | x :: r => by
    unfold within
    rw [Bool.or_eq_true, within_iff, List.infix_cons_iff, List.isPrefixOf_iff_prefix]
theorem within_one {x : Bs} {l : Row} : within [x] l = true ↔ x ∈ l := by
  rw [within_iff]
  constructor
  · rintro ⟨s, t, rfl⟩; simp
  intro h
  obtain ⟨s, t, rfl⟩ := List.append_of_mem h
  exact ⟨s, t, by simp⟩
theorem within_mem {x : Bs} {w l : Row} (h : within (x :: w) l = true) : x ∈ l := by
  rw [within_iff] at h
  exact h.subset (.head _)
end Ix
namespace Ix
open Ke
abbrev Pl := Bs × Bs
def plW (vs : List V) : List Pl := vs.flatMap fun v => v.ws.map fun w => (v.name, w)
def plK (vs : List V) : List Pl := vs.flatMap fun v => if v.key = [] then [] else [(v.name, v.key)]
def cnt (pl : List V → List Pl) (L : Ix) (p : Pl) (t : Rec) : Nat := match rget L t with
  | none => 0
  | some vs => (pl vs).count p
def way (f : Pl → Rec → Nat) (t : Rec) (n : Pl → Nat) (p : Pl) (u : Rec) : Nat := if u = t then n p else f p u
theorem rget_rput {L : Ix} (h : Srt L) (t u : Rec) (v : List V) : rget (rput t v L) u = if u = t then some v else rget L u := by
  by_cases hu : u = t
  · rw [if_pos hu, rget_iff (rput_srt t v h), rput_mem t v h, hu]; exact .inl rfl
  rw [if_neg hu]
  cases hg : rget L u with
  | none =>
    rw [rget_none] at hg ⊢
    intro e he
    rcases (rput_mem t v h e).1 he with g | g
    · rw [g]; exact Ne.symm hu
    exact hg e g.1
  | some x =>
    rw [rget_iff h] at hg
    rw [rget_iff (rput_srt t v h), rput_mem t v h]
    exact .inr ⟨hg, hu⟩
theorem rget_rdrop {L : Ix} (h : Srt L) (t u : Rec) : rget (rdrop t L) u = if u = t then none else rget L u := by
  by_cases hu : u = t
  · rw [if_pos hu, rget_none]
    intro e he
    rw [hu]; exact ((rdrop_mem t L e).1 he).2
  rw [if_neg hu]
  cases hg : rget L u with
  | none =>
    rw [rget_none] at hg ⊢
    exact fun e he => hg e ((rdrop_mem t L e).1 he).1
  | some x =>
    rw [rget_iff h] at hg
    rw [rget_iff (rdrop_srt t h), rdrop_mem]
    exact ⟨hg, hu⟩
theorem cnt_rput {pl : List V → List Pl} {L : Ix} (h : Srt L) (t : Rec) (v : List V) : cnt pl (rput t v L) = way (cnt pl L) t fun p => (pl v).count p := by
  funext p u
  unfold cnt way
  rw [rget_rput h]
  by_cases hu : u = t
  · rw [if_pos hu, if_pos hu]
  rw [if_neg hu, if_neg hu]
theorem cnt_rdrop {pl : List V → List Pl} {L : Ix} (h : Srt L) (t : Rec) : cnt pl (rdrop t L) = way (cnt pl L) t fun _ => 0 := by
  funext p u
  unfold cnt way
  rw [rget_rdrop h]
  by_cases hu : u = t
  · rw [if_pos hu, if_pos hu]
  rw [if_neg hu, if_neg hu]
theorem cnt_some {pl : List V → List Pl} {L : Ix} {t : Rec} {vs : List V} (h : rget L t = some vs) : cnt pl L = way (cnt pl L) t fun p => (pl vs).count p := by unfold way cnt; grind
theorem cnt_none {pl : List V → List Pl} {L : Ix} {t : Rec} (h : rget L t = none) : cnt pl L = way (cnt pl L) t fun _ => 0 := by unfold way cnt; grind
theorem rput_rdrop {L : Ix} (h : Srt L) (t : Rec) (v : List V) : rput t v (rdrop t L) = rput t v L := by grind [rdrop_mem, srt_eq, rput_srt, rdrop_srt, rput_mem]
theorem cnt_titles {pl : List V → List Pl} {L : Ix} (h : Srt L) {p : Pl} {ts : List Rec} (h1 : ts.Pairwise fun a b => lessR a b = true) (h2 : ∀ t, t ∈ ts ↔ cnt pl L p t ≠ 0) : ts = (L.filter fun e => decide (p ∈ pl e.2)).map (·.1) := by
  have key : ts.map (fun t => (t, ())) = ((L.filter fun e => decide (p ∈ pl e.2)).map fun e => (e.1, ())) := by
    refine srt_eq (β := Unit) ?_ ?_ fun e => ?_
    · unfold Srt; rw [List.pairwise_map]; exact h1
    · unfold Srt; rw [List.pairwise_map]; exact List.Pairwise.filter _ h
    rw [List.mem_map, List.mem_map]
    constructor
    · rintro ⟨t, ht, rfl⟩
      have h3 := (h2 t).1 ht
      unfold cnt at h3
      cases hg : rget L t with
      | none => rw [hg] at h3; exact absurd rfl h3
      | some vs =>
        rw [hg] at h3
        have h4 : p ∈ pl vs := List.one_le_count_iff.1 (Nat.one_le_iff_ne_zero.2 h3)
        exact ⟨(t, vs), List.mem_filter.2 ⟨(rget_iff h).1 hg, decide_eq_true h4⟩, rfl⟩
    rintro ⟨⟨t, vs⟩, ht, rfl⟩
    rw [List.mem_filter] at ht
    refine ⟨t, (h2 t).2 ?_, rfl⟩
    unfold cnt
    rw [(rget_iff h).2 ht.1]
    exact Nat.one_le_iff_ne_zero.1 (List.one_le_count_iff.2 (of_decide_eq_true ht.2))
  have := congrArg (List.map (·.1)) key
  simpa [List.map_map, Function.comp_def] using this
theorem plW_iff {vs : List V} {n w : Bs} : (n, w) ∈ plW vs ↔ hasW n [w] vs = true := by
  unfold plW hasW
  rw [List.mem_flatMap, List.any_eq_true]
  constructor
  · rintro ⟨v, hv, h⟩
    obtain ⟨x, hx, he⟩ := List.mem_map.1 h
    cases he
    exact ⟨v, hv, by simp [within_one, hx]⟩
  rintro ⟨v, hv, h⟩
  rw [Bool.and_eq_true, decide_eq_true_eq, within_one] at h
  exact ⟨v, hv, List.mem_map.2 ⟨w, h.2, by rw [h.1]⟩⟩
theorem plK_iff {vs : List V} {n k : Bs} : (n, k) ∈ plK vs ↔ k ≠ [] ∧ hasK n k vs = true := by unfold plK hasK; grind
theorem titles_word {L : Ix} (h : Srt L) {n w : Bs} {ts : List Rec} (h1 : ts.Pairwise fun a b => lessR a b = true) (h2 : ∀ t, t ∈ ts ↔ cnt plW L (n, w) t ≠ 0) : ts = phrase L n [w] := by
  rw [cnt_titles h h1 h2]
  unfold phrase
  rw [if_neg (by simp)]
  congr 2
  funext e
  rw [Bool.eq_iff_iff, decide_eq_true_eq, plW_iff]
theorem titles_key {L : Ix} (h : Srt L) {n k : Bs} {ts : List Rec} (h1 : ts.Pairwise fun a b => lessR a b = true) (h2 : ∀ t, t ∈ ts ↔ cnt plK L (n, k) t ≠ 0) : ts = withK L n k := by
  rw [cnt_titles h h1 h2]
  unfold withK
  by_cases hk : k = []
  · rw [if_pos hk]
    have : (L.filter fun e => decide ((n, k) ∈ plK e.2)) = [] := by
      rw [List.filter_eq_nil_iff]
      intro e _
      rw [decide_eq_true_eq, plK_iff]
      exact fun g => g.1 hk
    rw [this]; rfl
  rw [if_neg hk]
  congr 2
  funext e
  rw [Bool.eq_iff_iff, decide_eq_true_eq, plK_iff]
  exact ⟨fun g => g.2, fun g => ⟨hk, g⟩⟩
theorem phrase_of {L : Ix} (n x : Bs) (w : Row) (p : Rec → Bool) (hs : Srt L) (hp : ∀ t vs, rget L t = some vs → p t = hasW n (x :: w) vs) : (phrase L n [x]).filter p = phrase L n (x :: w) := by
  unfold phrase
  rw [if_neg (by simp), if_neg (by simp), List.filter_map, List.filter_filter]
  congr 1
  refine List.filter_congr fun e he => ?_
  have h1 : rget L e.1 = some e.2 := (rget_iff hs).2 he
  show (p e.1 && hasW n [x] e.2) = hasW n (x :: w) e.2
  rw [hp _ _ h1]
  cases h2 : hasW n (x :: w) e.2 with
  | false => rfl
  | true =>
    rw [Bool.true_and]
    unfold hasW at h2 ⊢
    rw [List.any_eq_true] at h2 ⊢
    obtain ⟨v, hv, h3⟩ := h2
    rw [Bool.and_eq_true] at h3
    exact ⟨v, hv, by rw [Bool.and_eq_true]; exact ⟨h3.1, within_one.2 (within_mem h3.2)⟩⟩
end Ix
namespace Ix
open Ke
theorem keysOf_mem {n k : Bs} {vs : List V} : k ∈ keysOf n vs ↔ (n, k) ∈ plK vs := by
  rw [plK_iff]
  unfold keysOf hasK
  rw [List.mem_filter, List.mem_map, decide_eq_true_eq, List.any_eq_true]
  constructor
  · rintro ⟨⟨v, hv, rfl⟩, hne⟩
    rw [List.mem_filter, decide_eq_true_eq] at hv
    exact ⟨hne, v, hv.1, by simp [hv.2]⟩
  rintro ⟨hne, v, hv, h⟩
  rw [Bool.and_eq_true, decide_eq_true_eq, decide_eq_true_eq] at h
  exact ⟨⟨v, List.mem_filter.2 ⟨hv, decide_eq_true h.1⟩, h.2⟩, hne⟩
theorem cnt_pos {pl : List V → List Pl} {L : Ix} (h : Srt L) {p : Pl} : (∃ t, cnt pl L p t ≠ 0) ↔ ∃ e ∈ L, p ∈ pl e.2 := by
  constructor
  · rintro ⟨t, ht⟩
    unfold cnt at ht
    cases hg : rget L t with
    | none => rw [hg] at ht; exact absurd rfl ht
    | some vs =>
      rw [hg] at ht
      exact ⟨(t, vs), (rget_iff h).1 hg, List.one_le_count_iff.1 (Nat.one_le_iff_ne_zero.2 ht)⟩
  rintro ⟨⟨t, vs⟩, he, hp⟩
  refine ⟨t, ?_⟩
  unfold cnt
  rw [(rget_iff h).2 he]
  exact Nat.one_le_iff_ne_zero.1 (List.one_le_count_iff.2 hp)
theorem keysAll_inc (L : Ix) (n b : Bs) : Inc (keysAll L n b) := puts_inc _ List.Pairwise.nil
theorem keysAll_mem {L : Ix} (h : Srt L) {n b k : Bs} : k ∈ keysAll L n b ↔ ¬ k < b ∧ ∃ t, cnt plK L (n, k) t ≠ 0 := by
  unfold keysAll
  rw [puts_mem, cnt_pos h, List.mem_filter, List.mem_flatMap, decide_eq_true_eq]
  constructor
  · rintro (⟨⟨e, he, hk⟩, hb⟩ | g)
    · exact ⟨hb, e, he, keysOf_mem.1 hk⟩
    cases g
  rintro ⟨hb, e, he, hk⟩
  exact .inl ⟨⟨e, he, keysOf_mem.2 hk⟩, hb⟩
theorem scan_all {L : Ix} (h : Srt L) {n b : Bs} {ls : List (Bs × Nat)} (h1 : Inc (ls.map (·.1))) (h2 : ∀ k, k ∈ ls.map (·.1) ↔ ¬ k < b ∧ ∃ t, cnt plK L (n, k) t ≠ 0) (h3 : ∀ x ∈ ls, x.2 = (withK L n x.1).length) : ls = (keysAll L n b).map fun k => (k, (withK L n k).length) := by
  have he : ls.map (·.1) = keysAll L n b := inc_eq h1 (keysAll_inc L n b) fun k => by rw [h2, keysAll_mem h]
  rw [← he, List.map_map]
  conv => lhs; rw [← List.map_id ls]
  refine List.map_congr_left fun x hx => ?_
  show x = (x.1, (withK L n x.1).length)
  rw [← h3 x hx]
theorem scan_take (L : Ix) (n s : Bs) (most : Int) : ((keysAll L n (keyOf n s)).map fun k => (k, (withK L n k).length)).take most.toNat = scan L n s most := by
  unfold scan; rw [← List.map_take]
theorem with_len {L : Ix} (h : Srt L) {n k : Bs} {ts : List Rec} (hn : ts.Nodup) (h2 : ∀ t, t ∈ ts ↔ cnt plK L (n, k) t ≠ 0) : ts.length = (withK L n k).length := by
  have hsn : (withK L n k).Nodup := by
    unfold withK
    split
    · exact .nil
    exact (srt_nodup h).sublist (List.filter_sublist.map _)
  refine List.Perm.length_eq ((List.perm_ext_iff_of_nodup hn hsn).2 fun t => ?_)
  rw [h2]
  unfold withK
  by_cases hk : k = []
  · rw [if_pos hk]
    refine ⟨fun g => ?_, fun g => by cases g⟩
    obtain ⟨e, _, hp⟩ := (cnt_pos h).1 ⟨t, g⟩
    exact absurd hk (plK_iff.1 hp).1
  rw [if_neg hk, List.mem_map]
  constructor
  · intro g
    unfold cnt at g
    cases hg : rget L t with
    | none => rw [hg] at g; exact absurd rfl g
    | some vs =>
      rw [hg] at g
      have := plK_iff.1 (List.one_le_count_iff.1 (Nat.one_le_iff_ne_zero.2 g))
      exact ⟨(t, vs), List.mem_filter.2 ⟨(rget_iff h).1 hg, this.2⟩, rfl⟩
  rintro ⟨⟨u, vs⟩, he, rfl⟩
  rw [List.mem_filter] at he
  unfold cnt
  rw [(rget_iff h).2 he.1]
  exact Nat.one_le_iff_ne_zero.1 (List.one_le_count_iff.2 (plK_iff.2 ⟨hk, he.2⟩))
end Ix
namespace Ix
open Ke
def textsL : List Bs := [[69, 109, 109, 97],
  [84, 104, 101, 32, 115, 101, 97],
  [195, 156, 98, 101, 114, 32, 100, 101, 110, 32, 70, 108, 117, 195, 159],
  [87, 97, 114, 32, 97, 110, 100, 32, 112, 101, 97, 99, 101],
  [119, 97, 114, 32, 38, 32, 80, 69, 65, 67, 69],
  [65, 117, 115, 116, 101, 110, 44, 32, 74, 97, 110, 101],
  [84, 111, 108, 115, 116, 111, 121],
  [49, 57, 56, 52],
  [57, 55, 56, 48, 51, 48, 54, 52, 48, 54, 49, 53, 55],
  [48, 51, 48, 54, 52, 48, 54, 49, 53, 50],
  [76, 111, 110, 100, 111, 110],
  [83, 101, 97, 32, 115, 116, 111, 114, 105, 101, 115],
  [65],
  [],
  [69, 109, 109, 97, 32, 97, 110, 100, 32, 116, 104, 101, 32, 115, 101, 97],
  [49, 57, 57, 57],
  [99, 49, 57, 57, 57, 46],
  [82, 105, 118, 101, 114, 115],
  [79, 99, 101, 97, 110, 115, 32, 45, 45, 32, 72, 105, 115, 116, 111, 114, 121],
  [112, 101, 97, 99, 101]]
def tagsL : List Bs := [[48, 48, 49],
  [50, 52, 53],
  [49, 48, 48],
  [48, 50, 48],
  [54, 53, 48],
  [55, 48, 48],
  [50, 54, 48],
  [53, 48, 48],
  [57, 48, 48],
  [57, 52, 57],
  [48, 48, 56],
  [50, 52, 54],
  [54, 48, 48],
  [49, 49, 48],
  [52, 57, 48],
  [48, 48, 51],
  [57, 122, 57],
  [50, 52],
  [57, 57, 57],
  [48]]
def indsL : List Bs := [[49, 48],
  [32, 32],
  [49, 32],
  [48, 48],
  [48, 32],
  [32, 48],
  [51, 32],
  [49, 50]]
def codesL : Bs := [97, 98, 99, 48, 97, 118, 120, 113]
def textN (n : Int) : Bs := textsL.getD (n % 20).toNat []
def tagN (n : Int) : Bs := tagsL.getD (n % 20).toNat []
structure Four where
  x0 : Int
  x1 : Int
  x2 : Int
  x3 : Int
def subN (q : Four) (j : Nat) : Sub := ⟨codesL.getD ((q.x2.tdiv 3 + (j : Int) * (1 + q.x1 % 3)) % 8).toNat 0, textN (Go.IntKind.wrap .i64 (q.x3 + 3 * (j : Int)))⟩
def isC (t : Bs) : Prop := 1 < t.length ∧ t.take 2 = [48, 48]
instance (t : Bs) : Decidable (isC t) := by unfold isC; exact inferInstance
def fldN (q : Four) : Fld := if isC (tagN q.x0) then ⟨tagN q.x0, [], textN q.x3, .slice none 0 0, []⟩
  else ⟨tagN q.x0, indsL.getD (q.x1 % 8).toNat [], [], .slice none 0 0, (List.range (1 + (q.x2 % 3).toNat)).map fun j => subN q j⟩
def madeR (l : List Four) : List Fld := (l.take 20).map fldN
structure ActL where
  drop : Bool
  src : Int
  num : Int
  fs : List Four
def ActL.title (a : ActL) : Rec := (a.src, a.num)
def ActL.record (a : ActL) : List Fld := madeR (a.fs.take 8)
def ActL.vs (a : ActL) : List V := vals a.record
def act (L : Ix) (a : ActL) : Ix := if a.drop = true then rdrop a.title L else rput a.title a.vs L
def play (l : List ActL) : Ix := (l.take 20).foldl act []
theorem act_srt {L : Ix} (h : Srt L) (a : ActL) : Srt (act L a) := by grind [act, rdrop_srt, rput_srt]
theorem acts_srt : ∀ (l : List ActL) {L : Ix}, Srt L → Srt (l.foldl act L)
  | [], _, h => h
  | a :: r, _, h => acts_srt r (act_srt h a)
theorem textN_len (n : Int) : (textN n).length ≤ 17 := by
  unfold textN
  generalize (n % 20).toNat = k
  rcases Nat.lt_or_ge k 20 with h | h
  · have : ∀ k, k < 20 → (textsL.getD k []).length ≤ 17 := by decide
    exact this k h
  rw [List.getD_eq_getElem?_getD, List.getElem?_eq_none (by simpa [textsL] using h)]; simp
