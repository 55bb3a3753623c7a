/-
  Own texts on the laws of the seat, joined: the logic, and contracts of functions. Conditions: none.
-/
import Derived.Test.YtjcdfnbomkoheaaGreatDoorNmP
import Derived.Test.YtjcdfnbomkoheaaGreatDoorPP2
import Derived.Lib.SlicesCompact
import Derived.Sort.Walk0
import Derived.Lib.FieldsP
import Derived.Laws.AppendOwn
import Derived.Maps.RangeRun
import Derived.Laws.StructEq
set_option maxRecDepth 100000
set_option maxHeartbeats 4000000
section
namespace Go.Proofs.YtjcdfnbomkoheaaGreatDoor
open _root_.Go.Proofs.Tryz
open Go Go.Sx
theorem bcs_at {l : List UInt8} {sp : List Value} {k : Nat} {c : UInt8} (h : l[k]? = some c) : (bcs l ++ sp)[k]? = some (u8 c) := by
  obtain ⟨hlt, _⟩ := List.getElem?_eq_some_iff.1 h
  rw [List.getElem?_append_left (by rw [bcs_len]; exact hlt), bcs, List.getElem?_map, h]; rfl
theorem w8 {x : Int} (h : 0 ≤ x ∧ x ≤ 255) : IntKind.u8.wrap x = x := by
  simp [IntKind.wrap, IntKind.bits, IntKind.signed]; omega
theorem csum_le : ∀ (l : List UInt8) (k : Nat), Ke.csum k l ≤ 1000 * l.length
  | [], _ => by simp [Ke.csum]
  | c :: r, k => by
    have h1 := csum_le r (k + 1)
    have h2 := c.toNat_lt
    have h3 : (c.toNat - 48) * (1 + 2 * (k % 2)) ≤ 255 * 3 := Nat.mul_le_mul (by omega) (by omega)
    simp only [Ke.csum, List.length_cons]; omega
theorem csum_next {l : List UInt8} {k : Nat} {c : UInt8} (h : l[k]? = some c) : Ke.csum 0 (l.take (k + 1)) = Ke.csum 0 (l.take k) + (c.toNat - 48) * (1 + 2 * (k % 2)) := by
  obtain ⟨hlt, hg⟩ := List.getElem?_eq_some_iff.1 h
  rw [List.take_succ_eq_append_getElem hlt, hg, Ke.csum_app, Ke.csum, Ke.csum, List.length_take, Nat.min_eq_left (by omega), Nat.zero_add, Nat.add_zero]
theorem val_le (c : UInt8) : Ke.val c ≤ 255 := by
  have h2 := c.toNat_lt
  unfold Ke.val; split <;> omega
theorem rsum_le : ∀ (l : List UInt8) (k : Nat), Ke.rsum k l ≤ 2550 * l.length
  | [], _ => by simp [Ke.rsum]
  | c :: r, k => by
    have h1 := rsum_le r (k + 1)
    have h3 : (10 - k) * Ke.val c ≤ 10 * 255 := Nat.mul_le_mul (by omega) (val_le c)
    simp only [Ke.rsum, List.length_cons]; omega
theorem rsum_next {l : List UInt8} {k : Nat} {c : UInt8} (h : l[k]? = some c) : Ke.rsum 0 (l.take (k + 1)) = Ke.rsum 0 (l.take k) + (10 - k) * Ke.val c := by
  obtain ⟨hlt, hg⟩ := List.getElem?_eq_some_iff.1 h
  rw [List.take_succ_eq_append_getElem hlt, hg, Ke.rsum_app, Ke.rsum, Ke.rsum, List.length_take, Nat.min_eq_left (by omega), Nat.zero_add, Nat.add_zero]
theorem digits_at {l : List UInt8} {k : Nat} {c : UInt8} (hd : Ke.digits l = true) (h : l[k]? = some c) : 48 ≤ c.toNat ∧ c.toNat ≤ 57 := Ke.digit_iff.1 (List.all_eq_true.1 hd c (lmg h))
theorem check_ok (s : List UInt8) (h12 : 12 ≤ s.length) (hs : s.length ≤ 1000000) (hd : Ke.digits (s.take 12) = true) (I : Heap) : Pure Tryz.prog 125 [str s] I (u8 (Ke.check s)) := by
 refine Ctr.toPure ?_
 have hul : (s.take 12).length = 12 := by rw [List.length_take]; omega
 refine Ctr.ob func125 ?_
 intro w0 hw0
 refine Cj.sr (J.z q1 ?_)
 refine J.nssr (J.z q1 ?_)
 refine J.nsss (Cj.region (J.z q0 ?_))
 refine J.z (q54 (p := 0) (q := 12) tU9) ?_
 refine J.eqv 7 rfl (show _ = str (s.take 12) from (by rw [List.drop_zero])) ?_
 refine J.op rfl (op_toBytes rfl rfl rfl rfl tU9 tU71 tU5 ?_)
 intro b1 c2 sp3 fr4 hb1 hfr4
 refine J.z (q15 tU71) ?_
 refine J.z q0 ?_
 refine J.ns (Cj.block (Cj.loop (ι := Nat) (fun j => j ≤ (s.take 12).length) (fun j => (s.take 12).length - j) (fun j => [(0, str s), (3, i64 ((Ke.csum 0 ((s.take 12).take j) : Nat) : Int)), (8, .slice (some ⟨b1, 0, none⟩) (s.take 12).length c2), (9, i64 ((s.take 12).length : Int)), (10, i64 (j : Int))]) (fun j => I) (fun j => [(b1, .cells (bcs (s.take 12) ++ sp3).toArray 5 (fr4, fr4 + 1))]) 0 (Nat.zero_le _) ⟨rfl, rfl, rfl, rfl, rfl, trivial⟩ rfl rfl ?_))
 intro j hj
 have hsl := csum_le ((s.take 12).take j) 0
 rw [List.length_take, Nat.min_eq_left hj] at hsl
 refine Cj.sr (J.z q17 ?_)
 refine J.nss (Cj.cond rfl (fun hc5 => ?_) (fun hc5 => ?_))
 ·
  have hc5p := odt hc5
  have hlt : j < (s.take 12).length := by omega
  obtain ⟨c, hget⟩ : ∃ c, (s.take 12)[j]? = some c := ⟨_, lgg hlt⟩
  have hc := digits_at hd hget
  have hm : (c.toNat - 48) * (1 + 2 * (j % 2)) ≤ 9 * 3 := Nat.mul_le_mul (by omega) (by omega)
  refine Cj.ks (Cj.seq (Cj.block (Cj.sr (J.z q0 ?_))))
  refine J.z (q19 (off' := j) tU71 tS5) ?_
  refine J.z (yl_load rfl rfl tA5 (Blk.at 0 rfl) (bcs_at hget)) ?_
  refine J.z q1 ?_
  refine J.z q1 ?_
  refine J.nsr (J.z q0 ?_)
  refine J.z q0 ?_
  refine J.z (yl_sub rfl rfl rfl (w8 (by omega))) ?_
  refine J.z (yl_convInt rfl rfl tU5 tU3) ?_
  refine J.eqv 18 rfl (show _ = i64 ((c.toNat - 48 : Nat) : Int) from (congrArg i64 ((w64 (by omega)).trans (by omega)))) ?_
  refine J.z q0 ?_
  refine J.z q53 ?_
  refine J.eqv 20 rfl (show _ = i64 ((j % 2 : Nat) : Int) from rfl) ?_
  refine J.z (yl_mul rfl rfl rfl (w64 (by omega))) ?_
  refine J.z q7 ?_
  refine J.eqv 22 rfl (show _ = i64 ((1 + 2 * (j % 2) : Nat) : Int) from (congrArg i64 (by omega))) ?_
  refine J.z (yl_mul rfl rfl rfl (w64 (by rw [← Int.natCast_mul]; omega))) ?_
  refine J.eqv 23 rfl (show _ = i64 (((c.toNat - 48) * (1 + 2 * (j % 2)) : Nat) : Int) from (congrArg i64 (Int.natCast_mul _ _).symm)) ?_
  refine J.z q7 ?_
  refine J.z q1 ?_
  refine J.nb (Cj.region (J.z q7 ?_))
  refine J.z q0 ?_
  refine J.nil (Ej.round (j + 1) (by omega) (by omega) ⟨rfl, by rw [csum_next hget]; exact congrArg (fun z => some (Value.int .i64 z)) (by omega), rfl, rfl, rfl, trivial⟩ rfl rfl)
 have hc5p := odf hc5
 have hfull : (s.take 12).take j = s.take 12 := List.take_of_length_le (by omega)
 refine Cj.xl (Cj.sr (J.z q0 ?_))
 refine J.z q53 ?_
 refine J.eqv 27 rfl (show _ = i64 ((Ke.csum 0 (s.take 12) % 10 : Nat) : Int) from (by rw [hfull]; rfl)) ?_
 refine J.z q49 ?_
 refine J.eqv 28 rfl (show _ = i64 ((10 - Ke.csum 0 (s.take 12) % 10 : Nat) : Int) from (congrArg i64 (by omega))) ?_
 refine J.z q53 ?_
 refine J.eqv 29 rfl (show _ = i64 (((10 - Ke.csum 0 (s.take 12) % 10) % 10 : Nat) : Int) from rfl) ?_
 refine J.z q7 ?_
 refine J.eqv 30 rfl (show _ = i64 ((48 + (10 - Ke.csum 0 (s.take 12) % 10) % 10 : Nat) : Int) from (congrArg i64 (by omega))) ?_
 refine J.z (yl_convInt rfl rfl tU3 tU5) ?_
 refine J.eqv 31 rfl (show _ = u8 (Ke.check s) from (congrArg (Value.int .u8) (conv8 (by omega)))) ?_
 refine J.z q1 ?_
 refine J.ns (Cj.ret (Ej.keep (List.nil_sublist _) ?_))
 refine q6 ?_
 exact ⟨rfl, rfl⟩
theorem rightShort_ok (s : List UInt8) (h10 : s.length = 10) (hx : ∀ c ∈ s, Ke.digit c = true ∨ c = 88) (I : Heap) : Pure Tryz.prog 124 [str s] I (.bool (Ke.rightShort s)) := by
 refine Ctr.toPure ?_
 refine Ctr.ob func124 ?_
 intro w0 hw0
 refine Cj.sr (J.z q1 ?_)
 refine J.nssr (J.z q1 ?_)
 refine J.nsss (Cj.region (J.z q0 ?_))
 refine J.op rfl (op_toBytes rfl rfl rfl rfl tU9 tU71 tU5 ?_)
 intro b1 c2 sp3 fr4 hb1 hfr4
 refine J.z (q15 tU71) ?_
 refine J.z q0 ?_
 refine J.ns (Cj.block (Cj.loop (ι := Nat) (fun j => j ≤ s.length) (fun j => s.length - j) (fun j => [(0, str s), (3, i64 ((Ke.rsum 0 (s.take j) : Nat) : Int)), (8, .slice (some ⟨b1, 0, none⟩) s.length c2), (9, i64 (s.length : Int)), (10, i64 (j : Int))]) (fun j => I) (fun j => [(b1, .cells (bcs s ++ sp3).toArray 5 (fr4, fr4 + 1))]) 0 (Nat.zero_le _) ⟨rfl, rfl, rfl, rfl, rfl, trivial⟩ rfl rfl ?_))
 intro j hj
 have hsl := rsum_le (s.take j) 0
 rw [List.length_take, Nat.min_eq_left hj] at hsl
 refine Cj.sr (J.z q17 ?_)
 refine J.nss (Cj.cond rfl (fun hc5 => ?_) (fun hc5 => ?_))
 ·
  have hc5p := odt hc5
  have hlt : j < s.length := by omega
  obtain ⟨c, hget⟩ : ∃ c, s[j]? = some c := ⟨_, lgg hlt⟩
  have hc : 48 ≤ c.toNat := (hx c (lmg hget)).elim (fun h => (Ke.digit_iff.1 h).1) (fun h => by subst h; decide)
  have hc2 := c.toNat_lt
  have hm : (10 - j) * Ke.val c ≤ 10 * 255 := Nat.mul_le_mul (by omega) (val_le c)
  refine Cj.ks (Cj.seq (Cj.block (Cj.sr (J.z q0 ?_))))
  refine J.z (q19 (off' := j) tU71 tS5) ?_
  refine J.z (yl_load rfl rfl tA5 (Blk.at 0 rfl) (bcs_at hget)) ?_
  refine J.z q1 ?_
  refine J.z q1 ?_
  refine J.nssr (J.z q0 ?_)
  refine J.z (yl_sub rfl rfl rfl (w8 (by omega))) ?_
  refine J.z (yl_convInt rfl rfl tU5 tU3) ?_
  refine J.eqv 17 rfl (show _ = i64 ((c.toNat - 48 : Nat) : Int) from (congrArg i64 ((w64 (by omega)).trans (by omega)))) ?_
  refine J.z q1 ?_
  refine J.nsss (Cj.region (J.z q0 ?_))
  refine J.z q23 ?_
  refine J.cd (fun hc6 => ?_) (fun hc6 => ?_)
  ·
   have hc6p := ebq hc6
   have hcv : Ke.val c = 10 := by
     have h : (c.toNat : Int) = 88 := ebq hc6
     unfold Ke.val; rw [if_pos (UInt8.toNat_inj.1 (by rw [show (88 : UInt8).toNat = 88 from rfl]; omega))]
   refine Cj.region (J.z q1 ?_)
   refine J.nsr (J.z q0 ?_)
   refine J.z q0 ?_
   refine J.z q49 ?_
   refine J.eqv 22 rfl (show _ = i64 ((10 - j : Nat) : Int) from (congrArg i64 (by omega))) ?_
   refine J.z q0 ?_
   refine J.eqv 23 rfl (show _ = i64 ((Ke.val c : Nat) : Int) from (congrArg i64 (by omega))) ?_
   refine J.z (yl_mul rfl rfl rfl (w64 (by rw [← Int.natCast_mul]; omega))) ?_
   refine J.eqv 24 rfl (show _ = i64 (((10 - j) * Ke.val c : Nat) : Int) from (congrArg i64 (Int.natCast_mul _ _).symm)) ?_
   refine J.z q7 ?_
   refine J.z q1 ?_
   refine J.nb (Cj.region (J.z q7 ?_))
   refine J.z q0 ?_
   refine J.nil (Ej.round (j + 1) (by omega) (by omega) ⟨rfl, by rw [rsum_next hget]; exact congrArg (fun z => some (Value.int .i64 z)) (by omega), rfl, rfl, rfl, trivial⟩ rfl rfl)
  have hc6p := nbf hc6
  have hcv : Ke.val c = c.toNat - 48 := by
    have h : ¬ (c.toNat : Int) = 88 := nbf hc6
    unfold Ke.val; rw [if_neg (fun e => h (by subst e; rfl))]
  refine Cj.ks (Cj.region (J.z q0 ?_))
  refine J.z q0 ?_
  refine J.z q49 ?_
  refine J.eqv 22 rfl (show _ = i64 ((10 - j : Nat) : Int) from (congrArg i64 (by omega))) ?_
  refine J.z q0 ?_
  refine J.eqv 23 rfl (show _ = i64 ((Ke.val c : Nat) : Int) from (congrArg i64 (by omega))) ?_
  refine J.z (yl_mul rfl rfl rfl (w64 (by rw [← Int.natCast_mul]; omega))) ?_
  refine J.eqv 24 rfl (show _ = i64 (((10 - j) * Ke.val c : Nat) : Int) from (congrArg i64 (Int.natCast_mul _ _).symm)) ?_
  refine J.z q7 ?_
  refine J.z q1 ?_
  refine J.nb (Cj.region (J.z q7 ?_))
  refine J.z q0 ?_
  refine J.nil (Ej.round (j + 1) (by omega) (by omega) ⟨rfl, by rw [rsum_next hget]; exact congrArg (fun z => some (Value.int .i64 z)) (by omega), rfl, rfl, rfl, trivial⟩ rfl rfl)
 have hc5p := odf hc5
 have hfull : s.take j = s := List.take_of_length_le (by omega)
 refine Cj.xl (Cj.sr (J.z q0 ?_))
 refine J.z q53 ?_
 refine J.eqv 28 rfl (show _ = i64 ((Ke.rsum 0 s % 11 : Nat) : Int) from (by rw [hfull]; rfl)) ?_
 refine J.z q23 ?_
 refine J.z q0 ?_
 refine q16 30 (fun hg7 => ?_) (fun hg7 => ?_)
 ·
  have hr : (Ke.rsum 0 s % 11 == 0) = true := beq_iff_eq.2 (by have h := ebq hg7; omega)
  refine q5 3 30 true hg7 (q2 q0 ?_)
  refine J.opG 3 30 true _ rfl rfl rfl hg7 (op_yld (q54 (p := 0) (q := 9) tU9) rfl rfl ?_)
  refine J.eqv 32 rfl (show _ = str (s.take 9) from (by rw [List.drop_zero])) ?_
  refine J.opG 3 30 true _ rfl rfl rfl hg7 (op_pure rfl rfl rfl rfl rfl (isDigits_ok (s.take 9) (by rw [List.length_take]; omega) _) ?_)
  refine J.z (q11 hg7) ?_
  refine J.z q1 ?_
  refine J.ns (Cj.ret (Ej.keep (List.nil_sublist _) ?_))
  refine q6 ?_
  exact ⟨congrArg (fun b => Ending.returned (.bool b)) (by unfold Ke.rightShort; rw [hr]; rfl), rfl⟩
 have hr : (Ke.rsum 0 s % 11 == 0) = false := beq_eq_false_iff_ne.2 (fun e => nbf hg7 (by rw [e]; rfl))
 refine q3 3 30 31 true hg7 ?_
 refine q3 3 30 32 true hg7 ?_
 refine q3 3 30 33 true hg7 ?_
 refine J.z (q10 hg7) ?_
 refine J.z q1 ?_
 refine J.ns (Cj.ret (Ej.keep (List.nil_sublist _) ?_))
 refine q6 ?_
 exact ⟨congrArg (fun b => Ending.returned (.bool b)) (by unfold Ke.rightShort; rw [hr]; rfl), rfl⟩
theorem norm_chars (s : List UInt8) : ∀ c ∈ Ke.norm s, Ke.digit c = true ∨ c = 88 := fun c hc => by
  obtain ⟨d, hd, rfl⟩ := List.mem_map.1 hc
  obtain ⟨h1, h2⟩ := List.mem_filter.1 hd
  have h3 : Ke.okb d = true := List.all_eq_true.1 (List.all_takeWhile (p := Ke.okb)) d h1
  revert h2 h3
  exact Ke.byte_all (p := fun d => Ke.nb d = true → Ke.okb d = true → Ke.digit (Ke.up d) = true ∨ Ke.up d = 88) (by decide +kernel) d
theorem norm_len (s : List UInt8) : (Ke.norm s).length ≤ s.length := by
  unfold Ke.norm
  rw [List.length_map]
  exact nlt (List.length_filter_le _ _) (List.takeWhile_prefix _).length_le
theorem ToUpper_ok (s : List UInt8) (hs : s.length ≤ 1000000000) (I : Heap) : Pure Tryz.prog 121 [str (Ke.rep (s.takeWhile Ke.okb))] I (str (Ke.norm s)) := by
  refine Pure.of_below (Enters.of func121 (by decide) rfl) fun w _ => ?_
  have hall : ∀ c ∈ Ke.rep (s.takeWhile Ke.okb), c.toNat < 128 ∧ Lib.upperB c = Ke.up c := fun c hc => by
    obtain ⟨h1, h2⟩ := List.mem_filter.1 hc
    have h3 : Ke.okb c = true := List.all_eq_true.1 (List.all_takeWhile (p := Ke.okb)) c h1
    revert h3
    exact Ke.byte_all (p := fun c => Ke.okb c = true → c.toNat < 128 ∧ Lib.upperB c = Ke.up c) (by decide +kernel) c
  have hl : (Ke.rep (s.takeWhile Ke.okb)).length ≤ s.length := nlt (List.length_filter_le _ _) (List.takeWhile_prefix _).length_le
  have h := Tryz.strings_ToUpper_ascii ⟨(Ke.rep (s.takeWhile Ke.okb)).toArray⟩ w (by rw [size_mk]; omega) (fun j b hb => by rw [ba_list] at hb; exact (hall b (lmg hb)).1)
  rw [ba_list] at h
  have e : Lib.toUpperA (Ke.rep (s.takeWhile Ke.okb)) = Ke.norm s := List.map_congr_left fun c hc => (hall c hc).2
  rw [e] at h
  exact h
theorem check_app {a b : List UInt8} (h : a.length = 12) : Ke.check (a ++ b) = Ke.check a := by
  unfold Ke.check; rw [List.take_append_of_le_length (by omega)]
theorem digits_12 {a b : List UInt8} (h : Ke.digits a = true) (hl : a.length = 9) : Ke.digits (([57, 55, 56] ++ a ++ b).take 12) = true := by
  rw [List.take_append_of_le_length (by simp; omega), List.take_of_length_le (by simp; omega), Ke.digits_app, h]; rfl
theorem Isbn_ok (s : List UInt8) (hs : s.length ≤ 100000000) (I : Heap) : Pure Tryz.prog 86 [str s] I (.tuple #[str (Ke.isbn s).1, .bool (Ke.isbn s).2]) := by
 refine Ctr.toPure ?_
 have hnc := norm_chars s
 have hnl := norm_len s
 have htl : (s.takeWhile Ke.okb).length ≤ s.length := (List.takeWhile_prefix _).length_le
 refine Ctr.ob func86 ?_
 intro w0 hw0
 refine Cj.sr (J.z q1 ?_)
 refine J.z q1 ?_
 refine J.nssr (J.z q0 ?_)
 refine J.op rfl (q36 (H1 := []) rfl rfl rfl rfl rfl (IndexFunc_ok s _) ?_)
 intro v1 I2 H3 hle4 hp5
 obtain ⟨n, h, hn, rfl⟩ := hp5; cases h
 refine J.z q1 ?_
 refine J.nsss (Cj.region (J.z q0 ?_))
 refine J.z q34 ?_
 refine J.cd (fun hc6 => ?_) (fun hc6 => ?_)
 ·
  have hc6p := odt hc6
  obtain ⟨k, rfl, hk, htw⟩ : ∃ k : Nat, n = k ∧ k ≤ s.length ∧ s.takeWhile Ke.okb = s.take k := hn.elim (fun h => absurd (odt hc6) (by rw [h.1]; decide)) id
  refine Cj.region (J.z q0 ?_)
  refine J.z q0 ?_
  refine J.z (q54 (p := 0) (q := k) tU9) ?_
  refine J.eqv 11 rfl (show _ = str (s.takeWhile Ke.okb) from (by rw [htw, List.drop_zero])) ?_
  refine J.z q1 ?_
  refine J.nssr (J.op rfl (op_buildSlice rfl rfl rfl tU28 tS9 tZ9 rfl rfl rfl rfl (LCat.one rfl (LCat.one rfl (LCat.one rfl (LCat.one rfl LCat.none)))) ?_))
  intro b7 hb7
  refine J.pull Pull.z ?_
  refine J.op rfl (op_call (H1 := [_]) rfl rfl rfl rfl rfl (NewReplacer_ok b7 _ _) ?_ (fun _ _ _ _ ⟨_, _, h, _⟩ => nomatch h) (fun _ _ ⟨_, _, h, _⟩ => nomatch h))
  intro v8 I9 H10 hle11 hp12
  obtain ⟨rb, osl, h, rfl, ho⟩ := hp12; cases h
  refine J.z q0 ?_
  refine J.pull Pull.z ?_
  refine J.op rfl (op_call (H1 := [_]) rfl rfl rfl rfl rfl (Replace_ok rb osl (s.takeWhile Ke.okb) (by omega) _ ho) ?_ (fun _ _ _ _ h => by cases h.1) (fun _ _ h => by cases h.1))
  intro v13 I14 H15 hle16 hp17
  obtain ⟨h, rfl⟩ := hp17; cases h
  refine J.eqv 15 rfl (show _ = str (Ke.rep (s.takeWhile Ke.okb)) from rfl) ?_
  refine J.op rfl (op_pure rfl rfl rfl rfl rfl (ToUpper_ok s (by omega) _) ?_)
  refine J.z q1 ?_
  refine J.nss (Cj.block (Cj.sr (J.z q0 ?_)))
  refine J.z (q26 tU9) ?_
  refine J.z q23 ?_
  refine J.z q0 ?_
  refine q16 21 (fun hg18 => ?_) (fun hg18 => ?_)
  ·
   have h10 : (Ke.norm s).length = 10 := by have h := ebq hg18; omega
   refine q5 3 21 true hg18 (q2 q0 ?_)
   refine q5 3 21 true hg18 (op_pure rfl rfl rfl rfl rfl (rightShort_ok (Ke.norm s) h10 hnc _) ?_)
   refine J.z (q11 hg18) ?_
   refine J.z q1 ?_
   refine J.cd (fun hc19 => ?_) (fun hc19 => ?_)
   ·
    have hrs : Ke.rightShort (Ke.norm s) = true := hc19
    have hd9 : Ke.digits ((Ke.norm s).take 9) = true := (Bool.and_eq_true_iff.1 hrs).2
    have hd12 := digits_12 (b := [48]) hd9 (by rw [List.length_take]; omega)
    refine Cj.sr (J.z q0 ?_)
    refine J.z (q54 (p := 0) (q := 9) tU9) ?_
    refine J.eqv 26 rfl (show _ = str ((Ke.norm s).take 9) from (by rw [List.drop_zero])) ?_
    refine J.z (yl_cat rfl rfl rfl (by first | omega | (simp only [List.length_append]; omega) | (simp; omega))) ?_
    refine J.z q1 ?_
    refine J.nssr (J.z q0 ?_)
    refine J.z q0 ?_
    refine J.z (yl_cat rfl rfl rfl (by first | omega | (simp only [List.length_append]; omega) | (simp; omega))) ?_
    refine J.op rfl (op_pure rfl rfl rfl rfl rfl (check_ok _ (by simp; omega) (by simp; omega) hd12 _) ?_)
    refine J.eqv 31 rfl (show _ = u8 (Ke.check ([57, 55, 56] ++ (Ke.norm s).take 9)) from (by rw [check_app (by simp; omega)])) ?_
    refine J.op rfl (q24 tU71 tS5 tZ5 ?_)
    intro b20 hb20
    refine J.z (yl_toStr [Ke.check ([57, 55, 56] ++ (Ke.norm s).take 9)] rfl rfl rfl tU71 tU9 tU5 (Blk.at 0 rfl) rfl) ?_
    refine J.z (yl_cat rfl rfl rfl (by first | omega | (simp only [List.length_append]; omega) | (simp; omega))) ?_
    refine J.z q1 ?_
    refine J.z q1 ?_
    refine J.ns (Cj.ret (Ej.blkRet (Ej.seqRet (Ej.keep (List.nil_sublist _) ?_))))
    refine q22 ?_
    have he : Ke.isbn s = ([57, 55, 56] ++ (Ke.norm s).take 9 ++ [Ke.check ([57, 55, 56] ++ (Ke.norm s).take 9)], true) := by unfold Ke.isbn Ke.isbnN; rw [if_pos ⟨h10, hrs⟩]
    rw [he]
    exact ⟨rfl, rfl⟩
   have hno : ¬ ((Ke.norm s).length = 10 ∧ Ke.rightShort (Ke.norm s) = true) := fun e => Bool.noConfusion (e.2.symm.trans hc19)
   refine Cj.seq (Cj.drawSel [] [] 15 (by kernel_rfl) ?_)
   refine JA.fix fx1 (fun fx21 => ?_)
   refine JA.tk 0 rfl fx21 q0 ?_
   refine JA.tk 1 rfl fx21 (q26 tU9) ?_
   refine JA.tk 2 rfl fx21 q23 ?_
   refine JA.tk 3 rfl fx21 q0 ?_
   refine JA.split 39 rfl (fun hg22 => ?_) (fun hg22 => ?_)
   rotate_left
   ·
    have hno2 : ¬ ((Ke.norm s).length = 13 ∧ Ke.digits (Ke.norm s) = true ∧ Ke.check (Ke.norm s) = (Ke.norm s).getD 12 0) := fun e => nbf hg22 (by rw [e.1]; rfl)
    refine q20 4 3 39 true fx21 (.inl (congrArg Value.bool hg22)) ?_
    refine q20 5 3 39 true fx21 (.inl (congrArg Value.bool hg22)) ?_
    refine JA.tk 6 rfl fx21 (q10 hg22) ?_
    refine JA.tk 7 rfl fx21 q0 ?_
    refine q29 8 7 43 true fx21 ?_
    refine q29 9 7 43 true fx21 ?_
    refine q29 10 7 43 true fx21 ?_
    refine q29 11 7 43 true fx21 ?_
    refine q29 12 7 43 true fx21 ?_
    refine JA.tk 13 rfl fx21 q30 ?_
    refine JA.tk 14 rfl fx21 q1 ?_
    refine q14 ?_
    refine Ej.seq (Cj.cond rfl (fun hc28 => Bool.noConfusion (Eq.trans (Eq.symm rfl) hc28)) (fun hc28 => ?_))
    refine Cj.kb (Cj.sr (J.z q1 ?_))
    refine J.z q1 ?_
    refine J.ns (Cj.ret (Ej.keep (List.nil_sublist _) ?_))
    refine q22 ?_
    have he : Ke.isbn s = ([], false) := by unfold Ke.isbn Ke.isbnN; rw [if_neg hno, if_neg hno2]
    rw [he]
    exact ⟨rfl, rfl⟩
   have h13 : (Ke.norm s).length = 13 := by have h := ebq hg22; omega
   refine JA.tkG 4 3 39 true _ rfl fx21 rfl rfl hg22 q0 ?_
   refine JA.stepG 5 3 39 true _ (by kernel_rfl) rfl rfl rfl rfl hg22 (op_pure rfl rfl rfl rfl rfl (isDigits_ok (Ke.norm s) (by omega) _) ?_)
   refine ⟨fx0, ?_⟩
   refine JA.fix fx1 (fun fx23 => ?_)
   refine JA.tk 6 rfl fx23 (q11 hg22) ?_
   refine JA.tk 7 rfl fx23 q0 ?_
   refine JA.split 43 rfl (fun hg24 => ?_) (fun hg24 => ?_)
   ·
    have hdg : Ke.digits (Ke.norm s) = true := hg24
    have hd13 : Ke.digits ((Ke.norm s).take 12) = true := List.all_eq_true.2 fun c hc => List.all_eq_true.1 hdg c (List.mem_of_mem_take hc)
    obtain ⟨c, hg12⟩ : ∃ c, (Ke.norm s)[12]? = some c := ⟨_, lgg (by omega)⟩
    have hgd : (Ke.norm s).getD 12 0 = c := by rw [List.getD, hg12]; rfl
    refine JA.tkG 8 7 43 true _ rfl fx23 rfl rfl hg24 q0 ?_
    refine JA.tkG 10 7 43 true _ rfl fx23 rfl rfl hg24 q0 ?_
    refine JA.tkG 11 7 43 true _ rfl fx23 rfl rfl hg24 (q42 tU9 hg12) ?_
    refine JA.stepG 9 7 43 true _ (by kernel_rfl) rfl rfl rfl rfl hg24 (op_pure rfl rfl rfl rfl rfl (check_ok (Ke.norm s) (by omega) (by omega) hd13 _) ?_)
    refine ⟨fx0, ?_⟩
    refine JA.fix fx1 (fun fx25 => ?_)
    refine JA.tkG 12 7 43 true _ rfl fx25 rfl rfl hg24 q23 ?_
    refine JA.tk 13 rfl fx25 (q11 hg24) ?_
    refine JA.tk 14 rfl fx25 q1 ?_
    refine q14 ?_
    refine Ej.seq (Cj.cond rfl (fun hc26 => ?_) (fun hc26 => ?_))
    ·
     have hc26p := ebq hc26
     have hck : Ke.check (Ke.norm s) = (Ke.norm s).getD 12 0 := by have h := ebq hc26; rw [hgd]; exact UInt8.toNat_inj.1 (by omega)
     refine Cj.sr (J.z q0 ?_)
     refine J.z q1 ?_
     refine J.z q1 ?_
     refine J.ns (Cj.ret (Ej.blkRet (Ej.seqRet (Ej.keep (List.nil_sublist _) ?_))))
     refine q22 ?_
     have he : Ke.isbn s = (Ke.norm s, true) := by unfold Ke.isbn Ke.isbnN; rw [if_neg hno, if_pos ⟨h13, hdg, hck⟩]
     rw [he]
     exact ⟨rfl, rfl⟩
    ·
     have hc26p := nbf hc26
     have hno2 : ¬ ((Ke.norm s).length = 13 ∧ Ke.digits (Ke.norm s) = true ∧ Ke.check (Ke.norm s) = (Ke.norm s).getD 12 0) := fun e => nbf hc26 (by rw [e.2.2, hgd])
     refine Cj.kb (Cj.sr (J.z q1 ?_))
     refine J.z q1 ?_
     refine J.ns (Cj.ret (Ej.keep (List.nil_sublist _) ?_))
     refine q22 ?_
     have he : Ke.isbn s = ([], false) := by unfold Ke.isbn Ke.isbnN; rw [if_neg hno, if_neg hno2]
     rw [he]
     exact ⟨rfl, rfl⟩
   ·
    have hno2 : ¬ ((Ke.norm s).length = 13 ∧ Ke.digits (Ke.norm s) = true ∧ Ke.check (Ke.norm s) = (Ke.norm s).getD 12 0) := fun e => Bool.noConfusion (e.2.1.symm.trans hg24)
    refine q20 8 7 43 true fx23 (.inl (congrArg Value.bool hg24)) ?_
    refine q20 9 7 43 true fx23 (.inl (congrArg Value.bool hg24)) ?_
    refine q20 10 7 43 true fx23 (.inl (congrArg Value.bool hg24)) ?_
    refine q20 11 7 43 true fx23 (.inl (congrArg Value.bool hg24)) ?_
    refine q20 12 7 43 true fx23 (.inl (congrArg Value.bool hg24)) ?_
    refine JA.tk 13 rfl fx23 (q10 hg24) ?_
    refine JA.tk 14 rfl fx23 q1 ?_
    refine q14 ?_
    refine Ej.seq (Cj.cond rfl (fun hc27 => Bool.noConfusion (Eq.trans (Eq.symm rfl) hc27)) (fun hc27 => ?_))
    refine Cj.kb (Cj.sr (J.z q1 ?_))
    refine J.z q1 ?_
    refine J.ns (Cj.ret (Ej.keep (List.nil_sublist _) ?_))
    refine q22 ?_
    have he : Ke.isbn s = ([], false) := by unfold Ke.isbn Ke.isbnN; rw [if_neg hno, if_neg hno2]
    rw [he]
    exact ⟨rfl, rfl⟩
  have hno : ¬ ((Ke.norm s).length = 10 ∧ Ke.rightShort (Ke.norm s) = true) := fun e => nbf hg18 (by rw [e.1]; rfl)
  refine q3 3 21 22 true hg18 ?_
  refine q3 3 21 23 true hg18 ?_
  refine J.z (q10 hg18) ?_
  refine J.z q1 ?_
  refine J.c0 (fun hc29 => ?_)
  refine Cj.seq (Cj.drawSel [] [] 15 (by kernel_rfl) ?_)
  refine JA.fix fx1 (fun fx30 => ?_)
  refine JA.tk 0 rfl fx30 q0 ?_
  refine JA.tk 1 rfl fx30 (q26 tU9) ?_
  refine JA.tk 2 rfl fx30 q23 ?_
  refine JA.tk 3 rfl fx30 q0 ?_
  refine JA.split 39 rfl (fun hg31 => ?_) (fun hg31 => ?_)
  rotate_left
  ·
   have hno2 : ¬ ((Ke.norm s).length = 13 ∧ Ke.digits (Ke.norm s) = true ∧ Ke.check (Ke.norm s) = (Ke.norm s).getD 12 0) := fun e => nbf hg31 (by rw [e.1]; rfl)
   refine q20 4 3 39 true fx30 (.inl (congrArg Value.bool hg31)) ?_
   refine q20 5 3 39 true fx30 (.inl (congrArg Value.bool hg31)) ?_
   refine JA.tk 6 rfl fx30 (q10 hg31) ?_
   refine JA.tk 7 rfl fx30 q0 ?_
   refine q29 8 7 43 true fx30 ?_
   refine q29 9 7 43 true fx30 ?_
   refine q29 10 7 43 true fx30 ?_
   refine q29 11 7 43 true fx30 ?_
   refine q29 12 7 43 true fx30 ?_
   refine JA.tk 13 rfl fx30 q30 ?_
   refine JA.tk 14 rfl fx30 q1 ?_
   refine q14 ?_
   refine Ej.seq (Cj.cond rfl (fun hc37 => Bool.noConfusion (Eq.trans (Eq.symm rfl) hc37)) (fun hc37 => ?_))
   refine Cj.kb (Cj.sr (J.z q1 ?_))
   refine J.z q1 ?_
   refine J.ns (Cj.ret (Ej.keep (List.nil_sublist _) ?_))
   refine q22 ?_
   have he : Ke.isbn s = ([], false) := by unfold Ke.isbn Ke.isbnN; rw [if_neg hno, if_neg hno2]
   rw [he]
   exact ⟨rfl, rfl⟩
  have h13 : (Ke.norm s).length = 13 := by have h := ebq hg31; omega
  refine JA.tkG 4 3 39 true _ rfl fx30 rfl rfl hg31 q0 ?_
  refine JA.stepG 5 3 39 true _ (by kernel_rfl) rfl rfl rfl rfl hg31 (op_pure rfl rfl rfl rfl rfl (isDigits_ok (Ke.norm s) (by omega) _) ?_)
  refine ⟨fx0, ?_⟩
  refine JA.fix fx1 (fun fx32 => ?_)
  refine JA.tk 6 rfl fx32 (q11 hg31) ?_
  refine JA.tk 7 rfl fx32 q0 ?_
  refine JA.split 43 rfl (fun hg33 => ?_) (fun hg33 => ?_)
  ·
   have hdg : Ke.digits (Ke.norm s) = true := hg33
   have hd13 : Ke.digits ((Ke.norm s).take 12) = true := List.all_eq_true.2 fun c hc => List.all_eq_true.1 hdg c (List.mem_of_mem_take hc)
   obtain ⟨c, hg12⟩ : ∃ c, (Ke.norm s)[12]? = some c := ⟨_, lgg (by omega)⟩
   have hgd : (Ke.norm s).getD 12 0 = c := by rw [List.getD, hg12]; rfl
   refine JA.tkG 8 7 43 true _ rfl fx32 rfl rfl hg33 q0 ?_
   refine JA.tkG 10 7 43 true _ rfl fx32 rfl rfl hg33 q0 ?_
   refine JA.tkG 11 7 43 true _ rfl fx32 rfl rfl hg33 (q42 tU9 hg12) ?_
   refine JA.stepG 9 7 43 true _ (by kernel_rfl) rfl rfl rfl rfl hg33 (op_pure rfl rfl rfl rfl rfl (check_ok (Ke.norm s) (by omega) (by omega) hd13 _) ?_)
   refine ⟨fx0, ?_⟩
   refine JA.fix fx1 (fun fx34 => ?_)
   refine JA.tkG 12 7 43 true _ rfl fx34 rfl rfl hg33 q23 ?_
   refine JA.tk 13 rfl fx34 (q11 hg33) ?_
   refine JA.tk 14 rfl fx34 q1 ?_
   refine q14 ?_
   refine Ej.seq (Cj.cond rfl (fun hc35 => ?_) (fun hc35 => ?_))
   ·
    have hc35p := ebq hc35
    have hck : Ke.check (Ke.norm s) = (Ke.norm s).getD 12 0 := by have h := ebq hc35; rw [hgd]; exact UInt8.toNat_inj.1 (by omega)
    refine Cj.sr (J.z q0 ?_)
    refine J.z q1 ?_
    refine J.z q1 ?_
    refine J.ns (Cj.ret (Ej.blkRet (Ej.seqRet (Ej.keep (List.nil_sublist _) ?_))))
    refine q22 ?_
    have he : Ke.isbn s = (Ke.norm s, true) := by unfold Ke.isbn Ke.isbnN; rw [if_neg hno, if_pos ⟨h13, hdg, hck⟩]
    rw [he]
    exact ⟨rfl, rfl⟩
   ·
    have hc35p := nbf hc35
    have hno2 : ¬ ((Ke.norm s).length = 13 ∧ Ke.digits (Ke.norm s) = true ∧ Ke.check (Ke.norm s) = (Ke.norm s).getD 12 0) := fun e => nbf hc35 (by rw [e.2.2, hgd])
    refine Cj.kb (Cj.sr (J.z q1 ?_))
    refine J.z q1 ?_
    refine J.ns (Cj.ret (Ej.keep (List.nil_sublist _) ?_))
    refine q22 ?_
    have he : Ke.isbn s = ([], false) := by unfold Ke.isbn Ke.isbnN; rw [if_neg hno, if_neg hno2]
    rw [he]
    exact ⟨rfl, rfl⟩
  ·
   have hno2 : ¬ ((Ke.norm s).length = 13 ∧ Ke.digits (Ke.norm s) = true ∧ Ke.check (Ke.norm s) = (Ke.norm s).getD 12 0) := fun e => Bool.noConfusion (e.2.1.symm.trans hg33)
   refine q20 8 7 43 true fx32 (.inl (congrArg Value.bool hg33)) ?_
   refine q20 9 7 43 true fx32 (.inl (congrArg Value.bool hg33)) ?_
   refine q20 10 7 43 true fx32 (.inl (congrArg Value.bool hg33)) ?_
   refine q20 11 7 43 true fx32 (.inl (congrArg Value.bool hg33)) ?_
   refine q20 12 7 43 true fx32 (.inl (congrArg Value.bool hg33)) ?_
   refine JA.tk 13 rfl fx32 (q10 hg33) ?_
   refine JA.tk 14 rfl fx32 q1 ?_
   refine q14 ?_
   refine Ej.seq (Cj.cond rfl (fun hc36 => Bool.noConfusion (Eq.trans (Eq.symm rfl) hc36)) (fun hc36 => ?_))
   refine Cj.kb (Cj.sr (J.z q1 ?_))
   refine J.z q1 ?_
   refine J.ns (Cj.ret (Ej.keep (List.nil_sublist _) ?_))
   refine q22 ?_
   have he : Ke.isbn s = ([], false) := by unfold Ke.isbn Ke.isbnN; rw [if_neg hno, if_neg hno2]
   rw [he]
   exact ⟨rfl, rfl⟩
 have hc6p := odf hc6
 have htw : s.takeWhile Ke.okb = s := hn.elim (fun h => h.2) (fun ⟨k, h, _⟩ => absurd (odf hc6) (by rw [h]; simp))
 refine Cj.ks (Cj.sr (J.op rfl (op_buildSlice rfl rfl rfl tU28 tS9 tZ9 rfl rfl rfl rfl (LCat.one rfl (LCat.one rfl (LCat.one rfl (LCat.one rfl LCat.none)))) ?_)))
 intro b38 hb38
 refine J.pull Pull.z ?_
 refine J.op rfl (op_call (H1 := [_]) rfl rfl rfl rfl rfl (NewReplacer_ok b38 _ _) ?_ (fun _ _ _ _ ⟨_, _, h, _⟩ => nomatch h) (fun _ _ ⟨_, _, h, _⟩ => nomatch h))
 intro v39 I40 H41 hle42 hp43
 obtain ⟨rb, osl, h, rfl, ho⟩ := hp43; cases h
 refine J.z q0 ?_
 refine J.pull Pull.z ?_
 refine J.op rfl (op_call (H1 := [_]) rfl rfl rfl rfl rfl (Replace_ok rb osl s (by omega) _ ho) ?_ (fun _ _ _ _ h => by cases h.1) (fun _ _ h => by cases h.1))
 intro v44 I45 H46 hle47 hp48
 obtain ⟨h, rfl⟩ := hp48; cases h
 refine J.eqv 15 rfl (show _ = str (Ke.rep (s.takeWhile Ke.okb)) from (by rw [htw])) ?_
 refine J.op rfl (op_pure rfl rfl rfl rfl rfl (ToUpper_ok s (by omega) _) ?_)
 refine J.z q1 ?_
 refine J.nss (Cj.block (Cj.sr (J.z q0 ?_)))
 refine J.z (q26 tU9) ?_
 refine J.z q23 ?_
 refine J.z q0 ?_
 refine q16 21 (fun hg49 => ?_) (fun hg49 => ?_)
 ·
  have h10 : (Ke.norm s).length = 10 := by have h := ebq hg49; omega
  refine q5 3 21 true hg49 (q2 q0 ?_)
  refine q5 3 21 true hg49 (op_pure rfl rfl rfl rfl rfl (rightShort_ok (Ke.norm s) h10 hnc _) ?_)
  refine J.z (q11 hg49) ?_
  refine J.z q1 ?_
  refine J.cd (fun hc50 => ?_) (fun hc50 => ?_)
  ·
   have hrs : Ke.rightShort (Ke.norm s) = true := hc50
   have hd9 : Ke.digits ((Ke.norm s).take 9) = true := (Bool.and_eq_true_iff.1 hrs).2
   have hd12 := digits_12 (b := [48]) hd9 (by rw [List.length_take]; omega)
   refine Cj.sr (J.z q0 ?_)
   refine J.z (q54 (p := 0) (q := 9) tU9) ?_
   refine J.eqv 26 rfl (show _ = str ((Ke.norm s).take 9) from (by rw [List.drop_zero])) ?_
   refine J.z (yl_cat rfl rfl rfl (by first | omega | (simp only [List.length_append]; omega) | (simp; omega))) ?_
   refine J.z q1 ?_
   refine J.nssr (J.z q0 ?_)
   refine J.z q0 ?_
   refine J.z (yl_cat rfl rfl rfl (by first | omega | (simp only [List.length_append]; omega) | (simp; omega))) ?_
   refine J.op rfl (op_pure rfl rfl rfl rfl rfl (check_ok _ (by simp; omega) (by simp; omega) hd12 _) ?_)
   refine J.eqv 31 rfl (show _ = u8 (Ke.check ([57, 55, 56] ++ (Ke.norm s).take 9)) from (by rw [check_app (by simp; omega)])) ?_
   refine J.op rfl (q24 tU71 tS5 tZ5 ?_)
   intro b51 hb51
   refine J.z (yl_toStr [Ke.check ([57, 55, 56] ++ (Ke.norm s).take 9)] rfl rfl rfl tU71 tU9 tU5 (Blk.at 0 rfl) rfl) ?_
   refine J.z (yl_cat rfl rfl rfl (by first | omega | (simp only [List.length_append]; omega) | (simp; omega))) ?_
   refine J.z q1 ?_
   refine J.z q1 ?_
   refine J.ns (Cj.ret (Ej.blkRet (Ej.seqRet (Ej.keep (List.nil_sublist _) ?_))))
   refine q22 ?_
   have he : Ke.isbn s = ([57, 55, 56] ++ (Ke.norm s).take 9 ++ [Ke.check ([57, 55, 56] ++ (Ke.norm s).take 9)], true) := by unfold Ke.isbn Ke.isbnN; rw [if_pos ⟨h10, hrs⟩]
   rw [he]
   exact ⟨rfl, rfl⟩
  have hno : ¬ ((Ke.norm s).length = 10 ∧ Ke.rightShort (Ke.norm s) = true) := fun e => Bool.noConfusion (e.2.symm.trans hc50)
  refine Cj.seq (Cj.drawSel [] [] 15 (by kernel_rfl) ?_)
  refine JA.fix fx1 (fun fx52 => ?_)
  refine JA.tk 0 rfl fx52 q0 ?_
  refine JA.tk 1 rfl fx52 (q26 tU9) ?_
  refine JA.tk 2 rfl fx52 q23 ?_
  refine JA.tk 3 rfl fx52 q0 ?_
  refine JA.split 39 rfl (fun hg53 => ?_) (fun hg53 => ?_)
  rotate_left
  ·
   have hno2 : ¬ ((Ke.norm s).length = 13 ∧ Ke.digits (Ke.norm s) = true ∧ Ke.check (Ke.norm s) = (Ke.norm s).getD 12 0) := fun e => nbf hg53 (by rw [e.1]; rfl)
   refine q20 4 3 39 true fx52 (.inl (congrArg Value.bool hg53)) ?_
   refine q20 5 3 39 true fx52 (.inl (congrArg Value.bool hg53)) ?_
   refine JA.tk 6 rfl fx52 (q10 hg53) ?_
   refine JA.tk 7 rfl fx52 q0 ?_
   refine q29 8 7 43 true fx52 ?_
   refine q29 9 7 43 true fx52 ?_
   refine q29 10 7 43 true fx52 ?_
   refine q29 11 7 43 true fx52 ?_
   refine q29 12 7 43 true fx52 ?_
   refine JA.tk 13 rfl fx52 q30 ?_
   refine JA.tk 14 rfl fx52 q1 ?_
   refine q14 ?_
   refine Ej.seq (Cj.cond rfl (fun hc59 => Bool.noConfusion (Eq.trans (Eq.symm rfl) hc59)) (fun hc59 => ?_))
   refine Cj.kb (Cj.sr (J.z q1 ?_))
   refine J.z q1 ?_
   refine J.ns (Cj.ret (Ej.keep (List.nil_sublist _) ?_))
   refine q22 ?_
   have he : Ke.isbn s = ([], false) := by unfold Ke.isbn Ke.isbnN; rw [if_neg hno, if_neg hno2]
   rw [he]
   exact ⟨rfl, rfl⟩
  have h13 : (Ke.norm s).length = 13 := by have h := ebq hg53; omega
  refine JA.tkG 4 3 39 true _ rfl fx52 rfl rfl hg53 q0 ?_
  refine JA.stepG 5 3 39 true _ (by kernel_rfl) rfl rfl rfl rfl hg53 (op_pure rfl rfl rfl rfl rfl (isDigits_ok (Ke.norm s) (by omega) _) ?_)
  refine ⟨fx0, ?_⟩
  refine JA.fix fx1 (fun fx54 => ?_)
  refine JA.tk 6 rfl fx54 (q11 hg53) ?_
  refine JA.tk 7 rfl fx54 q0 ?_
  refine JA.split 43 rfl (fun hg55 => ?_) (fun hg55 => ?_)
  ·
   have hdg : Ke.digits (Ke.norm s) = true := hg55
   have hd13 : Ke.digits ((Ke.norm s).take 12) = true := List.all_eq_true.2 fun c hc => List.all_eq_true.1 hdg c (List.mem_of_mem_take hc)
   obtain ⟨c, hg12⟩ : ∃ c, (Ke.norm s)[12]? = some c := ⟨_, lgg (by omega)⟩
   have hgd : (Ke.norm s).getD 12 0 = c := by rw [List.getD, hg12]; rfl
   refine JA.tkG 8 7 43 true _ rfl fx54 rfl rfl hg55 q0 ?_
   refine JA.tkG 10 7 43 true _ rfl fx54 rfl rfl hg55 q0 ?_
   refine JA.tkG 11 7 43 true _ rfl fx54 rfl rfl hg55 (q42 tU9 hg12) ?_
   refine JA.stepG 9 7 43 true _ (by kernel_rfl) rfl rfl rfl rfl hg55 (op_pure rfl rfl rfl rfl rfl (check_ok (Ke.norm s) (by omega) (by omega) hd13 _) ?_)
   refine ⟨fx0, ?_⟩
   refine JA.fix fx1 (fun fx56 => ?_)
   refine JA.tkG 12 7 43 true _ rfl fx56 rfl rfl hg55 q23 ?_
   refine JA.tk 13 rfl fx56 (q11 hg55) ?_
   refine JA.tk 14 rfl fx56 q1 ?_
   refine q14 ?_
   refine Ej.seq (Cj.cond rfl (fun hc57 => ?_) (fun hc57 => ?_))
   ·
    have hc57p := ebq hc57
    have hck : Ke.check (Ke.norm s) = (Ke.norm s).getD 12 0 := by have h := ebq hc57; rw [hgd]; exact UInt8.toNat_inj.1 (by omega)
    refine Cj.sr (J.z q0 ?_)
    refine J.z q1 ?_
    refine J.z q1 ?_
    refine J.ns (Cj.ret (Ej.blkRet (Ej.seqRet (Ej.keep (List.nil_sublist _) ?_))))
    refine q22 ?_
    have he : Ke.isbn s = (Ke.norm s, true) := by unfold Ke.isbn Ke.isbnN; rw [if_neg hno, if_pos ⟨h13, hdg, hck⟩]
    rw [he]
    exact ⟨rfl, rfl⟩
   ·
    have hc57p := nbf hc57
    have hno2 : ¬ ((Ke.norm s).length = 13 ∧ Ke.digits (Ke.norm s) = true ∧ Ke.check (Ke.norm s) = (Ke.norm s).getD 12 0) := fun e => nbf hc57 (by rw [e.2.2, hgd])
    refine Cj.kb (Cj.sr (J.z q1 ?_))
    refine J.z q1 ?_
    refine J.ns (Cj.ret (Ej.keep (List.nil_sublist _) ?_))
    refine q22 ?_
    have he : Ke.isbn s = ([], false) := by unfold Ke.isbn Ke.isbnN; rw [if_neg hno, if_neg hno2]
    rw [he]
    exact ⟨rfl, rfl⟩
  ·
   have hno2 : ¬ ((Ke.norm s).length = 13 ∧ Ke.digits (Ke.norm s) = true ∧ Ke.check (Ke.norm s) = (Ke.norm s).getD 12 0) := fun e => Bool.noConfusion (e.2.1.symm.trans hg55)
   refine q20 8 7 43 true fx54 (.inl (congrArg Value.bool hg55)) ?_
   refine q20 9 7 43 true fx54 (.inl (congrArg Value.bool hg55)) ?_
   refine q20 10 7 43 true fx54 (.inl (congrArg Value.bool hg55)) ?_
   refine q20 11 7 43 true fx54 (.inl (congrArg Value.bool hg55)) ?_
   refine q20 12 7 43 true fx54 (.inl (congrArg Value.bool hg55)) ?_
   refine JA.tk 13 rfl fx54 (q10 hg55) ?_
   refine JA.tk 14 rfl fx54 q1 ?_
   refine q14 ?_
   refine Ej.seq (Cj.cond rfl (fun hc58 => Bool.noConfusion (Eq.trans (Eq.symm rfl) hc58)) (fun hc58 => ?_))
   refine Cj.kb (Cj.sr (J.z q1 ?_))
   refine J.z q1 ?_
   refine J.ns (Cj.ret (Ej.keep (List.nil_sublist _) ?_))
   refine q22 ?_
   have he : Ke.isbn s = ([], false) := by unfold Ke.isbn Ke.isbnN; rw [if_neg hno, if_neg hno2]
   rw [he]
   exact ⟨rfl, rfl⟩
 have hno : ¬ ((Ke.norm s).length = 10 ∧ Ke.rightShort (Ke.norm s) = true) := fun e => nbf hg49 (by rw [e.1]; rfl)
 refine q3 3 21 22 true hg49 ?_
 refine q3 3 21 23 true hg49 ?_
 refine J.z (q10 hg49) ?_
 refine J.z q1 ?_
 refine J.c0 (fun hc60 => ?_)
 refine Cj.seq (Cj.drawSel [] [] 15 (by kernel_rfl) ?_)
 refine JA.fix fx1 (fun fx61 => ?_)
 refine JA.tk 0 rfl fx61 q0 ?_
 refine JA.tk 1 rfl fx61 (q26 tU9) ?_
 refine JA.tk 2 rfl fx61 q23 ?_
 refine JA.tk 3 rfl fx61 q0 ?_
 refine JA.split 39 rfl (fun hg62 => ?_) (fun hg62 => ?_)
 rotate_left
 ·
  have hno2 : ¬ ((Ke.norm s).length = 13 ∧ Ke.digits (Ke.norm s) = true ∧ Ke.check (Ke.norm s) = (Ke.norm s).getD 12 0) := fun e => nbf hg62 (by rw [e.1]; rfl)
  refine q20 4 3 39 true fx61 (.inl (congrArg Value.bool hg62)) ?_
  refine q20 5 3 39 true fx61 (.inl (congrArg Value.bool hg62)) ?_
  refine JA.tk 6 rfl fx61 (q10 hg62) ?_
  refine JA.tk 7 rfl fx61 q0 ?_
  refine q29 8 7 43 true fx61 ?_
  refine q29 9 7 43 true fx61 ?_
  refine q29 10 7 43 true fx61 ?_
  refine q29 11 7 43 true fx61 ?_
  refine q29 12 7 43 true fx61 ?_
  refine JA.tk 13 rfl fx61 q30 ?_
  refine JA.tk 14 rfl fx61 q1 ?_
  refine q14 ?_
  refine Ej.seq (Cj.cond rfl (fun hc68 => Bool.noConfusion (Eq.trans (Eq.symm rfl) hc68)) (fun hc68 => ?_))
  refine Cj.kb (Cj.sr (J.z q1 ?_))
  refine J.z q1 ?_
  refine J.ns (Cj.ret (Ej.keep (List.nil_sublist _) ?_))
  refine q22 ?_
  have he : Ke.isbn s = ([], false) := by unfold Ke.isbn Ke.isbnN; rw [if_neg hno, if_neg hno2]
  rw [he]
  exact ⟨rfl, rfl⟩
 have h13 : (Ke.norm s).length = 13 := by have h := ebq hg62; omega
 refine JA.tkG 4 3 39 true _ rfl fx61 rfl rfl hg62 q0 ?_
 refine JA.stepG 5 3 39 true _ (by kernel_rfl) rfl rfl rfl rfl hg62 (op_pure rfl rfl rfl rfl rfl (isDigits_ok (Ke.norm s) (by omega) _) ?_)
 refine ⟨fx0, ?_⟩
 refine JA.fix fx1 (fun fx63 => ?_)
 refine JA.tk 6 rfl fx63 (q11 hg62) ?_
 refine JA.tk 7 rfl fx63 q0 ?_
 refine JA.split 43 rfl (fun hg64 => ?_) (fun hg64 => ?_)
 ·
  have hdg : Ke.digits (Ke.norm s) = true := hg64
  have hd13 : Ke.digits ((Ke.norm s).take 12) = true := List.all_eq_true.2 fun c hc => List.all_eq_true.1 hdg c (List.mem_of_mem_take hc)
  obtain ⟨c, hg12⟩ : ∃ c, (Ke.norm s)[12]? = some c := ⟨_, lgg (by omega)⟩
  have hgd : (Ke.norm s).getD 12 0 = c := by rw [List.getD, hg12]; rfl
  refine JA.tkG 8 7 43 true _ rfl fx63 rfl rfl hg64 q0 ?_
  refine JA.tkG 10 7 43 true _ rfl fx63 rfl rfl hg64 q0 ?_
  refine JA.tkG 11 7 43 true _ rfl fx63 rfl rfl hg64 (q42 tU9 hg12) ?_
  refine JA.stepG 9 7 43 true _ (by kernel_rfl) rfl rfl rfl rfl hg64 (op_pure rfl rfl rfl rfl rfl (check_ok (Ke.norm s) (by omega) (by omega) hd13 _) ?_)
  refine ⟨fx0, ?_⟩
  refine JA.fix fx1 (fun fx65 => ?_)
  refine JA.tkG 12 7 43 true _ rfl fx65 rfl rfl hg64 q23 ?_
  refine JA.tk 13 rfl fx65 (q11 hg64) ?_
  refine JA.tk 14 rfl fx65 q1 ?_
  refine q14 ?_
  refine Ej.seq (Cj.cond rfl (fun hc66 => ?_) (fun hc66 => ?_))
  ·
   have hc66p := ebq hc66
   have hck : Ke.check (Ke.norm s) = (Ke.norm s).getD 12 0 := by have h := ebq hc66; rw [hgd]; exact UInt8.toNat_inj.1 (by omega)
   refine Cj.sr (J.z q0 ?_)
   refine J.z q1 ?_
   refine J.z q1 ?_
   refine J.ns (Cj.ret (Ej.blkRet (Ej.seqRet (Ej.keep (List.nil_sublist _) ?_))))
   refine q22 ?_
   have he : Ke.isbn s = (Ke.norm s, true) := by unfold Ke.isbn Ke.isbnN; rw [if_neg hno, if_pos ⟨h13, hdg, hck⟩]
   rw [he]
   exact ⟨rfl, rfl⟩
  ·
   have hc66p := nbf hc66
   have hno2 : ¬ ((Ke.norm s).length = 13 ∧ Ke.digits (Ke.norm s) = true ∧ Ke.check (Ke.norm s) = (Ke.norm s).getD 12 0) := fun e => nbf hc66 (by rw [e.2.2, hgd])
   refine Cj.kb (Cj.sr (J.z q1 ?_))
   refine J.z q1 ?_
   refine J.ns (Cj.ret (Ej.keep (List.nil_sublist _) ?_))
   refine q22 ?_
   have he : Ke.isbn s = ([], false) := by unfold Ke.isbn Ke.isbnN; rw [if_neg hno, if_neg hno2]
   rw [he]
   exact ⟨rfl, rfl⟩
 ·
  have hno2 : ¬ ((Ke.norm s).length = 13 ∧ Ke.digits (Ke.norm s) = true ∧ Ke.check (Ke.norm s) = (Ke.norm s).getD 12 0) := fun e => Bool.noConfusion (e.2.1.symm.trans hg64)
  refine q20 8 7 43 true fx63 (.inl (congrArg Value.bool hg64)) ?_
  refine q20 9 7 43 true fx63 (.inl (congrArg Value.bool hg64)) ?_
  refine q20 10 7 43 true fx63 (.inl (congrArg Value.bool hg64)) ?_
  refine q20 11 7 43 true fx63 (.inl (congrArg Value.bool hg64)) ?_
  refine q20 12 7 43 true fx63 (.inl (congrArg Value.bool hg64)) ?_
  refine JA.tk 13 rfl fx63 (q10 hg64) ?_
  refine JA.tk 14 rfl fx63 q1 ?_
  refine q14 ?_
  refine Ej.seq (Cj.cond rfl (fun hc67 => Bool.noConfusion (Eq.trans (Eq.symm rfl) hc67)) (fun hc67 => ?_))
  refine Cj.kb (Cj.sr (J.z q1 ?_))
  refine J.z q1 ?_
  refine J.ns (Cj.ret (Ej.keep (List.nil_sublist _) ?_))
  refine q22 ?_
  have he : Ke.isbn s = ([], false) := by unfold Ke.isbn Ke.isbnN; rw [if_neg hno, if_neg hno2]
  rw [he]
  exact ⟨rfl, rfl⟩
end Go.Proofs.YtjcdfnbomkoheaaGreatDoor
end
section
namespace Ke
abbrev Row := List Bs
def pg (s : Bs) : Bool → Row → Row
  | true, [] => []
  | false, [] => [s]
  | d, x :: r => if s < x ∧ d = false then s :: x :: pg s true r else x :: pg s d r
def put (l : Row) (s : Bs) : Row := if s ∈ l then l else pg s false l
def Inc (l : Row) : Prop := l.Pairwise (· < ·)
theorem pg_true (s : Bs) : ∀ l, pg s true l = l
  | [] => rfl
  | x :: r => by unfold pg; rw [if_neg (by simp), pg_true s r]
theorem pg_mem (s : Bs) : ∀ (l : Row) (x : Bs), x ∈ pg s false l ↔ x = s ∨ x ∈ l
  | [], x => by simp [pg]
  | y :: r, x => by
    unfold pg
    by_cases h : s < y
    · rw [if_pos ⟨h, rfl⟩, pg_true]; simp
    rw [if_neg (fun e => h e.1), List.mem_cons, pg_mem s r x, List.mem_cons]
    constructor
    · rintro (h | h | h) <;> simp [h]
    rintro (h | h | h) <;> simp [h]
theorem lt_of {a b : Bs} (h : ¬ b < a) (hne : a ≠ b) : a < b := by
  have h1 : a ≤ b := List.not_lt.1 h
  rcases Decidable.em (a < b) with h2 | h2
  · exact h2
  exact absurd (List.le_antisymm h1 (List.not_lt.1 h2)) hne
theorem pg_inc (s : Bs) : ∀ {l : Row}, Inc l → s ∉ l → Inc (pg s false l)
  | [], _, _ => by simp [pg, Inc]
  | y :: r, hl, hn => by
    have hl' := List.pairwise_cons.1 hl
    unfold pg
    by_cases h : s < y
    · rw [if_pos ⟨h, rfl⟩, pg_true]
      refine List.pairwise_cons.2 ⟨fun z hz => ?_, hl⟩
      rcases List.mem_cons.1 hz with rfl | hz
      · exact h
      exact List.lt_trans h (hl'.1 z hz)
    rw [if_neg (fun e => h e.1)]
    refine List.pairwise_cons.2 ⟨fun z hz => ?_, pg_inc s hl'.2 fun e => hn (.tail _ e)⟩
    rcases (pg_mem s r z).1 hz with rfl | hz
    · exact lt_of h fun e => hn (e ▸ .head _)
    exact hl'.1 z hz
theorem put_mem (l : Row) (s x : Bs) : x ∈ put l s ↔ x = s ∨ x ∈ l := by
  unfold put
  split
  · rename_i h
    exact ⟨.inr, fun e => e.elim (fun e => e ▸ h) id⟩
  exact pg_mem s l x
theorem put_inc {l : Row} (s : Bs) (h : Inc l) : Inc (put l s) := by
  unfold put
  split
  · exact h
  rename_i hn; exact pg_inc s h hn
theorem puts_inc : ∀ (xs : Row) {l : Row}, Inc l → Inc (xs.foldl put l)
  | [], _, h => h
  | x :: r, _, h => puts_inc r (put_inc x h)
theorem puts_mem : ∀ (xs l : Row) (x : Bs), x ∈ xs.foldl put l ↔ x ∈ xs ∨ x ∈ l
  | [], _, _ => by simp
  | y :: r, l, x => by
    rw [List.foldl_cons, puts_mem r, put_mem, List.mem_cons]
    constructor
    · rintro (h | h | h) <;> simp [h]
    rintro ((h | h) | h) <;> simp [h]
theorem inc_eq : ∀ {a b : Row}, Inc a → Inc b → (∀ x, x ∈ a ↔ x ∈ b) → a = b
  | [], [], _, _, _ => rfl
  | [], y :: _, _, _, h => absurd ((h y).2 (.head _)) (by simp)
  | x :: _, [], _, _, h => absurd ((h x).1 (.head _)) (by simp)
  | x :: r, y :: t, ha, hb, h => by
    have ha' := List.pairwise_cons.1 ha
    have hb' := List.pairwise_cons.1 hb
    have hxy : x = y := by
      rcases List.mem_cons.1 ((h x).1 (.head _)) with e | e
      · exact e
      rcases List.mem_cons.1 ((h y).2 (.head _)) with e2 | e2
      · exact e2.symm
      exact absurd (List.lt_trans (hb'.1 x e) (ha'.1 y e2)) (List.lt_irrefl _)
    subst hxy
    rw [inc_eq ha'.2 hb'.2 fun z => ⟨fun hz => ?_, fun hz => ?_⟩]
    · rcases List.mem_cons.1 ((h z).1 (.tail _ hz)) with rfl | e
      · exact absurd (ha'.1 z hz) (List.lt_irrefl _)
      exact e
    rcases List.mem_cons.1 ((h z).2 (.tail _ hz)) with rfl | e
    · exact absurd (hb'.1 z hz) (List.lt_irrefl _)
    exact e
structure Sub where
  code : UInt8
  text : Bs
structure Fld where
  tag : Bs
  ind : Bs
  data : Bs
  sv : Go.Value
  subs : List Sub
def texts (f : Fld) (codes : Bs) : Row := (f.subs.filter fun s => codes.contains s.code).map (·.text)
def textOf (f : Fld) (codes : Bs) : Bs := join (texts f codes)
def skip (f : Fld) : Nat := match f.ind[1]? with
  | some c => if digit c then c.toNat - 48 else 0
  | none => 0
end Ke
end
section
namespace Go.Proofs.YtjcdfnbomkoheaaGreatDoor
open Go Go.Sx
def subC (s : Ke.Sub) : List Value := [u8 s.code, str s.text]
def fldC (f : Ke.Fld) : List Value := [str f.tag, str f.ind, str f.data, f.sv]
theorem subC_len (s : Ke.Sub) : (subC s).length = 2 := rfl
theorem fldC_len (f : Ke.Fld) : (fldC f).length = 4 := rfl
def RecS (I : Heap) (fs : List Ke.Fld) (v : Value) : Prop := RowS fldC I fs v ∧ ∀ f ∈ fs, RowS subC I f.subs f.sv
theorem RecS.mono {I I' : Heap} {fs : List Ke.Fld} {v : Value} (h : RecS I fs v) (hle : Le I I') : RecS I' fs v := ⟨h.1.mono hle, fun f hf => (h.2 f hf).mono hle⟩
def recV (k l : UInt8) (v : Value) : Value := .agg #[u8 k, u8 l, v]
def textsLen (ss : List Ke.Sub) : Nat := (ss.map (·.text.length)).sum
theorem gOk_len {base sz n : Nat} {xs ys : List Value} {g : Gs} (h : gOk base sz n xs g) (hl : ys.length = xs.length) : gOk base sz n ys g := by
  cases g with
  | none =>
    obtain ⟨h1, h2⟩ := h
    exact ⟨h1, List.length_eq_zero_iff.1 (by rw [hl, h2]; rfl)⟩
  | some q =>
    obtain ⟨b, c, sp⟩ := q
    obtain ⟨h1, h2, h3⟩ := h
    exact ⟨h1, by rw [hl]; exact h2, by rw [hl]; exact h3⟩
theorem fldC_one {f : Ke.Fld} {p : Option Addr} {n c : Nat} (h : f.sv = .slice p n c) : (fldC f).all Value.oneCell' = true := by
  unfold fldC; rw [h]; rfl
def tx (codes : List UInt8) (ss : List Ke.Sub) : List (List UInt8) := (ss.filter fun s => codes.contains s.code).map (·.text)
theorem tx_next {codes : List UInt8} {ss : List Ke.Sub} {k : Nat} {s : Ke.Sub} (h : ss[k]? = some s) : tx codes (ss.take (k + 1)) = tx codes (ss.take k) ++ (if codes.contains s.code then [s.text] else []) := by
  obtain ⟨hlt, hg⟩ := List.getElem?_eq_some_iff.1 h
  unfold tx
  rw [List.take_succ_eq_append_getElem hlt, hg, List.filter_append, List.map_append]
  by_cases hc : codes.contains s.code = true
  · rw [if_pos hc, List.filter_cons_of_pos (p := fun s : Ke.Sub => codes.contains s.code) hc]; rfl
  rw [if_neg hc, List.filter_cons_of_neg (p := fun s : Ke.Sub => codes.contains s.code) hc]; rfl
theorem tx_len (codes : List UInt8) (ss : List Ke.Sub) : (tx codes ss).length ≤ ss.length := by
  unfold tx; rw [List.length_map]; exact List.length_filter_le _ _
theorem join_len : ∀ l : List (List UInt8), (Ke.join l).length ≤ (l.map List.length).sum + l.length
  | [] => by simp [Ke.join]
  | [a] => by simp [Ke.join]
  | a :: b :: r => by
    have := join_len (b :: r)
    simp only [Ke.join, List.length_append, List.map_cons, List.sum_cons, List.length_cons, List.length_nil] at this ⊢
    omega
theorem tx_sum (codes : List UInt8) : ∀ ss : List Ke.Sub, ((tx codes ss).map List.length).sum ≤ textsLen ss
  | [] => by simp [tx]
  | s :: r => by
    have := tx_sum codes r
    unfold tx textsLen at this ⊢
    rw [List.filter_cons]
    split
    · simp only [List.map_cons, List.sum_cons]; omega
    simp only [List.map_cons, List.sum_cons]; omega
theorem textOf_len (f : Ke.Fld) (codes : List UInt8) : (Ke.textOf f codes).length ≤ textsLen f.subs + f.subs.length := by
  have h1 := join_len (tx codes f.subs); have h2 := tx_sum codes f.subs; have h3 := tx_len codes f.subs
  have : Ke.textOf f codes = Ke.join (tx codes f.subs) := rfl
  rw [this]; omega
theorem index_has (l : List UInt8) (c : UInt8) : decide (0 ≤ Lib.indexByte l c) = l.contains c := by
  induction l with
  | nil => rfl
  | cons d r ih =>
    rw [Lib.indexByte, List.contains_cons]
    simp only [beq_iff_eq]
    by_cases h : d = c
    · subst h; simp
    rw [if_neg h, show (c == d) = false from beq_eq_false_iff_ne.2 (Ne.symm h), Bool.false_or, ← ih]
    by_cases h0 : Lib.indexByte r c < 0
    · have : ¬ 0 ≤ Lib.indexByte r c := by omega
      rw [decide_eq_false this]
      exact decide_eq_false (by split <;> omega)
    have : 0 ≤ Lib.indexByte r c := by omega
    rw [decide_eq_true this]
    exact decide_eq_true (by split <;> omega)
theorem skip_no {f : Ke.Fld} (h : ¬ 1 < f.ind.length) : Ke.skip f = 0 := by
  unfold Ke.skip; rw [List.getElem?_eq_none (by omega)]
end Go.Proofs.YtjcdfnbomkoheaaGreatDoor
end
section
namespace Go.Proofs.YtjcdfnbomkoheaaGreatDoor
open _root_.Go.Proofs.Tryz
open Go Go.Sx
def StrP (I : Heap) (l : List (List UInt8)) (v : Value) : Prop := ∃ p c, v = .slice p l.length c ∧ l.length ≤ c ∧ (l ≠ [] → ∃ b o cs t fr sp, p = some ⟨b, o, none⟩ ∧ I b = some (.cells (List.toArray cs) t fr) ∧ cs.drop o = l.map str ++ sp)
theorem str_from {cs sp : List Value} {o : Nat} {l : List (List UInt8)} (h : cs.drop o = l.map str ++ sp) {k : Nat} {x : List UInt8} (hx : l[k]? = some x) : cs[o + k]? = some (str x) := by
  rw [← List.getElem?_drop, h]; exact str_get hx
theorem StrP.of {I : Heap} {l : List (List UInt8)} {v : Value} (h : StrS 9 I l v) : StrP I l v := by
  rcases h with ⟨rfl, rfl⟩ | ⟨b, c, sp, rfl, hc, hb⟩
  · exact ⟨none, 0, rfl, Nat.le_refl _, fun h => absurd rfl h⟩
  exact ⟨_, c, rfl, hc, fun _ => ⟨b, 0, _, _, _, sp, rfl, hb, rfl⟩⟩
theorem StrP.mono {I I' : Heap} {l : List (List UInt8)} {v : Value} (h : StrP I l v) (hle : Le I I') : StrP I' l v :=
  let ⟨p, c, h1, h2, h3⟩ := h; ⟨p, c, h1, h2, fun hn => let ⟨b, o, cs, t, fr, sp, h4, h5, h6⟩ := h3 hn; ⟨b, o, cs, t, fr, sp, h4, hle _ _ h5, h6⟩⟩
theorem take_same {α : Type} {a b : List α} {k : Nat} {x : α} (h : a.take k = b.take k) (h1 : a[k]? = some x) (h2 : b[k]? = some x) : a.take (k + 1) = b.take (k + 1) := by
  obtain ⟨l1, g1⟩ := List.getElem?_eq_some_iff.1 h1
  obtain ⟨l2, g2⟩ := List.getElem?_eq_some_iff.1 h2
  rw [List.take_succ_eq_append_getElem l1, List.take_succ_eq_append_getElem l2, h, g1, g2]
theorem join_next {l : List (List UInt8)} {k : Nat} {x : List UInt8} (h : l[k]? = some x) : Ke.join (l.take (k + 1)) = (if 0 < k then Ke.join (l.take k) ++ [32] else Ke.join (l.take k)) ++ x := by
  have key : ∀ (a : List (List UInt8)) (x : List UInt8), Ke.join (a ++ [x]) = (if 0 < a.length then Ke.join a ++ [32] else Ke.join a) ++ x := by
    intro a x
    induction a with
    | nil => rfl
    | cons b r ih =>
      cases r with
      | nil => simp [Ke.join]
      | cons c t =>
        have h1 : Ke.join (b :: c :: t ++ [x]) = b ++ [32] ++ Ke.join (c :: t ++ [x]) := rfl
        rw [h1, ih, if_pos (by simp), if_pos (by simp)]
        simp [Ke.join]
  obtain ⟨hlt, hg⟩ := List.getElem?_eq_some_iff.1 h
  rw [List.take_succ_eq_append_getElem hlt, hg, key, List.length_take, Nat.min_eq_left (by omega)]
theorem join_part (l : List (List UInt8)) (k : Nat) : (Ke.join (l.take k)).length ≤ (Ke.join l).length := by
  have key : ∀ a b : List (List UInt8), (Ke.join a).length ≤ (Ke.join (a ++ b)).length := by
    intro a b
    induction a with
    | nil => exact Nat.zero_le _
    | cons x r ih =>
      cases r with
      | nil =>
        cases b with
        | nil => exact Nat.le_refl _
        | cons y t => simp only [Ke.join, List.cons_append, List.nil_append, List.length_append]; omega
      | cons y t =>
        simp only [Ke.join, List.cons_append, List.length_append] at ih ⊢; omega
  have := key (l.take k) (l.drop k)
  rwa [List.take_append_drop] at this
theorem all_at {s : List UInt8} {k : Nat} {c : UInt8} (h : (s.take k).all Ke.digit = true) (hg : s[k]? = some c) (hd : Ke.digit c = true) : (s.take (k + 1)).all Ke.digit = true := by
  obtain ⟨hlt, hg⟩ := List.getElem?_eq_some_iff.1 hg
  rw [List.take_succ_eq_append_getElem hlt, hg, List.all_append, h]; simp [hd]
theorem not_all {s : List UInt8} {k : Nat} {c : UInt8} (hg : s[k]? = some c) (hd : ¬ Ke.digit c = true) : Ke.digits s = false := by
  rcases h : Ke.digits s with _ | _
  · rfl
  exact absurd (List.all_eq_true.1 h c (lmg hg)) hd
theorem has_next {s : List UInt8} {k : Nat} {c d : UInt8} (h : c ∉ s.take k) (hg : s[k]? = some d) (hd : d ≠ c) : c ∉ s.take (k + 1) := by
  obtain ⟨hlt, hg⟩ := List.getElem?_eq_some_iff.1 hg
  rw [List.take_succ_eq_append_getElem hlt, hg]
  simp only [List.mem_append, List.mem_singleton]
  rintro (e | e)
  · exact h e
  exact hd e.symm
theorem strip_cons0 {r : List UInt8} (h : r ≠ []) : Ke.strip (48 :: r) = Ke.strip r := by
  cases r with
  | nil => exact absurd rfl h
  | cons a t =>
    unfold Ke.strip
    have h1 : (48 :: a :: t).length - 1 = (a :: t).length - 1 + 1 := rfl
    rw [h1, List.drop_succ_cons]
    rfl
theorem strip_done {x : List UInt8} (h : x.length ≤ 1 ∨ ∃ c r, x = c :: r ∧ c ≠ 48) : Ke.strip x = x := by
  rcases h with h | ⟨c, r, rfl, hc⟩
  · match x, h with
    | [], _ => rfl
    | [a], _ => rfl
  cases r with
  | nil => rfl
  | cons a t =>
    have h1 : (c :: a :: t).dropLast = c :: (a :: t).dropLast := rfl
    have h2 : (c :: a :: t).length - 1 = (a :: t).length - 1 + 1 := rfl
    unfold Ke.strip
    rw [h1, List.dropWhile_cons_of_neg (by simpa using hc), h2, List.drop_succ_cons, List.cons_append]
    congr 1
    rw [List.dropLast_eq_take, List.take_append_drop]
theorem head_of0 {l : List UInt8} {x : UInt8} (h : l[0]? = some x) : l = x :: l.tail := by
  cases l with
  | nil => simp at h
  | cons a r => simp at h; subst h; rfl
theorem Same_ok (a b : List (List UInt8)) (va vb : Value) (ha0 : a.length ≤ 100000000000000) (I : Heap) (ha : StrP I a va) (hb : StrP I b vb) : Pure Tryz.prog 39 [va, vb] I (.bool (decide (a = b))) := by
 obtain ⟨p, c, rfl, hc, hp⟩ := ha
 obtain ⟨q, d, rfl, hd, hq⟩ := hb
 refine Ctr.ob func39 ?_
 intro w0 hw0
 refine Cj.sr (J.z q1 ?_)
 refine J.nsss (Cj.region (J.z q0 ?_))
 refine J.z (q15 tU28) ?_
 refine J.z q0 ?_
 refine J.z (q15 tU28) ?_
 refine J.z q47 ?_
 refine J.cd (fun hc1 => ?_) (fun hc1 => ?_)
 ·
  have hc1p := bne_iff_ne.1 hc1
  have hne : a.length ≠ b.length := fun e => (bne_iff_ne.1 hc1) (by rw [e])
  refine Cj.sr (J.z q1 ?_)
  refine J.ns (Cj.rs (q6 ?_))
  have he : decide (a = b) = false := decide_eq_false (fun e => hne (by rw [e]))
  rw [he]
  exact ⟨rfl, rfl, rfl⟩
 have hc1p := bne_f hc1
 have hle0 : a.length = b.length := by have h := hc1; simp at h; omega
 refine Cj.ks (Cj.seq (Cj.sr (J.z q1 ?_)))
 refine J.ns (Cj.block (Cj.loop (ι := Nat) (fun j => j ≤ a.length ∧ a.take j = b.take j) (fun j => a.length - j) (fun j => [(0, .slice p a.length c), (1, .slice q b.length d), (5, i64 (j : Int))]) (fun j => I) (fun j => []) 0 ⟨Nat.zero_le _, rfl⟩ ⟨rfl, rfl, rfl, trivial⟩ rfl rfl ?_))
 rintro j ⟨hj, hsm⟩
 refine Cj.seq (Cj.sr (J.z q0 ?_))
 refine J.z q0 ?_
 refine J.z (q15 tU28) ?_
 refine J.z q17 ?_
 refine J.cd (fun hc2 => ?_) (fun hc2 => ?_)
 ·
  have hc2p := odt hc2
  have hlt : j < a.length := by omega
  obtain ⟨x, hgx⟩ : ∃ x, a[j]? = some x := ⟨_, lgg hlt⟩
  obtain ⟨y, hgy⟩ : ∃ y, b[j]? = some y := ⟨_, lgg (by omega)⟩
  obtain ⟨ab, ao, acs, aty, afr, spa, rfl, hab, had⟩ := hp (ne_nil_of hlt)
  obtain ⟨bb, bo, bcs, bty, bfr, spb, rfl, hbb, hbd⟩ := hq (ne_nil_of (k := j) (by omega))
  refine Cj.ks (Cj.seq (Cj.block (Cj.seq (Cj.drawSel [] [] 9 (by kernel_rfl) ?_))))
  refine JA.fix fx1 (fun fx3 => ?_)
  refine JA.tk 0 rfl fx3 q0 ?_
  refine JA.tk 1 rfl fx3 q0 ?_
  refine JA.tk 2 rfl fx3 (q19 (off' := ao + j) tU28 tS9) ?_
  refine JA.tk 3 rfl fx3 (q37 tA9 (Blk.immC hab) (str_from had hgx)) ?_
  refine JA.tk 4 rfl fx3 q0 ?_
  refine JA.tk 5 rfl fx3 q0 ?_
  refine JA.tk 6 rfl fx3 (q19 (off' := bo + j) tU28 tS9) ?_
  refine JA.tk 7 rfl fx3 (q37 tA9 (Blk.immC hbb) (str_from hbd hgy)) ?_
  refine JA.tk 8 rfl fx3 (yl_neqStr rfl rfl rfl) ?_
  refine q14 ?_
  refine Ej.seq (Cj.cond rfl (fun hc4 => ?_) (fun hc4 => ?_))
  ·
   have hc4p := bne_iff_ne.1 hc4
   have hxn : x ≠ y := bne_iff_ne.1 hc4
   refine Cj.sr (J.z q1 ?_)
   refine J.ns (Cj.ret (Ej.blkRet (Ej.seqRet (Ej.loopRet (Ej.blkRet (Ej.seqRet (q6 ?_)))))))
   have he : decide (a = b) = false := decide_eq_false (fun e => by subst e; rw [hgx] at hgy; exact hxn (Option.some.inj hgy))
   rw [he]
   exact ⟨rfl, rfl, rfl⟩
  have hc4p := bne_f hc4
  have hxy : y = x := by have h := hc4; simp at h; exact h.symm
  refine Cj.kb (Cj.region (J.z q0 ?_))
  refine J.z q7 ?_
  refine J.z q1 ?_
  refine J.nil (Ej.round (j + 1) ⟨by omega, take_same hsm hgx (hxy ▸ hgy)⟩ (by omega) ⟨rfl, rfl, rfl, trivial⟩ rfl rfl)
 have hc2p := odf hc2
 refine Cj.xl (Cj.sr (J.z q1 ?_))
 refine J.ns (Cj.ret (q6 ?_))
 have he : decide (a = b) = true := decide_eq_true (by rw [List.take_of_length_le (by omega), List.take_of_length_le (by omega)] at hsm; exact hsm)
 rw [he]
 exact ⟨rfl, rfl, rfl⟩
theorem rJoin_ok (l : List (List UInt8)) (v : Value) (hl : l.length ≤ 100000000000000) (hs : (Ke.join l).length ≤ 1000000000000) (I : Heap) (hv : StrP I l v) : Pure Tryz.prog 93 [v] I (str (Ke.join l)) := by
 obtain ⟨p, c, rfl, hc, hp⟩ := hv
 refine Ctr.ob func93 ?_
 intro w0 hw0
 refine Cj.sr (J.z q1 ?_)
 refine J.nssr (J.z q1 ?_)
 refine J.nsss (Cj.region (J.z q1 ?_))
 refine J.ns (Cj.block (Cj.loop (ι := Nat) (fun j => j ≤ l.length) (fun j => l.length - j) (fun j => [(0, .slice p l.length c), (3, str (Ke.join (l.take j))), (4, i64 (j : Int))]) (fun j => I) (fun j => []) 0 (Nat.zero_le _) ⟨rfl, rfl, rfl, trivial⟩ rfl rfl ?_))
 intro j hj
 have hjp := join_part l j
 have hjp2 := join_part l (j + 1)
 refine Cj.seq (Cj.sr (J.z q0 ?_))
 refine J.z q0 ?_
 refine J.z (q15 tU28) ?_
 refine J.z q17 ?_
 refine J.cd (fun hc1 => ?_) (fun hc1 => ?_)
 ·
  have hc1p := odt hc1
  have hlt : j < l.length := by omega
  obtain ⟨x, hget⟩ : ∃ x, l[j]? = some x := ⟨_, lgg hlt⟩
  obtain ⟨lb, lo, lcs, lty, lfr, sp, rfl, hlb, hld⟩ := hp (ne_nil_of hlt)
  have hjn := congrArg List.length (join_next hget)
  rw [List.length_append] at hjn
  refine Cj.ks (Cj.seq (Cj.block (Cj.seq (Cj.sr (J.z q0 ?_)))))
  refine J.z (yl_gtr rfl rfl rfl) ?_
  refine J.cd (fun hc2 => ?_) (fun hc2 => ?_)
  ·
   have hc2p := odt hc2
   have hj0 : 0 < j := by have h := odt hc2; omega
   refine Cj.region (J.z q0 ?_)
   refine J.z (yl_cat rfl rfl rfl (by rw [if_pos hj0, List.length_append] at hjn; simp only [List.length_cons, List.length_nil] at hjn ⊢; omega)) ?_
   refine J.z q1 ?_
   refine J.nsr (J.z q0 ?_)
   refine J.z q0 ?_
   refine J.z q0 ?_
   refine J.z (q19 (off' := lo + j) tU28 tS9) ?_
   refine J.z (q37 tA9 (Blk.imm hlb) (str_from hld hget)) ?_
   refine J.z (yl_cat rfl rfl rfl (by first | (rw [if_pos hj0, List.length_append] at hjn; simp only [List.length_append, List.length_cons, List.length_nil] at hjn ⊢; omega) | (rw [if_neg hj0] at hjn; omega))) ?_
   refine J.z q1 ?_
   refine J.nb (Cj.region (J.z q0 ?_))
   refine J.z q7 ?_
   refine J.z q1 ?_
   refine J.nil (Ej.round (j + 1) (by omega) (by omega) ⟨rfl, by rw [join_next hget, if_pos hj0]; rfl, rfl, trivial⟩ rfl rfl)
  have hc2p := odf hc2
  have hj0 : ¬ 0 < j := by have h := odf hc2; omega
  refine Cj.ks (Cj.region (J.z q0 ?_))
  refine J.z q0 ?_
  refine J.z q0 ?_
  refine J.z (q19 (off' := lo + j) tU28 tS9) ?_
  refine J.z (q37 tA9 (Blk.imm hlb) (str_from hld hget)) ?_
  refine J.z (yl_cat rfl rfl rfl (by first | (rw [if_pos hj0, List.length_append] at hjn; simp only [List.length_append, List.length_cons, List.length_nil] at hjn ⊢; omega) | (rw [if_neg hj0] at hjn; omega))) ?_
  refine J.z q1 ?_
  refine J.nb (Cj.region (J.z q0 ?_))
  refine J.z q7 ?_
  refine J.z q1 ?_
  refine J.nil (Ej.round (j + 1) (by omega) (by omega) ⟨rfl, by rw [join_next hget, if_neg hj0]; rfl, rfl, trivial⟩ rfl rfl)
 have hc1p := odf hc1
 have hfull : l.take j = l := List.take_of_length_le (by omega)
 refine Cj.xl (Cj.sr (J.z q0 ?_))
 refine J.z q1 ?_
 refine J.ns (Cj.ret (q6 ?_))
 rw [hfull]
 exact ⟨rfl, rfl, rfl⟩
theorem rdigits_ok (s : List UInt8) (hs : s.length ≤ 1000000000000) (I : Heap) : Pure Tryz.prog 91 [str s] I (.bool (Ke.digits s)) := by
 refine Ctr.ob func91 ?_
 intro w0 hw0
 refine Cj.sr (J.z q1 ?_)
 refine J.nsss (Cj.region (J.z q1 ?_))
 refine J.ns (Cj.block (Cj.loop (ι := Nat) (fun j => j ≤ s.length ∧ (s.take j).all Ke.digit = true) (fun j => s.length - j) (fun j => [(0, str s), (3, i64 (j : Int))]) (fun j => I) (fun j => []) 0 ⟨Nat.zero_le _, rfl⟩ ⟨rfl, rfl, trivial⟩ rfl rfl ?_))
 rintro j ⟨hj, hall⟩
 refine Cj.seq (Cj.sr (J.z q0 ?_))
 refine J.z q0 ?_
 refine J.z (q26 tU9) ?_
 refine J.z q17 ?_
 refine J.cd (fun hc1 => ?_) (fun hc1 => ?_)
 ·
  have hc1p := odt hc1
  have hlt : j < s.length := by omega
  obtain ⟨c, hget⟩ : ∃ c, s[j]? = some c := ⟨_, lgg hlt⟩
  refine Cj.ks (Cj.seq (Cj.block (Cj.sr (J.z q0 ?_))))
  refine J.z q0 ?_
  refine J.z (q42 tU9 hget) ?_
  refine J.z q17 ?_
  refine J.z q0 ?_
  refine q16 14 (fun hg2 => ?_) (fun hg2 => ?_)
  ·
   have hnd : ¬ Ke.digit c = true := fun e => by have h1 := Ke.digit_iff.1 e; have h := odt hg2; omega
   refine q3 4 14 15 false hg2 ?_
   refine q3 4 14 16 false hg2 ?_
   refine q3 4 14 17 false hg2 ?_
   refine q3 4 14 18 false hg2 ?_
   refine J.z (q11 hg2) ?_
   refine J.c1 (fun hc3 => ?_)
   refine Cj.sr (J.z q1 ?_)
   refine J.ns (Cj.ret (Ej.blkRet (Ej.seqRet (Ej.loopRet (Ej.blkRet (Ej.seqRet (q6 ?_)))))))
   rw [not_all hget hnd]
   exact ⟨rfl, rfl, rfl⟩
  have hlo := odf hg2
  refine q5 4 14 false hg2 (q2 q0 ?_)
  refine q5 4 14 false hg2 (q2 q0 ?_)
  refine J.opG 4 14 false _ rfl rfl rfl hg2 (op_yld (q42 tU9 hget) rfl rfl ?_)
  refine q5 4 14 false hg2 (q2 (yl_gtr rfl rfl rfl) ?_)
  refine J.z (q10 hg2) ?_
  refine J.cd (fun hc4 => ?_) (fun hc4 => ?_)
  ·
   have hc4p := odt hc4
   have hnd : ¬ Ke.digit c = true := fun e => by have h1 := Ke.digit_iff.1 e; have h := odt hc4; omega
   refine Cj.sr (J.z q1 ?_)
   refine J.ns (Cj.ret (Ej.blkRet (Ej.seqRet (Ej.loopRet (Ej.blkRet (Ej.seqRet (q6 ?_)))))))
   rw [not_all hget hnd]
   exact ⟨rfl, rfl, rfl⟩
  have hc4p := odf hc4
  have hd : Ke.digit c = true := Ke.digit_iff.2 (by have h := odf hc4; omega)
  refine Cj.kb (Cj.region (J.z q0 ?_))
  refine J.z q7 ?_
  refine J.z q1 ?_
  refine J.nil (Ej.round (j + 1) ⟨by omega, all_at hall hget hd⟩ (by omega) ⟨rfl, rfl, trivial⟩ rfl rfl)
 have hc1p := odf hc1
 refine Cj.xl (Cj.sr (J.z q1 ?_))
 refine J.ns (Cj.ret (q6 ?_))
 have he : Ke.digits s = true := by rw [List.take_of_length_le (by omega)] at hall; exact hall
 rw [he]
 exact ⟨rfl, rfl, rfl⟩
theorem has_ok (s : List UInt8) (d : UInt8) (hs : s.length ≤ 1000000000000) (I : Heap) : Pure Tryz.prog 156 [str s, u8 d] I (.bool (s.contains d)) := by
 refine Ctr.ob func156 ?_
 intro w0 hw0
 refine Cj.sr (J.z q1 ?_)
 refine J.nsss (Cj.region (J.z q1 ?_))
 refine J.ns (Cj.block (Cj.loop (ι := Nat) (fun j => j ≤ s.length ∧ d ∉ s.take j) (fun j => s.length - j) (fun j => [(0, str s), (1, u8 d), (5, i64 (j : Int))]) (fun j => I) (fun j => []) 0 ⟨Nat.zero_le _, by simp⟩ ⟨rfl, rfl, rfl, trivial⟩ rfl rfl ?_))
 rintro j ⟨hj, hno⟩
 refine Cj.seq (Cj.sr (J.z q0 ?_))
 refine J.z q0 ?_
 refine J.z (q26 tU9) ?_
 refine J.z q17 ?_
 refine J.cd (fun hc1 => ?_) (fun hc1 => ?_)
 ·
  have hc1p := odt hc1
  have hlt : j < s.length := by omega
  obtain ⟨c, hget⟩ : ∃ c, s[j]? = some c := ⟨_, lgg hlt⟩
  refine Cj.ks (Cj.seq (Cj.block (Cj.sr (J.z q0 ?_))))
  refine J.z q0 ?_
  refine J.z (q42 tU9 hget) ?_
  refine J.z q0 ?_
  refine J.z q23 ?_
  refine J.cd (fun hc2 => ?_) (fun hc2 => ?_)
  ·
   have hc2p := ebq hc2
   have he : c = d := UInt8.toNat_inj.1 (by have h := ebq hc2; omega)
   refine Cj.sr (J.z q1 ?_)
   refine J.ns (Cj.ret (Ej.blkRet (Ej.seqRet (Ej.loopRet (Ej.blkRet (Ej.seqRet (q6 ?_)))))))
   have hx : s.contains d = true := by simpa using he ▸ lmg hget
   rw [hx]
   exact ⟨rfl, rfl, rfl⟩
  have hc2p := nbf hc2
  have hne : c ≠ d := fun e => nbf hc2 (by rw [e])
  refine Cj.kb (Cj.region (J.z q0 ?_))
  refine J.z q7 ?_
  refine J.z q1 ?_
  refine J.nil (Ej.round (j + 1) ⟨by omega, has_next hno hget hne⟩ (by omega) ⟨rfl, rfl, rfl, trivial⟩ rfl rfl)
 have hc1p := odf hc1
 refine Cj.xl (Cj.sr (J.z q1 ?_))
 refine J.ns (Cj.ret (q6 ?_))
 have hx : s.contains d = false := by rw [List.take_of_length_le (by omega)] at hno; simpa using hno
 rw [hx]
 exact ⟨rfl, rfl, rfl⟩
theorem number_ok (s : List UInt8) (hs : s.length ≤ 1000000000000) (I : Heap) : Pure Tryz.prog 92 [str s] I (str (Ke.number s)) := by
 refine Ctr.ob func92 ?_
 intro w0 hw0
 refine Cj.sr (J.z q1 ?_)
 refine J.nss (Cj.block (Cj.loop (ι := List UInt8) (fun x => Ke.strip x = Ke.strip s ∧ x.length ≤ s.length) (fun x => x.length) (fun x => [(0, str x)]) (fun x => I) (fun x => []) s ⟨rfl, Nat.le_refl _⟩ ⟨rfl, trivial⟩ rfl rfl ?_))
 rintro x ⟨hx, hxl⟩
 refine Cj.seq (Cj.sr (J.z q0 ?_))
 refine J.z (q26 tU9) ?_
 refine J.z (yl_gtr rfl rfl rfl) ?_
 refine J.z q0 ?_
 refine q16 7 (fun hg1 => ?_) (fun hg1 => ?_)
 ·
  have hl1 : 1 < x.length := by have h := odt hg1; omega
  obtain ⟨c, hget⟩ : ∃ c, x[0]? = some c := ⟨_, lgg (by omega)⟩
  have hxc : x = c :: x.tail := head_of0 hget
  have htn : x.tail ≠ [] := fun e => by rw [hxc, e] at hl1; simp at hl1
  refine q5 3 7 true hg1 (q2 q0 ?_)
  refine J.opG 3 7 true _ rfl rfl rfl hg1 (op_yld (q42 tU9 hget) rfl rfl ?_)
  refine q5 3 7 true hg1 (q2 q23 ?_)
  refine J.z (q11 hg1) ?_
  refine J.cd (fun hc2 => ?_) (fun hc2 => ?_)
  ·
   have hc2p := ebq hc2
   have hx0 : x = 48 :: x.tail := by have h := ebq hc2; rw [show c = 48 from UInt8.toNat_inj.1 (by rw [show (48 : UInt8).toNat = 48 from rfl]; omega)] at hxc; exact hxc
   refine Cj.ks (Cj.block (Cj.region (J.z q0 ?_)))
   refine J.z (yl_sliceStr (p := 1) (q := x.length) rfl rfl tU9 ⟨_, rfl⟩ rfl (by omega) (by omega)) ?_
   refine J.eqv 13 rfl (show _ = str x.tail from (by rw [List.take_length, List.drop_one])) ?_
   refine J.z q1 ?_
   refine J.nil (Ej.blkNormal (Ej.round x.tail ⟨by rw [← hx, hx0, strip_cons0 htn]; rfl, by rw [List.length_tail]; omega⟩ (by rw [List.length_tail]; omega) ⟨rfl, trivial⟩ rfl rfl))
  have hc2p := nbf hc2
  have hdone : x.length ≤ 1 ∨ ∃ c r, x = c :: r ∧ c ≠ 48 := .inr ⟨c, _, hxc, fun e => nbf hc2 (by rw [e]; rfl)⟩
  have hsl : (Ke.strip s).length = x.length := by rw [← hx, strip_done hdone]
  refine Cj.xl (Cj.sr (J.z q0 ?_))
  refine J.eqv 14 rfl (show _ = str (Ke.strip s) from (by rw [← hx, strip_done hdone])) ?_
  refine J.z (q26 tU9) ?_
  refine J.z (yl_min2 rfl rfl rfl) ?_
  refine J.eqv 16 rfl (show _ = i64 ((min (Ke.strip s).length 99 : Nat) : Int) from (congrArg i64 (by split <;> omega))) ?_
  refine J.z q1 ?_
  refine J.nssr (J.z q0 ?_)
  refine J.z (yl_quo rfl rfl rfl (by decide) (w64 (by show _ ≤ ((min (Ke.strip s).length 99 / 10 : Nat) : Int) ∧ ((min (Ke.strip s).length 99 / 10 : Nat) : Int) ≤ _; omega))) ?_
  refine J.eqv 18 rfl (show _ = i64 ((min (Ke.strip s).length 99 / 10 : Nat) : Int) from rfl) ?_
  refine J.z q7 ?_
  refine J.eqv 19 rfl (show _ = i64 ((48 + min (Ke.strip s).length 99 / 10 : Nat) : Int) from (congrArg i64 (by omega))) ?_
  refine J.z (yl_convInt rfl rfl tU3 tU5) ?_
  refine J.eqv 20 rfl (show _ = u8 (UInt8.ofNat (48 + min (Ke.strip s).length 99 / 10)) from (congrArg (Value.int .u8) (conv8 (by omega)))) ?_
  refine J.z q0 ?_
  refine J.z q53 ?_
  refine J.eqv 22 rfl (show _ = i64 ((min (Ke.strip s).length 99 % 10 : Nat) : Int) from rfl) ?_
  refine J.z q7 ?_
  refine J.eqv 23 rfl (show _ = i64 ((48 + min (Ke.strip s).length 99 % 10 : Nat) : Int) from (congrArg i64 (by omega))) ?_
  refine J.z (yl_convInt rfl rfl tU3 tU5) ?_
  refine J.eqv 24 rfl (show _ = u8 (UInt8.ofNat (48 + min (Ke.strip s).length 99 % 10)) from (congrArg (Value.int .u8) (conv8 (by omega)))) ?_
  refine J.op rfl (op_buildSlice rfl rfl rfl tU71 tS5 tZ5 rfl rfl rfl rfl (LCat.one rfl (LCat.one rfl LCat.none)) ?_)
  intro b3 hb3
  refine J.z (yl_toStr [UInt8.ofNat (48 + min (Ke.strip s).length 99 / 10), UInt8.ofNat (48 + min (Ke.strip s).length 99 % 10)] rfl rfl rfl tU71 tU9 tU5 (Blk.at 0 rfl) rfl) ?_
  refine J.z q0 ?_
  refine J.eqv 27 rfl (show _ = str (Ke.strip s) from (by rw [← hx, strip_done hdone])) ?_
  refine J.z (yl_cat rfl rfl rfl (by first | omega | (simp only [List.length_append]; omega) | (simp; omega))) ?_
  refine J.z q1 ?_
  refine J.ns (Cj.ret (Ej.bare ?_))
  refine q6 ?_
  exact ⟨rfl, rfl, rfl⟩
 have hdone : x.length ≤ 1 ∨ ∃ c r, x = c :: r ∧ c ≠ 48 := .inl (by have h := odf hg1; omega)
 have hsl : (Ke.strip s).length = x.length := by rw [← hx, strip_done hdone]
 refine q3 3 7 8 true hg1 ?_
 refine q3 3 7 9 true hg1 ?_
 refine q3 3 7 10 true hg1 ?_
 refine J.z (q10 hg1) ?_
 refine J.c0 (fun hc4 => ?_)
 refine Cj.xl (Cj.sr (J.z q0 ?_))
 refine J.eqv 14 rfl (show _ = str (Ke.strip s) from (by rw [← hx, strip_done hdone])) ?_
 refine J.z (q26 tU9) ?_
 refine J.z (yl_min2 rfl rfl rfl) ?_
 refine J.eqv 16 rfl (show _ = i64 ((min (Ke.strip s).length 99 : Nat) : Int) from (congrArg i64 (by split <;> omega))) ?_
 refine J.z q1 ?_
 refine J.nssr (J.z q0 ?_)
 refine J.z (yl_quo rfl rfl rfl (by decide) (w64 (by show _ ≤ ((min (Ke.strip s).length 99 / 10 : Nat) : Int) ∧ ((min (Ke.strip s).length 99 / 10 : Nat) : Int) ≤ _; omega))) ?_
 refine J.eqv 18 rfl (show _ = i64 ((min (Ke.strip s).length 99 / 10 : Nat) : Int) from rfl) ?_
 refine J.z q7 ?_
 refine J.eqv 19 rfl (show _ = i64 ((48 + min (Ke.strip s).length 99 / 10 : Nat) : Int) from (congrArg i64 (by omega))) ?_
 refine J.z (yl_convInt rfl rfl tU3 tU5) ?_
 refine J.eqv 20 rfl (show _ = u8 (UInt8.ofNat (48 + min (Ke.strip s).length 99 / 10)) from (congrArg (Value.int .u8) (conv8 (by omega)))) ?_
 refine J.z q0 ?_
 refine J.z q53 ?_
 refine J.eqv 22 rfl (show _ = i64 ((min (Ke.strip s).length 99 % 10 : Nat) : Int) from rfl) ?_
 refine J.z q7 ?_
 refine J.eqv 23 rfl (show _ = i64 ((48 + min (Ke.strip s).length 99 % 10 : Nat) : Int) from (congrArg i64 (by omega))) ?_
 refine J.z (yl_convInt rfl rfl tU3 tU5) ?_
 refine J.eqv 24 rfl (show _ = u8 (UInt8.ofNat (48 + min (Ke.strip s).length 99 % 10)) from (congrArg (Value.int .u8) (conv8 (by omega)))) ?_
 refine J.op rfl (op_buildSlice rfl rfl rfl tU71 tS5 tZ5 rfl rfl rfl rfl (LCat.one rfl (LCat.one rfl LCat.none)) ?_)
 intro b5 hb5
 refine J.z (yl_toStr [UInt8.ofNat (48 + min (Ke.strip s).length 99 / 10), UInt8.ofNat (48 + min (Ke.strip s).length 99 % 10)] rfl rfl rfl tU71 tU9 tU5 (Blk.at 0 rfl) rfl) ?_
 refine J.z q0 ?_
 refine J.eqv 27 rfl (show _ = str (Ke.strip s) from (by rw [← hx, strip_done hdone])) ?_
 refine J.z (yl_cat rfl rfl rfl (by first | omega | (simp only [List.length_append]; omega) | (simp; omega))) ?_
 refine J.z q1 ?_
 refine J.ns (Cj.ret (Ej.bare ?_))
 refine q6 ?_
 exact ⟨rfl, rfl, rfl⟩
end Go.Proofs.YtjcdfnbomkoheaaGreatDoor
end
section
namespace Go.Sx
open Go
def rcs (l : List Nat) : List Value := l.map fun (r : Nat) => Value.int .i32 (r : Int)
theorem rcs_get {l : List Nat} {sp : List Value} {k c : Nat} (h : l[k]? = some c) : (rcs l ++ sp)[k]? = some (.int .i32 (c : Int)) := by
  obtain ⟨hlt, hg⟩ := List.getElem?_eq_some_iff.1 h
  rw [List.getElem?_append_left (by simpa [rcs] using hlt)]
  simp [rcs, h]
section
variable {cx : Cx} {Q : Qt} {o : Oper} {e : Env} {I : Heap} {H : HL} {C : Ct} {S : World → Prop}
theorem op_toRunes {Sy T E d : Nat} {x : Operand} {l : List UInt8} {rs : List Nat} (hr : Conv.runesFrom ⟨l.toArray⟩ l.length 0 #[] = (rcs rs).toArray) (ho : o.op = .convert Sy T x) (hd : o.dst = some d) (hn : Nat.blt d cx.n = true) (hx : ev e x = some (str l))
    (hS : cx.P.underlying Sy = some .string) (hT : cx.P.underlying T = some (.slice E)) (hE : cx.P.underlying E = some (.int .i32))
    (k : ∀ b c sp, cx.w0.heap.size ≤ b → C ((d, .slice (some ⟨b, 0, none⟩) rs.length c) :: e) I ((b, cel E (rcs rs ++ sp)) :: H)) : OpJ cx Q o e I H C := by
  intro K hK a w ha hst
  unfold Oper.wp
  let cap := (Question.appendCap rs.length 0 E).cut (w.tape w.drawn (.appendCap rs.length 0 E))
  let sp : List Value := List.replicate (cap - rs.length) (.int .i32 0)
  have hsz : (rcs rs).toArray.size = rs.length := by simp [rcs]
  have hrun : (execOp a.eval o).run cx.P w = .ok (.value (.slice (some ⟨w.heap.size, 0, none⟩) rs.length cap))
      { { w with drawn := w.drawn + 1 } with heap := w.heap.push (cel E (rcs rs ++ sp)) } := by
    have h0 : (rcs rs).toArray ++ Array.replicate (cap - rs.length) (Value.int IntKind.i32 0) = (rcs rs ++ sp).toArray := by
      simp [sp]
    simp only [execOp, ho, convert, ha.eval hx, str, Sem.run_bind, run_underlying hS, run_underlying hT, Result.andThen_ok, run_underlying hE, Conv.stringToRunes, size_mk, hr, hsz, run_choose, Question.forced, newRow, run_newObj, Bool.false_eq_true, if_false, Sem.run_pure]
    rw [show (Question.appendCap rs.length 0 E).cut (w.tape w.drawn (Question.appendCap rs.length 0 E)) = cap from rfl, h0]
    rfl
  rw [hrun]
  simp only [Oper.upon, hd]
  exact hK _ _ _ (k w.heap.size cap sp hst.size) _ _ (ha.put hn) ((hst.drewN (w.drawn + 1)).alloc _)
theorem gV_slice {base sz n : Nat} {xs : List Value} {g : Gs} (h : gOk base sz n xs g) : ∃ p c, gV n g = .slice p n c := by
  cases g with
  | none => obtain ⟨rfl, _⟩ := h; exact ⟨none, 0, rfl⟩
  | some q => obtain ⟨b, c, sp⟩ := q; exact ⟨_, c, rfl⟩
theorem yl_lenG {base sz n : Nat} {xs : List Value} {g : Gs} (h : gOk base sz n xs g) {x : Operand} {T E : TypeId} (ho : o.op = .call ⟨.builtin .len, #[x], #[T]⟩) (hx : ev e x = some (gV n g)) (hu : cx.P.underlying T = some (.slice E)) : Yld cx o e S (i64 (n : Int)) := by
  obtain ⟨p, c, hp⟩ := gV_slice h
  exact yl_lenSlice ho (hx.trans (congrArg some hp)) hu
theorem yl_toStr1 {Sy T E : Nat} {x : Operand} (r : Int) {b c : Nat} {cs : List Value} {t : TypeId} {fr : Nat × Nat} (ho : o.op = .convert Sy T x) (hx : ev e x = some (.slice (some ⟨b, 0, none⟩) 1 c))
    (hS : cx.P.underlying Sy = some (.slice E)) (hT : cx.P.underlying T = some .string) (hE : cx.P.underlying E = some (.int .i32)) (hb : Blk S b (.cells cs.toArray t fr)) (hl : cs[0]? = some (.int .i32 r)) :
    Yld cx o e S (str (Utf8.encode r).data.toList) := by
  intro a w ha hs
  have hc : ∀ j v, [Value.int .i32 r][j]? = some v → w.cell? ((⟨b, 0, none⟩ : Addr).add j) = some v := fun j v hj => by
    rw [Addr.add_lit]
    refine cell_of_heap (hb w hs) ?_
    cases j with
    | zero => simp at hj; subst hj; simpa using hl
    | succ j => simp at hj
  have h1 := run_loadCells_list (P := cx.P) (w := w) ⟨b, 0, none⟩ [Value.int .i32 r] hc
  have h2 : (loadCells ⟨b, 0, none⟩ 1).run cx.P w = .ok #[Value.int .i32 r] w := h1
  simp only [execOp, ho, convert, ha.eval hx, Sem.run_bind, run_underlying hS, run_underlying hT, Result.andThen_ok, run_underlying hE, Conv.runesToString, h2]
  simp [str]
theorem q48 {Sy T E : Nat} {x : Operand} {r : Int} {b c : Nat} {cs : List Value} {t : TypeId} {fr : Nat × Nat} (hS : cx.P.underlying Sy = some (.slice E)) (hT : cx.P.underlying T = some .string) (hE : cx.P.underlying E = some (.int .i32)) (ho : o.op = .convert Sy T x := by exact rfl) (hx : ev e x = some (.slice (some ⟨b, 0, none⟩) 1 c) := by exact rfl) (hb : Blk S b (.cells cs.toArray t fr) := by exact Blk.at 0 rfl) (hl : cs[0]? = some (.int .i32 r) := by exact rfl) : Yld cx o e S (str (Utf8.encode r).data.toList) := yl_toStr1 r ho hx hS hT hE hb hl
end
end Go.Sx
end
section
namespace Go.Sx
open Go
section
variable {cx : Cx} {Q : Qt} {o : Oper} {e : Env} {I : Heap} {H : HL} {C : Ct} {S : World → Prop}
theorem yl_lssStr {x y : Operand} {T U : Nat} {l m : List UInt8} (ho : o.op = .binOp .lss T x y U) (hx : ev e x = some (str l)) (hy : ev e y = some (str m)) : Yld cx o e S (.bool (decide (l < m))) := by
  intro a w ha _
  have h := Go.Proofs.bytesLess_eq l m
  simp [execOp, ho, ha.eval hx, ha.eval hy, str, eqGuard_at_string, binOp, Op.stringOp, h]
theorem yl_geqStr {x y : Operand} {T U : Nat} {l m : List UInt8} (ho : o.op = .binOp .geq T x y U) (hx : ev e x = some (str l)) (hy : ev e y = some (str m)) : Yld cx o e S (.bool (!decide (l < m))) := by
  intro a w ha _
  have h := Go.Proofs.bytesLess_eq l m
  simp [execOp, ho, ha.eval hx, ha.eval hy, str, eqGuard_at_string, binOp, Op.stringOp, h]
end
end Go.Sx
namespace Go.Sx
open Go
theorem Le.mono {I J K : Heap} (h : Le I J) (k : Le J K) : Le I K := h.trans k
theorem Ej.retC {cx : Cx} {fn : Func} {post : Ending → Heap → HL → Prop} {e : Env} {I : Heap} {H H' : HL} {t T b n : Nat} {cs : List Value} {ty : TypeId} {fr : Nat × Nat} (hk : Keeps H' H) (hr : fn.results = #[.cell t T]) (hds : cx.ds = []) (hv : eg e t = some (ptr b 0))
    (hb : Blk (SS I H) b (.cells cs.toArray ty fr)) (ha0 : ∀ w, (isAgg T).run cx.P w = .ok true w) (hsz : ∀ w, (sizeOf T).run cx.P w = .ok n w) (hn : cs.length = n) (hp : post (.returned (.agg cs.toArray)) I H') :
    Ej cx (bodyPost cx.P fn (RR cx.w0 cx.D cx.I0 post)) .ret e I H := by
  intro a w ha hs
  refine ⟨ha.defs.trans hds, _, ?_, I, H', hs.sublist hk, hp⟩
  have h1 := ha.get t _ hv
  have hc : ∀ j v, cs[j]? = some v → w.cell? ((⟨b, 0, none⟩ : Addr).add j) = some v := fun j v hj => by
    rw [Addr.add_lit]; exact cell_of_heap (hb w hs.ss) (by simpa using hj)
  have h2 := run_loadCells_list (P := cx.P) (w := w) ⟨b, 0, none⟩ cs hc
  rw [hn] at h2
  simp [results, hr, h1, asAddr, loadVar, ha0, hsz, h2]
end Go.Sx
end
section
namespace Go.Sx
open Go
theorem flat_len {α : Type} {f : α → List Value} {sz : Nat} (hf : ∀ x, (f x).length = sz) : ∀ l : List α, (l.flatMap f).length = l.length * sz
  | [] => by simp
  | a :: r => by rw [List.flatMap_cons, List.length_append, hf a, flat_len hf r, List.length_cons, Nat.add_mul]; omega
theorem flat_one {α : Type} (f : α → List Value) (l : List α) (x : α) : (l ++ [x]).flatMap f = l.flatMap f ++ f x := by simp
section
variable {cx : Cx} {Q : Qt} {e : Env} {I : Heap} {R : HL} {T : TypeId} {α : Type} {l : List α} {f : α → List Value} {sz n base : Nat} {g : Gs}
theorem gR_cases {X : Heap → HL → Prop} (hf : ∀ x, (f x).length = sz) (hpos : 0 < sz) (hg : gOk base sz n (l.flatMap f) g) (hn : n = l.length) (hp : ∀ b o, base ≤ b → (∀ I', Le I I' → I' b = some o → X I' R) → X I ((b, o) :: R)) (k : ∀ I', Le I I' → RowS f I' l (gV n g) → X I' R) : X I (gH T (l.flatMap f) g ++ R) := by
  subst hn
  cases g with
  | none =>
    obtain ⟨h1, h2⟩ := hg
    have : l = [] := List.length_eq_zero_iff.1 h1
    subst this
    exact k I (Le.refl _) RowS.nil
  | some q =>
    obtain ⟨b, c, sp⟩ := q
    obtain ⟨h1, h2, h3⟩ := hg
    have hc : l.length ≤ c := by
      rw [flat_len hf] at h3
      exact Nat.le_of_mul_le_mul_right (by omega : l.length * sz ≤ c * sz) hpos
    exact hp b _ h1 fun I' hle hb => k I' hle ⟨_, c, rfl, hc, fun _ => ⟨b, 0, _, T, _, sp, rfl, hb, rfl⟩⟩
theorem J.keepR {ops : Array Oper} {r : List Oper} (hf : ∀ x, (f x).length = sz) (hpos : 0 < sz) (hg : gOk cx.w0.heap.size sz n (l.flatMap f) g) (hn : n = l.length) (k : ∀ I', Le I I' → RowS f I' l (gV n g) → J cx Q ops r e I' R) : J cx Q ops r e I (gH T (l.flatMap f) g ++ R) :=
  gR_cases (X := fun I H => J cx Q ops r e I H) hf hpos hg hn (fun _ _ hb k => J.persist hb k) k
theorem Ej.keepR {x : Exit} (hf : ∀ x, (f x).length = sz) (hpos : 0 < sz) (hg : gOk cx.w0.heap.size sz n (l.flatMap f) g) (hn : n = l.length) (k : ∀ I', Le I I' → RowS f I' l (gV n g) → Ej cx Q x e I' R) : Ej cx Q x e I (gH T (l.flatMap f) g ++ R) :=
  gR_cases (X := fun I H => Ej cx Q x e I H) hf hpos hg hn (fun _ _ hb k => Ej.persist hb k) k
theorem gV_one' (n : Nat) (g : Gs) : Value.oneCell' (gV n g) = true := by
  cases g with
  | none => rfl
  | some q => obtain ⟨b, c, sp⟩ := q; rfl
end
end Go.Sx
namespace Go.Sx
open Go
section
variable {cx : Cx} {o : Oper} {e : Env} {S : World → Prop}
theorem yl_sliceTo {x y : Operand} {T E n c sz j : Nat} {b : Option Addr} {kl : IntKind} (ho : o.op = .slice T x none (some y) none) (hx : ev e x = some (.slice b n c)) (hy : ev e y = some (.int kl (j : Int))) (hu : cx.P.underlying T = some (.slice E)) (hsz : ∀ w, (sizeOf E).run cx.P w = .ok sz w) (hj : j ≤ c) :
    Yld cx o e S (.slice b j c) := by
  intro a w ha _
  have h1 : (j : Int) ≤ c := by omega
  cases b with
  | none => simp [execOp, ho, ha.eval hx, ha.eval hy, Instr.sliceAt, Instr.slice, run_underlying hu, Instr.sliceBounds, run_sliceBound, h1, hsz]
  | some q =>
    simp [execOp, ho, ha.eval hx, ha.eval hy, Instr.sliceAt, Instr.slice, run_underlying hu, Instr.sliceBounds, run_sliceBound, h1, hsz, Addr.add]
end
theorem RowS.take {α : Type} {f : α → List Value} {I : Heap} {l : List α} {p : Option Addr} {c : Nat} (h : RowS f I l (.slice p l.length c)) {m : Nat} (hm : m ≤ l.length) : RowS f I (l.take m) (.slice p m c) := by
  obtain ⟨p', c', he, hc, hb⟩ := h
  cases he
  refine ⟨p, c, by rw [List.length_take, Nat.min_eq_left hm], by rw [List.length_take]; omega, fun hn => ?_⟩
  have hl : l ≠ [] := fun e => hn (by rw [e]; simp)
  obtain ⟨b, o, cs, t, fr, sp, h1, h2, h3⟩ := hb hl
  refine ⟨b, o, cs, t, fr, (l.drop m).flatMap f ++ sp, h1, h2, ?_⟩
  rw [h3, ← List.append_assoc, ← List.flatMap_append, List.take_append_drop]
end Go.Sx
namespace Go.Sx
open Go
theorem perm_swap {α : Type} (A G G' : List α) : (A ++ (G' ++ G)).Perm (A ++ (G ++ G')) := List.Perm.append_left A List.perm_append_comm
theorem all_flat {α : Type} {f : α → List Value} : ∀ {l : List α}, (∀ x ∈ l, (f x).all Value.oneCell' = true) → (l.flatMap f).all Value.oneCell' = true
  | [], _ => rfl
  | a :: r, h => by rw [List.flatMap_cons, List.all_append, h a (.head _), all_flat fun x hx => h x (.tail _ hx)]; rfl
theorem Src.row {P : Program} {I : Heap} {H : HL} {α : Type} {f : α → List Value} {sz : Nat} {l : List α} {v : Value} (hf : ∀ x, (f x).length = sz) (h : RowS f I l v) (h1 : ∀ x ∈ l, (f x).all Value.oneCell' = true) : Src P I H sz l.length v (l.flatMap f) := by
  obtain ⟨p, c, rfl, _, hb⟩ := h
  cases l with
  | nil => exact Src.nil
  | cons a r =>
    obtain ⟨b, o, cs, t, fr, sp, rfl, h2, h3⟩ := hb (by simp)
    have hl := flat_len hf (a :: r)
    exact Src.slice (Blk.imm h2) (by rw [h3, ← hl, List.take_left]) hl (all_flat h1)
end Go.Sx
end
section
namespace Go.Sx
open Go
def hputs : HL → Heap → Heap
  | [], I => I
  | (b, o) :: r, I => hput b o (hputs r I)
theorem hputs_at : ∀ {H : HL} {I : Heap}, (H.map (·.1)).Nodup → ∀ p ∈ H, hputs H I p.1 = some p.2
  | [], _, _, p, hp => by cases hp
  | (b, o) :: r, I, hn, p, hp => by
    rw [List.map_cons, List.nodup_cons] at hn
    unfold hputs hput
    rcases List.mem_cons.1 hp with e | e
    · rw [e]; simp
    have : p.1 ≠ b := fun g => hn.1 (by rw [← g]; exact List.mem_map_of_mem (f := (·.1)) e)
    rw [if_neg this]; exact hputs_at hn.2 p e
theorem hputs_off : ∀ {H : HL} {I : Heap} {b : Nat}, b ∉ H.map (·.1) → hputs H I b = I b
  | [], _, _, _ => rfl
  | (c, o) :: r, I, b, h => by
    rw [List.map_cons, List.mem_cons, not_or] at h
    unfold hputs hput
    rw [if_neg h.1]; exact hputs_off h.2
theorem hputs_le {H : HL} {I : Heap} (hd : ∀ p ∈ H, I p.1 = none) : Le I (hputs H I) := fun b o hb => by
  by_cases h : b ∈ H.map (·.1)
  · obtain ⟨p, hp, rfl⟩ := List.mem_map.1 h
    rw [hd p hp] at hb; cases hb
  rw [hputs_off h]; exact hb
def hless (H : HL) (J : Heap) : Heap := fun b => if b ∈ H.map (·.1) then none else J b
theorem hless_off {H : HL} {J : Heap} {b : Nat} (h : b ∉ H.map (·.1)) : hless H J b = J b := if_neg h
theorem Ctr.borrow {P : Program} {f : FuncId} {args : List Value} {I : Heap} {B : HL} {post : Ending → Heap → HL → Prop} (h : Ctr P f args (hputs B I) [] post) :
    Ctr P f args I B (fun e I' H' => ∃ J K, post e J K ∧ H' = B ++ K ∧ I' = hless B J ∧ ∀ p ∈ B, J p.1 = some p.2) := by
  refine ⟨h.1, fun w hw => ?_⟩
  obtain ⟨r1, r2, r3, r4⟩ := hw
  have hr : Ready (hputs B I) [] w := by
    unfold Ready
    refine ⟨fun b o hb => ?_, (fun p hp => by cases hp), List.Pairwise.nil, (fun p hp => by cases hp)⟩
    by_cases hm : b ∈ B.map (·.1)
    · obtain ⟨p, hp, rfl⟩ := List.mem_map.1 hm
      rw [hputs_at r3 p hp] at hb; cases hb
      exact r2 p hp
    rw [hputs_off hm] at hb; exact r1 b o hb
  refine (h.2 w hr).mono ?_
  rintro e w' ⟨J, K, hs, hp⟩
  have hJ : ∀ p ∈ B, J p.1 = some p.2 := fun p hp => hs.le _ _ (hputs_at r3 p hp)
  have hlt : ∀ p ∈ B, p.1 < w.heap.size := fun p hp => by
    have := r2 p hp
    rcases Nat.lt_or_ge p.1 w.heap.size with g | g
    · exact g
    rw [Array.getElem?_eq_none g] at this; cases this
  have hKB : ∀ q ∈ K, q.1 ∉ B.map (·.1) := fun q hq hm => by
    obtain ⟨p, hp, he⟩ := List.mem_map.1 hm
    have := hs.dis q hq
    rw [← he, hJ p hp] at this; cases this
  refine ⟨hless B J, B ++ K, ⟨hs.os, hs.tape, hs.output, hs.size, fun b hb _ => hs.frm b hb (by simp), fun b o hb => ?_, fun p hp => ?_, ?_, fun p hp => ?_, fun p hp => ?_, fun b hb => ?_, fun b o hb => ?_⟩, J, K, hp, rfl, rfl, hJ⟩
  · unfold hless at hb
    split at hb
    · cases hb
    exact hs.sub b o hb
  · rcases List.mem_append.1 hp with g | g
    · exact hs.sub _ _ (hJ p g)
    exact hs.own p g
  · rw [List.map_append, List.nodup_append]
    refine ⟨r3, hs.nodup, fun x hx y hy he => ?_⟩
    obtain ⟨q, hq, rfl⟩ := List.mem_map.1 hy
    exact hKB q hq (he ▸ hx)
  · unfold hless
    split
    · rfl
    rename_i hm
    rcases List.mem_append.1 hp with g | g
    · exact absurd (List.mem_map_of_mem g) hm
    exact hs.dis p g
  · rcases List.mem_append.1 hp with g | g
    · exact .inl (List.mem_map_of_mem g)
    rcases hs.new p g with k | k
    · cases k
    exact .inr k
  · unfold hless
    split
    · rename_i hm
      obtain ⟨p, hp, rfl⟩ := List.mem_map.1 hm
      exact (r4 p hp).symm
    rename_i hm
    rw [hs.ifr b hb, hputs_off hm]
  have hm : b ∉ B.map (·.1) := fun hm => by
    obtain ⟨p, hp, rfl⟩ := List.mem_map.1 hm
    rw [r4 p hp] at hb; cases hb
  rw [hless_off hm]
  exact hs.le b o (by rw [hputs_off hm]; exact hb)
theorem Ctr.withReady {P : Program} {f : FuncId} {args : List Value} {I : Heap} {H : HL} {post : Ending → Heap → HL → Prop} (he : Enters P f) (h : (H.map (·.1)).Nodup → (∀ p ∈ H, I p.1 = none) → Ctr P f args I H post) : Ctr P f args I H post :=
  ⟨he, fun w hw => (h hw.2.2.1 hw.2.2.2).2 w hw⟩
section
variable {cx : Cx} {Q : Qt} {e : Env} {I : Heap} {R : HL}
theorem persists_any {X : Heap → HL → Prop} {base : Nat} (hp : ∀ I b o R, base ≤ b → (∀ I', Le I I' → I' b = some o → X I' R) → X I ((b, o) :: R)) : ∀ (B : HL) (I : Heap), (∀ p ∈ B, base ≤ p.1) → (∀ I', Le I I' → (∀ p ∈ B, I' p.1 = some p.2) → X I' R) → X I (B ++ R)
  | [], I, _, k => k I (Le.refl _) fun p hp => by cases hp
  | (b, o) :: r, I, hb, k => hp I b o (r ++ R) (hb _ (.head _)) fun I' hle hI => persists_any hp r I' (fun p hp => hb p (.tail _ hp)) fun I2 hle2 hI2 => k I2 (hle.trans hle2) fun p hp => by
    rcases List.mem_cons.1 hp with g | g
    · rw [g]; exact hle2 _ _ hI
    exact hI2 p g
theorem J.persists {ops : Array Oper} {l : List Oper} (B : HL) (hb : ∀ p ∈ B, cx.w0.heap.size ≤ p.1) (k : ∀ I', Le I I' → (∀ p ∈ B, I' p.1 = some p.2) → J cx Q ops l e I' R) : J cx Q ops l e I (B ++ R) :=
  persists_any (X := fun I H => J cx Q ops l e I H) (fun _ _ _ _ hb k => J.persist hb k) B I hb k
end
def RowT {α : Type} (T : TypeId) (f : α → List Value) (I : Heap) (l : List α) (v : Value) : Prop :=
  ∃ p c, v = .slice p l.length c ∧ l.length ≤ c ∧ (l ≠ [] → ∃ b sp, p = some ⟨b, 0, none⟩ ∧ I b = some (cel T (l.flatMap f ++ sp)))
theorem RowT.mono {α : Type} {T : TypeId} {f : α → List Value} {I I' : Heap} {l : List α} {v : Value} (h : RowT T f I l v) (hle : Le I I') : RowT T f I' l v :=
  let ⟨p, c, h1, h2, h3⟩ := h; ⟨p, c, h1, h2, fun hn => let ⟨b, sp, h4, h5⟩ := h3 hn; ⟨b, sp, h4, hle _ _ h5⟩⟩
theorem RowT.row {α : Type} {T : TypeId} {f : α → List Value} {I : Heap} {l : List α} {v : Value} (h : RowT T f I l v) : RowS f I l v :=
  let ⟨p, c, h1, h2, h3⟩ := h; ⟨p, c, h1, h2, fun hn => let ⟨b, sp, h4, h5⟩ := h3 hn; ⟨b, 0, _, T, _, sp, h4, h5, rfl⟩⟩
theorem RowT.nil {α : Type} {T : TypeId} {f : α → List Value} {I : Heap} : RowT T f I ([] : List α) (.slice none 0 0) := ⟨none, 0, rfl, Nat.le_refl _, fun h => absurd rfl h⟩
section
variable {cx : Cx} {Q : Qt} {e : Env} {I : Heap} {R : HL} {T : TypeId} {α : Type} {l : List α} {f : α → List Value} {sz n base : Nat} {g : Gs}
theorem gT_cases {X : Heap → HL → Prop} (hf : ∀ x, (f x).length = sz) (hpos : 0 < sz) (hg : gOk base sz n (l.flatMap f) g) (hn : n = l.length) (hp : ∀ b o, base ≤ b → (∀ I', Le I I' → I' b = some o → X I' R) → X I ((b, o) :: R)) (k : ∀ I', Le I I' → RowT T f I' l (gV n g) → X I' R) : X I (gH T (l.flatMap f) g ++ R) := by
  subst hn
  cases g with
  | none =>
    obtain ⟨h1, h2⟩ := hg
    have : l = [] := List.length_eq_zero_iff.1 h1
    subst this
    exact k I (Le.refl _) RowT.nil
  | some q =>
    obtain ⟨b, c, sp⟩ := q
    obtain ⟨h1, h2, h3⟩ := hg
    have hc : l.length ≤ c := by
      rw [flat_len hf] at h3
      exact Nat.le_of_mul_le_mul_right (by omega : l.length * sz ≤ c * sz) hpos
    exact hp b _ h1 fun I' hle hb => k I' hle ⟨_, c, rfl, hc, fun _ => ⟨b, sp, rfl, hb⟩⟩
theorem Cj.keepT {c : Code} (hf : ∀ x, (f x).length = sz) (hpos : 0 < sz) (hg : gOk cx.w0.heap.size sz n (l.flatMap f) g) (hn : n = l.length) (k : ∀ I', Le I I' → RowT T f I' l (gV n g) → Cj cx Q c e I' R) : Cj cx Q c e I (gH T (l.flatMap f) g ++ R) :=
  gT_cases (X := fun I H => Cj cx Q c e I H) hf hpos hg hn (fun _ _ hb k => Cj.persist hb k) k
end
end Go.Sx
namespace Go.Sx
open Go
theorem St.dperm {w0 w : World} {D D' : List Nat} {I0 I : Heap} {H : HL} (h : St w0 D I0 I H w) (hd : ∀ b, b ∈ D ↔ b ∈ D') : St w0 D' I0 I H w :=
  ⟨h.os, h.tape, h.output, h.size, fun b hb hn => h.frm b hb (fun g => hn ((hd b).1 g)), h.sub, h.own, h.nodup, h.dis, fun p hp => (h.new p hp).imp (hd p.1).1 id, h.ifr, h.le⟩
theorem Ctr.perm {P : Program} {f : FuncId} {args : List Value} {I : Heap} {H H1 : HL} {post : Ending → Heap → HL → Prop} (hp : H1.Perm H) (h : Ctr P f args I H1 post) : Ctr P f args I H post :=
  ⟨h.1, fun w hw => by
    obtain ⟨r1, r2, r3, r4⟩ := hw
    have hr : Ready I H1 w := ⟨r1, fun p g => r2 p (hp.mem_iff.1 g), (hp.map _).nodup_iff.2 r3, fun p g => r4 p (hp.mem_iff.1 g)⟩
    refine (h.2 w hr).mono ?_
    rintro e w' ⟨I', K, hk, hq⟩
    exact ⟨I', K, hk.dperm (fun b => (hp.map _).mem_iff), hq⟩⟩
theorem Ctr.leave {P : Program} {f : FuncId} {args : List Value} {I : Heap} {H : HL} {post post' : Ending → Heap → HL → Prop} (h : Ctr P f args I H post) (hp : ∀ e I' H', Le I I' → post e I' H' → ∃ K S, (K ++ S).Perm H' ∧ post' e I' K) : Ctr P f args I H post' :=
  ⟨h.1, fun w hw => (h.2 w hw).mono fun e w' ⟨I', H', hs, hq⟩ => by
    obtain ⟨K, S, hk, hq'⟩ := hp e I' H' hs.le hq
    exact ⟨I', K, (hs.perm hk).sublist (List.sublist_append_left K S), hq'⟩⟩
end Go.Sx
namespace Go.Sx
open Go
section
variable {cx : Cx} {Q : Qt} {o : Oper} {e : Env} {I : Heap} {H : HL} {C : Ct}
theorem op_callR {H1 : HL} (R : HL) {d f : Nat} {fo : Operand} {xs : List Operand} {ts : Array TypeId} {fst cap vs : List Value} {post : Ending → Heap → HL → Prop} (hH : H = R ++ H1)
    (ho : o.op = .call ⟨.value fo, xs.toArray, ts⟩) (hd : o.dst = some d) (hn : Nat.blt d cx.n = true) (hf : ev e fo = some (.func (.func f) fst.toArray cap.toArray)) (hx : evs e xs = some vs)
    (hs : Ctr cx.P f (fst ++ vs ++ cap) I H1 post)
    (k : ∀ v I' H1', Le I I' → post (.returned v) I' H1' → C ((d, v) :: e) I' (R ++ H1'))
    (kp : ∀ ch I' H1', Le I I' → post (.panicked ch) I' H1' → Ej cx Q (.panic ch) e I' (R ++ H1'))
    (ko : ∀ I' H1', ¬ post .outgrown I' H1') : OpJ cx Q o e I H C := by
  subst hH
  refine OpJ.perm (H' := H1 ++ R) List.perm_append_comm fun K hK => ?_
  exact op_call (C := fun e' I' H' => ∃ H1', H' = H1' ++ R ∧ C e' I' (R ++ H1')) ho hd hn hf hx hs (fun v I' H1' hle hp => ⟨H1', rfl, k v I' H1' hle hp⟩) (fun ch I' H1' hle hp => Ej.perm List.perm_append_comm (kp ch I' H1' hle hp)) ko K
    fun e' I' H' ⟨H1', hH, hC⟩ a w ha hs => hK e' I' (R ++ H1') hC a w ha (by subst hH; exact hs.perm List.perm_append_comm)
theorem q56 {H1 : HL} (R : HL) {d f : Nat} {fo : Operand} {xs : List Operand} {ts : Array TypeId} {fst cap vs : List Value} {post : Ending → Heap → HL → Prop} (hH : H = R ++ H1) (ho : o.op = .call ⟨.value fo, xs.toArray, ts⟩) (hd : o.dst = some d) (hn : Nat.blt d cx.n = true) (hf : ev e fo = some (.func (.func f) fst.toArray cap.toArray)) (hx : evs e xs = some vs) (hs : Ctr cx.P f (fst ++ vs ++ cap) I H1 post) (k : ∀ v I' H1', Le I I' → post (.returned v) I' H1' → C ((d, v) :: e) I' (R ++ H1')) (kp : ∀ ch I' H1', Le I I' → post (.panicked ch) I' H1' → Ej cx Q (.panic ch) e I' (R ++ H1') := by exact fun _ _ _ _ ⟨_, _, _, h, _⟩ => nomatch h) (ko : ∀ I' H1', ¬ post .outgrown I' H1' := by exact fun _ _ ⟨_, _, _, h, _⟩ => nomatch h) : OpJ cx Q o e I H C := op_callR R hH ho hd hn hf hx hs k kp ko
end
end Go.Sx
namespace Go.Sx
open Go
section
variable {cx : Cx} {Q : Qt} {o : Oper} {e : Env} {I : Heap} {H : HL} {C : Ct}
theorem op_deleteNil {α : Type} [BEq α] {kv : α → Value} {a : α} {T U : Nat} {m x : Operand} {K E : Nat} {kx : Value} (ho : o.op = .call ⟨.builtin .delete, #[m, x], #[T, U]⟩) (hd : o.dst = none) (hm : ev e m = some (.map none)) (hx : ev e x = some kx) (hkx : kx = kv a) (hT : cx.P.underlying T = some (.map K E)) (hK : KeyK cx.P K kv) (kk : C e I H) : OpJ cx Q o e I H C := by
  intro Kk hKk w0 w ha hs
  unfold Oper.wp
  subst hkx
  have : (execOp w0.eval o).run cx.P w = .ok (.value (.tuple #[])) w := by
    simp [execOp, ho, resolve, invoke, builtin, ha.eval hm, ha.eval hx, Builtin.delete_, run_underlying hT, hK.2.1]
  rw [this]
  simp only [Oper.upon, hd]
  exact hKk _ _ _ kk _ _ ha.putNone hs
end
end Go.Sx
end
section
namespace Go.Sx
open Go
def cutA (a : Option Addr) (c j sz : Nat) : Option Addr := if c = j then a else a.map (·.add (j * sz))
section
variable {cx : Cx} {o : Oper} {e : Env} {S : World → Prop}
theorem yl_slice2 {x y z : Operand} {T E n c sz j k : Nat} {a : Option Addr} {kl kh : IntKind} {kk : Int} (ho : o.op = .slice T x (some y) (some z) none) (hx : ev e x = some (.slice a n c)) (hy : ev e y = some (.int kl (j : Int))) (hz : ev e z = some (.int kh kk)) (hu : cx.P.underlying T = some (.slice E)) (hsz : ∀ w, (sizeOf E).run cx.P w = .ok sz w) (hk : kk = (k : Int)) (hj : j ≤ k) (hc : k ≤ c) :
    Yld cx o e S (.slice (cutA a c j sz) (k - j) (c - j)) := by
  intro w0 w ha _
  subst hk
  have h1 : (k : Int) ≤ c := by omega
  have h2 : (j : Int) ≤ k := by omega
  unfold cutA
  simp [execOp, ho, ha.eval hx, ha.eval hy, ha.eval hz, Instr.sliceAt, Instr.slice, run_underlying hu, Instr.sliceBounds, run_sliceBound, h1, h2, hsz]
theorem yl_slice1 {x y : Operand} {T E n c sz j : Nat} {a : Option Addr} {kl : IntKind} {jj : Int} (ho : o.op = .slice T x (some y) none none) (hx : ev e x = some (.slice a n c)) (hy : ev e y = some (.int kl jj)) (hu : cx.P.underlying T = some (.slice E)) (hsz : ∀ w, (sizeOf E).run cx.P w = .ok sz w) (hjj : jj = (j : Int)) (hj : j ≤ n) (_hc : n ≤ c) :
    Yld cx o e S (.slice (cutA a c j sz) (n - j) (c - j)) := by
  intro w0 w ha _
  subst hjj
  have h1 : (j : Int) ≤ n := by omega
  unfold cutA
  simp [execOp, ho, ha.eval hx, ha.eval hy, Instr.sliceAt, Instr.slice, run_underlying hu, Instr.sliceBounds, run_sliceBound, h1, hsz]
theorem yl_slice0 {x z : Operand} {T E n c sz k : Nat} {a : Option Addr} {kh : IntKind} {kk : Int} (ho : o.op = .slice T x none (some z) none) (hx : ev e x = some (.slice a n c)) (hz : ev e z = some (.int kh kk)) (hu : cx.P.underlying T = some (.slice E)) (hsz : ∀ w, (sizeOf E).run cx.P w = .ok sz w) (hk : kk = (k : Int)) (hc : k ≤ c) :
    Yld cx o e S (.slice a k c) := by
  subst hk
  exact yl_sliceTo ho hx hz hu hsz hc
end
theorem drop_flat {α : Type} {f : α → List Value} {sz : Nat} (hf : ∀ x, (f x).length = sz) : ∀ (l : List α) (j : Nat) (sp : List Value), j ≤ l.length → (l.flatMap f ++ sp).drop (j * sz) = (l.drop j).flatMap f ++ sp
  | l, 0, sp, _ => by simp
  | [], j + 1, sp, h => by simp at h
  | a :: r, j + 1, sp, h => by
    rw [List.flatMap_cons, List.append_assoc, show (j + 1) * sz = (f a).length + j * sz by rw [hf, Nat.add_mul]; omega, ← List.drop_drop, List.drop_left, List.drop_succ_cons]
    exact drop_flat hf r j sp (by simpa using h)
theorem RowS.cut {α : Type} {f : α → List Value} {sz : Nat} (hf : ∀ x, (f x).length = sz) {I : Heap} {l : List α} {a : Option Addr} {n c : Nat} (h : RowS f I l (.slice a n c)) {j k : Nat} (hj : j ≤ k) (hk : k ≤ l.length) : RowS f I ((l.drop j).take (k - j)) (.slice (cutA a c j sz) (k - j) (c - j)) := by
  obtain ⟨p', c', he, hc, hb⟩ := h
  cases he
  refine ⟨_, c - j, by rw [List.length_take, List.length_drop]; congr 1; omega, by rw [List.length_take, List.length_drop]; omega, fun hn => ?_⟩
  have hlt : j < k := by
    rcases Nat.lt_or_ge j k with g | g
    · exact g
    exact absurd (by rw [show k - j = 0 by omega, List.take_zero]) hn
  have hl : l ≠ [] := fun e => hn (by rw [e]; simp)
  obtain ⟨b, o, cs, t, fr, sp, h1, h2, h3⟩ := hb hl
  subst h1
  refine ⟨b, o + j * sz, cs, t, fr, ((l.drop j).drop (k - j)).flatMap f ++ sp, ?_, h2, ?_⟩
  · unfold cutA
    rw [if_neg (by omega), Option.map_some, Addr.add_lit]
  rw [← List.drop_drop, h3, drop_flat hf l j sp (by omega), ← List.append_assoc, ← List.flatMap_append, List.take_append_drop]
end Go.Sx
end
section
namespace Ix
open Ke
abbrev Rec := Int × Int
def lessR (a b : Rec) : Bool := decide (a.1 < b.1) || (decide (a.1 = b.1) && decide (a.2 < b.2))
theorem lessR_iff {a b : Rec} : lessR a b = true ↔ a.1 < b.1 ∨ (a.1 = b.1 ∧ a.2 < b.2) := by simp [lessR]
theorem lessR_irr (a : Rec) : lessR a a = false := by rw [Bool.eq_false_iff, Ne, lessR_iff]; omega
theorem lessR_trans {a b c : Rec} (h1 : lessR a b = true) (h2 : lessR b c = true) : lessR a c = true := by
  rw [lessR_iff] at *; omega
theorem lessR_tri (a b : Rec) : lessR a b = true ∨ a = b ∨ lessR b a = true := by
  rw [lessR_iff, lessR_iff]
  by_cases h : a = b
  · exact .inr (.inl h)
  have : a.1 ≠ b.1 ∨ a.2 ≠ b.2 := by
    by_cases h1 : a.1 = b.1
    · exact .inr fun h2 => h (Prod.ext h1 h2)
    exact .inl h1
  omega
section
variable {β : Type}
abbrev Ls (β : Type) := List (Rec × β)
def Srt (l : Ls β) : Prop := l.Pairwise fun a b => lessR a.1 b.1 = true
def rput (t : Rec) (v : β) : Ls β → Ls β
  | [] => [(t, v)]
  | (u, x) :: r => if lessR u t then (u, x) :: rput t v r else if u = t then (t, v) :: r else (t, v) :: (u, x) :: r
def rdrop (t : Rec) (l : Ls β) : Ls β := l.filter fun e => decide (e.1 ≠ t)
def rget (l : Ls β) (t : Rec) : Option β := (l.find? fun e => decide (e.1 = t)).map (·.2)
theorem rput_mem (t : Rec) (v : β) : ∀ {l : Ls β}, Srt l → ∀ e, e ∈ rput t v l ↔ e = (t, v) ∨ (e ∈ l ∧ e.1 ≠ t)
  | [], _, e => by simp [rput]
  | (u, x) :: r, h, e => by
    have h' := List.pairwise_cons.1 h
    unfold rput
    by_cases h1 : lessR u t = true
    · rw [if_pos h1, List.mem_cons, rput_mem t v h'.2, List.mem_cons]
      have hu : u ≠ t := fun g => by rw [g, lessR_irr] at h1; cases h1
      constructor
      · rintro (g | g | g)
        · exact .inr ⟨.inl g, by rw [g]; exact hu⟩
        · exact .inl g
        exact .inr ⟨.inr g.1, g.2⟩
      rintro (g | ⟨g | g, h2⟩)
      · exact .inr (.inl g)
      · exact .inl g
      exact .inr (.inr ⟨g, h2⟩)
    rw [if_neg h1]
    by_cases h2 : u = t
    · rw [if_pos h2, List.mem_cons, List.mem_cons]
      subst h2
      constructor
      · rintro (g | g)
        · exact .inl g
        refine .inr ⟨.inr g, fun h3 => ?_⟩
        have := h'.1 e g
        rw [h3] at this
        simp only [lessR_irr] at this; cases this
      rintro (g | ⟨g | g, h3⟩)
      · exact .inl g
      · exact absurd (by rw [g]) h3
      exact .inr g
    rw [if_neg h2, List.mem_cons]
    have h3 : lessR t u = true := ((lessR_tri u t).resolve_left h1).resolve_left h2
    constructor
    · rintro (g | g)
      · exact .inl g
      refine .inr ⟨g, fun h4 => ?_⟩
      rcases List.mem_cons.1 g with g | g
      · rw [g] at h4; exact h2 h4
      have := lessR_trans h3 (h'.1 e g)
      rw [h4, lessR_irr] at this; cases this
    rintro (g | g)
    · exact .inl g
    exact .inr g.1
theorem rput_srt (t : Rec) (v : β) : ∀ {l : Ls β}, Srt l → Srt (rput t v l)
  | [], _ => List.pairwise_singleton _ _
  | (u, x) :: r, h => by
    have h' := List.pairwise_cons.1 h
    unfold rput
    by_cases h1 : lessR u t = true
    · rw [if_pos h1]
      refine List.pairwise_cons.2 ⟨fun e he => ?_, rput_srt t v h'.2⟩
      rcases (rput_mem t v h'.2 e).1 he with g | g
      · rw [g]; exact h1
      exact h'.1 e g.1
    rw [if_neg h1]
    by_cases h2 : u = t
    · rw [if_pos h2]
      subst h2
      exact List.pairwise_cons.2 ⟨fun e he => h'.1 e he, h'.2⟩
    rw [if_neg h2]
    have h3 : lessR t u = true := ((lessR_tri u t).resolve_left h1).resolve_left h2
    refine List.pairwise_cons.2 ⟨fun e he => ?_, h⟩
    rcases List.mem_cons.1 he with g | g
    · rw [g]; exact h3
    exact lessR_trans h3 (h'.1 e g)
theorem rdrop_srt (t : Rec) {l : Ls β} (h : Srt l) : Srt (rdrop t l) := h.filter _
theorem rdrop_mem (t : Rec) (l : Ls β) (e : Rec × β) : e ∈ rdrop t l ↔ e ∈ l ∧ e.1 ≠ t := by simp [rdrop]
theorem srt_eq {a b : Ls β} (ha : Srt a) (hb : Srt b) (h : ∀ e, e ∈ a ↔ e ∈ b) : a = b := by
  induction a generalizing b with
  | nil =>
    rcases b with _ | ⟨y, t⟩
    · rfl
    exact absurd ((h y).2 (.head _)) (by simp)
  | cons x r ih =>
    rcases b with _ | ⟨y, t⟩
    · exact absurd ((h x).1 (.head _)) (by simp)
    have ha' := List.pairwise_cons.1 ha
    have hb' := List.pairwise_cons.1 hb
    have hxy : x = y := by
      rcases List.mem_cons.1 ((h x).1 (.head _)) with e | e
      · exact e
      rcases List.mem_cons.1 ((h y).2 (.head _)) with e2 | e2
      · exact e2.symm
      have := lessR_trans (hb'.1 x e) (ha'.1 y e2)
      rw [lessR_irr] at this; cases this
    subst hxy
    rw [ih ha'.2 hb'.2 fun z => ⟨fun hz => ?_, fun hz => ?_⟩]
    · rcases List.mem_cons.1 ((h z).1 (.tail _ hz)) with rfl | e
      · have := ha'.1 z hz; rw [lessR_irr] at this; cases this
      exact e
    rcases List.mem_cons.1 ((h z).2 (.tail _ hz)) with rfl | e
    · have := hb'.1 z hz; rw [lessR_irr] at this; cases this
    exact e
theorem srt_key {l : Ls β} (h : Srt l) {a b : Rec × β} (ha : a ∈ l) (hb : b ∈ l) (he : a.1 = b.1) : a = b := by
  induction l with
  | nil => cases ha
  | cons x r ih =>
    have h' := List.pairwise_cons.1 h
    rcases List.mem_cons.1 ha with g1 | g1 <;> rcases List.mem_cons.1 hb with g2 | g2
    · rw [g1, g2]
    · have := h'.1 b g2; rw [← g1, he, lessR_irr] at this; cases this
    · have := h'.1 a g1; rw [← g2, ← he, lessR_irr] at this; cases this
    exact ih h'.2 g1 g2
theorem srt_nodup {l : Ls β} (h : Srt l) : (l.map (·.1)).Nodup := by
  rw [List.nodup_iff_pairwise_ne, List.pairwise_map]
  exact h.imp fun {a b} g e => by rw [e, lessR_irr] at g; cases g
theorem rget_iff {l : Ls β} (h : Srt l) {t : Rec} {v : β} : rget l t = some v ↔ (t, v) ∈ l := by
  unfold rget
  constructor
  · intro g
    obtain ⟨e, he, rfl⟩ := Option.map_eq_some_iff.1 g
    have h1 := List.find?_some he
    have h2 : e.1 = t := of_decide_eq_true h1
    have := List.mem_of_find?_eq_some he
    rw [← h2]; exact this
  intro g
  have hs : (l.find? fun e => decide (e.1 = t)).isSome = true := by
    rw [List.find?_isSome]; exact ⟨_, g, by simp⟩
  obtain ⟨e, he⟩ := Option.isSome_iff_exists.1 hs
  have h0 := List.find?_some he
  have h1 : e.1 = t := of_decide_eq_true h0
  have h2 := srt_key h (List.mem_of_find?_eq_some he) g h1
  rw [he, h2]; rfl
theorem rget_none {l : Ls β} {t : Rec} : rget l t = none ↔ ∀ e ∈ l, e.1 ≠ t := by
  unfold rget
  rw [Option.map_eq_none_iff, List.find?_eq_none]
  simp
def rputs (es l : Ls β) : Ls β := es.foldl (fun l e => rput e.1 e.2 l) l
end
end Ix
end
section
namespace Ke
def isb (s : Sub) : Option Bs := if (isbn s.text).2 = true ∧ s.code = 97 then some (isbn s.text).1 else none
end Ke
end
section
namespace Ix
open Ke
def runsF (w : Bs) : Bs → List Bs
  | [] => if w = [] then [] else [w]
  | c :: r => if digit c then runsF (w ++ [c]) r else if w = [] then runsF [] r else w :: runsF [] r
def runsD (s : Bs) : List Bs := runsF [] s
def yearOf (s : Bs) : Option Bs := (runsD s).find? fun x => decide (x.length = 4)
structure V where
  name : Bs
  text : Bs
  skip : Nat
def V.key (v : V) : Bs := sortKey v.text v.skip
def V.ws (v : V) : Row := words v.text
def nTitle : Bs := [116, 105, 116, 108, 101]
def nAuthor : Bs := [97, 117, 116, 104, 111, 114]
def nSubject : Bs := [115, 117, 98, 106, 101, 99, 116]
def nIsbn : Bs := [105, 115, 98, 110]
def nYear : Bs := [121, 101, 97, 114]
def nAny : Bs := [97, 110, 121]
def names : List Bs := [nAny, nAuthor, nIsbn, nSubject, nTitle, nYear]
def allText (f : Fld) : Bs := join (f.subs.map (·.text))
def yr (s : Sub) : Option Bs := if s.code = 99 then yearOf s.text else none
def named (f : Fld) : Bs × Row :=
  if f.tag = [50, 52, 53] ∨ f.tag = [50, 52, 54] then (nTitle, [textOf f [97, 98]])
  else if f.tag = [49, 48, 48] ∨ f.tag = [49, 49, 48] ∨ f.tag = [55, 48, 48] then (nAuthor, [textOf f [97]])
  else if f.tag = [54, 48, 48] ∨ f.tag = [54, 53, 48] then (nSubject, [textOf f [97, 120]])
  else if f.tag = [48, 50, 48] then (nIsbn, f.subs.filterMap isb)
  else if f.tag = [50, 54, 48] then (nYear, f.subs.filterMap yr)
  else ([], [])
def skipT (f : Fld) : Nat := if f.tag = [50, 52, 53] then skip f else 0
def anyOk (f : Fld) : Bool := !([48, 48] : Bs).isPrefixOf f.tag && !([57] : Bs).isPrefixOf f.tag
def vals1 (f : Fld) : List V := (named f).2.map (fun s => ⟨(named f).1, s, skipT f⟩) ++ if anyOk f then [⟨nAny, allText f, 0⟩] else []
def vals (fs : List Fld) : List V := fs.flatMap vals1
def ofN (f : Fld) (n : Bs) : List (Bs × Nat) :=
  if n = nTitle then (if f.tag = [50, 52, 53] ∨ f.tag = [50, 52, 54] then [(textOf f [97, 98], skipT f)] else [])
  else if n = nAuthor then (if f.tag = [49, 48, 48] ∨ f.tag = [49, 49, 48] ∨ f.tag = [55, 48, 48] then [(textOf f [97], 0)] else [])
  else if n = nSubject then (if f.tag = [54, 48, 48] ∨ f.tag = [54, 53, 48] then [(textOf f [97, 120], 0)] else [])
  else if n = nIsbn then (if f.tag = [48, 50, 48] then (f.subs.filterMap isb).map fun s => (s, 0) else [])
  else if n = nYear then (if f.tag = [50, 54, 48] then (f.subs.filterMap yr).map fun s => (s, 0) else [])
  else if n = nAny then (if anyOk f then [(allText f, 0)] else [])
  else []
def valsN (fs : List Fld) (n : Bs) : List (Bs × Nat) := fs.flatMap fun f => ofN f n
abbrev V.ts (v : V) : Bs × Nat := (v.text, v.skip)
theorem filter_map_name (n m : Bs) (k : Nat) (l : Row) : ((l.map fun s => (⟨m, s, k⟩ : V)).filter fun v => decide (v.name = n)).map V.ts = if m = n then l.map (fun s => (s, k)) else [] := by
  rw [List.filter_map]
  by_cases h : m = n
  · subst h
    simp only [Function.comp_def, decide_true, List.map_map, if_true]
    rw [List.filter_eq_self.2 fun _ _ => rfl]
  simp [Function.comp_def, h]
theorem ofN_named (f : Fld) (n : Bs) (hn : n ≠ nAny) : (if (named f).1 = n then (named f).2.map (fun s => (s, skipT f)) else []) = ofN f n := by
  unfold ofN
  rw [if_neg (c := n = nAny) hn]
  have h245 : f.tag ≠ [50, 52, 53] → skipT f = 0 := fun h => if_neg h
  unfold named
  split
  · rename_i t1
    have a1 : ¬ (f.tag = [49, 48, 48] ∨ f.tag = [49, 49, 48] ∨ f.tag = [55, 48, 48]) := by rintro (g | g | g) <;> rw [g] at t1 <;> revert t1 <;> decide
    have a2 : ¬ (f.tag = [54, 48, 48] ∨ f.tag = [54, 53, 48]) := by rintro (g | g) <;> rw [g] at t1 <;> revert t1 <;> decide
    have a3 : ¬ f.tag = [48, 50, 48] := by intro g; rw [g] at t1; revert t1; decide
    have a4 : ¬ f.tag = [50, 54, 48] := by intro g; rw [g] at t1; revert t1; decide
    rw [if_neg a1, if_neg a2, if_neg a3, if_neg a4]
    by_cases n1 : n = nTitle
    · subst n1; simp
    simp [n1, Ne.symm n1]
  rename_i t1
  have hk : skipT f = 0 := h245 fun g => t1 (.inl g)
  rw [hk]
  split
  · rename_i t2
    have a2 : ¬ (f.tag = [54, 48, 48] ∨ f.tag = [54, 53, 48]) := by rintro (g | g) <;> rw [g] at t2 <;> revert t2 <;> decide
    have a3 : ¬ f.tag = [48, 50, 48] := by intro g; rw [g] at t2; revert t2; decide
    have a4 : ¬ f.tag = [50, 54, 48] := by intro g; rw [g] at t2; revert t2; decide
    rw [if_neg a2, if_neg a3, if_neg a4]
    by_cases n1 : n = nAuthor
    · subst n1; simp [nAuthor, nTitle]
    simp [n1, Ne.symm n1]
  split
  · rename_i t3
    have a3 : ¬ f.tag = [48, 50, 48] := by intro g; rw [g] at t3; revert t3; decide
    have a4 : ¬ f.tag = [50, 54, 48] := by intro g; rw [g] at t3; revert t3; decide
    rw [if_neg a3, if_neg a4]
    by_cases n1 : n = nSubject
    · subst n1; simp [nAuthor, nTitle, nSubject]
    simp [n1, Ne.symm n1]
  split
  · rename_i t4
    have a4 : ¬ f.tag = [50, 54, 48] := by intro g; rw [g] at t4; revert t4; decide
    rw [if_neg a4]
    by_cases n1 : n = nIsbn
    · subst n1; simp [nAuthor, nTitle, nSubject, nIsbn]
    simp [n1, Ne.symm n1]
  split
  · by_cases n1 : n = nYear
    · subst n1; simp [nAuthor, nTitle, nSubject, nIsbn, nYear]
    simp [n1, Ne.symm n1]
  simp
theorem ofN_eq (f : Fld) (n : Bs) : ((vals1 f).filter fun v => decide (v.name = n)).map V.ts = ofN f n := by
  unfold vals1
  rw [List.filter_append, List.map_append, filter_map_name]
  by_cases hn : n = nAny
  · subst hn
    have h1 : (named f).1 ≠ nAny := by
      unfold named
      split
      · exact of_decide_eq_true rfl
      split
      · exact of_decide_eq_true rfl
      split
      · exact of_decide_eq_true rfl
      split
      · exact of_decide_eq_true rfl
      split
      · exact of_decide_eq_true rfl
      exact of_decide_eq_true rfl
    rw [if_neg h1]
    have h2 : ofN f nAny = if anyOk f then [(allText f, 0)] else [] := by
      unfold ofN
      rw [if_neg (c := nAny = nTitle) (by decide), if_neg (c := nAny = nAuthor) (by decide), if_neg (c := nAny = nSubject) (by decide), if_neg (c := nAny = nIsbn) (by decide), if_neg (c := nAny = nYear) (by decide), if_pos (c := nAny = nAny) rfl]
    rw [h2]
    by_cases g : anyOk f = true
    · rw [if_pos g, if_pos g]; simp
    rw [if_neg g, if_neg g]; rfl
  rw [ofN_named f n hn]
  by_cases g : anyOk f = true
  · rw [if_pos g]; simp [Ne.symm hn]
  rw [if_neg g]; simp
theorem valsN_eq (fs : List Fld) (n : Bs) : ((vals fs).filter fun v => decide (v.name = n)).map V.ts = valsN fs n := by
  unfold vals valsN
  induction fs with
  | nil => rfl
  | cons f r ih => rw [List.flatMap_cons, List.filter_append, List.map_append, ofN_eq, ih, List.flatMap_cons]
abbrev Ix := Ls (List V)
def within (w : Row) : Row → Bool
  | [] => w.isEmpty
  | x :: r => w.isPrefixOf (x :: r) || within w r
def hasW (n : Bs) (w : Row) (vs : List V) : Bool := vs.any fun v => decide (v.name = n) && within w v.ws
def hasK (n k : Bs) (vs : List V) : Bool := vs.any fun v => decide (v.name = n) && decide (v.key = k)
def phrase (L : Ix) (n : Bs) (w : Row) : List Rec := if w = [] then [] else (L.filter fun e => hasW n w e.2).map (·.1)
def word (L : Ix) (n s : Bs) : List Rec := if (words s).length = 1 then phrase L n (words s) else []
def withK (L : Ix) (n k : Bs) : List Rec := if k = [] then [] else (L.filter fun e => hasK n k e.2).map (·.1)
def keyOf (n s : Bs) : Bs := if (isbn s).2 = true ∧ n = nIsbn then sortKey (isbn s).1 0 else sortKey s 0
def keysOf (n : Bs) (vs : List V) : Row := ((vs.filter fun v => decide (v.name = n)).map V.key).filter fun k => decide (k ≠ [])
def keysAll (L : Ix) (n begin : Bs) : Row := ((L.flatMap fun e => keysOf n e.2).filter fun k => decide (¬ k < begin)).foldl put []
def scan (L : Ix) (n s : Bs) (most : Int) : List (Bs × Nat) := ((keysAll L n (keyOf n s)).take most.toNat).map fun k => (k, (withK L n k).length)
def sortOf (L : Ix) (t : Rec) : Bs := match rget L t with
  | none => []
  | some vs => match vs.find? fun v => decide (v.name = nTitle) with
    | none => []
    | some v => v.key
theorem within_iff {w : Row} : ∀ {l : Row}, within w l = true ↔ w <:+: l
  | [] => by
    unfold within
    rw [List.infix_nil]
    cases w <;> simp
  | x :: r => by
    unfold within
    rw [Bool.or_eq_true, within_iff, List.infix_cons_iff, List.isPrefixOf_iff_prefix]
theorem within_one {x : Bs} {l : Row} : within [x] l = true ↔ x ∈ l := by
  rw [within_iff]
  constructor
  · rintro ⟨s, t, rfl⟩; simp
  intro h
  obtain ⟨s, t, rfl⟩ := List.append_of_mem h
  exact ⟨s, t, by simp⟩
theorem within_mem {x : Bs} {w l : Row} (h : within (x :: w) l = true) : x ∈ l := by
  rw [within_iff] at h
  exact h.subset (.head _)
end Ix
end
section
namespace Ix
open Ke
abbrev Pl := Bs × Bs
def plW (vs : List V) : List Pl := vs.flatMap fun v => v.ws.map fun w => (v.name, w)
def plK (vs : List V) : List Pl := vs.flatMap fun v => if v.key = [] then [] else [(v.name, v.key)]
def cnt (pl : List V → List Pl) (L : Ix) (p : Pl) (t : Rec) : Nat := match rget L t with
  | none => 0
  | some vs => (pl vs).count p
def way (f : Pl → Rec → Nat) (t : Rec) (n : Pl → Nat) (p : Pl) (u : Rec) : Nat := if u = t then n p else f p u
theorem rget_rput {L : Ix} (h : Srt L) (t u : Rec) (v : List V) : rget (rput t v L) u = if u = t then some v else rget L u := by
  by_cases hu : u = t
  · rw [if_pos hu, rget_iff (rput_srt t v h), rput_mem t v h, hu]; exact .inl rfl
  rw [if_neg hu]
  cases hg : rget L u with
  | none =>
    rw [rget_none] at hg ⊢
    intro e he
    rcases (rput_mem t v h e).1 he with g | g
    · rw [g]; exact Ne.symm hu
    exact hg e g.1
  | some x =>
    rw [rget_iff h] at hg
    rw [rget_iff (rput_srt t v h), rput_mem t v h]
    exact .inr ⟨hg, hu⟩
theorem rget_rdrop {L : Ix} (h : Srt L) (t u : Rec) : rget (rdrop t L) u = if u = t then none else rget L u := by
  by_cases hu : u = t
  · rw [if_pos hu, rget_none]
    intro e he
    rw [hu]; exact ((rdrop_mem t L e).1 he).2
  rw [if_neg hu]
  cases hg : rget L u with
  | none =>
    rw [rget_none] at hg ⊢
    exact fun e he => hg e ((rdrop_mem t L e).1 he).1
  | some x =>
    rw [rget_iff h] at hg
    rw [rget_iff (rdrop_srt t h), rdrop_mem]
    exact ⟨hg, hu⟩
theorem cnt_rput {pl : List V → List Pl} {L : Ix} (h : Srt L) (t : Rec) (v : List V) : cnt pl (rput t v L) = way (cnt pl L) t fun p => (pl v).count p := by
  funext p u
  unfold cnt way
  rw [rget_rput h]
  by_cases hu : u = t
  · rw [if_pos hu, if_pos hu]
  rw [if_neg hu, if_neg hu]
theorem cnt_rdrop {pl : List V → List Pl} {L : Ix} (h : Srt L) (t : Rec) : cnt pl (rdrop t L) = way (cnt pl L) t fun _ => 0 := by
  funext p u
  unfold cnt way
  rw [rget_rdrop h]
  by_cases hu : u = t
  · rw [if_pos hu, if_pos hu]
  rw [if_neg hu, if_neg hu]
theorem cnt_some {pl : List V → List Pl} {L : Ix} {t : Rec} {vs : List V} (h : rget L t = some vs) : cnt pl L = way (cnt pl L) t fun p => (pl vs).count p := by
  funext p u
  unfold way
  split
  · rename_i hu; unfold cnt; rw [hu, h]
  rfl
theorem cnt_none {pl : List V → List Pl} {L : Ix} {t : Rec} (h : rget L t = none) : cnt pl L = way (cnt pl L) t fun _ => 0 := by
  funext p u
  unfold way
  split
  · rename_i hu; unfold cnt; rw [hu, h]
  rfl
theorem rput_rdrop {L : Ix} (h : Srt L) (t : Rec) (v : List V) : rput t v (rdrop t L) = rput t v L := by
  refine srt_eq (rput_srt t v (rdrop_srt t h)) (rput_srt t v h) fun e => ?_
  rw [rput_mem t v (rdrop_srt t h), rput_mem t v h, rdrop_mem]
  constructor
  · rintro (g | g)
    · exact .inl g
    exact .inr ⟨g.1.1, g.2⟩
  rintro (g | g)
  · exact .inl g
  exact .inr ⟨g, g.2⟩
theorem cnt_titles {pl : List V → List Pl} {L : Ix} (h : Srt L) {p : Pl} {ts : List Rec} (h1 : ts.Pairwise fun a b => lessR a b = true) (h2 : ∀ t, t ∈ ts ↔ cnt pl L p t ≠ 0) : ts = (L.filter fun e => decide (p ∈ pl e.2)).map (·.1) := by
  have key : ts.map (fun t => (t, ())) = ((L.filter fun e => decide (p ∈ pl e.2)).map fun e => (e.1, ())) := by
    refine srt_eq (β := Unit) ?_ ?_ fun e => ?_
    · unfold Srt; rw [List.pairwise_map]; exact h1
    · unfold Srt; rw [List.pairwise_map]; exact List.Pairwise.filter _ h
    rw [List.mem_map, List.mem_map]
    constructor
    · rintro ⟨t, ht, rfl⟩
      have h3 := (h2 t).1 ht
      unfold cnt at h3
      cases hg : rget L t with
      | none => rw [hg] at h3; exact absurd rfl h3
      | some vs =>
        rw [hg] at h3
        have h4 : p ∈ pl vs := List.one_le_count_iff.1 (Nat.one_le_iff_ne_zero.2 h3)
        exact ⟨(t, vs), List.mem_filter.2 ⟨(rget_iff h).1 hg, decide_eq_true h4⟩, rfl⟩
    rintro ⟨⟨t, vs⟩, ht, rfl⟩
    rw [List.mem_filter] at ht
    refine ⟨t, (h2 t).2 ?_, rfl⟩
    unfold cnt
    rw [(rget_iff h).2 ht.1]
    exact Nat.one_le_iff_ne_zero.1 (List.one_le_count_iff.2 (of_decide_eq_true ht.2))
  have := congrArg (List.map (·.1)) key
  simpa [List.map_map, Function.comp_def] using this
theorem plW_iff {vs : List V} {n w : Bs} : (n, w) ∈ plW vs ↔ hasW n [w] vs = true := by
  unfold plW hasW
  rw [List.mem_flatMap, List.any_eq_true]
  constructor
  · rintro ⟨v, hv, h⟩
    obtain ⟨x, hx, he⟩ := List.mem_map.1 h
    cases he
    exact ⟨v, hv, by simp [within_one, hx]⟩
  rintro ⟨v, hv, h⟩
  rw [Bool.and_eq_true, decide_eq_true_eq, within_one] at h
  exact ⟨v, hv, List.mem_map.2 ⟨w, h.2, by rw [h.1]⟩⟩
theorem plK_iff {vs : List V} {n k : Bs} : (n, k) ∈ plK vs ↔ k ≠ [] ∧ hasK n k vs = true := by
  unfold plK hasK
  rw [List.mem_flatMap, List.any_eq_true]
  constructor
  · rintro ⟨v, hv, h⟩
    split at h
    · cases h
    rename_i hne
    rw [List.mem_singleton] at h
    cases h
    exact ⟨hne, v, hv, by simp⟩
  rintro ⟨hne, v, hv, h⟩
  rw [Bool.and_eq_true, decide_eq_true_eq, decide_eq_true_eq] at h
  refine ⟨v, hv, ?_⟩
  rw [if_neg (by rw [h.2]; exact hne), h.1, h.2]
  exact List.mem_singleton.2 rfl
theorem titles_word {L : Ix} (h : Srt L) {n w : Bs} {ts : List Rec} (h1 : ts.Pairwise fun a b => lessR a b = true) (h2 : ∀ t, t ∈ ts ↔ cnt plW L (n, w) t ≠ 0) : ts = phrase L n [w] := by
  rw [cnt_titles h h1 h2]
  unfold phrase
  rw [if_neg (by simp)]
  congr 2
  funext e
  rw [Bool.eq_iff_iff, decide_eq_true_eq, plW_iff]
theorem titles_key {L : Ix} (h : Srt L) {n k : Bs} {ts : List Rec} (h1 : ts.Pairwise fun a b => lessR a b = true) (h2 : ∀ t, t ∈ ts ↔ cnt plK L (n, k) t ≠ 0) : ts = withK L n k := by
  rw [cnt_titles h h1 h2]
  unfold withK
  by_cases hk : k = []
  · rw [if_pos hk]
    have : (L.filter fun e => decide ((n, k) ∈ plK e.2)) = [] := by
      rw [List.filter_eq_nil_iff]
      intro e _
      rw [decide_eq_true_eq, plK_iff]
      exact fun g => g.1 hk
    rw [this]; rfl
  rw [if_neg hk]
  congr 2
  funext e
  rw [Bool.eq_iff_iff, decide_eq_true_eq, plK_iff]
  exact ⟨fun g => g.2, fun g => ⟨hk, g⟩⟩
theorem phrase_of {L : Ix} (n x : Bs) (w : Row) (p : Rec → Bool) (hs : Srt L) (hp : ∀ t vs, rget L t = some vs → p t = hasW n (x :: w) vs) : (phrase L n [x]).filter p = phrase L n (x :: w) := by
  unfold phrase
  rw [if_neg (by simp), if_neg (by simp), List.filter_map, List.filter_filter]
  congr 1
  refine List.filter_congr fun e he => ?_
  have h1 : rget L e.1 = some e.2 := (rget_iff hs).2 he
  show (p e.1 && hasW n [x] e.2) = hasW n (x :: w) e.2
  rw [hp _ _ h1]
  cases h2 : hasW n (x :: w) e.2 with
  | false => rfl
  | true =>
    rw [Bool.true_and]
    unfold hasW at h2 ⊢
    rw [List.any_eq_true] at h2 ⊢
    obtain ⟨v, hv, h3⟩ := h2
    rw [Bool.and_eq_true] at h3
    exact ⟨v, hv, by rw [Bool.and_eq_true]; exact ⟨h3.1, within_one.2 (within_mem h3.2)⟩⟩
end Ix
end
section
namespace Ix
open Ke
theorem keysOf_mem {n k : Bs} {vs : List V} : k ∈ keysOf n vs ↔ (n, k) ∈ plK vs := by
  rw [plK_iff]
  unfold keysOf hasK
  rw [List.mem_filter, List.mem_map, decide_eq_true_eq, List.any_eq_true]
  constructor
  · rintro ⟨⟨v, hv, rfl⟩, hne⟩
    rw [List.mem_filter, decide_eq_true_eq] at hv
    exact ⟨hne, v, hv.1, by simp [hv.2]⟩
  rintro ⟨hne, v, hv, h⟩
  rw [Bool.and_eq_true, decide_eq_true_eq, decide_eq_true_eq] at h
  exact ⟨⟨v, List.mem_filter.2 ⟨hv, decide_eq_true h.1⟩, h.2⟩, hne⟩
theorem cnt_pos {pl : List V → List Pl} {L : Ix} (h : Srt L) {p : Pl} : (∃ t, cnt pl L p t ≠ 0) ↔ ∃ e ∈ L, p ∈ pl e.2 := by
  constructor
  · rintro ⟨t, ht⟩
    unfold cnt at ht
    cases hg : rget L t with
    | none => rw [hg] at ht; exact absurd rfl ht
    | some vs =>
      rw [hg] at ht
      exact ⟨(t, vs), (rget_iff h).1 hg, List.one_le_count_iff.1 (Nat.one_le_iff_ne_zero.2 ht)⟩
  rintro ⟨⟨t, vs⟩, he, hp⟩
  refine ⟨t, ?_⟩
  unfold cnt
  rw [(rget_iff h).2 he]
  exact Nat.one_le_iff_ne_zero.1 (List.one_le_count_iff.2 hp)
theorem keysAll_inc (L : Ix) (n b : Bs) : Inc (keysAll L n b) := puts_inc _ List.Pairwise.nil
theorem keysAll_mem {L : Ix} (h : Srt L) {n b k : Bs} : k ∈ keysAll L n b ↔ ¬ k < b ∧ ∃ t, cnt plK L (n, k) t ≠ 0 := by
  unfold keysAll
  rw [puts_mem, cnt_pos h, List.mem_filter, List.mem_flatMap, decide_eq_true_eq]
  constructor
  · rintro (⟨⟨e, he, hk⟩, hb⟩ | g)
    · exact ⟨hb, e, he, keysOf_mem.1 hk⟩
    cases g
  rintro ⟨hb, e, he, hk⟩
  exact .inl ⟨⟨e, he, keysOf_mem.2 hk⟩, hb⟩
theorem scan_all {L : Ix} (h : Srt L) {n b : Bs} {ls : List (Bs × Nat)} (h1 : Inc (ls.map (·.1))) (h2 : ∀ k, k ∈ ls.map (·.1) ↔ ¬ k < b ∧ ∃ t, cnt plK L (n, k) t ≠ 0) (h3 : ∀ x ∈ ls, x.2 = (withK L n x.1).length) : ls = (keysAll L n b).map fun k => (k, (withK L n k).length) := by
  have he : ls.map (·.1) = keysAll L n b := inc_eq h1 (keysAll_inc L n b) fun k => by rw [h2, keysAll_mem h]
  rw [← he, List.map_map]
  conv => lhs; rw [← List.map_id ls]
  refine List.map_congr_left fun x hx => ?_
  show x = (x.1, (withK L n x.1).length)
  rw [← h3 x hx]
theorem scan_take (L : Ix) (n s : Bs) (most : Int) : ((keysAll L n (keyOf n s)).map fun k => (k, (withK L n k).length)).take most.toNat = scan L n s most := by
  unfold scan; rw [← List.map_take]
theorem with_len {L : Ix} (h : Srt L) {n k : Bs} {ts : List Rec} (hn : ts.Nodup) (h2 : ∀ t, t ∈ ts ↔ cnt plK L (n, k) t ≠ 0) : ts.length = (withK L n k).length := by
  have hsn : (withK L n k).Nodup := by
    unfold withK
    split
    · exact .nil
    exact (srt_nodup h).sublist (List.filter_sublist.map _)
  refine List.Perm.length_eq ((List.perm_ext_iff_of_nodup hn hsn).2 fun t => ?_)
  rw [h2]
  unfold withK
  by_cases hk : k = []
  · rw [if_pos hk]
    refine ⟨fun g => ?_, fun g => by cases g⟩
    obtain ⟨e, _, hp⟩ := (cnt_pos h).1 ⟨t, g⟩
    exact absurd hk (plK_iff.1 hp).1
  rw [if_neg hk, List.mem_map]
  constructor
  · intro g
    unfold cnt at g
    cases hg : rget L t with
    | none => rw [hg] at g; exact absurd rfl g
    | some vs =>
      rw [hg] at g
      have := plK_iff.1 (List.one_le_count_iff.1 (Nat.one_le_iff_ne_zero.2 g))
      exact ⟨(t, vs), List.mem_filter.2 ⟨(rget_iff h).1 hg, this.2⟩, rfl⟩
  rintro ⟨⟨u, vs⟩, he, rfl⟩
  rw [List.mem_filter] at he
  unfold cnt
  rw [(rget_iff h).2 he.1]
  exact Nat.one_le_iff_ne_zero.1 (List.one_le_count_iff.2 (plK_iff.2 ⟨hk, he.2⟩))
end Ix
end
section
namespace Ix
open Ke
def textsL : List Bs := [[69, 109, 109, 97],
  [84, 104, 101, 32, 115, 101, 97],
  [195, 156, 98, 101, 114, 32, 100, 101, 110, 32, 70, 108, 117, 195, 159],
  [87, 97, 114, 32, 97, 110, 100, 32, 112, 101, 97, 99, 101],
  [119, 97, 114, 32, 38, 32, 80, 69, 65, 67, 69],
  [65, 117, 115, 116, 101, 110, 44, 32, 74, 97, 110, 101],
  [84, 111, 108, 115, 116, 111, 121],
  [49, 57, 56, 52],
  [57, 55, 56, 48, 51, 48, 54, 52, 48, 54, 49, 53, 55],
  [48, 51, 48, 54, 52, 48, 54, 49, 53, 50],
  [76, 111, 110, 100, 111, 110],
  [83, 101, 97, 32, 115, 116, 111, 114, 105, 101, 115],
  [65],
  [],
  [69, 109, 109, 97, 32, 97, 110, 100, 32, 116, 104, 101, 32, 115, 101, 97],
  [49, 57, 57, 57],
  [99, 49, 57, 57, 57, 46],
  [82, 105, 118, 101, 114, 115],
  [79, 99, 101, 97, 110, 115, 32, 45, 45, 32, 72, 105, 115, 116, 111, 114, 121],
  [112, 101, 97, 99, 101]]
def tagsL : List Bs := [[48, 48, 49],
  [50, 52, 53],
  [49, 48, 48],
  [48, 50, 48],
  [54, 53, 48],
  [55, 48, 48],
  [50, 54, 48],
  [53, 48, 48],
  [57, 48, 48],
  [57, 52, 57],
  [48, 48, 56],
  [50, 52, 54],
  [54, 48, 48],
  [49, 49, 48],
  [52, 57, 48],
  [48, 48, 51],
  [57, 122, 57],
  [50, 52],
  [57, 57, 57],
  [48]]
def indsL : List Bs := [[49, 48],
  [32, 32],
  [49, 32],
  [48, 48],
  [48, 32],
  [32, 48],
  [51, 32],
  [49, 50]]
def codesL : Bs := [97, 98, 99, 48, 97, 118, 120, 113]
def textN (n : Int) : Bs := textsL.getD (n % 20).toNat []
def tagN (n : Int) : Bs := tagsL.getD (n % 20).toNat []
structure Four where
  x0 : Int
  x1 : Int
  x2 : Int
  x3 : Int
def subN (q : Four) (j : Nat) : Sub := ⟨codesL.getD ((q.x2.tdiv 3 + (j : Int) * (1 + q.x1 % 3)) % 8).toNat 0, textN (Go.IntKind.wrap .i64 (q.x3 + 3 * (j : Int)))⟩
def isC (t : Bs) : Prop := 1 < t.length ∧ t.take 2 = [48, 48]
instance (t : Bs) : Decidable (isC t) := by unfold isC; exact inferInstance
def fldN (q : Four) : Fld := if isC (tagN q.x0) then ⟨tagN q.x0, [], textN q.x3, .slice none 0 0, []⟩
  else ⟨tagN q.x0, indsL.getD (q.x1 % 8).toNat [], [], .slice none 0 0, (List.range (1 + (q.x2 % 3).toNat)).map fun j => subN q j⟩
def madeR (l : List Four) : List Fld := (l.take 20).map fldN
structure ActL where
  drop : Bool
  src : Int
  num : Int
  fs : List Four
def ActL.title (a : ActL) : Rec := (a.src, a.num)
def ActL.record (a : ActL) : List Fld := madeR (a.fs.take 8)
def ActL.vs (a : ActL) : List V := vals a.record
def act (L : Ix) (a : ActL) : Ix := if a.drop = true then rdrop a.title L else rput a.title a.vs L
def play (l : List ActL) : Ix := (l.take 20).foldl act []
theorem act_srt {L : Ix} (h : Srt L) (a : ActL) : Srt (act L a) := by
  unfold act
  split
  · exact rdrop_srt _ h
  exact rput_srt _ _ h
theorem acts_srt : ∀ (l : List ActL) {L : Ix}, Srt L → Srt (l.foldl act L)
  | [], _, h => h
  | a :: r, _, h => acts_srt r (act_srt h a)
theorem play_srt (l : List ActL) : Srt (play l) := acts_srt _ List.Pairwise.nil
theorem textN_len (n : Int) : (textN n).length ≤ 17 := by
  unfold textN
  generalize (n % 20).toNat = k
  rcases Nat.lt_or_ge k 20 with h | h
  · have : ∀ k, k < 20 → (textsL.getD k []).length ≤ 17 := by decide
    exact this k h
  rw [List.getD_eq_getElem?_getD, List.getElem?_eq_none (by simpa [textsL] using h)]; simp
end Ix
end
section
namespace Ix
open Ke
open Go Go.Lib
theorem digit_nat (c : UInt8) : digit c = decide (48 ≤ c.toNat ∧ c.toNat ≤ 57) := by
  unfold digit
  rw [Bool.eq_iff_iff, Bool.and_eq_true, decide_eq_true_eq, decide_eq_true_eq, decide_eq_true_eq, UInt8.le_iff_toNat_le, UInt8.le_iff_toNat_le]
  rfl
def nod (r : Nat) : Bool := decide (r < 48) || decide (57 < r)
theorem decodeL_N (c : UInt8) (r : Bs) : decodeL (c :: r) = decodeN (r.length + 1) c.toNat (r.getD 0 0).toNat (r.getD 1 0).toNat (r.getD 2 0).toNat := by
  have := decode_N ⟨(c :: r).toArray⟩ 0
  simp only [List.length_cons, Nat.sub_zero, Nat.zero_add, List.getD_cons_zero, List.getD_cons_succ] at this
  exact this
theorem decodeL_high (c : UInt8) (r : Bs) (h : 128 ≤ c.toNat) : 128 ≤ (decodeL (c :: r)).1 ∧ ∀ x ∈ (c :: r).take (decodeL (c :: r)).2, 128 ≤ x.toNat := by
  have key : ∀ k n : Nat, (128 ≤ k ∧ ∀ x ∈ (c :: r).take n, 128 ≤ x.toNat) → 128 ≤ ((k, n) : Nat × Nat).1 ∧ ∀ x ∈ (c :: r).take ((k, n) : Nat × Nat).2, 128 ≤ x.toNat := fun _ _ h => h
  have h1 : 128 ≤ ((65533, 1) : Nat × Nat).1 ∧ ∀ x ∈ (c :: r).take ((65533, 1) : Nat × Nat).2, 128 ≤ x.toNat := ⟨by decide, fun x hx => by simp at hx; rw [hx]; exact h⟩
  rw [decodeL_N]
  unfold decodeN
  rw [if_neg (by omega)]
  split
  · rename_i g
    split
    · refine key _ _ ⟨by omega, fun x hx => ?_⟩
      rcases r with _ | ⟨d, r⟩
      · simp at hx; rw [hx]; exact h
      simp at hx g
      rcases hx with rfl | rfl
      · exact h
      omega
    exact h1
  split
  · rename_i g
    split
    · refine key _ _ ⟨by omega, fun x hx => ?_⟩
      rcases r with _ | ⟨d, _ | ⟨e, r⟩⟩
      · simp at hx; rw [hx]; exact h
      · simp at g
      simp at hx g
      rcases hx with rfl | rfl | rfl
      · exact h
      · omega
      omega
    exact h1
  split
  · rename_i g
    split
    · refine key _ _ ⟨by omega, fun x hx => ?_⟩
      rcases r with _ | ⟨d, _ | ⟨e, _ | ⟨f, r⟩⟩⟩
      · simp at hx; rw [hx]; exact h
      · simp at g
      · simp at g
      simp at hx g
      rcases hx with rfl | rfl | rfl | rfl
      · exact h
      · omega
      · omega
      omega
    exact h1
  exact h1
theorem runsF_nod : ∀ (q : Bs) (w r : Bs), (∀ x ∈ q, digit x = false) → q ≠ [] → runsF w (q ++ r) = (if w = [] then [] else [w]) ++ runsF [] r
  | [], _, _, _, h => absurd rfl h
  | [c], w, r, h, _ => by
    show runsF w (c :: r) = _
    rw [runsF, h c (.head _)]
    simp only [Bool.false_eq_true, if_false]
    split <;> rfl
  | c :: d :: q, w, r, h, _ => by
    have ih := runsF_nod (d :: q) [] r (fun x hx => h x (.tail _ hx)) (by simp)
    rw [if_pos rfl, List.nil_append] at ih
    show runsF w (c :: ((d :: q) ++ r)) = _
    rw [runsF, h c (.head _), ih]
    simp only [Bool.false_eq_true, if_false]
    split <;> rfl
theorem runsF_dig (w : Bs) (c : UInt8) (r : Bs) (h : digit c = true) : runsF w (c :: r) = runsF (w ++ [c]) r := by rw [runsF, if_pos h]
theorem spansD (s : ByteArray) : ∀ (f pos : Nat) (st : Option Nat) (acc : List (Nat × Nat)), s.size ≤ pos + f → pos ≤ s.size → (∀ a, st = some a → a < pos) →
    acc.map (fun p => pieceU s.data.toList p.1 p.2) ++ runsF (openPiece s.data.toList st pos) (s.data.toList.drop pos) = (closeSpans s (spansFromP nod s f pos st acc)).map (fun p => pieceU s.data.toList p.1 p.2)
  | 0, pos, st, acc, h, hp, hst => by
    obtain rfl : pos = s.size := by omega
    have hd : s.data.toList.drop s.size = [] := List.drop_eq_nil_of_le (by rw [← size_eq]; exact Nat.le_refl _)
    rw [hd, runsF]
    cases st with
    | none => simp [spansFromP, closeSpans, openPiece]
    | some a =>
      have := pieceU_ne s.data.toList a s.size (hst a rfl) (by rw [← size_eq]; exact Nat.le_refl _)
      simp [spansFromP, closeSpans, openPiece, this]
  | f + 1, pos, st, acc, h, hp, hst => by
    by_cases hlt : pos < s.size
    · have hlt' : pos < s.data.toList.length := by rw [← size_eq]; exact hlt
      have hdc : decodeL (s.data.toList.drop pos) = Utf8.decode s pos := decodeL_drop s pos
      obtain ⟨c, hc⟩ : ∃ c, s.data.toList.drop pos = c :: s.data.toList.drop (pos + 1) := ⟨s.data.toList[pos], (List.getElem_cons_drop hlt').symm⟩
      have hw := width_pos s pos
      have hwn : pos + (Utf8.decode s pos).2 ≤ s.size := by
        have := decodeN_le_n' (s.size - pos) (s.get! pos).toNat (s.get! (pos + 1)).toNat (s.get! (pos + 2)).toNat (s.get! (pos + 3)).toNat (by omega)
        rw [← decode_at] at this
        omega
      simp only [spansFromP, if_pos hlt]
      by_cases hdig : digit c = true
      · have hcn : 48 ≤ c.toNat ∧ c.toNat ≤ 57 := by rw [digit_nat] at hdig; exact of_decide_eq_true hdig
        have h1 : Utf8.decode s pos = (c.toNat, 1) := by
          rw [← hdc, hc]
          rw [decodeL_N]
          unfold decodeN
          rw [if_pos (by omega)]
        have h2 : nod c.toNat = false := by unfold nod; simp; omega
        rw [h1]
        simp only [h2, Bool.false_eq_true, if_false]
        rw [hc, runsF_dig _ _ _ hdig]
        cases st with
        | none =>
          have ih := spansD s f (pos + 1) (some pos) acc (by omega) (by omega) (fun a h => by cases h; omega)
          have e : openPiece s.data.toList none pos ++ [c] = openPiece s.data.toList (some pos) (pos + 1) := by
            show [] ++ [c] = pieceU s.data.toList pos (pos + 1)
            unfold pieceU
            rw [hc, Nat.add_sub_cancel_left]; rfl
          rw [e]; exact ih
        | some a =>
          have ih := spansD s f (pos + 1) (some a) acc (by omega) (by omega) (fun b h => by cases h; have := hst a rfl; omega)
          have e : openPiece s.data.toList (some a) pos ++ [c] = openPiece s.data.toList (some a) (pos + 1) := by
            have := pieceU_grow s.data.toList a pos 1 (by have := hst a rfl; omega)
            rw [hc] at this
            exact this
          rw [e]; exact ih
      have h3 : nod (Utf8.decode s pos).1 = true ∧ ∀ x ∈ (s.data.toList.drop pos).take (Utf8.decode s pos).2, digit x = false := by
        rw [← hdc, hc]
        by_cases h128 : c.toNat < 128
        · have h1 : decodeL (c :: s.data.toList.drop (pos + 1)) = (c.toNat, 1) := by
            rw [decodeL_N]
            unfold decodeN
            rw [if_pos h128]
          rw [h1]
          refine ⟨?_, fun x hx => ?_⟩
          · rw [digit_nat, decide_eq_true_eq] at hdig
            unfold nod
            simp; omega
          simp at hx; rw [hx]; simpa using hdig
        obtain ⟨g1, g2⟩ := decodeL_high c (s.data.toList.drop (pos + 1)) (by omega)
        refine ⟨by unfold nod; simp; omega, fun x hx => ?_⟩
        have := g2 x hx
        rw [digit_nat]; simp; omega
      have hsplit : s.data.toList.drop pos = (s.data.toList.drop pos).take (Utf8.decode s pos).2 ++ s.data.toList.drop (pos + (Utf8.decode s pos).2) := by
        rw [← List.drop_drop, List.take_append_drop]
      have hqne : (s.data.toList.drop pos).take (Utf8.decode s pos).2 ≠ [] := by
        intro h0
        have := congrArg List.length h0
        rw [List.length_take, List.length_drop] at this
        simp at this
        omega
      simp only [h3.1, if_true]
      rw [hsplit, runsF_nod _ _ _ h3.2 hqne]
      cases st with
      | none =>
        have ih := spansD s f (pos + (Utf8.decode s pos).2) none acc (by omega) hwn (fun a h => by cases h)
        simpa [openPiece] using ih
      | some a =>
        have hpn := pieceU_ne s.data.toList a pos (hst a rfl) (by rw [← size_eq]; omega)
        have ih := spansD s f (pos + (Utf8.decode s pos).2) none (acc ++ [(a, pos)]) (by omega) hwn (fun a h => by cases h)
        simpa [openPiece, hpn] using ih
    have hps : pos = s.size := by omega
    have hd : s.data.toList.drop pos = [] := List.drop_eq_nil_of_le (by rw [← size_eq]; omega)
    rw [spansFromP_end nod s _ pos st acc hlt, hd, runsF]
    subst hps
    cases st with
    | none => simp [closeSpans, openPiece]
    | some a =>
      have := pieceU_ne s.data.toList a s.size (hst a rfl) (by rw [← size_eq]; exact Nat.le_refl _)
      simp [closeSpans, openPiece, this]
theorem pieceU_extract (s : ByteArray) (a b : Nat) : s.extract a b = ⟨(pieceU s.data.toList a b).toArray⟩ := by
  apply ByteArray.ext
  rw [ByteArray.data_extract]
  apply Array.ext'
  rw [Array.toList_extract]
  unfold pieceU
  simp [List.extract_eq_take_drop]
theorem fieldsD (s : Bs) : goFieldsP nod ⟨s.toArray⟩ = (runsD s).map fun x => ⟨x.toArray⟩ := by
  have h := spansD ⟨s.toArray⟩ (ByteArray.mk s.toArray).size 0 none [] (by omega) (by omega) (fun _ h => by cases h)
  simp only [List.map_nil, List.nil_append, openPiece, List.drop_zero] at h
  unfold goFieldsP spansOfP runsD
  rw [h, List.map_map]
  refine List.map_congr_left fun p _ => ?_
  rw [pieceU_extract]; rfl
theorem runsF_digs : ∀ (d w r : Bs), (∀ x ∈ d, digit x = true) → runsF w (d ++ r) = runsF (w ++ d) r
  | [], w, r, _ => by rw [List.nil_append, List.append_nil]
  | c :: d, w, r, h => by
    show runsF w (c :: (d ++ r)) = _
    rw [runsF_dig _ _ _ (h c (.head _)), runsF_digs d _ r fun x hx => h x (.tail _ hx), List.append_assoc]; rfl
theorem runsF_close (w r : Bs) (h : r = [] ∨ ∃ c q, r = c :: q ∧ digit c = false) : runsF w r = (if w = [] then [] else [w]) ++ runsF [] (r.drop 1) := by
  rcases h with rfl | ⟨c, q, rfl, hc⟩
  · rw [runsF, List.drop_nil, runsF, if_pos rfl, List.append_nil]
  rw [runsF, hc]
  simp only [Bool.false_eq_true, if_false, List.drop_one, List.tail_cons]
  split <;> rfl
theorem year_step (t : Bs) : yearOf t = if (t.takeWhile digit).length = 4 then some (t.take 4) else yearOf (t.drop ((t.takeWhile digit).length + 1)) := by
  have hsplit : t.takeWhile digit ++ t.dropWhile digit = t := List.takeWhile_append_dropWhile
  have hd : ∀ x ∈ t.takeWhile digit, digit x = true := fun x hx => List.all_eq_true.1 List.all_takeWhile x hx
  have hr : t.dropWhile digit = [] ∨ ∃ c q, t.dropWhile digit = c :: q ∧ digit c = false := by
    cases h : t.dropWhile digit with
    | nil => exact .inl rfl
    | cons c q =>
      refine .inr ⟨c, q, rfl, ?_⟩
      have := List.head?_dropWhile_not digit t
      rw [h] at this
      simpa using this
  have htake : t.take (t.takeWhile digit).length = t.takeWhile digit := by
    have h := List.take_left (l₁ := t.takeWhile digit) (l₂ := t.dropWhile digit)
    rwa [hsplit] at h
  have hdrop : (t.dropWhile digit).drop 1 = t.drop ((t.takeWhile digit).length + 1) := by
    have : t.drop (t.takeWhile digit).length = t.dropWhile digit := by
      have h := List.drop_left (l₁ := t.takeWhile digit) (l₂ := t.dropWhile digit)
      rwa [hsplit] at h
    rw [← this, List.drop_drop]
  have hruns : runsD t = (if t.takeWhile digit = [] then [] else [t.takeWhile digit]) ++ runsD (t.drop ((t.takeWhile digit).length + 1)) := by
    unfold runsD
    conv => lhs; rw [← hsplit]
    rw [runsF_digs _ _ _ hd, List.nil_append, runsF_close _ _ hr, hdrop]
  unfold yearOf
  rw [hruns, List.find?_append]
  by_cases h4 : (t.takeWhile digit).length = 4
  · rw [if_pos h4]
    have hne : t.takeWhile digit ≠ [] := by intro h0; rw [h0] at h4; cases h4
    rw [if_neg hne]
    have hf : [t.takeWhile digit].find? (fun x => decide (x.length = 4)) = some (t.takeWhile digit) := by simp [h4]
    rw [hf]
    rw [h4] at htake
    rw [htake]; rfl
  rw [if_neg h4]
  by_cases hne : t.takeWhile digit = []
  · rw [if_pos hne]; rfl
  have hf : [t.takeWhile digit].find? (fun x => decide (x.length = 4)) = none := by simp [h4]
  rw [if_neg hne, hf]; rfl
theorem year_nil : yearOf [] = none := rfl
end Ix
end
section
namespace Go.Sx
open Go Go.RowKit
theorem Ctr.of_row {P : Program} {f : FuncId} {args : List Value} {I : Heap} {T : TypeId} {l : List (List UInt8)} {vals : List Value} (hv : vals = l.map str) (he : Enters P f)
    (h : ∀ w, Calls P f args.toArray w fun e w' => ∃ A, e = .returned (.slice (some ⟨A, 0, none⟩) l.length l.length) ∧ w.heap.size ≤ A ∧ w'.ownsRow w.heap.size T 1 (.slice (some ⟨A, 0, none⟩) l.length l.length) l.length vals ∧ Below w.heap.size w w') :
    Ctr P f args I [] (fun e I' H' => ∃ v, e = .returned v ∧ StrS T I' l v ∧ H' = []) := by
  refine ⟨he, fun w hw => (h w).mono ?_⟩
  rintro e w' ⟨A, rfl, hA, hown, hB⟩
  obtain ⟨r1, -, -, -⟩ := hw
  have hlt : ∀ {b : Nat} {o : Obj}, I b = some o → b < w.heap.size := fun {b o} hb => by
    have := r1 b o hb
    rcases Nat.lt_or_ge b w.heap.size with h' | h'
    · exact h'
    rw [Array.getElem?_eq_none h'] at this; cases this
  obtain ⟨-, hown⟩ := hown
  obtain ⟨g, cap, cur, hs, -, hc, hn, -, hsz, htk⟩ := hown.resolve_left fun g => by cases g.1
  cases hs
  have hcel : (.cells cur T (0, 0) : Obj) = cel T (l.map str ++ cur.toList.drop l.length) := by
    unfold cel
    rw [← hv, ← htk, Nat.mul_one, List.take_append_drop]
  rw [hcel] at hc
  have hst : St w [] I I [(A, cel T (l.map str ++ cur.toList.drop l.length))] w' :=
    ⟨hB.os, hB.tape, hB.output, hB.size, fun b hb _ => hB.block b hb, fun b o hb => by rw [hB.block b (hlt hb)]; exact r1 b o hb, fun p hp => by rw [List.mem_singleton.1 hp]; exact hc, by simp, fun p hp => by
      rw [List.mem_singleton.1 hp]
      cases hI : I A with
      | none => rfl
      | some o => have := hlt hI; omega, fun p hp => by rw [List.mem_singleton.1 hp]; exact .inr hA, fun _ _ => rfl, Le.refl _⟩
  have hst2 := hst.persist hA
  exact ⟨_, _, hst2, _, rfl, .inr ⟨A, l.length, _, rfl, Nat.le_refl _, hput_at _ _ _⟩, rfl⟩
end Go.Sx
end
section
namespace Go.Proofs.YtjcdfnbomkoheaaGreatDoor
open _root_.Go.Proofs.Tryz
open Go Go.Sx
def sel (codes : List UInt8) (s : Ke.Sub) : Bool := decide (codes = []) || codes.contains s.code
def txs (codes : List UInt8) (ss : List Ke.Sub) : List (List UInt8) := (ss.filter (sel codes)).map (·.text)
def textX (f : Ke.Fld) (codes : List UInt8) : List UInt8 := Ke.join (txs codes f.subs)
theorem textX_of {f : Ke.Fld} {codes : List UInt8} (h : codes ≠ []) : textX f codes = Ke.textOf f codes := by
  unfold textX Ke.textOf Ke.texts txs
  congr 2
  refine List.filter_congr fun s _ => ?_
  unfold sel; rw [decide_eq_false h]; rfl
theorem textX_all (f : Ke.Fld) : textX f [] = Ix.allText f := by
  unfold textX Ix.allText txs
  rw [show f.subs.filter (sel []) = f.subs from List.filter_eq_self.2 fun _ _ => rfl]
theorem txs_next {codes : List UInt8} {ss : List Ke.Sub} {k : Nat} {s : Ke.Sub} (h : ss[k]? = some s) : txs codes (ss.take (k + 1)) = txs codes (ss.take k) ++ (if sel codes s = true then [s.text] else []) := by
  obtain ⟨hlt, hg⟩ := List.getElem?_eq_some_iff.1 h
  unfold txs
  rw [List.take_succ_eq_append_getElem hlt, hg, List.filter_append, List.map_append]
  by_cases hc : sel codes s = true
  · rw [if_pos hc, List.filter_cons_of_pos hc]; rfl
  rw [if_neg hc, List.filter_cons_of_neg hc]; rfl
theorem txs_len (codes : List UInt8) (ss : List Ke.Sub) : (txs codes ss).length ≤ ss.length := by
  unfold txs; rw [List.length_map]; exact List.length_filter_le _ _
theorem txs_sum (codes : List UInt8) : ∀ ss : List Ke.Sub, ((txs codes ss).map List.length).sum ≤ textsLen ss
  | [] => by simp [txs]
  | s :: r => by
    have := txs_sum codes r
    unfold txs textsLen at this ⊢
    rw [List.filter_cons]
    split
    · simp only [List.map_cons, List.sum_cons]; omega
    simp only [List.map_cons, List.sum_cons]; omega
theorem textX_len (f : Ke.Fld) (codes : List UInt8) : (textX f codes).length ≤ textsLen f.subs + f.subs.length := by
  have h1 := join_len (txs codes f.subs); have h2 := txs_sum codes f.subs; have h3 := txs_len codes f.subs
  unfold textX; omega
theorem text_mem {ss : List Ke.Sub} {s : Ke.Sub} (h : s ∈ ss) : s.text.length ≤ textsLen ss := by
  unfold textsLen
  induction ss with
  | nil => cases h
  | cons a r ih =>
    rw [List.map_cons, List.sum_cons]
    rcases List.mem_cons.1 h with e | e
    · rw [e]; omega
    have := ih e; omega
abbrev four (x : List UInt8) : Bool := decide (x.length = 4)
def idxI {α : Type} (p : α → Bool) (l : List α) : Int := match l.findIdx? p with
  | some k => (k : Int)
  | none => -1
theorem idxI_none {α : Type} {p : α → Bool} {l : List α} (h : ∀ x ∈ l, p x = false) : idxI p l = -1 := by
  unfold idxI
  rw [List.findIdx?_eq_none_iff.2 fun x hx => by simpa using h x hx]
theorem idxI_at {α : Type} {p : α → Bool} {l : List α} {k : Nat} {x : α} (h : ∀ y ∈ l.take k, p y = false) (hx : l[k]? = some x) (hp : p x = true) : idxI p l = (k : Int) := by
  obtain ⟨hlt, hg⟩ := List.getElem?_eq_some_iff.1 hx
  unfold idxI
  have : l.findIdx? p = some k := by
    rw [List.findIdx?_eq_some_iff_getElem]
    refine ⟨hlt, by rw [hg]; exact hp, fun j hj => ?_⟩
    have h1 : l[j]'(by omega) ∈ l.take k := by
      rw [List.mem_take_iff_getElem]
      exact ⟨j, by omega, rfl⟩
    rw [h _ h1]; exact Bool.false_ne_true
  rw [this]
theorem false_next {α : Type} {p : α → Bool} {l : List α} {k : Nat} {x : α} (h : ∀ y ∈ l.take k, p y = false) (hx : l[k]? = some x) (hp : p x = false) : ∀ y ∈ l.take (k + 1), p y = false := fun y hy => by
  obtain ⟨hlt, hg⟩ := List.getElem?_eq_some_iff.1 hx
  rw [List.take_succ_eq_append_getElem hlt, hg, List.mem_append, List.mem_singleton] at hy
  rcases hy with hy | rfl
  · exact h y hy
  exact hp
theorem idxI_cases {α : Type} (p : α → Bool) (l : List α) : (idxI p l = -1 ∧ l.find? p = none) ∨ ∃ (k : Nat) (x : α), idxI p l = (k : Int) ∧ l[k]? = some x ∧ l.find? p = some x := by
  by_cases h : ∃ k, ∃ x, l[k]? = some x ∧ p x = true ∧ ∀ y ∈ l.take k, p y = false
  · obtain ⟨k, x, h1, h2, h3⟩ := h
    refine .inr ⟨k, x, idxI_at h3 h1 h2, h1, ?_⟩
    obtain ⟨hlt, hg⟩ := List.getElem?_eq_some_iff.1 h1
    rw [List.find?_eq_some_iff_append]
    refine ⟨h2, l.take k, l.drop (k + 1), ?_, fun y hy => by simp [h3 y hy]⟩
    rw [← hg, List.getElem_cons_drop, List.take_append_drop]
  have hall : ∀ k, k ≤ l.length → ∀ y ∈ l.take k, p y = false := by
    intro k
    induction k with
    | zero => intro _ y hy; simp at hy
    | succ k ih =>
      intro hk
      have hx := lgg (l := l) (i := k) (by omega)
      have h1 := ih (by omega)
      refine false_next h1 hx ?_
      cases hp : p l[k] with
      | false => rfl
      | true => exact absurd ⟨k, _, hx, hp, h1⟩ h
  have h2 : ∀ y ∈ l, p y = false := fun y hy => hall l.length (Nat.le_refl _) y (by rw [List.take_length]; exact hy)
  exact .inl ⟨idxI_none h2, List.find?_eq_none.2 fun y hy => by simp [h2 y hy]⟩
theorem skip_char {f : Ke.Fld} {c : UInt8} (h : f.ind[1]? = some c) : Ke.skip f = if Ke.digit c = true then c.toNat - 48 else 0 := by
  unfold Ke.skip; rw [h]
theorem strC_row {I : Heap} {l : List (List UInt8)} {v : Value} : StrP I l v ↔ RowS (fun s => [str s]) I l v := by
  unfold StrP RowS
  rw [show l.map str = l.flatMap fun s => [str s] by induction l with | nil => rfl | cons a r ih => rw [List.map_cons, List.flatMap_cons, ih]; rfl]
theorem itext_ok (f : Ke.Fld) (codes : List UInt8) (hn : f.subs.length ≤ 2000000) (htx : textsLen f.subs ≤ 3000000) (I : Heap) (hr : RowS subC I f.subs f.sv) : Pure Tryz.prog 104 [.agg (fldC f).toArray, str codes] I (str (textX f codes)) := by
 refine Ctr.toPure ?_
 obtain ⟨p2, c2, hsv, hc2, hp2⟩ := hr
 refine Ctr.ob func104 ?_
 intro w0 hw0
 refine Cj.sr (J.op rfl (q28 ?_))
 intro b1 hb1
 refine J.z q1 ?_
 refine J.nssr (J.z q1 ?_)
 refine J.nsss (Cj.region (J.z (q4 (off' := 3) tU31 tS29) ?_))
 refine J.z (q18 tA29) ?_
 refine J.eqv 9 rfl (show _ = .slice p2 f.subs.length c2 from hsv) ?_
 refine J.z (q15 tU29) ?_
 refine J.z q0 ?_
 refine J.ns (Cj.block (Cj.keep (Keeps.d Keeps.n) ?_))
 refine Cj.loop (ι := Nat × Gs) (fun j => j.1 ≤ f.subs.length ∧ gOk w0.heap.size 1 (txs codes (f.subs.take j.1)).length ((txs codes (f.subs.take j.1)).map str) j.2) (fun j => f.subs.length - j.1) (fun j => [(1, str codes), (5, gV (txs codes (f.subs.take j.1)).length j.2), (9, .slice p2 f.subs.length c2), (10, i64 (f.subs.length : Int)), (11, i64 (j.1 : Int))]) (fun j => _) (fun j => gH 9 ((txs codes (f.subs.take j.1)).map str) j.2) (0, none) ⟨Nat.zero_le _, rfl, rfl⟩ ⟨rfl, rfl, rfl, rfl, rfl, trivial⟩ rfl rfl ?_
 rintro ⟨j, g⟩ ⟨hj, hg⟩
 dsimp only at hj hg ⊢
 have htl := txs_len codes (f.subs.take j)
 rw [List.length_take, Nat.min_eq_left hj] at htl
 refine Cj.sr (J.z q17 ?_)
 refine J.nss (Cj.cond rfl (fun hc2 => ?_) (fun hc2 => ?_))
 ·
  have hc2p := odt hc2
  refine Cj.ks (Cj.seq (Cj.block (Cj.seq ?_)))
  have hlt : j < f.subs.length := by omega
  obtain ⟨sb, hsget⟩ : ∃ x, f.subs[j]? = some x := ⟨_, lgg hlt⟩
  obtain ⟨sbk, so, scs, sty, sfr, sp2, rfl, hsbk, hsd⟩ := hp2 (ne_nil_of hlt)
  have hnx := txs_next (codes := codes) hsget
  refine Cj.region (J.z (q19 (off' := so + j * 2) tU29 tS65) ?_)
  refine J.z (q43 isAgg65 tS65 (Blk.imm hsbk) (row_from subC_len hsd hsget)) ?_
  refine J.op rfl (q46 tZ65 ?_)
  intro b3 hb3
  refine J.op rfl (q21 0 tS65 (LSpl.c (LSpl.c LSpl.z)) LSet.z ?_)
  refine J.nssr (J.z q0 ?_)
  refine J.z q31 ?_
  refine J.z q0 ?_
  refine q16 17 (fun hg4 => ?_) (fun hg4 => ?_)
  ·
   have hg4p := ebq hg4
   have hsel : sel codes sb = true := by unfold sel; rw [decide_eq_true (ebq hg4)]; rfl
   rw [if_pos hsel] at hnx
   refine q3 2 17 18 false hg4 ?_
   refine q3 2 17 19 false hg4 ?_
   refine q3 2 17 20 false hg4 ?_
   refine q3 2 17 21 false hg4 ?_
   refine q3 2 17 22 false hg4 ?_
   refine J.z (q11 hg4) ?_
   refine J.c1 (fun hc5 => ?_)
   refine Cj.region (J.z q0 ?_)
   refine J.z (q4 (off' := 1) tU65 tS9) ?_
   refine J.z (q18 tA9) ?_
   refine J.op rfl (q24 tU28 tS9 tZ9 ?_)
   intro b6 hb6
   refine J.op rfl (op_append (by' := 15) [_, _] rfl rfl rfl rfl rfl tU28 (.inr ⟨_, tU28⟩) (by kernel_rfl) tS9 tZ9 rfl hg rfl (Src.slice (Blk.at 0 rfl) rfl rfl rfl) (by omega) ?_)
   intro g7 hg7
   refine J.z q1 ?_
   refine J.nb (Cj.region (J.z q7 ?_))
   refine J.z q0 ?_
   refine J.nil (Ej.keep (Keeps.d (Keeps.d Keeps.r)) ?_)
   refine Ej.round (j + 1, g7) ⟨by dsimp only; omega, by dsimp only; rw [hnx, List.map_append, List.length_append]; exact hg7⟩ (by dsimp only; omega) ⟨rfl, by dsimp only; rw [hnx, List.length_append]; rfl, rfl, rfl, rfl, trivial⟩ rfl (by dsimp only; rw [hnx, List.map_append]; rfl)
  have hg4p := nbf hg4
  have hce : codes ≠ [] := nbf hg4
  refine q5 2 17 false hg4 (q2 q0 ?_)
  refine q5 2 17 false hg4 (q2 (q4 (off' := 0) tU65 tS5) ?_)
  refine q5 2 17 false hg4 (q2 (q18 tA5) ?_)
  refine q5 2 17 false hg4 (op_pure rfl rfl rfl rfl rfl (IndexByte_ok _ _ _) ?_)
  refine q5 2 17 false hg4 (q2 q34 ?_)
  refine J.z (q10 hg4) ?_
  refine J.cd (fun hc8 => ?_) (fun hc8 => ?_)
  ·
   have hc8p := odt hc8
   have hsel : sel codes sb = true := by unfold sel; rw [decide_eq_false hce, ← index_has]; exact hc8
   rw [if_pos hsel] at hnx
   refine Cj.region (J.z q0 ?_)
   refine J.z (q4 (off' := 1) tU65 tS9) ?_
   refine J.z (q18 tA9) ?_
   refine J.op rfl (q24 tU28 tS9 tZ9 ?_)
   intro b9 hb9
   refine J.op rfl (op_append (by' := 15) [_, _] rfl rfl rfl rfl rfl tU28 (.inr ⟨_, tU28⟩) (by kernel_rfl) tS9 tZ9 rfl hg rfl (Src.slice (Blk.at 0 rfl) rfl rfl rfl) (by omega) ?_)
   intro g10 hg10
   refine J.z q1 ?_
   refine J.nb (Cj.region (J.z q7 ?_))
   refine J.z q0 ?_
   refine J.nil (Ej.keep (Keeps.d (Keeps.d Keeps.r)) ?_)
   refine Ej.round (j + 1, g10) ⟨by dsimp only; omega, by dsimp only; rw [hnx, List.map_append, List.length_append]; exact hg10⟩ (by dsimp only; omega) ⟨rfl, by dsimp only; rw [hnx, List.length_append]; rfl, rfl, rfl, rfl, trivial⟩ rfl (by dsimp only; rw [hnx, List.map_append]; rfl)
  have hc8p := odf hc8
  have hsel : ¬ sel codes sb = true := by unfold sel; rw [decide_eq_false hce, ← index_has]; exact fun e => Bool.noConfusion (e.symm.trans hc8)
  rw [if_neg hsel] at hnx
  refine Cj.kb (Cj.region (J.z q7 ?_))
  refine J.z q0 ?_
  refine J.nil (Ej.keep (Keeps.d Keeps.r) ?_)
  refine Ej.round (j + 1, g) ⟨by dsimp only; omega, by dsimp only; rw [hnx, List.append_nil]; exact hg⟩ (by dsimp only; omega) ⟨rfl, by dsimp only; rw [hnx, List.append_nil]; rfl, rfl, rfl, rfl, trivial⟩ rfl (by dsimp only; rw [hnx, List.append_nil])
 have hc2p := odf hc2
 refine Cj.xl (Cj.seq ?_)
 have hfull : f.subs.take j = f.subs := List.take_of_length_le (by omega)
 rw [hfull] at hg ⊢
 have htl2 := textX_len f codes
 refine Cj.perm (H' := gH _ _ _ ++ []) (.of_eq (List.append_nil _)) ?_
 refine Cj.keepS hg (fun I8 hle8 hv => ?_)
 refine Cj.region (J.z q0 ?_)
 refine J.op rfl (op_pure rfl rfl rfl rfl rfl (Join_ok (txs codes f.subs) _ (by have := txs_len codes f.subs; omega) (by have e : Ke.join (txs codes f.subs) = textX f codes := rfl; rw [e]; omega) _ hv) ?_)
 refine J.z q1 ?_
 refine J.ns (Cj.ret (q6 ?_))
 exact ⟨rfl, rfl⟩
theorem skip_ok (f : Ke.Fld) (hi : f.ind.length ≤ 2000000) (I : Heap) : Pure Tryz.prog 102 [.agg (fldC f).toArray] I (i64 ((Ix.skipT f : Nat) : Int)) := by
 refine Ctr.toPure ?_
 refine Ctr.ob func102 ?_
 intro w0 hw0
 refine Cj.sr (J.op rfl (q28 ?_))
 intro b1 hb1
 refine J.z q1 ?_
 refine J.nsss (Cj.region (J.z (q4 (off' := 0) tU31 tS9) ?_))
 refine J.z (q18 tA9) ?_
 refine J.z q31 ?_
 refine J.z q0 ?_
 refine q16 6 (fun hg2 => ?_) (fun hg2 => ?_)
 ·
  have hg2p := ebq hg2
  have htag : f.tag = [50, 52, 53] := ebq hg2
  refine q5 3 6 true hg2 (q2 (q4 (off' := 1) tU31 tS9) ?_)
  refine q5 3 6 true hg2 (q2 (q18 tA9) ?_)
  refine q5 3 6 true hg2 (q2 (q26 tU9) ?_)
  refine q5 3 6 true hg2 (q2 (yl_gtr rfl rfl rfl) ?_)
  refine J.z (q11 hg2) ?_
  refine J.z q0 ?_
  refine q16 12 (fun hg3 => ?_) (fun hg3 => ?_)
  ·
   have hg3p := odt hg3
   have hl1 : 1 < f.ind.length := by have h := odt hg3; omega
   obtain ⟨c, hget⟩ : ∃ c, f.ind[1]? = some c := ⟨_, lgg hl1⟩
   refine q5 9 12 true hg3 (q2 (q4 (off' := 1) tU31 tS9) ?_)
   refine q5 9 12 true hg3 (q2 (q18 tA9) ?_)
   refine J.opG 9 12 true _ rfl rfl rfl hg3 (op_yld (q42 tU9 hget) rfl rfl ?_)
   refine q5 9 12 true hg3 (q2 q34 ?_)
   refine J.z (q11 hg3) ?_
   refine J.z q0 ?_
   refine q16 18 (fun hg4 => ?_) (fun hg4 => ?_)
   ·
    have hg4p := odt hg4
    have h48 : 48 ≤ c.toNat := by have h := odt hg4; omega
    refine q5 15 18 true hg4 (q2 (q4 (off' := 1) tU31 tS9) ?_)
    refine q5 15 18 true hg4 (q2 (q18 tA9) ?_)
    refine J.opG 15 18 true _ rfl rfl rfl hg4 (op_yld (q42 tU9 hget) rfl rfl ?_)
    refine q5 15 18 true hg4 (q2 q38 ?_)
    refine J.z (q11 hg4) ?_
    refine J.cd (fun hc5 => ?_) (fun hc5 => ?_)
    ·
     have hc5p := odt hc5
     have h57 : c.toNat ≤ 57 := by have h := odt hc5; omega
     have hdg : Ke.digit c = true := by rw [Ix.digit_nat]; simp only [decide_eq_true_eq]; omega
     refine Cj.sr (J.z (q4 (off' := 1) tU31 tS9) ?_)
     refine J.z (q18 tA9) ?_
     refine J.z (q42 tU9 hget) ?_
     refine J.z (yl_sub rfl rfl rfl (w8 (by omega))) ?_
     refine J.z (yl_convInt rfl rfl tU5 tU3) ?_
     refine J.eqv 28 rfl (show _ = i64 ((c.toNat - 48 : Nat) : Int) from (congrArg i64 ((w64 (by omega)).trans (by omega)))) ?_
     refine J.z q1 ?_
     refine J.ns (Cj.rs (Ej.bare ?_))
     refine q6 ?_
     rw [show Ix.skipT f = Ke.skip f from if_pos htag]
     rw [skip_char hget, if_pos hdg]
     exact ⟨rfl, rfl⟩
    have hc5p := odf hc5
    have hdg : ¬ Ke.digit c = true := by rw [Ix.digit_nat]; have h := odf hc5; simp only [decide_eq_true_eq]; omega
    refine Cj.ks (Cj.sr (J.z q1 ?_))
    refine J.ns (Cj.ret (Ej.bare ?_))
    refine q6 ?_
    rw [show Ix.skipT f = Ke.skip f from if_pos htag]
    rw [skip_char hget, if_neg hdg]
    exact ⟨rfl, rfl⟩
   have hg4p := odf hg4
   have hdg : ¬ Ke.digit c = true := by rw [Ix.digit_nat]; have h := odf hg4; simp only [decide_eq_true_eq]; omega
   refine q3 15 18 19 true hg4 ?_
   refine q3 15 18 20 true hg4 ?_
   refine q3 15 18 21 true hg4 ?_
   refine q3 15 18 22 true hg4 ?_
   refine J.z (q10 hg4) ?_
   refine J.c0 (fun hc6 => ?_)
   refine Cj.ks (Cj.sr (J.z q1 ?_))
   refine J.ns (Cj.ret (Ej.bare ?_))
   refine q6 ?_
   rw [show Ix.skipT f = Ke.skip f from if_pos htag]
   rw [skip_char hget, if_neg hdg]
   exact ⟨rfl, rfl⟩
  have hg3p := odf hg3
  have hl1 : ¬ 1 < f.ind.length := by have h := odf hg3; omega
  refine q3 9 12 13 true hg3 ?_
  refine q3 9 12 14 true hg3 ?_
  refine q3 9 12 15 true hg3 ?_
  refine q3 9 12 16 true hg3 ?_
  refine J.z (q10 hg3) ?_
  refine J.z q0 ?_
  refine q32 15 18 19 true ?_
  refine q32 15 18 20 true ?_
  refine q32 15 18 21 true ?_
  refine q32 15 18 22 true ?_
  refine J.z q30 ?_
  refine J.c0 (fun hc7 => ?_)
  refine Cj.ks (Cj.sr (J.z q1 ?_))
  refine J.ns (Cj.ret (Ej.bare ?_))
  refine q6 ?_
  rw [show Ix.skipT f = Ke.skip f from if_pos htag]
  rw [skip_no hl1]
  exact ⟨rfl, rfl⟩
 have hg2p := nbf hg2
 have htag : ¬ f.tag = [50, 52, 53] := nbf hg2
 refine q3 3 6 7 true hg2 ?_
 refine q3 3 6 8 true hg2 ?_
 refine q3 3 6 9 true hg2 ?_
 refine q3 3 6 10 true hg2 ?_
 refine J.z (q10 hg2) ?_
 refine J.z q0 ?_
 refine q32 9 12 13 true ?_
 refine q32 9 12 14 true ?_
 refine q32 9 12 15 true ?_
 refine q32 9 12 16 true ?_
 refine J.z q30 ?_
 refine J.z q0 ?_
 refine q32 15 18 19 true ?_
 refine q32 15 18 20 true ?_
 refine q32 15 18 21 true ?_
 refine q32 15 18 22 true ?_
 refine J.z q30 ?_
 refine J.c0 (fun hc8 => ?_)
 refine Cj.ks (Cj.sr (J.z q1 ?_))
 refine J.ns (Cj.ret (Ej.bare ?_))
 refine q6 ?_
 rw [show Ix.skipT f = 0 from if_neg htag]
 exact ⟨rfl, rfl⟩
theorem year1_ok (s : List UInt8) (I : Heap) : Pure Tryz.prog 181 [str s] I (.bool (decide (s.length = 4))) := by
 refine Ctr.toPure ?_
 refine Ctr.ob func181 ?_
 intro w0 hw0
 refine Cj.sr (J.z q1 ?_)
 refine J.nssr (J.z q0 ?_)
 refine J.z (q26 tU9) ?_
 refine J.z q23 ?_
 refine J.eqv 5 rfl (show _ = .bool (decide (s.length = 4)) from (congrArg Value.bool (by rw [Bool.eq_iff_iff, beq_iff_eq, decide_eq_true_eq]; omega))) ?_
 refine J.z q1 ?_
 refine J.ns (Cj.ret (q6 ?_))
 exact ⟨rfl, rfl⟩
theorem notDigit_ok (c : Nat) (I : Heap) : Pure Tryz.prog 179 [.int .i32 (c : Int)] I (.bool (Ix.nod c)) := by
 refine Ctr.toPure ?_
 refine Ctr.ob func179 ?_
 intro w0 hw0
 refine Cj.sr (J.z q1 ?_)
 refine J.nssr (J.z q0 ?_)
 refine J.z q17 ?_
 refine J.z q0 ?_
 refine q16 5 (fun hg1 => ?_) (fun hg1 => ?_)
 ·
  have hg1p := odt hg1
  refine q3 2 5 6 false hg1 ?_
  refine q3 2 5 7 false hg1 ?_
  refine J.z (q11 hg1) ?_
  refine J.z q1 ?_
  refine J.ns (Cj.ret (q6 ?_))
  have e : Ix.nod c = true := by unfold Ix.nod; have h := odt hg1; rw [decide_eq_true (by omega : c < 48)]; rfl
  rw [e]
  exact ⟨rfl, rfl⟩
 have hg1p := odf hg1
 refine q5 2 5 false hg1 (q2 q0 ?_)
 refine q5 2 5 false hg1 (q2 (yl_gtr rfl rfl rfl) ?_)
 refine J.z (q10 hg1) ?_
 refine J.z q1 ?_
 refine J.ns (Cj.ret (q6 ?_))
 refine ⟨?_, rfl⟩
 have h := odf hg1
 unfold Ix.nod
 rw [decide_eq_false (by omega : ¬ c < 48), Bool.false_or]
 exact congrArg (fun b => Ending.returned (Value.bool b)) (decide_eq_decide.2 (by omega))
theorem FieldsFunc_ok (s : List UInt8) (hs : s.length ≤ 4000000000) (I : Heap) : Ctr Tryz.prog 178 [str s, .func (.func 179) #[] #[]] I [] (fun e I' H' => ∃ v, e = .returned v ∧ StrS 9 I' (Ix.runsD s) v ∧ H' = []) := by
  have hz : ∀ x : Nat, x ≤ 1114111 → ∀ W : World, Calls Tryz.prog 179 #[.int .i32 (x : Int)] W fun e w' => e = .returned (.bool (Ix.nod x)) ∧ RowKit.Below W.heap.size W w' := fun x _ W => by
    have h := (notDigit_ok x (fun _ => none)).2 W (by unfold Ready; exact ⟨(fun b o hb => by cases hb), (fun p hp => by cases hp), List.Pairwise.nil, (fun p hp => by cases hp)⟩)
    exact h.mono fun e w' ⟨I', H', hs, h1, _⟩ => ⟨h1, hs.os, hs.tape, hs.output, hs.size, fun k hk => hs.frm k hk (by simp)⟩
  have hrun : Lib.goFieldsP Ix.nod ⟨s.toArray⟩ = (Ix.runsD s).map fun x => ⟨x.toArray⟩ := Ix.fieldsD s
  refine Ctr.of_row (vals := ((Ix.runsD s).map fun x => (⟨x.toArray⟩ : ByteArray)).map Value.string) (by rw [List.map_map]; rfl) (Enters.of func178 (by decide) rfl) fun w => ?_
  have h := Tryz.strings_FieldsFunc_grows 179 #[] (enters_of func179 (by kernel_rfl) rfl) Ix.nod ⟨s.toArray⟩ w (by rw [size_mk]; omega) (fun W x hx _ => hz x hx W)
  rw [hrun, List.length_map] at h
  exact h
theorem IndexFuncS_ok (l : List (List UInt8)) (v : Value) (pq : List UInt8 → Bool) (g : Nat) (cap : List Value) (hl : l.length ≤ 100000000000000) (I : Heap) (hr : StrP I l v) (hcl : ∀ x ∈ l, Pure Tryz.prog g (str x :: cap) I (.bool (pq x))) : Pure Tryz.prog 180 [v, .func (.func g) #[] cap.toArray] I (i64 (idxI pq l)) := by
 refine Ctr.toPure ?_
 obtain ⟨p, c, rfl, hc, hp⟩ := hr
 refine Ctr.ob func180 ?_
 intro w0 hw0
 refine Cj.sr (J.z q1 ?_)
 refine J.nsss (Cj.region (J.z q0 ?_))
 refine J.z (q15 tU28) ?_
 refine J.z q0 ?_
 refine J.ns (Cj.block (Cj.loop (ι := Nat) (fun j => j ≤ l.length ∧ ∀ x ∈ l.take j, pq x = false) (fun j => l.length - j) (fun j => [(0, .slice p l.length c), (1, .func (.func g) #[] cap.toArray), (7, i64 (l.length : Int)), (8, i64 (j : Int))]) (fun j => I) (fun j => []) 0 ⟨Nat.zero_le _, fun g hg => by simp at hg⟩ ⟨rfl, rfl, rfl, rfl, trivial⟩ rfl rfl ?_))
 rintro j ⟨hj, hall⟩
 refine Cj.sr (J.z q17 ?_)
 refine J.nss (Cj.cond rfl (fun hc1 => ?_) (fun hc1 => ?_))
 ·
  have hc1p := odt hc1
  have hlt : j < l.length := by omega
  obtain ⟨x, hget⟩ : ∃ x, l[j]? = some x := ⟨_, lgg hlt⟩
  obtain ⟨fb, fo, fcs, fty, ffr, sp, rfl, hfb, hfd⟩ := hp (ne_nil_of hlt)
  refine Cj.ks (Cj.seq (Cj.block (Cj.sr (J.z q0 ?_))))
  refine J.z q1 ?_
  refine J.nssr (J.z q0 ?_)
  refine J.z q0 ?_
  refine J.z q0 ?_
  refine J.z (q19 (off' := fo + j) tU28 tS9) ?_
  refine J.z (q37 tA9 (Blk.imm hfb) (str_from hfd hget)) ?_
  refine J.op rfl (op_pure rfl rfl rfl rfl rfl (hcl x (lmg hget)) ?_)
  refine J.cd (fun hc2 => ?_) (fun hc2 => ?_)
  ·
   have ht : pq x = true := hc2
   refine Cj.sr (J.z q0 ?_)
   refine J.z q1 ?_
   refine J.ns (Cj.ret (Ej.blkRet (Ej.seqRet (Ej.loopRet (Ej.blkRet (Ej.seqRet (q6 ?_)))))))
   rw [idxI_at hall hget ht]
   exact ⟨rfl, rfl⟩
  have hnt : pq x = false := hc2
  refine Cj.kb (Cj.region (J.z q7 ?_))
  refine J.z q0 ?_
  refine J.nil (Ej.round (j + 1) ⟨by omega, false_next hall hget hnt⟩ (by omega) ⟨rfl, rfl, rfl, rfl, trivial⟩ rfl rfl)
 have hc1p := odf hc1
 have hfull : l.take j = l := List.take_of_length_le (by omega)
 rw [hfull] at hall
 refine Cj.xl (Cj.sr (J.z q1 ?_))
 refine J.ns (Cj.ret (q6 ?_))
 rw [idxI_none hall]
 exact ⟨rfl, rfl⟩
theorem runsF_len : ∀ (s w : List UInt8), (Ix.runsF w s).length ≤ s.length + w.length
  | [], w => by
    unfold Ix.runsF
    split
    · simp
    rename_i h; have : 0 < w.length := List.length_pos_iff.2 h; simp only [List.length_cons, List.length_nil]; omega
  | c :: r, w => by
    unfold Ix.runsF
    split
    · have := runsF_len r (w ++ [c]); rw [List.length_append] at this; simp only [List.length_cons, List.length_nil] at this ⊢; omega
    split
    · have := runsF_len r []; simp only [List.length_nil, List.length_cons] at this ⊢; omega
    rename_i h
    have := runsF_len r []; have h2 : 0 < w.length := List.length_pos_iff.2 h
    simp only [List.length_nil, List.length_cons] at this ⊢; omega
theorem runsD_len (s : List UInt8) : (Ix.runsD s).length ≤ s.length := by
  have := runsF_len s []
  exact this
theorem iyear_ok (s : List UInt8) (hs : s.length ≤ 100000000) (I : Heap) : Pure Tryz.prog 149 [str s] I (.tuple #[str ((Ix.yearOf s).getD []), .bool (Ix.yearOf s).isSome]) := by
 refine Ctr.toPure ?_
 have hrl := runsD_len s
 refine Ctr.ob func149 ?_
 intro w0 hw0
 refine Cj.sr (J.z q1 ?_)
 refine J.z q1 ?_
 refine J.nssr (J.z q0 ?_)
 refine J.op rfl (q36 (H1 := []) rfl rfl rfl rfl rfl (FieldsFunc_ok s (by omega) _) ?_)
 intro v1 I2 H3 hle4 hp5
 obtain ⟨vl, h, hl, rfl⟩ := hp5; cases h
 refine J.z q1 ?_
 refine J.nssr (J.z q0 ?_)
 refine J.op rfl (op_pure rfl rfl rfl rfl rfl (IndexFuncS_ok (Ix.runsD s) _ four 181 [] (by omega) _ (StrP.of hl) (fun x _ => year1_ok x _)) ?_)
 refine J.z q1 ?_
 refine J.nsss (Cj.region (J.z q0 ?_))
 refine J.z q17 ?_
 refine J.cd (fun hc11 => ?_) (fun hc11 => ?_)
 ·
  have hc11p := odt hc11
  have hfind : Ix.yearOf s = none := ((idxI_cases four (Ix.runsD s)).resolve_right (fun ⟨k, x, h, _⟩ => by rw [h] at hc11p; omega)).2
  refine Cj.sr (J.z q1 ?_)
  refine J.z q1 ?_
  refine J.ns (Cj.rs (q22 ?_))
  rw [hfind]
  exact ⟨rfl, rfl⟩
 have hc11p := odf hc11
 obtain ⟨k, y, hkk, hget, hfind⟩ := (idxI_cases four (Ix.runsD s)).resolve_left (fun h => by rw [h.1] at hc11p; omega)
 obtain ⟨yb, yc, ysp, rfl, hyb⟩ := hl.some (fun e => by rw [e] at hget; cases hget)
 rw [hkk]
 have hklt := (List.getElem?_eq_some_iff.1 hget).1
 refine Cj.ks (Cj.sr (J.z q0 ?_))
 refine J.z q0 ?_
 refine J.z (q19 (off' := k) tU28 tS9) ?_
 refine J.z (q37 tA9 (Blk.imm hyb) (str_get hget)) ?_
 refine J.z q1 ?_
 refine J.z q1 ?_
 refine J.ns (Cj.ret (q22 ?_))
 rw [show Ix.yearOf s = some y from hfind]
 exact ⟨rfl, rfl⟩
def pickU (u : List UInt8 → List UInt8 × Bool) (code : UInt8) (s : Ke.Sub) : Option (List UInt8) := if (u s.text).2 = true ∧ s.code = code then some (u s.text).1 else none
def uy (s : List UInt8) : List UInt8 × Bool := ((Ix.yearOf s).getD [], (Ix.yearOf s).isSome)
theorem pick_yr : pickU uy 99 = Ix.yr := by
  funext s
  unfold pickU uy Ix.yr
  by_cases h : s.code = 99
  · rw [if_pos h]
    cases hy : Ix.yearOf s.text with
    | none => simp
    | some y => simp [h]
  rw [if_neg h, if_neg (fun g => h g.2)]
theorem fm_next {u : List UInt8 → List UInt8 × Bool} {code : UInt8} {ss : List Ke.Sub} {k : Nat} {s : Ke.Sub} (h : ss[k]? = some s) : (ss.take (k + 1)).filterMap (pickU u code) = (ss.take k).filterMap (pickU u code) ++ (if (u s.text).2 = true ∧ s.code = code then [(u s.text).1] else []) := by
  obtain ⟨hlt, hg⟩ := List.getElem?_eq_some_iff.1 h
  rw [List.take_succ_eq_append_getElem hlt, hg, List.filterMap_append]
  by_cases hc : (u s.text).2 = true ∧ s.code = code
  · rw [if_pos hc]; simp [pickU, hc]
  rw [if_neg hc]; simp [pickU, hc]
theorem pre_eq {s p : List UInt8} (_h : p.length ≤ s.length) : p.isPrefixOf s = ((s.take p.length).drop 0 == p) := by
  rw [List.drop_zero, Bool.eq_iff_iff, List.isPrefixOf_iff_prefix, beq_iff_eq, List.prefix_iff_eq_take]
  exact ⟨fun e => e.symm, fun e => e.symm⟩
theorem pre_no {s p : List UInt8} (h : ¬ p.length ≤ s.length) : p.isPrefixOf s = false := by
  rw [Bool.eq_false_iff, Ne, List.isPrefixOf_iff_prefix]
  exact fun e => h e.length_le
theorem StrS_sl {T : TypeId} {I : Heap} {l : List (List UInt8)} {v : Value} (h : StrS T I l v) : ∃ p c, v = .slice p l.length c := by
  rcases h with ⟨rfl, rfl⟩ | ⟨b, c, sp, rfl, _, _⟩
  · exact ⟨none, 0, rfl⟩
  exact ⟨_, c, rfl⟩
theorem vw_one {I : Heap} {l : List (List UInt8)} {a b w : Value} (h : StrS 9 I l w) (ha : Value.oneCell' a = true) (hb : Value.oneCell' b = true) : [a, b, w].all Value.oneCell' = true := by
  obtain ⟨p, c, rfl⟩ := StrS_sl h
  simp only [List.all_cons, List.all_nil, ha, hb, Bool.and_true, Bool.true_and]; rfl
def EOK (fs : List Ke.Fld) : Prop := fs.length ≤ 1000 ∧ ∀ f ∈ fs, f.subs.length ≤ 1000 ∧ textsLen f.subs ≤ 3000000 ∧ f.ind.length ≤ 2000000
abbrev VW := Ix.V × Value
def vwC (x : VW) : List Value := [str x.1.name, str x.1.key, x.2]
theorem vwC_len (x : VW) : (vwC x).length = 3 := rfl
def ValsX (I : Heap) (xs : List VW) (vs : List Ix.V) : Prop := xs.map (·.1) = vs ∧ ∀ x ∈ xs, StrS 9 I x.1.ws x.2
theorem ValsX.mono {I I' : Heap} {xs : List VW} {vs : List Ix.V} (h : ValsX I xs vs) (hle : Le I I') : ValsX I' xs vs := ⟨h.1, fun x hx => (h.2 x hx).mono hle⟩
theorem ValsX.len {I : Heap} {xs : List VW} {vs : List Ix.V} (h : ValsX I xs vs) : xs.length = vs.length := by rw [← h.1, List.length_map]
theorem ValsX.add {I : Heap} {xs : List VW} {vs : List Ix.V} (h : ValsX I xs vs) {v : Ix.V} {w : Value} (hw : StrS 9 I v.ws w) : ValsX I (xs ++ [(v, w)]) (vs ++ [v]) :=
  ⟨by rw [List.map_append, h.1]; rfl, fun x hx => by
    rcases List.mem_append.1 hx with g | g
    · exact h.2 x g
    rw [List.mem_singleton.1 g]; exact hw⟩
def ValsS (I : Heap) (vs : List Ix.V) (v : Value) : Prop := ∃ xs, RowT 98 vwC I xs v ∧ ValsX I xs vs
theorem ValsS.mono {I I' : Heap} {vs : List Ix.V} {v : Value} (h : ValsS I vs v) (hle : Le I I') : ValsS I' vs v := let ⟨xs, h1, h2⟩ := h; ⟨xs, h1.mono hle, h2.mono hle⟩
theorem named_len (f : Ke.Fld) (h : f.subs.length ≤ 1000) : (Ix.named f).2.length ≤ 1000 := by
  unfold Ix.named
  repeat' split
  all_goals first
    | exact nlt (List.length_filterMap_le _ _) h
    | simp
theorem fm_text {p : Ke.Sub → Option (List UInt8)} {ss : List Ke.Sub} {s : List UInt8} {n : Nat} (hp : ∀ x ∈ ss, ∀ y, p x = some y → y.length ≤ n) (h : s ∈ ss.filterMap p) : s.length ≤ n := by
  obtain ⟨x, hx, he⟩ := List.mem_filterMap.1 h
  exact hp x hx s he
theorem isbn_len (s : List UInt8) : (Ke.isbn s).1.length ≤ 13 := by
  unfold Ke.isbn Ke.isbnN
  split
  · simp only [List.length_append, List.length_take, List.length_cons, List.length_nil]; omega
  split
  · rename_i h; have := h.1; dsimp only; omega
  simp
theorem yearOf_len {s y : List UInt8} (h : Ix.yearOf s = some y) : y.length = 4 := by
  have h1 := List.find?_some h
  exact odt h1
theorem named_text {f : Ke.Fld} {s : List UInt8} (h : s ∈ (Ix.named f).2) : s.length ≤ textsLen f.subs + f.subs.length + 13 := by
  have ht : ∀ c : List UInt8, (Ke.textOf f c).length ≤ textsLen f.subs + f.subs.length := textOf_len f
  unfold Ix.named at h
  repeat' split at h
  all_goals first
    | (rw [List.mem_singleton] at h; rw [h]; have := ht [97, 98]; have := ht [97]; have := ht [97, 120]; omega)
    | (refine nlt (fm_text (n := 13) (fun x _ y hy => ?_) h) (by omega); unfold Ke.isb at hy; split at hy; (cases hy; exact isbn_len _); cases hy)
    | (refine nlt (fm_text (n := 13) (fun x _ y hy => ?_) h) (by omega); unfold Ix.yr at hy; split at hy; (have := yearOf_len hy; omega); cases hy)
    | cases h
theorem vals1_len (f : Ke.Fld) (h : f.subs.length ≤ 1000) : (Ix.vals1 f).length ≤ 1001 := by
  have := named_len f h
  unfold Ix.vals1
  rw [List.length_append, List.length_map]
  split <;> simp <;> omega
theorem vals_take (fs : List Ke.Fld) (h : EOK fs) (j : Nat) : (Ix.vals (fs.take j)).length ≤ j * 1001 := by
  induction j with
  | zero => simp [Ix.vals]
  | succ j ih =>
    rcases Nat.lt_or_ge j fs.length with hj | hj
    · rw [List.take_succ_eq_append_getElem hj]
      unfold Ix.vals at ih ⊢
      rw [List.flatMap_append, List.length_append]
      have := vals1_len fs[j] (h.2 _ (List.getElem_mem hj)).1
      simp only [List.flatMap_cons, List.flatMap_nil, List.append_nil]
      omega
    rw [List.take_of_length_le hj] at ih
    rw [List.take_of_length_le (show fs.length ≤ j + 1 by omega)]
    exact nlt ih (Nat.mul_le_mul_right _ (Nat.le_succ j))
theorem vals_next {fs : List Ke.Fld} {j : Nat} {f : Ke.Fld} (h : fs[j]? = some f) : Ix.vals (fs.take (j + 1)) = Ix.vals (fs.take j) ++ Ix.vals1 f := by
  obtain ⟨hlt, hg⟩ := List.getElem?_eq_some_iff.1 h
  rw [List.take_succ_eq_append_getElem hlt, hg]
  unfold Ix.vals
  rw [List.flatMap_append]; simp
abbrev nv (f : Ke.Fld) (s : List UInt8) : Ix.V := ⟨(Ix.named f).1, s, Ix.skipT f⟩
theorem map_next {α β : Type} (g : α → β) {l : List α} {k : Nat} {x : α} (h : l[k]? = some x) : (l.take (k + 1)).map g = (l.take k).map g ++ [g x] := by
  obtain ⟨hlt, hg⟩ := List.getElem?_eq_some_iff.1 h
  rw [List.take_succ_eq_append_getElem hlt, hg, List.map_append]; rfl
structure VA where
  j : Nat
  J : Heap
  xs : List VW
  g : Gs
theorem sHasPrefix_ok (s p : List UInt8) (hp : p.length ≤ 1000000) (I : Heap) : Pure Tryz.prog 150 [str s, str p] I (.bool (p.isPrefixOf s)) := by
 refine Ctr.toPure ?_
 refine Ctr.ob func150 ?_
 intro w0 hw0
 refine Cj.sr (J.z q1 ?_)
 refine J.nssr (J.z q0 ?_)
 refine J.z (q26 tU9) ?_
 refine J.z q0 ?_
 refine J.z (q26 tU9) ?_
 refine J.z q34 ?_
 refine J.z q0 ?_
 refine q16 10 (fun hg1 => ?_) (fun hg1 => ?_)
 ·
  have hg1p := odt hg1
  have hge : p.length ≤ s.length := by have h := odt hg1; omega
  refine q5 5 10 true hg1 (q2 q0 ?_)
  refine q5 5 10 true hg1 (q2 q0 ?_)
  refine q5 5 10 true hg1 (q2 (q26 tU9) ?_)
  refine J.opG 5 10 true _ rfl rfl rfl hg1 (op_yld (q54 (p := 0) (q := p.length) tU9) rfl rfl ?_)
  refine q5 5 10 true hg1 (q2 q0 ?_)
  refine q5 5 10 true hg1 (q2 q31 ?_)
  refine J.z (q11 hg1) ?_
  refine J.z q1 ?_
  refine J.ns (Cj.ret (q6 ?_))
  refine ⟨?_, rfl⟩
  rw [pre_eq hge]
 have hg1p := odf hg1
 have hge : ¬ p.length ≤ s.length := by have h := odf hg1; omega
 refine q3 5 10 11 true hg1 ?_
 refine q3 5 10 12 true hg1 ?_
 refine q3 5 10 13 true hg1 ?_
 refine q3 5 10 14 true hg1 ?_
 refine q3 5 10 15 true hg1 ?_
 refine q3 5 10 16 true hg1 ?_
 refine J.z (q10 hg1) ?_
 refine J.z q1 ?_
 refine J.ns (Cj.ret (q6 ?_))
 rw [pre_no hge]
 exact ⟨rfl, rfl⟩
theorem HasPrefix_ok (s p : List UInt8) (hp : p.length ≤ 1000000) (I : Heap) : Pure Tryz.prog 103 [str s, str p] I (.bool (p.isPrefixOf s)) := by
 refine Ctr.toPure ?_
 refine Ctr.ob func103 ?_
 intro w0 hw0
 refine Cj.sr (J.z q1 ?_)
 refine J.nssr (J.z q0 ?_)
 refine J.z q0 ?_
 refine J.op rfl (op_pure rfl rfl rfl rfl rfl (sHasPrefix_ok s p hp _) ?_)
 refine J.z q1 ?_
 refine J.ns (Cj.ret (q6 ?_))
 exact ⟨rfl, rfl⟩
theorem subfields_ok (f : Ke.Fld) (code : UInt8) (g0 : Nat) (u : List UInt8 → List UInt8 × Bool) (hn : f.subs.length ≤ 2000000) (htx : textsLen f.subs ≤ 3000000) (hu : ∀ s J, s.length ≤ 100000000 → Pure Tryz.prog g0 [str s] J (.tuple #[str (u s).1, .bool (u s).2])) (I : Heap) (hr : RowS subC I f.subs f.sv) : Ctr Tryz.prog 148 [.agg (fldC f).toArray, u8 code, .func (.func g0) #[] #[]] I []
    (fun e I' H' => ∃ v, e = .returned v ∧ StrS 9 I' (f.subs.filterMap (pickU u code)) v ∧ H' = []) := by
 obtain ⟨p2, c2, hsv, hc2, hp2⟩ := hr
 refine Ctr.ob func148 ?_
 intro w0 hw0
 refine Cj.sr (J.op rfl (q28 ?_))
 intro b1 hb1
 refine J.z q1 ?_
 refine J.nssr (J.z q1 ?_)
 refine J.nsss (Cj.region (J.z (q4 (off' := 3) tU31 tS29) ?_))
 refine J.z (q18 tA29) ?_
 refine J.eqv 13 rfl (show _ = .slice p2 f.subs.length c2 from hsv) ?_
 refine J.z (q15 tU29) ?_
 refine J.z q0 ?_
 refine J.ns (Cj.block (Cj.keep (Keeps.d Keeps.n) ?_))
 refine Cj.loop (ι := Nat × Gs) (fun j => j.1 ≤ f.subs.length ∧ gOk w0.heap.size 1 ((f.subs.take j.1).filterMap (pickU u code)).length (((f.subs.take j.1).filterMap (pickU u code)).map str) j.2) (fun j => f.subs.length - j.1) (fun j => [(1, u8 code), (2, .func (.func g0) #[] #[]), (7, gV ((f.subs.take j.1).filterMap (pickU u code)).length j.2), (13, .slice p2 f.subs.length c2), (14, i64 (f.subs.length : Int)), (15, i64 (j.1 : Int))]) (fun j => _) (fun j => gH 9 (((f.subs.take j.1).filterMap (pickU u code)).map str) j.2) (0, none) ⟨Nat.zero_le _, rfl, rfl⟩ ⟨rfl, rfl, rfl, rfl, rfl, rfl, trivial⟩ rfl rfl ?_
 rintro ⟨j, g⟩ ⟨hj, hg⟩
 dsimp only at hj hg ⊢
 have htl := List.length_filterMap_le (pickU u code) (f.subs.take j)
 rw [List.length_take, Nat.min_eq_left hj] at htl
 refine Cj.sr (J.z q17 ?_)
 refine J.nss (Cj.cond rfl (fun hc2 => ?_) (fun hc2 => ?_))
 ·
  have hc2p := odt hc2
  refine Cj.ks (Cj.seq (Cj.block (Cj.seq ?_)))
  have hlt : j < f.subs.length := by omega
  obtain ⟨sb, hsget⟩ : ∃ x, f.subs[j]? = some x := ⟨_, lgg hlt⟩
  obtain ⟨sbk, so, scs, sty, sfr, sp2, rfl, hsbk, hsd⟩ := hp2 (ne_nil_of hlt)
  have hsl := text_mem (lmg hsget)
  have hnx := fm_next (u := u) (code := code) hsget
  refine Cj.region (J.z (q19 (off' := so + j * 2) tU29 tS65) ?_)
  refine J.z (q43 isAgg65 tS65 (Blk.imm hsbk) (row_from subC_len hsd hsget)) ?_
  refine J.op rfl (q46 tZ65 ?_)
  intro b3 hb3
  refine J.op rfl (q21 0 tS65 (LSpl.c (LSpl.c LSpl.z)) LSet.z ?_)
  refine J.nssr (J.z q0 ?_)
  refine J.z (q4 (off' := 1) tU65 tS9) ?_
  refine J.z (q18 tA9) ?_
  refine J.op rfl (op_pure rfl rfl rfl rfl rfl (hu sb.text _ (by omega)) ?_)
  refine J.z q0 ?_
  refine J.z q25 ?_
  refine J.z q25 ?_
  refine J.z q1 ?_
  refine J.z q1 ?_
  refine J.nssr (J.z (q4 (off' := 0) tU65 tS5) ?_)
  refine J.z (q18 tA5) ?_
  refine J.z q0 ?_
  refine J.z q23 ?_
  refine J.z q0 ?_
  refine q16 30 (fun hg4 => ?_) (fun hg4 => ?_)
  ·
   have hg4p := ebq hg4
   have hcd : sb.code = code := UInt8.toNat_inj.1 (by have h := ebq hg4; omega)
   refine q5 4 30 true hg4 (q2 q0 ?_)
   refine J.z (q11 hg4) ?_
   refine J.cd (fun hc5 => ?_) (fun hc5 => ?_)
   ·
    rw [if_pos ⟨hc5, hcd⟩] at hnx
    refine Cj.region (J.z q0 ?_)
    refine J.z q0 ?_
    refine J.op rfl (q24 tU28 tS9 tZ9 ?_)
    intro b6 hb6
    refine J.op rfl (op_append (by' := 15) [_, _] rfl rfl rfl rfl rfl tU28 (.inr ⟨_, tU28⟩) (by kernel_rfl) tS9 tZ9 rfl hg rfl (Src.slice (Blk.at 0 rfl) rfl rfl rfl) (by omega) ?_)
    intro g7 hg7
    refine J.z q1 ?_
    refine J.nb (Cj.region (J.z q7 ?_))
    refine J.z q0 ?_
    refine J.nil (Ej.keep (Keeps.d (Keeps.d Keeps.r)) ?_)
    refine Ej.round (j + 1, g7) ⟨by dsimp only; omega, by dsimp only; rw [hnx, List.map_append, List.length_append]; exact hg7⟩ (by dsimp only; omega) ⟨rfl, rfl, by dsimp only; rw [hnx, List.length_append]; rfl, rfl, rfl, rfl, trivial⟩ rfl (by dsimp only; rw [hnx, List.map_append]; rfl)
   rw [if_neg (fun g => Bool.noConfusion (g.1.symm.trans hc5))] at hnx
   refine Cj.kb (Cj.region (J.z q7 ?_))
   refine J.z q0 ?_
   refine J.nil (Ej.keep (Keeps.d Keeps.r) ?_)
   refine Ej.round (j + 1, g) ⟨by dsimp only; omega, by dsimp only; rw [hnx, List.append_nil]; exact hg⟩ (by dsimp only; omega) ⟨rfl, rfl, by dsimp only; rw [hnx, List.append_nil]; rfl, rfl, rfl, rfl, trivial⟩ rfl (by dsimp only; rw [hnx, List.append_nil])
  have hg4p := nbf hg4
  have hcd : sb.code ≠ code := fun e => nbf hg4 (by rw [e])
  rw [if_neg (fun g => hcd g.2)] at hnx
  refine q3 4 30 31 true hg4 ?_
  refine J.z (q10 hg4) ?_
  refine J.c0 (fun hc8 => ?_)
  refine Cj.kb (Cj.region (J.z q7 ?_))
  refine J.z q0 ?_
  refine J.nil (Ej.keep (Keeps.d Keeps.r) ?_)
  refine Ej.round (j + 1, g) ⟨by dsimp only; omega, by dsimp only; rw [hnx, List.append_nil]; exact hg⟩ (by dsimp only; omega) ⟨rfl, rfl, by dsimp only; rw [hnx, List.append_nil]; rfl, rfl, rfl, rfl, trivial⟩ rfl (by dsimp only; rw [hnx, List.append_nil])
 have hc2p := odf hc2
 refine Cj.xl (Cj.seq ?_)
 have hfull : f.subs.take j = f.subs := List.take_of_length_le (by omega)
 rw [hfull] at hg ⊢
 refine Cj.perm (H' := gH _ _ _ ++ []) (.of_eq (List.append_nil _)) ?_
 refine Cj.keepS hg (fun I8 hle8 hv => ?_)
 refine Cj.region (J.z q0 ?_)
 refine J.z q1 ?_
 refine J.ns (Cj.ret (q6 ?_))
 exact ⟨_, rfl, hv, rfl⟩
theorem named_ok (f : Ke.Fld) (hn : f.subs.length ≤ 2000000) (htx : textsLen f.subs ≤ 3000000) (I : Heap) (hr : RowS subC I f.subs f.sv) : Ctr Tryz.prog 101 [.agg (fldC f).toArray] I []
    (fun e I' H' => ∃ v, e = .returned (.tuple #[str (Ix.named f).1, v]) ∧ StrS 9 I' (Ix.named f).2 v ∧ H' = []) := by
 refine Ctr.ob func101 ?_
 intro w0 hw0
 refine Cj.sr (J.op rfl (q28 ?_))
 intro b1 hb1
 refine J.z q1 ?_
 refine J.z q1 ?_
 refine J.nsss (Cj.region (J.z (q4 (off' := 0) tU31 tS9) ?_))
 refine J.z (q18 tA9) ?_
 refine J.ns (Cj.block (Cj.seq (Cj.sr (J.z q31 ?_))))
 refine J.z q1 ?_
 refine J.cd (fun hc2 => ?_) (fun hc2 => ?_)
 ·
  have hc2p := ebq hc2
  refine Cj.ks (Cj.cond rfl (fun hc3 => ?_) (fun hc3 => Bool.noConfusion (Eq.trans (Eq.symm hc2) hc3)))
  refine Cj.sr (J.z (q33 tA31 tS31) ?_)
  refine J.op rfl (op_pure rfl rfl rfl rfl rfl (itext_ok f [97, 98] hn htx _ hr) ?_)
  refine J.eqv 10 rfl (show _ = str (Ke.textOf f [97, 98]) from (congrArg str (textX_of (List.cons_ne_nil _ _)))) ?_
  refine J.op rfl (q24 tU28 tS9 tZ9 ?_)
  intro b4 hb4
  refine J.z q1 ?_
  refine J.z q1 ?_
  refine J.ns (Cj.ret (Ej.blkRet (Ej.seqRet ?_)))
  have hnm : Ix.named f = (Ix.nTitle, [Ke.textOf f [97, 98]]) := by simp [Ix.named, *]
  rw [hnm]
  refine Ej.persist hb4 (fun I6 hle5 hb4i => ?_)
  refine Ej.bare ?_
  refine q22 ?_
  exact ⟨_, rfl, .inr ⟨b4, 1, [], rfl, Nat.le_refl _, hb4i⟩, rfl⟩
 have hc2p := nbf hc2
 refine Cj.region (J.z q31 ?_)
 refine J.z q1 ?_
 refine J.cd (fun hc7 => ?_) (fun hc7 => ?_)
 ·
  have hc7p := ebq hc7
  refine Cj.sr (J.z (q33 tA31 tS31) ?_)
  refine J.op rfl (op_pure rfl rfl rfl rfl rfl (itext_ok f [97, 98] hn htx _ hr) ?_)
  refine J.eqv 10 rfl (show _ = str (Ke.textOf f [97, 98]) from (congrArg str (textX_of (List.cons_ne_nil _ _)))) ?_
  refine J.op rfl (q24 tU28 tS9 tZ9 ?_)
  intro b8 hb8
  refine J.z q1 ?_
  refine J.z q1 ?_
  refine J.ns (Cj.ret (Ej.blkRet (Ej.seqRet ?_)))
  have hnm : Ix.named f = (Ix.nTitle, [Ke.textOf f [97, 98]]) := by simp [Ix.named, *]
  rw [hnm]
  refine Ej.persist hb8 (fun I10 hle9 hb8i => ?_)
  refine Ej.bare ?_
  refine q22 ?_
  exact ⟨_, rfl, .inr ⟨b8, 1, [], rfl, Nat.le_refl _, hb8i⟩, rfl⟩
 have hc7p := nbf hc7
 refine Cj.seq (Cj.sr (J.z q31 ?_))
 refine J.z q1 ?_
 refine J.cd (fun hc11 => ?_) (fun hc11 => ?_)
 ·
  have hc11p := ebq hc11
  refine Cj.ks (Cj.cond rfl (fun hc12 => ?_) (fun hc12 => Bool.noConfusion (Eq.trans (Eq.symm hc11) hc12)))
  refine Cj.sr (J.z (q33 tA31 tS31) ?_)
  refine J.op rfl (op_pure rfl rfl rfl rfl rfl (itext_ok f [97] hn htx _ hr) ?_)
  refine J.eqv 17 rfl (show _ = str (Ke.textOf f [97]) from (congrArg str (textX_of (List.cons_ne_nil _ _)))) ?_
  refine J.op rfl (q24 tU28 tS9 tZ9 ?_)
  intro b13 hb13
  refine J.z q1 ?_
  refine J.z q1 ?_
  refine J.ns (Cj.ret (Ej.blkRet (Ej.seqRet ?_)))
  have hnm : Ix.named f = (Ix.nAuthor, [Ke.textOf f [97]]) := by simp [Ix.named, *]
  rw [hnm]
  refine Ej.persist hb13 (fun I15 hle14 hb13i => ?_)
  refine Ej.bare ?_
  refine q22 ?_
  exact ⟨_, rfl, .inr ⟨b13, 1, [], rfl, Nat.le_refl _, hb13i⟩, rfl⟩
 have hc11p := nbf hc11
 refine Cj.sr (J.z q31 ?_)
 refine J.z q1 ?_
 refine J.cd (fun hc16 => ?_) (fun hc16 => ?_)
 ·
  have hc16p := ebq hc16
  refine Cj.ks (Cj.cond rfl (fun hc17 => ?_) (fun hc17 => Bool.noConfusion (Eq.trans (Eq.symm hc16) hc17)))
  refine Cj.sr (J.z (q33 tA31 tS31) ?_)
  refine J.op rfl (op_pure rfl rfl rfl rfl rfl (itext_ok f [97] hn htx _ hr) ?_)
  refine J.eqv 17 rfl (show _ = str (Ke.textOf f [97]) from (congrArg str (textX_of (List.cons_ne_nil _ _)))) ?_
  refine J.op rfl (q24 tU28 tS9 tZ9 ?_)
  intro b18 hb18
  refine J.z q1 ?_
  refine J.z q1 ?_
  refine J.ns (Cj.ret (Ej.blkRet (Ej.seqRet ?_)))
  have hnm : Ix.named f = (Ix.nAuthor, [Ke.textOf f [97]]) := by simp [Ix.named, *]
  rw [hnm]
  refine Ej.persist hb18 (fun I20 hle19 hb18i => ?_)
  refine Ej.bare ?_
  refine q22 ?_
  exact ⟨_, rfl, .inr ⟨b18, 1, [], rfl, Nat.le_refl _, hb18i⟩, rfl⟩
 have hc16p := nbf hc16
 refine Cj.region (J.z q31 ?_)
 refine J.z q1 ?_
 refine J.cd (fun hc21 => ?_) (fun hc21 => ?_)
 ·
  have hc21p := ebq hc21
  refine Cj.sr (J.z (q33 tA31 tS31) ?_)
  refine J.op rfl (op_pure rfl rfl rfl rfl rfl (itext_ok f [97] hn htx _ hr) ?_)
  refine J.eqv 17 rfl (show _ = str (Ke.textOf f [97]) from (congrArg str (textX_of (List.cons_ne_nil _ _)))) ?_
  refine J.op rfl (q24 tU28 tS9 tZ9 ?_)
  intro b22 hb22
  refine J.z q1 ?_
  refine J.z q1 ?_
  refine J.ns (Cj.ret (Ej.blkRet (Ej.seqRet ?_)))
  have hnm : Ix.named f = (Ix.nAuthor, [Ke.textOf f [97]]) := by simp [Ix.named, *]
  rw [hnm]
  refine Ej.persist hb22 (fun I24 hle23 hb22i => ?_)
  refine Ej.bare ?_
  refine q22 ?_
  exact ⟨_, rfl, .inr ⟨b22, 1, [], rfl, Nat.le_refl _, hb22i⟩, rfl⟩
 have hc21p := nbf hc21
 refine Cj.seq (Cj.sr (J.z q31 ?_))
 refine J.z q1 ?_
 refine J.cd (fun hc25 => ?_) (fun hc25 => ?_)
 ·
  have hc25p := ebq hc25
  refine Cj.ks (Cj.cond rfl (fun hc26 => ?_) (fun hc26 => Bool.noConfusion (Eq.trans (Eq.symm hc25) hc26)))
  refine Cj.sr (J.z (q33 tA31 tS31) ?_)
  refine J.op rfl (op_pure rfl rfl rfl rfl rfl (itext_ok f [97, 120] hn htx _ hr) ?_)
  refine J.eqv 23 rfl (show _ = str (Ke.textOf f [97, 120]) from (congrArg str (textX_of (List.cons_ne_nil _ _)))) ?_
  refine J.op rfl (q24 tU28 tS9 tZ9 ?_)
  intro b27 hb27
  refine J.z q1 ?_
  refine J.z q1 ?_
  refine J.ns (Cj.ret (Ej.blkRet (Ej.seqRet ?_)))
  have hnm : Ix.named f = (Ix.nSubject, [Ke.textOf f [97, 120]]) := by simp [Ix.named, *]
  rw [hnm]
  refine Ej.persist hb27 (fun I29 hle28 hb27i => ?_)
  refine Ej.bare ?_
  refine q22 ?_
  exact ⟨_, rfl, .inr ⟨b27, 1, [], rfl, Nat.le_refl _, hb27i⟩, rfl⟩
 have hc25p := nbf hc25
 refine Cj.region (J.z q31 ?_)
 refine J.z q1 ?_
 refine J.cd (fun hc30 => ?_) (fun hc30 => ?_)
 ·
  have hc30p := ebq hc30
  refine Cj.sr (J.z (q33 tA31 tS31) ?_)
  refine J.op rfl (op_pure rfl rfl rfl rfl rfl (itext_ok f [97, 120] hn htx _ hr) ?_)
  refine J.eqv 23 rfl (show _ = str (Ke.textOf f [97, 120]) from (congrArg str (textX_of (List.cons_ne_nil _ _)))) ?_
  refine J.op rfl (q24 tU28 tS9 tZ9 ?_)
  intro b31 hb31
  refine J.z q1 ?_
  refine J.z q1 ?_
  refine J.ns (Cj.ret (Ej.blkRet (Ej.seqRet ?_)))
  have hnm : Ix.named f = (Ix.nSubject, [Ke.textOf f [97, 120]]) := by simp [Ix.named, *]
  rw [hnm]
  refine Ej.persist hb31 (fun I33 hle32 hb31i => ?_)
  refine Ej.bare ?_
  refine q22 ?_
  exact ⟨_, rfl, .inr ⟨b31, 1, [], rfl, Nat.le_refl _, hb31i⟩, rfl⟩
 have hc30p := nbf hc30
 refine Cj.sr (J.z q31 ?_)
 refine J.z q1 ?_
 refine J.cd (fun hc34 => ?_) (fun hc34 => ?_)
 ·
  have hc34p := ebq hc34
  refine Cj.sr (J.z (q33 tA31 tS31) ?_)
  refine J.op rfl (q36 (H1 := []) rfl rfl rfl rfl rfl (subfields_ok f 97 86 Ke.isbn hn htx (fun s J h => Isbn_ok s h J) _ hr) ?_)
  intro v35 I36 H37 hle38 hp39
  obtain ⟨vl, h, hv, rfl⟩ := hp39; cases h
  refine J.z q1 ?_
  refine J.z q1 ?_
  refine J.ns (Cj.ret (Ej.blkRet (Ej.seqRet ?_)))
  have hnm : Ix.named f = (Ix.nIsbn, f.subs.filterMap Ke.isb) := by simp [Ix.named, *]
  rw [hnm]
  refine Ej.bare ?_
  refine q22 ?_
  exact ⟨_, rfl, hv, rfl⟩
 have hc34p := nbf hc34
 refine Cj.sr (J.z q31 ?_)
 refine J.z q1 ?_
 refine J.cd (fun hc40 => ?_) (fun hc40 => ?_)
 ·
  have hc40p := ebq hc40
  refine Cj.sr (J.z (q33 tA31 tS31) ?_)
  refine J.op rfl (q36 (H1 := []) rfl rfl rfl rfl rfl (subfields_ok f 99 149 uy hn htx (fun s J h => iyear_ok s h J) _ hr) ?_)
  intro v41 I42 H43 hle44 hp45
  obtain ⟨vl, h, hv, rfl⟩ := hp45; cases h
  refine J.z q1 ?_
  refine J.z q1 ?_
  refine J.ns (Cj.ret (Ej.blkRet (Ej.seqRet ?_)))
  have hnm : Ix.named f = (Ix.nYear, f.subs.filterMap Ix.yr) := by simp [Ix.named, *]
  rw [hnm]
  refine Ej.bare ?_
  refine q22 ?_
  rw [← pick_yr]
  exact ⟨_, rfl, hv, rfl⟩
 have hc40p := nbf hc40
 refine Cj.kb (Cj.sr (J.z q1 ?_))
 refine J.z q1 ?_
 refine J.ns (Cj.ret ?_)
 have hnm : Ix.named f = ([], []) := by simp [Ix.named, *]
 rw [hnm]
 refine Ej.bare ?_
 refine q22 ?_
 exact ⟨_, rfl, .inl ⟨rfl, rfl⟩, rfl⟩
theorem valuesOf_ok (fs : List Ke.Fld) (v : Value) (rk rl : UInt8) (hok : EOK fs) (I : Heap) (hr0 : RecS I fs v) : Ctr Tryz.prog 72 [recV rk rl v] I []
    (fun e I' H' => ∃ w, e = .returned w ∧ ValsS I' (Ix.vals fs) w ∧ H' = []) := by
 have hfs := hok.1
 obtain ⟨p, c, rfl, hc, -⟩ := id hr0.1
 refine Ctr.ob func72 ?_
 intro w0 hw0
 refine Cj.sr (J.op rfl (q28 ?_))
 intro b1 hb1
 refine J.z q1 ?_
 refine J.nssr (J.z q1 ?_)
 refine J.nsss (Cj.region (J.z (q4 (off' := 2) tU35 tS33) ?_))
 refine J.z (q18 isAgg33) ?_
 refine J.z (q15 tU33) ?_
 refine J.z q0 ?_
 refine J.ns (Cj.block (Cj.keep (Keeps.d Keeps.n) ?_))
 refine Cj.loop (ι := VA) (fun y => y.j ≤ fs.length ∧ Le I y.J ∧ ValsX y.J y.xs (Ix.vals (fs.take y.j)) ∧ gOk w0.heap.size 3 y.xs.length (y.xs.flatMap vwC) y.g) (fun y => fs.length - y.j) (fun y => [(3, gV y.xs.length y.g), (12, .slice p fs.length c), (13, i64 (fs.length : Int)), (14, i64 (y.j : Int))]) (fun y => y.J) (fun y => gH 98 (y.xs.flatMap vwC) y.g) ⟨0, _, [], none⟩ ⟨Nat.zero_le _, Le.refl _, ⟨rfl, fun x hx => by cases hx⟩, rfl, rfl⟩ ⟨rfl, rfl, rfl, rfl, trivial⟩ rfl rfl ?_
 rintro ⟨j, Jh, xs, g⟩ ⟨hj, hIJ, hX, hg⟩
 dsimp only at hj hIJ hX hg ⊢
 have hr := hr0.mono hIJ
 have hxl := hX.len
 have hvl := vals_take fs hok j
 refine Cj.sr (J.z q17 ?_)
 refine J.nss (Cj.cond rfl (fun hc2 => ?_) (fun hc2 => ?_))
 ·
  have hc2p := odt hc2
  have hlt : j < fs.length := by omega
  obtain ⟨f, hget⟩ : ∃ f, fs[j]? = some f := ⟨_, lgg hlt⟩
  have hfm := lmg hget
  obtain ⟨hk1, hk2, hk3⟩ := hok.2 f hfm
  obtain ⟨⟨p1, c1, hpe, hc1, hp⟩, hsub⟩ := id hr
  cases hpe
  obtain ⟨fb, fo, fcs, fty, ffr, sp, rfl, hfb, hfd⟩ := hp (ne_nil_of hlt)
  have hrf := hsub f hfm
  clear hsub
  obtain ⟨p2, c2, hsv, -, -⟩ := id hrf
  have hnl := named_len f hk1
  have htl3 := textX_len f []
  rw [textX_all] at htl3
  refine Cj.ks (Cj.seq (Cj.block (Cj.sr (J.z (q19 (off' := fo + j * 4) tU33 tS31) ?_))))
  refine J.z (q43 tA31 tS31 (Blk.imm hfb) (row_from fldC_len hfd hget)) ?_
  refine J.op rfl (q46 tZ31 ?_)
  intro b3 hb3
  refine J.op rfl (op_store 0 rfl rfl rfl rfl rfl (fldC_one hsv) tS31 rfl rfl (LSpl.c (LSpl.c (LSpl.c (LSpl.c LSpl.z)))) LSet.z ?_)
  refine J.nssr (J.z (q33 tA31 tS31) ?_)
  refine J.op rfl (q36 (H1 := []) rfl rfl rfl rfl rfl (named_ok f (by omega) hk2 _ hrf) ?_)
  intro v4 I5 H6 hle7 hp8
  have hX := hX.mono hle7
  have hIJ := hIJ.mono hle7
  have hrf := hrf.mono hle7
  obtain ⟨vl, h, hls, rfl⟩ := hp8; cases h
  obtain ⟨lp, lc, rfl⟩ := StrS_sl hls
  refine J.z q0 ?_
  refine J.z q25 ?_
  refine J.z q25 ?_
  refine J.z q1 ?_
  refine J.z q1 ?_
  refine J.nsss (Cj.region (J.z q0 ?_))
  refine J.z (q15 tU28) ?_
  refine J.z q0 ?_
  refine J.ns (Cj.block (Cj.keep (Keeps.k Keeps.r) ?_))
  refine Cj.loop (ι := VA) (fun y => y.j ≤ (Ix.named f).2.length ∧ Le I5 y.J ∧ ValsX y.J y.xs (Ix.vals (fs.take j) ++ ((Ix.named f).2.take y.j).map (nv f)) ∧ gOk w0.heap.size 3 y.xs.length (y.xs.flatMap vwC) y.g) (fun y => (Ix.named f).2.length - y.j) (fun y => [(3, gV y.xs.length y.g), (5, ptr b3 0), (6, str (Ix.named f).1), (12, .slice (some ⟨fb, fo, none⟩) fs.length c), (13, i64 (fs.length : Int)), (14, i64 (j : Int)), (23, .slice lp (Ix.named f).2.length lc), (24, i64 ((Ix.named f).2.length : Int)), (25, i64 (y.j : Int))]) (fun y => y.J) (fun y => (b3, cel 31 (fldC f)) :: gH 98 (y.xs.flatMap vwC) y.g) ⟨0, _, xs, g⟩ ⟨Nat.zero_le _, Le.refl _, by dsimp only; rw [List.take_zero, List.map_nil, List.append_nil]; exact hX, hg⟩ ⟨rfl, rfl, rfl, rfl, rfl, rfl, rfl, rfl, rfl, trivial⟩ rfl rfl ?_
  rintro ⟨q, Kh, xs, g⟩ ⟨hq, hIK, hX, hg⟩
  dsimp only at hq hIK hX hg ⊢
  have hIJ := hIJ.mono hIK
  have hrf := hrf.mono hIK
  have hls := hls.mono hIK
  have hxl := hX.len
  rw [List.length_append, List.length_map, List.length_take, Nat.min_eq_left hq] at hxl
  refine Cj.sr (J.z q17 ?_)
  refine J.nss (Cj.cond rfl (fun hc9 => ?_) (fun hc9 => ?_))
  ·
   have hc9p := odt hc9
   have hqlt : q < (Ix.named f).2.length := by omega
   obtain ⟨s, hqget⟩ : ∃ s, (Ix.named f).2[q]? = some s := ⟨_, lgg hqlt⟩
   have hsl := named_text (lmg hqget)
   obtain ⟨lb, lc1, lsp, hle1, hlb⟩ := hls.some (ne_nil_of hqlt)
   cases hle1
   refine Cj.ks (Cj.seq (Cj.block (Cj.sr (J.z (q19 (off' := q) tU28 tS9) ?_))))
   refine J.z (q37 tA9 (Blk.imm hlb) (str_get hqget)) ?_
   refine J.z q1 ?_
   refine J.nsr (J.z q0 ?_)
   refine J.z q0 ?_
   refine J.z q0 ?_
   refine J.z (q33 tA31 tS31) ?_
   refine J.op rfl (op_pure rfl rfl rfl rfl rfl (skip_ok f hk3 _) ?_)
   refine J.op rfl (op_pure rfl rfl rfl rfl rfl (Sort_ok s ((Ix.skipT f : Nat) : Int) (by omega) _) ?_)
   refine J.z q0 ?_
   refine J.op rfl (q36 (H1 := []) rfl rfl rfl rfl rfl (Words_ok s (by omega) _) ?_)
   intro v10 I11 H12 hle13 hp14
   have hX := hX.mono hle13
   have hIK := hIK.mono hle13
   obtain ⟨vw1, h, hw1, rfl⟩ := hp14; cases h
   obtain ⟨pvw1, cvw1, rfl⟩ := StrS_sl hw1
   refine J.z (yl_buildS (pl := #[(0, 1), (1, 1), (2, 1)]) rfl rfl tZ98 rfl tU98 (fun w => by simp []) (LBld.part rfl rfl rfl (LSpl.c LSpl.z) (LBld.part rfl rfl rfl (LSpl.s (LSpl.c LSpl.z)) (LBld.part rfl rfl rfl (LSpl.s (LSpl.s (LSpl.c LSpl.z))) LBld.none)))) ?_
   refine J.op rfl (q41 tU96 tS98 tZ98 ?_)
   intro b15 hb15
   refine J.op rfl (op_append (by' := 55) [_, _] rfl rfl rfl rfl rfl tU96 (.inr ⟨_, tU96⟩) (by kernel_rfl) tS98 tZ98 rfl hg rfl (Src.slice (Blk.at 0 rfl) rfl rfl (vw_one hw1 rfl rfl)) (by omega) ?_)
   intro g16 hg16
   refine J.z q1 ?_
   refine J.nb (Cj.region (J.z q7 ?_))
   refine J.z q0 ?_
   refine J.nil (Ej.keep (Keeps.d (Keeps.k Keeps.r)) ?_)
   refine Ej.round ⟨q + 1, _, xs ++ [(nv f s, _)], g16⟩ ⟨by dsimp only; omega, hIK, by dsimp only; rw [map_next (nv f) hqget, ← List.append_assoc]; exact hX.add hw1, by dsimp only; rw [List.length_append, List.flatMap_append]; exact hg16⟩ (by dsimp only; omega) ⟨by dsimp only; rw [List.length_append]; rfl, rfl, rfl, rfl, rfl, rfl, rfl, rfl, rfl, trivial⟩ rfl (by dsimp only; rw [List.flatMap_append]; rfl)
  have hc9p := odf hc9
  rw [List.take_of_length_le (by omega : (Ix.named f).2.length ≤ q)] at hX
  refine Cj.xl (Cj.sr (J.z (q4 (off' := 0) tU31 tS9) ?_))
  refine J.z (q18 tA9) ?_
  refine J.op rfl (op_pure rfl rfl rfl rfl rfl (HasPrefix_ok f.tag [48, 48] (by decide) _) ?_)
  refine J.z q50 ?_
  refine J.z q0 ?_
  refine q16 45 (fun hg17 => ?_) (fun hg17 => ?_)
  ·
   refine q5 4 45 true hg17 (q2 (q4 (off' := 0) tU31 tS9) ?_)
   refine q5 4 45 true hg17 (q2 (q18 tA9) ?_)
   refine J.opG 4 45 true _ rfl rfl rfl hg17 (op_pure rfl rfl rfl rfl rfl (HasPrefix_ok f.tag [57] (by decide) _) ?_)
   refine q5 4 45 true hg17 (q2 q50 ?_)
   refine J.z (q11 hg17) ?_
   refine J.cd (fun hc18 => ?_) (fun hc18 => ?_)
   ·
    have hany : Ix.anyOk f = true := by unfold Ix.anyOk; rw [Bool.and_eq_true]; exact ⟨hg17, hc18⟩
    refine Cj.sr (J.z (q33 tA31 tS31) ?_)
    refine J.op rfl (op_pure rfl rfl rfl rfl rfl (itext_ok f [] (by omega) hk2 _ hrf) ?_)
    refine J.eqv 52 rfl (show _ = str (Ix.allText f) from (congrArg str (textX_all f))) ?_
    refine J.z q1 ?_
    refine J.nsr (J.z q0 ?_)
    refine J.z q0 ?_
    refine J.op rfl (op_pure rfl rfl rfl rfl rfl (Sort_ok (Ix.allText f) 0 (by omega) _) ?_)
    refine J.z q0 ?_
    refine J.op rfl (q36 (H1 := []) rfl rfl rfl rfl rfl (Words_ok (Ix.allText f) (by omega) _) ?_)
    intro v19 I20 H21 hle22 hp23
    have hX := hX.mono hle22
    have hIJ := hIJ.mono hle22
    obtain ⟨vw2, h, hw2, rfl⟩ := hp23; cases h
    obtain ⟨pvw2, cvw2, rfl⟩ := StrS_sl hw2
    refine J.z (yl_buildS (pl := #[(0, 1), (1, 1), (2, 1)]) rfl rfl tZ98 rfl tU98 (fun w => by simp []) (LBld.part rfl rfl rfl (LSpl.c LSpl.z) (LBld.part rfl rfl rfl (LSpl.s (LSpl.c LSpl.z)) (LBld.part rfl rfl rfl (LSpl.s (LSpl.s (LSpl.c LSpl.z))) LBld.none)))) ?_
    refine J.op rfl (q41 tU96 tS98 tZ98 ?_)
    intro b24 hb24
    refine J.op rfl (op_append (by' := 55) [_, _] rfl rfl rfl rfl rfl tU96 (.inr ⟨_, tU96⟩) (by kernel_rfl) tS98 tZ98 rfl hg rfl (Src.slice (Blk.at 0 rfl) rfl rfl (vw_one hw2 rfl rfl)) (by omega) ?_)
    intro g25 hg25
    refine J.z q1 ?_
    refine J.nb (Cj.region (J.z q7 ?_))
    refine J.z q0 ?_
    refine J.nil (Ej.keep (Keeps.d (Keeps.d Keeps.r)) ?_)
    refine Ej.round ⟨j + 1, _, xs ++ [(⟨Ix.nAny, Ix.allText f, 0⟩, _)], g25⟩ ⟨by dsimp only; omega, hIJ, by dsimp only; rw [vals_next hget]; unfold Ix.vals1; rw [if_pos hany, ← List.append_assoc]; exact hX.add hw2, by dsimp only; rw [List.length_append, List.flatMap_append]; exact hg25⟩ (by dsimp only; omega) ⟨by dsimp only; rw [List.length_append]; rfl, rfl, rfl, rfl, trivial⟩ rfl (by dsimp only; rw [List.flatMap_append]; rfl)
   have hany : ¬ Ix.anyOk f = true := by unfold Ix.anyOk; rw [Bool.and_eq_true]; exact fun e => Bool.noConfusion (e.2.symm.trans hc18)
   refine Cj.kb (Cj.region (J.z q7 ?_))
   refine J.z q0 ?_
   refine J.nil (Ej.keep (Keeps.d Keeps.r) ?_)
   refine Ej.round ⟨j + 1, _, xs, g⟩ ⟨by dsimp only; omega, hIJ, by dsimp only; rw [vals_next hget]; unfold Ix.vals1; rw [if_neg hany, List.append_nil]; exact hX, by dsimp only; exact hg⟩ (by dsimp only; omega) ⟨rfl, rfl, rfl, rfl, trivial⟩ rfl rfl
  have hany : ¬ Ix.anyOk f = true := by unfold Ix.anyOk; rw [Bool.and_eq_true]; exact fun e => Bool.noConfusion (e.1.symm.trans hg17)
  refine q3 4 45 46 true hg17 ?_
  refine q3 4 45 47 true hg17 ?_
  refine q3 4 45 48 true hg17 ?_
  refine q3 4 45 49 true hg17 ?_
  refine J.z (q10 hg17) ?_
  refine J.c0 (fun hc26 => ?_)
  refine Cj.kb (Cj.region (J.z q7 ?_))
  refine J.z q0 ?_
  refine J.nil (Ej.keep (Keeps.d Keeps.r) ?_)
  refine Ej.round ⟨j + 1, _, xs, g⟩ ⟨by dsimp only; omega, hIJ, by dsimp only; rw [vals_next hget]; unfold Ix.vals1; rw [if_neg hany, List.append_nil]; exact hX, by dsimp only; exact hg⟩ (by dsimp only; omega) ⟨rfl, rfl, rfl, rfl, trivial⟩ rfl rfl
 have hc2p := odf hc2
 refine Cj.xl (Cj.seq ?_)
 have hfull : fs.take j = fs := List.take_of_length_le (by omega)
 rw [hfull] at hX
 refine Cj.perm (H' := gH _ _ _ ++ []) (.of_eq (List.append_nil _)) ?_
 refine Cj.keepT vwC_len (by decide) hg rfl (fun I8 hle8 hv => ?_)
 have hX := hX.mono hle8
 refine Cj.region (J.z q0 ?_)
 refine J.z q1 ?_
 refine J.ns (Cj.ret (q6 ?_))
 exact ⟨_, rfl, ⟨xs, hv, hX⟩, rfl⟩
end Go.Proofs.YtjcdfnbomkoheaaGreatDoor
end
section
namespace Go.Sx
open Go
section
variable {cx : Cx} {Q : Qt} {o : Oper} {e : Env} {I : Heap} {H : HL} {C : Ct} {S : World → Prop} {α : Type} [BEq α] [LawfulBEq α]
def mit (m since : Nat) (vis : ML α) (last : Nat) : Obj := .mapIter (some m) since (vis.map (·.2.2)).toArray last
omit [BEq α] [LawfulBEq α] in
theorem op_rangeMap {T K E d m c : Nat} {x : Operand} {kv : α → Value} {l : ML α} (ho : o.op = .range T x) (hd : o.dst = some d) (hn : Nat.blt d cx.n = true) (hx : ev e x = some (.map (some m))) (hu : cx.P.underlying T = some (.map K E)) (hb : Blk (SS I H) m (mobj kv l c))
    (k : ∀ b, cx.w0.heap.size ≤ b → C ((d, ptr b 0) :: e) I ((b, mit m c ([] : ML α) c) :: H)) : OpJ cx Q o e I H C := by
  intro Kk hK a w ha hs
  unfold Oper.wp
  have : (execOp a.eval o).run cx.P w = .ok (.value (ptr w.heap.size 0)) { w with heap := w.heap.push (mit m c ([] : ML α) c) } := by
    have hr := run_range_map (P := cx.P) w T K E m _ c hu (hb w hs.ss)
    simp only [execOp, ho, ha.eval hx, Sem.run_bind, hr, Result.andThen_ok, Sem.run_pure]
    rfl
  rw [this]
  simp only [Oper.upon, hd]
  exact hK _ _ _ (k _ hs.size) _ _ (ha.put hn) (hs.alloc _)
theorem op_rangeNil {T K E d : Nat} {x : Operand} (ho : o.op = .range T x) (hd : o.dst = some d) (hn : Nat.blt d cx.n = true) (hx : ev e x = some (.map none)) (hu : cx.P.underlying T = some (.map K E))
    (k : ∀ b, cx.w0.heap.size ≤ b → C ((d, ptr b 0) :: e) I ((b, .mapIter none 0 #[] 0) :: H)) : OpJ cx Q o e I H C := by
  intro Kk hK a w ha hs
  unfold Oper.wp
  have : (execOp a.eval o).run cx.P w = .ok (.value (ptr w.heap.size 0)) { w with heap := w.heap.push (.mapIter none 0 #[] 0) } := by
    have hr := run_range_nilMap (P := cx.P) w T K E hu
    simp only [execOp, ho, ha.eval hx, Sem.run_bind, hr, Result.andThen_ok, Sem.run_pure]
    rfl
  rw [this]
  simp only [Oper.upon, hd]
  exact hK _ _ _ (k _ hs.size) _ _ (ha.put hn) (hs.alloc _)
theorem op_nextNil {d b : Nat} {x : Operand} (i : Nat) (ho : o.op = .next x false) (hd : o.dst = some d) (hn : Nat.blt d cx.n = true) (hx : ev e x = some (ptr b 0)) (hH : H[i]? = some (b, .mapIter none 0 #[] 0))
    (k : C ((d, .tuple #[.bool false]) :: e) I H) : OpJ cx Q o e I H C := by
  intro Kk hK a w ha hs
  unfold Oper.wp
  have hb := hs.own _ (List.mem_of_getElem? hH)
  have : (execOp a.eval o).run cx.P w = .ok (.value (.tuple #[.bool false])) w := by
    simp only [execOp, ho, ha.eval hx, Instr.next, getObj, Sem.run_bind, Sem.run, hb, Result.andThen]
    rfl
  rw [this]
  simp only [Oper.upon, hd]
  exact hK _ _ _ k _ _ (ha.put hn) hs
omit [BEq α] [LawfulBEq α] in
theorem op_nextMap {d b m since last c : Nat} {x : Operand} {kv : α → Value} {l vis rest : ML α} (i : Nat) (ho : o.op = .next x false) (hd : o.dst = some d) (hn : Nat.blt d cx.n = true) (hx : ev e x = some (ptr b 0)) (hH : H[i]? = some (b, mit m since vis last)) (hm : Blk (SS I H) m (mobj kv l c))
    (hold : ∀ p ∈ l, p.2.2 < since) (hsc : since ≤ last) (hnd : (l.map (·.2.2)).Nodup) (hp : (vis ++ rest).Perm l)
    (k1 : ∀ (p : α × Value × Nat) (r : ML α) (H' : HL), rest.Perm (p :: r) → (vis ++ [p] ++ r).Perm l → LSet H i (b, mit m since (vis ++ [p]) c) H' → C ((d, .tuple #[.bool true, kv p.1, p.2.1]) :: e) I H')
    (k0 : rest = [] → C ((d, .tuple #[.bool false]) :: e) I H) : OpJ cx Q o e I H C := by
  intro Kk hK a w ha hs
  unfold Oper.wp
  have hb := hs.own _ (List.mem_of_getElem? hH)
  have hmw := hm w hs.ss
  have hrun := run_next_at (P := cx.P) w o.type b m since last _ _ c hb hmw (by
    intro y hy
    simp only [List.mem_map] at hy
    obtain ⟨p, hp, rfl⟩ := hy
    exact hold p hp) hsc
  have hnd2 : ((vis ++ rest).map (·.2.2)).Nodup := (hp.map _).nodup_iff.2 hnd
  have hexec : (execOp a.eval o).run cx.P w = ((Instr.next (.pointer (some ⟨b, 0, none⟩)) false o.type).run cx.P w).andThen fun v w' => .ok (.value v) w' := by
    simp only [execOp, ho, ha.eval hx, Sem.run_bind]
    rfl
  have hin : ∀ p : α × Value × Nat, p ∈ l → ((vis.map (·.2.2)).toArray.contains p.2.2 = true ↔ p ∈ vis) := fun p hpl => by
    have hpm : p ∈ vis ++ rest := hp.mem_iff.2 hpl
    rw [Array.contains_iff_mem]
    simp only [List.mem_toArray, List.mem_map]
    constructor
    · rintro ⟨q, hq, he⟩
      rcases List.mem_append.1 hpm with h | h
      · exact h
      rw [List.map_append, List.nodup_append] at hnd2
      exact absurd he (hnd2.2.2 _ (List.mem_map_of_mem hq) _ (List.mem_map_of_mem h))
    exact fun h => ⟨p, h, rfl⟩
  rcases hrun with ⟨h0, hr⟩ | ⟨en, hen, w1, hw1, hr⟩
  · rw [hexec, hr]
    simp only [Result.andThen_ok, Oper.upon, hd]
    refine hK _ _ _ (k0 ?_) _ _ (ha.put hn) hs
    rcases rest with _ | ⟨p, r⟩
    · rfl
    exfalso
    have hpl : p ∈ l := hp.mem_iff.1 (List.mem_append_right _ (.head _))
    have hpv : p ∉ vis := fun h => by
      rw [List.map_append, List.nodup_append] at hnd2
      exact hnd2.2.2 _ (List.mem_map_of_mem h) _ (List.mem_map_of_mem (.head _)) rfl
    have : ment kv p ∈ leftOf (l.map (ment kv)).toArray (vis.map (·.2.2)).toArray := by
      unfold leftOf
      rw [Array.mem_filter]
      refine ⟨by simp only [List.mem_toArray]; exact List.mem_map_of_mem hpl, ?_⟩
      have := (not_congr (hin p hpl)).2 hpv
      simp only [Bool.not_eq_true] at this
      show (!Array.contains _ p.2.2) = true
      rw [this]; rfl
    have h1 := Array.eq_empty_of_size_eq_zero h0
    rw [h1] at this
    simp at this
  rw [hexec, hr]
  simp only [Result.andThen_ok, Oper.upon, hd]
  have hen2 : en ∈ leftOf (l.map (ment kv)).toArray (vis.map (·.2.2)).toArray := by simpa using hen
  unfold leftOf at hen2
  rw [Array.mem_filter] at hen2
  obtain ⟨hel, hns⟩ := hen2
  simp only [List.mem_toArray, List.mem_map] at hel
  obtain ⟨p, hpl, rfl⟩ := hel
  have hpv : p ∉ vis := fun h => by
    have := (hin p hpl).2 h
    change (!Array.contains _ p.2.2) = true at hns
    rw [this] at hns; cases hns
  have hpr : p ∈ rest := (List.mem_append.1 (hp.mem_iff.2 hpl)).resolve_left hpv
  obtain ⟨r1, r2, hrr⟩ := List.append_of_mem hpr
  have hperm : rest.Perm (p :: (r1 ++ r2)) := by rw [hrr]; exact List.perm_middle
  have hperm2 : (vis ++ [p] ++ (r1 ++ r2)).Perm l := by
    refine List.Perm.trans ?_ hp
    rw [List.append_assoc]
    exact List.Perm.append_left _ hperm.symm
  have hset : LSet H i (b, mit m since (vis ++ [p]) c) (H.set i (b, mit m since (vis ++ [p]) c)) := ⟨(List.getElem?_eq_some_iff.1 hH).1, rfl⟩
  have hk := k1 p (r1 ++ r2) _ hperm hperm2 hset
  have hst : St cx.w0 cx.D cx.I0 I (H.set i (b, mit m since (vis ++ [p]) c)) (ChangeMaps.setBlock w1 b (.mapIter (some m) since ((vis.map (·.2.2)).toArray.push p.2.2) c)) := by
    have he : (.mapIter (some m) since ((vis.map (·.2.2)).toArray.push p.2.2) c : Obj) = mit m since (vis ++ [p]) c := by simp [mit]
    rw [show (ment kv p).born = p.2.2 from rfl] at *
    rw [he]
    rcases hw1 with rfl | rfl
    · exact hs.block hH hset
    exact (hs.drewN (w.drawn + 1)).block hH hset
  exact hK _ _ _ hk _ _ (ha.put hn) hst
omit [LawfulBEq α] in
theorem yl_lookupNil1 {T K E : Nat} {m x : Operand} {kv : α → Value} {a : α} {z : Value} {kx : Value} (ho : o.op = .lookup T m x false) (hm : ev e m = some (.map none)) (hx : ev e x = some kx) (hkx : kx = kv a) (hT : cx.P.underlying T = some (.map K E)) (hK : KeyK cx.P K kv) (hz : ∀ w, (zeroValue E).run cx.P w = .ok z w) : Yld cx o e S z := by
  intro w0 w ha _
  subst hkx
  have h1 := hK.1 a [] w
  have h2 : (Instr.findKey K (kv a) []).run cx.P w = .ok none w := h1
  simp [execOp, ho, ha.eval hm, ha.eval hx, Instr.lookup, run_underlying hT, hK.2.1, h2, hz]
omit [BEq α] [LawfulBEq α] in
theorem yl_lenMap {x : Operand} {T K E b c : Nat} {kv : α → Value} {l : ML α} (ho : o.op = .call ⟨.builtin .len, #[x], #[T]⟩) (hx : ev e x = some (.map (some b))) (hu : cx.P.underlying T = some (.map K E)) (hb : Blk S b (mobj kv l c)) : Yld cx o e S (i64 (l.length : Int)) := by
  intro a w ha hs
  have h := hb w hs
  simp [execOp, ho, resolve, invoke, builtin, Builtin.len_, ha.eval hx, run_underlying hu, goInt, getObj, Sem.run, h, mobj]
end
end Go.Sx
namespace Go.Sx
open Go
section
variable {P : Program} {K i : TypeId} {f0 f1 : Field}
theorem run_part0 {xs : Array Value} {t off : Nat} {v : Value} {w : World} (ha : ∀ w, (isAgg t).run P w = .ok false w) (hv : xs[off]? = some v) : (part t xs off).run P w = .ok v w := by
  simp [part, ha, hv]
theorem stru_equal2 (hu : P.underlying K = some (.struct #[f0, f1])) (hp : P.stoodInHeld K = false) (n0 : f0.name ≠ "_") (n1 : f1.name ≠ "_") (o0 : f0.offset = 0) (o1 : f1.offset = 1) (a0 : ∀ w, (isAgg f0.type).run P w = .ok false w) (a1 : ∀ w, (isAgg f1.type).run P w = .ok false w)
    {x0 x1 y0 y1 : Value} {b0 b1 : Bool} (w : World) (e0 : ∀ d w, (Op.equalIn (d + 1) f0.type x0 y0).run P w = .ok b0 w) (e1 : ∀ d w, (Op.equalIn (d + 1) f1.type x1 y1).run P w = .ok b1 w) : ∀ d, (Op.equalIn (d + 2) K (.agg #[x0, x1]) (.agg #[y0, y1])).run P w = .ok (b0 && b1) w := by
  intro d
  have hf : P.fieldsOf K = #[f0, f1] := by simp [Program.fieldsOf, hu]
  rw [run_equalIn_struct w (d + 1) K _ _ (by rw [hf]; exact hu) hp, hf]
  have p0 : ∀ (a b : Value) w, (part f0.type #[a, b] f0.offset).run P w = .ok a w := fun a b w => run_part0 a0 (by rw [o0]; rfl)
  have p1 : ∀ (a b : Value) w, (part f1.type #[a, b] f1.offset).run P w = .ok b w := fun a b w => run_part0 a1 (by rw [o1]; rfl)
  simp only [Op.eqFields, n0, n1, ne_eq, not_false_eq_true, if_true, Sem.run_bind, p0, e0, Result.andThen_ok]
  cases b0
  · simp
  cases b1 <;> simp [Sem.run_bind, p1, e1]
theorem stru_check2 (hu : P.underlying K = some (.struct #[f0, f1])) (n0 : f0.name ≠ "_") (n1 : f1.name ≠ "_") (o0 : f0.offset = 0) (o1 : f1.offset = 1) (a0 : ∀ w, (isAgg f0.type).run P w = .ok false w) (a1 : ∀ w, (isAgg f1.type).run P w = .ok false w)
    {x0 x1 : Value} (b : Bool) (w : World) (e0 : ∀ d w, (Instr.checkKey b (d + 1) f0.type x0).run P w = .ok () w) (e1 : ∀ d w, (Instr.checkKey b (d + 1) f1.type x1).run P w = .ok () w) : ∀ d, (Instr.checkKey b (d + 2) K (.agg #[x0, x1])).run P w = .ok () w := by
  intro d
  have p0 : ∀ w, (part f0.type #[x0, x1] f0.offset).run P w = .ok x0 w := fun w => run_part0 a0 (by rw [o0]; rfl)
  have p1 : ∀ w, (part f1.type #[x0, x1] f1.offset).run P w = .ok x1 w := fun w => run_part0 a1 (by rw [o1]; rfl)
  have e0' := e0 d
  have e1' := e1 d
  generalize hc : Instr.checkKey b (d + 1) = ck at e0' e1'
  rw [show d + 2 = (d + 1) + 1 from rfl, Instr.checkKey]
  rw [hc]
  simp [Sem.run_bind, run_underlying hu, n0, n1, p0, p1, e0', e1']
theorem check_int {b : Bool} {t : TypeId} {k : IntKind} (hu : P.underlying t = some (.int k)) (a : Int) (d : Nat) (w : World) : (Instr.checkKey b (d + 1) t (.int k a)).run P w = .ok () w := by simp [Instr.checkKey, run_underlying hu]
theorem KeyK.ints2 (hu : P.underlying K = some (.struct #[f0, f1])) (hp : P.stoodInHeld K = false) (n0 : f0.name ≠ "_") (n1 : f1.name ≠ "_") (o0 : f0.offset = 0) (o1 : f1.offset = 1) (t0 : f0.type = i) (t1 : f1.type = i) (hi : P.underlying i = some (.int .i64)) (ha : ∀ w, (isAgg i).run P w = .ok false w) :
    KeyK P K (fun a : Int × Int => .agg #[i64 a.1, i64 a.2]) := by
  subst t0
  refine KeyK.equal hu (fun a b => rfl) (fun a b w => ?_) (fun b a w => ?_) (fun a => ?_)
  · have h := stru_equal2 hu hp n0 n1 o0 o1 ha (t1 ▸ ha) (x0 := i64 a.1) (x1 := i64 a.2) (y0 := i64 b.1) (y1 := i64 b.2) w (fun d w => run_equalIn_int w d _ .i64 .i64 a.1 b.1 hi) (fun d w => run_equalIn_int w d _ .i64 .i64 a.2 b.2 (t1 ▸ hi)) 9998
    exact h
  · exact stru_check2 hu n0 n1 o0 o1 ha (t1 ▸ ha) b w (fun d w => check_int hi _ d w) (fun d w => check_int (t1 ▸ hi) _ d w) 9998
  show Instr.sameBits (9999 + 1) _ _ = true
  simp [Instr.sameBits]
end
end Go.Sx
end
