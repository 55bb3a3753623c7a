/-
  Own texts on the laws of the seat, joined: the logic, and contracts of functions. Conditions: none.
-/
import Derived.Test.YtjcdfnbomkoheaaGreatDoorNmR
import Derived.Test.YtjcdfnbomkoheaaGreatDoorPR5
import Derived.Lib.SlicesCompact
import Derived.Sort.Walk0
set_option maxRecDepth 100000
set_option maxHeartbeats 4000000
section
namespace Go.Proofs.YtjcdfnbomkoheaaGreatDoor
open _root_.Go.Proofs.Tryz
open Go Go.Sx
theorem bcs_at {l : List UInt8} {sp : List Value} {k : Nat} {c : UInt8} (h : l[k]? = some c) : (bcs l ++ sp)[k]? = some (u8 c) := by
  obtain ⟨hlt, _⟩ := List.getElem?_eq_some_iff.1 h
  rw [List.getElem?_append_left (by rw [bcs_len]; exact hlt), bcs, List.getElem?_map, h]; rfl
theorem w8 {x : Int} (h : 0 ≤ x ∧ x ≤ 255) : IntKind.u8.wrap x = x := by
  simp [IntKind.wrap, IntKind.bits, IntKind.signed]; omega
theorem csum_le : ∀ (l : List UInt8) (k : Nat), Ke.csum k l ≤ 1000 * l.length
  | [], _ => by simp [Ke.csum]
  | c :: r, k => by
    have h1 := csum_le r (k + 1)
    have h2 := c.toNat_lt
    have h3 : (c.toNat - 48) * (1 + 2 * (k % 2)) ≤ 255 * 3 := Nat.mul_le_mul (by omega) (by omega)
    simp only [Ke.csum, List.length_cons]; omega
theorem csum_next {l : List UInt8} {k : Nat} {c : UInt8} (h : l[k]? = some c) : Ke.csum 0 (l.take (k + 1)) = Ke.csum 0 (l.take k) + (c.toNat - 48) * (1 + 2 * (k % 2)) := by
  obtain ⟨hlt, hg⟩ := List.getElem?_eq_some_iff.1 h
  rw [List.take_succ_eq_append_getElem hlt, hg, Ke.csum_app, Ke.csum, Ke.csum, List.length_take, Nat.min_eq_left (by omega), Nat.zero_add, Nat.add_zero]
theorem val_le (c : UInt8) : Ke.val c ≤ 255 := by
  have h2 := c.toNat_lt
  unfold Ke.val; split <;> omega
theorem rsum_le : ∀ (l : List UInt8) (k : Nat), Ke.rsum k l ≤ 2550 * l.length
  | [], _ => by simp [Ke.rsum]
  | c :: r, k => by
    have h1 := rsum_le r (k + 1)
    have h3 : (10 - k) * Ke.val c ≤ 10 * 255 := Nat.mul_le_mul (by omega) (val_le c)
    simp only [Ke.rsum, List.length_cons]; omega
theorem rsum_next {l : List UInt8} {k : Nat} {c : UInt8} (h : l[k]? = some c) : Ke.rsum 0 (l.take (k + 1)) = Ke.rsum 0 (l.take k) + (10 - k) * Ke.val c := by
  obtain ⟨hlt, hg⟩ := List.getElem?_eq_some_iff.1 h
  rw [List.take_succ_eq_append_getElem hlt, hg, Ke.rsum_app, Ke.rsum, Ke.rsum, List.length_take, Nat.min_eq_left (by omega), Nat.zero_add, Nat.add_zero]
theorem digits_at {l : List UInt8} {k : Nat} {c : UInt8} (hd : Ke.digits l = true) (h : l[k]? = some c) : 48 ≤ c.toNat ∧ c.toNat ≤ 57 := Ke.digit_iff.1 (List.all_eq_true.1 hd c (lmg h))
theorem check_ok (s : List UInt8) (h12 : 12 ≤ s.length) (hs : s.length ≤ 1000000) (hd : Ke.digits (s.take 12) = true) (I : Heap) : Pure Tryz.prog 125 [str s] I (u8 (Ke.check s)) := by
 refine Ctr.toPure ?_
 have hul : (s.take 12).length = 12 := by rw [List.length_take]; omega
 refine Ctr.ob func125 ?_
 intro w0 hw0
 refine Cj.sr (J.z q1 ?_)
 refine J.nssr (J.z q1 ?_)
 refine J.nsss (Cj.region (J.z q0 ?_))
 refine J.z (q49 (p := 0) (q := 12) tU9) ?_
 refine J.eqv 7 rfl (show _ = str (s.take 12) from (by rw [List.drop_zero])) ?_
 refine J.op rfl (op_toBytes rfl rfl rfl rfl tU9 tU71 tU5 ?_)
 intro b1 c2 sp3 fr4 hb1 hfr4
 refine J.z (q14 tU71) ?_
 refine J.z q0 ?_
 refine J.ns (Cj.block (Cj.loop (ι := Nat) (fun j => j ≤ (s.take 12).length) (fun j => (s.take 12).length - j) (fun j => [(0, str s), (3, i64 ((Ke.csum 0 ((s.take 12).take j) : Nat) : Int)), (8, .slice (some ⟨b1, 0, none⟩) (s.take 12).length c2), (9, i64 ((s.take 12).length : Int)), (10, i64 (j : Int))]) (fun j => I) (fun j => [(b1, .cells (bcs (s.take 12) ++ sp3).toArray 5 (fr4, fr4 + 1))]) 0 (Nat.zero_le _) ⟨rfl, rfl, rfl, rfl, rfl, trivial⟩ rfl rfl ?_))
 intro j hj
 have hsl := csum_le ((s.take 12).take j) 0
 rw [List.length_take, Nat.min_eq_left hj] at hsl
 refine Cj.sr (J.z q16 ?_)
 refine J.nss (Cj.cond rfl (fun hc5 => ?_) (fun hc5 => ?_))
 ·
  have hc5p := odt hc5
  have hlt : j < (s.take 12).length := by omega
  obtain ⟨c, hget⟩ : ∃ c, (s.take 12)[j]? = some c := ⟨_, lgg hlt⟩
  have hc := digits_at hd hget
  have hm : (c.toNat - 48) * (1 + 2 * (j % 2)) ≤ 9 * 3 := Nat.mul_le_mul (by omega) (by omega)
  refine Cj.ks (Cj.seq (Cj.block (Cj.sr (J.z q0 ?_))))
  refine J.z (q20 (off' := j) tU71 tS5) ?_
  refine J.z (yl_load rfl rfl tA5 (Blk.at 0 rfl) (bcs_at hget)) ?_
  refine J.z q1 ?_
  refine J.z q1 ?_
  refine J.nsr (J.z q0 ?_)
  refine J.z q0 ?_
  refine J.z (yl_sub rfl rfl rfl (w8 (by omega))) ?_
  refine J.z (yl_convInt rfl rfl tU5 tU3) ?_
  refine J.eqv 18 rfl (show _ = i64 ((c.toNat - 48 : Nat) : Int) from (congrArg i64 ((w64 (by omega)).trans (by omega)))) ?_
  refine J.z q0 ?_
  refine J.z (yl_rem rfl rfl rfl (by decide)) ?_
  refine J.eqv 20 rfl (show _ = i64 ((j % 2 : Nat) : Int) from rfl) ?_
  refine J.z (yl_mul rfl rfl rfl (w64 (by omega))) ?_
  refine J.z q7 ?_
  refine J.eqv 22 rfl (show _ = i64 ((1 + 2 * (j % 2) : Nat) : Int) from (congrArg i64 (by omega))) ?_
  refine J.z (yl_mul rfl rfl rfl (w64 (by rw [← Int.natCast_mul]; omega))) ?_
  refine J.eqv 23 rfl (show _ = i64 (((c.toNat - 48) * (1 + 2 * (j % 2)) : Nat) : Int) from (congrArg i64 (Int.natCast_mul _ _).symm)) ?_
  refine J.z q7 ?_
  refine J.z q1 ?_
  refine J.nb (Cj.region (J.z q7 ?_))
  refine J.z q0 ?_
  refine J.nil (Ej.round (j + 1) (by omega) (by omega) ⟨rfl, by rw [csum_next hget]; exact congrArg (fun z => some (Value.int .i64 z)) (by omega), rfl, rfl, rfl, trivial⟩ rfl rfl)
 have hc5p := odf hc5
 have hfull : (s.take 12).take j = s.take 12 := List.take_of_length_le (by omega)
 refine Cj.xl (Cj.sr (J.z q0 ?_))
 refine J.z (yl_rem rfl rfl rfl (by decide)) ?_
 refine J.eqv 27 rfl (show _ = i64 ((Ke.csum 0 (s.take 12) % 10 : Nat) : Int) from (by rw [hfull]; rfl)) ?_
 refine J.z q47 ?_
 refine J.eqv 28 rfl (show _ = i64 ((10 - Ke.csum 0 (s.take 12) % 10 : Nat) : Int) from (congrArg i64 (by omega))) ?_
 refine J.z (yl_rem rfl rfl rfl (by decide)) ?_
 refine J.eqv 29 rfl (show _ = i64 (((10 - Ke.csum 0 (s.take 12) % 10) % 10 : Nat) : Int) from rfl) ?_
 refine J.z q7 ?_
 refine J.eqv 30 rfl (show _ = i64 ((48 + (10 - Ke.csum 0 (s.take 12) % 10) % 10 : Nat) : Int) from (congrArg i64 (by omega))) ?_
 refine J.z (yl_convInt rfl rfl tU3 tU5) ?_
 refine J.eqv 31 rfl (show _ = u8 (Ke.check s) from (congrArg (Value.int .u8) (conv8 (by omega)))) ?_
 refine J.z q1 ?_
 refine J.ns (Cj.ret (Ej.keep (List.nil_sublist _) ?_))
 refine q6 ?_
 exact ⟨rfl, rfl⟩
theorem rightShort_ok (s : List UInt8) (h10 : s.length = 10) (hx : ∀ c ∈ s, Ke.digit c = true ∨ c = 88) (I : Heap) : Pure Tryz.prog 124 [str s] I (.bool (Ke.rightShort s)) := by
 refine Ctr.toPure ?_
 refine Ctr.ob func124 ?_
 intro w0 hw0
 refine Cj.sr (J.z q1 ?_)
 refine J.nssr (J.z q1 ?_)
 refine J.nsss (Cj.region (J.z q0 ?_))
 refine J.op rfl (op_toBytes rfl rfl rfl rfl tU9 tU71 tU5 ?_)
 intro b1 c2 sp3 fr4 hb1 hfr4
 refine J.z (q14 tU71) ?_
 refine J.z q0 ?_
 refine J.ns (Cj.block (Cj.loop (ι := Nat) (fun j => j ≤ s.length) (fun j => s.length - j) (fun j => [(0, str s), (3, i64 ((Ke.rsum 0 (s.take j) : Nat) : Int)), (8, .slice (some ⟨b1, 0, none⟩) s.length c2), (9, i64 (s.length : Int)), (10, i64 (j : Int))]) (fun j => I) (fun j => [(b1, .cells (bcs s ++ sp3).toArray 5 (fr4, fr4 + 1))]) 0 (Nat.zero_le _) ⟨rfl, rfl, rfl, rfl, rfl, trivial⟩ rfl rfl ?_))
 intro j hj
 have hsl := rsum_le (s.take j) 0
 rw [List.length_take, Nat.min_eq_left hj] at hsl
 refine Cj.sr (J.z q16 ?_)
 refine J.nss (Cj.cond rfl (fun hc5 => ?_) (fun hc5 => ?_))
 ·
  have hc5p := odt hc5
  have hlt : j < s.length := by omega
  obtain ⟨c, hget⟩ : ∃ c, s[j]? = some c := ⟨_, lgg hlt⟩
  have hc : 48 ≤ c.toNat := (hx c (lmg hget)).elim (fun h => (Ke.digit_iff.1 h).1) (fun h => by subst h; decide)
  have hc2 := c.toNat_lt
  have hm : (10 - j) * Ke.val c ≤ 10 * 255 := Nat.mul_le_mul (by omega) (val_le c)
  refine Cj.ks (Cj.seq (Cj.block (Cj.sr (J.z q0 ?_))))
  refine J.z (q20 (off' := j) tU71 tS5) ?_
  refine J.z (yl_load rfl rfl tA5 (Blk.at 0 rfl) (bcs_at hget)) ?_
  refine J.z q1 ?_
  refine J.z q1 ?_
  refine J.nssr (J.z q0 ?_)
  refine J.z (yl_sub rfl rfl rfl (w8 (by omega))) ?_
  refine J.z (yl_convInt rfl rfl tU5 tU3) ?_
  refine J.eqv 17 rfl (show _ = i64 ((c.toNat - 48 : Nat) : Int) from (congrArg i64 ((w64 (by omega)).trans (by omega)))) ?_
  refine J.z q1 ?_
  refine J.nsss (Cj.region (J.z q0 ?_))
  refine J.z q22 ?_
  refine J.cd (fun hc6 => ?_) (fun hc6 => ?_)
  ·
   have hc6p := ebq hc6
   have hcv : Ke.val c = 10 := by
     have h : (c.toNat : Int) = 88 := ebq hc6
     unfold Ke.val; rw [if_pos (UInt8.toNat_inj.1 (by rw [show (88 : UInt8).toNat = 88 from rfl]; omega))]
   refine Cj.region (J.z q1 ?_)
   refine J.nsr (J.z q0 ?_)
   refine J.z q0 ?_
   refine J.z q47 ?_
   refine J.eqv 22 rfl (show _ = i64 ((10 - j : Nat) : Int) from (congrArg i64 (by omega))) ?_
   refine J.z q0 ?_
   refine J.eqv 23 rfl (show _ = i64 ((Ke.val c : Nat) : Int) from (congrArg i64 (by omega))) ?_
   refine J.z (yl_mul rfl rfl rfl (w64 (by rw [← Int.natCast_mul]; omega))) ?_
   refine J.eqv 24 rfl (show _ = i64 (((10 - j) * Ke.val c : Nat) : Int) from (congrArg i64 (Int.natCast_mul _ _).symm)) ?_
   refine J.z q7 ?_
   refine J.z q1 ?_
   refine J.nb (Cj.region (J.z q7 ?_))
   refine J.z q0 ?_
   refine J.nil (Ej.round (j + 1) (by omega) (by omega) ⟨rfl, by rw [rsum_next hget]; exact congrArg (fun z => some (Value.int .i64 z)) (by omega), rfl, rfl, rfl, trivial⟩ rfl rfl)
  have hc6p := nbf hc6
  have hcv : Ke.val c = c.toNat - 48 := by
    have h : ¬ (c.toNat : Int) = 88 := nbf hc6
    unfold Ke.val; rw [if_neg (fun e => h (by subst e; rfl))]
  refine Cj.ks (Cj.region (J.z q0 ?_))
  refine J.z q0 ?_
  refine J.z q47 ?_
  refine J.eqv 22 rfl (show _ = i64 ((10 - j : Nat) : Int) from (congrArg i64 (by omega))) ?_
  refine J.z q0 ?_
  refine J.eqv 23 rfl (show _ = i64 ((Ke.val c : Nat) : Int) from (congrArg i64 (by omega))) ?_
  refine J.z (yl_mul rfl rfl rfl (w64 (by rw [← Int.natCast_mul]; omega))) ?_
  refine J.eqv 24 rfl (show _ = i64 (((10 - j) * Ke.val c : Nat) : Int) from (congrArg i64 (Int.natCast_mul _ _).symm)) ?_
  refine J.z q7 ?_
  refine J.z q1 ?_
  refine J.nb (Cj.region (J.z q7 ?_))
  refine J.z q0 ?_
  refine J.nil (Ej.round (j + 1) (by omega) (by omega) ⟨rfl, by rw [rsum_next hget]; exact congrArg (fun z => some (Value.int .i64 z)) (by omega), rfl, rfl, rfl, trivial⟩ rfl rfl)
 have hc5p := odf hc5
 have hfull : s.take j = s := List.take_of_length_le (by omega)
 refine Cj.xl (Cj.sr (J.z q0 ?_))
 refine J.z (yl_rem rfl rfl rfl (by decide)) ?_
 refine J.eqv 28 rfl (show _ = i64 ((Ke.rsum 0 s % 11 : Nat) : Int) from (by rw [hfull]; rfl)) ?_
 refine J.z q22 ?_
 refine J.z q0 ?_
 refine q15 30 (fun hg7 => ?_) (fun hg7 => ?_)
 ·
  have hr : (Ke.rsum 0 s % 11 == 0) = true := beq_iff_eq.2 (by have h := ebq hg7; omega)
  refine q3 3 30 true hg7 (q2 q0 ?_)
  refine J.opG 3 30 true _ rfl rfl rfl hg7 (op_yld (q49 (p := 0) (q := 9) tU9) rfl rfl ?_)
  refine J.eqv 32 rfl (show _ = str (s.take 9) from (by rw [List.drop_zero])) ?_
  refine J.opG 3 30 true _ rfl rfl rfl hg7 (op_pure rfl rfl rfl rfl rfl (isDigits_ok (s.take 9) (by rw [List.length_take]; omega) _) ?_)
  refine J.z (q11 hg7) ?_
  refine J.z q1 ?_
  refine J.ns (Cj.ret (Ej.keep (List.nil_sublist _) ?_))
  refine q6 ?_
  exact ⟨congrArg (fun b => Ending.returned (.bool b)) (by unfold Ke.rightShort; rw [hr]; rfl), rfl⟩
 have hr : (Ke.rsum 0 s % 11 == 0) = false := beq_eq_false_iff_ne.2 (fun e => nbf hg7 (by rw [e]; rfl))
 refine q4 3 30 31 true hg7 ?_
 refine q4 3 30 32 true hg7 ?_
 refine q4 3 30 33 true hg7 ?_
 refine J.z (q9 hg7) ?_
 refine J.z q1 ?_
 refine J.ns (Cj.ret (Ej.keep (List.nil_sublist _) ?_))
 refine q6 ?_
 exact ⟨congrArg (fun b => Ending.returned (.bool b)) (by unfold Ke.rightShort; rw [hr]; rfl), rfl⟩
theorem norm_chars (s : List UInt8) : ∀ c ∈ Ke.norm s, Ke.digit c = true ∨ c = 88 := fun c hc => by
  obtain ⟨d, hd, rfl⟩ := List.mem_map.1 hc
  obtain ⟨h1, h2⟩ := List.mem_filter.1 hd
  have h3 : Ke.okb d = true := List.all_eq_true.1 (List.all_takeWhile (p := Ke.okb)) d h1
  revert h2 h3
  exact Ke.byte_all (p := fun d => Ke.nb d = true → Ke.okb d = true → Ke.digit (Ke.up d) = true ∨ Ke.up d = 88) (by decide +kernel) d
theorem norm_len (s : List UInt8) : (Ke.norm s).length ≤ s.length := by
  unfold Ke.norm
  rw [List.length_map]
  exact nlt (List.length_filter_le _ _) (List.takeWhile_prefix _).length_le
theorem ToUpper_ok (s : List UInt8) (hs : s.length ≤ 1000000000) (I : Heap) : Pure Tryz.prog 121 [str (Ke.rep (s.takeWhile Ke.okb))] I (str (Ke.norm s)) := by
  refine Pure.of_below (Enters.of func121 (by decide) rfl) fun w _ => ?_
  have hall : ∀ c ∈ Ke.rep (s.takeWhile Ke.okb), c.toNat < 128 ∧ Lib.upperB c = Ke.up c := fun c hc => by
    obtain ⟨h1, h2⟩ := List.mem_filter.1 hc
    have h3 : Ke.okb c = true := List.all_eq_true.1 (List.all_takeWhile (p := Ke.okb)) c h1
    revert h3
    exact Ke.byte_all (p := fun c => Ke.okb c = true → c.toNat < 128 ∧ Lib.upperB c = Ke.up c) (by decide +kernel) c
  have hl : (Ke.rep (s.takeWhile Ke.okb)).length ≤ s.length := nlt (List.length_filter_le _ _) (List.takeWhile_prefix _).length_le
  have h := Tryz.strings_ToUpper_ascii ⟨(Ke.rep (s.takeWhile Ke.okb)).toArray⟩ w (by rw [size_mk]; omega) (fun j b hb => by rw [ba_list] at hb; exact (hall b (lmg hb)).1)
  rw [ba_list] at h
  have e : Lib.toUpperA (Ke.rep (s.takeWhile Ke.okb)) = Ke.norm s := List.map_congr_left fun c hc => (hall c hc).2
  rw [e] at h
  exact h
theorem check_app {a b : List UInt8} (h : a.length = 12) : Ke.check (a ++ b) = Ke.check a := by
  unfold Ke.check; rw [List.take_append_of_le_length (by omega)]
theorem digits_12 {a b : List UInt8} (h : Ke.digits a = true) (hl : a.length = 9) : Ke.digits (([57, 55, 56] ++ a ++ b).take 12) = true := by
  rw [List.take_append_of_le_length (by simp; omega), List.take_of_length_le (by simp; omega), Ke.digits_app, h]; rfl
theorem Isbn_ok (s : List UInt8) (hs : s.length ≤ 100000000) (I : Heap) : Pure Tryz.prog 86 [str s] I (.tuple #[str (Ke.isbn s).1, .bool (Ke.isbn s).2]) := by
 refine Ctr.toPure ?_
 have hnc := norm_chars s
 have hnl := norm_len s
 have htl : (s.takeWhile Ke.okb).length ≤ s.length := (List.takeWhile_prefix _).length_le
 refine Ctr.ob func86 ?_
 intro w0 hw0
 refine Cj.sr (J.z q1 ?_)
 refine J.z q1 ?_
 refine J.nssr (J.z q0 ?_)
 refine J.op rfl (q37 (H1 := []) rfl rfl rfl rfl rfl (IndexFunc_ok s _) ?_)
 intro v1 I2 H3 hle4 hp5
 obtain ⟨n, h, hn, rfl⟩ := hp5; cases h
 refine J.z q1 ?_
 refine J.nsss (Cj.region (J.z q0 ?_))
 refine J.z q34 ?_
 refine J.cd (fun hc6 => ?_) (fun hc6 => ?_)
 ·
  have hc6p := odt hc6
  obtain ⟨k, rfl, hk, htw⟩ : ∃ k : Nat, n = k ∧ k ≤ s.length ∧ s.takeWhile Ke.okb = s.take k := hn.elim (fun h => absurd (odt hc6) (by rw [h.1]; decide)) id
  refine Cj.region (J.z q0 ?_)
  refine J.z q0 ?_
  refine J.z (q49 (p := 0) (q := k) tU9) ?_
  refine J.eqv 11 rfl (show _ = str (s.takeWhile Ke.okb) from (by rw [htw, List.drop_zero])) ?_
  refine J.z q1 ?_
  refine J.nssr (J.op rfl (op_buildSlice rfl rfl rfl tU28 tS9 tZ9 rfl rfl rfl rfl (LCat.one rfl (LCat.one rfl (LCat.one rfl (LCat.one rfl LCat.none)))) ?_))
  intro b7 hb7
  refine J.pull Pull.z ?_
  refine J.op rfl (op_call (H1 := [_]) rfl rfl rfl rfl rfl (NewReplacer_ok b7 _ _) ?_ (fun _ _ _ _ ⟨_, _, h, _⟩ => nomatch h) (fun _ _ ⟨_, _, h, _⟩ => nomatch h))
  intro v8 I9 H10 hle11 hp12
  obtain ⟨rb, osl, h, rfl, ho⟩ := hp12; cases h
  refine J.z q0 ?_
  refine J.pull Pull.z ?_
  refine J.op rfl (op_call (H1 := [_]) rfl rfl rfl rfl rfl (Replace_ok rb osl (s.takeWhile Ke.okb) (by omega) _ ho) ?_ (fun _ _ _ _ h => by cases h.1) (fun _ _ h => by cases h.1))
  intro v13 I14 H15 hle16 hp17
  obtain ⟨h, rfl⟩ := hp17; cases h
  refine J.eqv 15 rfl (show _ = str (Ke.rep (s.takeWhile Ke.okb)) from rfl) ?_
  refine J.op rfl (op_pure rfl rfl rfl rfl rfl (ToUpper_ok s (by omega) _) ?_)
  refine J.z q1 ?_
  refine J.nss (Cj.block (Cj.sr (J.z q0 ?_)))
  refine J.z (q28 tU9) ?_
  refine J.z q22 ?_
  refine J.z q0 ?_
  refine q15 21 (fun hg18 => ?_) (fun hg18 => ?_)
  ·
   have h10 : (Ke.norm s).length = 10 := by have h := ebq hg18; omega
   refine q3 3 21 true hg18 (q2 q0 ?_)
   refine q3 3 21 true hg18 (op_pure rfl rfl rfl rfl rfl (rightShort_ok (Ke.norm s) h10 hnc _) ?_)
   refine J.z (q11 hg18) ?_
   refine J.z q1 ?_
   refine J.cd (fun hc19 => ?_) (fun hc19 => ?_)
   ·
    have hrs : Ke.rightShort (Ke.norm s) = true := hc19
    have hd9 : Ke.digits ((Ke.norm s).take 9) = true := (Bool.and_eq_true_iff.1 hrs).2
    have hd12 := digits_12 (b := [48]) hd9 (by rw [List.length_take]; omega)
    refine Cj.sr (J.z q0 ?_)
    refine J.z (q49 (p := 0) (q := 9) tU9) ?_
    refine J.eqv 26 rfl (show _ = str ((Ke.norm s).take 9) from (by rw [List.drop_zero])) ?_
    refine J.z (yl_cat rfl rfl rfl (by first | omega | (simp only [List.length_append]; omega) | (simp; omega))) ?_
    refine J.z q1 ?_
    refine J.nssr (J.z q0 ?_)
    refine J.z q0 ?_
    refine J.z (yl_cat rfl rfl rfl (by first | omega | (simp only [List.length_append]; omega) | (simp; omega))) ?_
    refine J.op rfl (op_pure rfl rfl rfl rfl rfl (check_ok _ (by simp; omega) (by simp; omega) hd12 _) ?_)
    refine J.eqv 31 rfl (show _ = u8 (Ke.check ([57, 55, 56] ++ (Ke.norm s).take 9)) from (by rw [check_app (by simp; omega)])) ?_
    refine J.op rfl (q23 tU71 tS5 tZ5 ?_)
    intro b20 hb20
    refine J.z (yl_toStr [Ke.check ([57, 55, 56] ++ (Ke.norm s).take 9)] rfl rfl rfl tU71 tU9 tU5 (Blk.at 0 rfl) rfl) ?_
    refine J.z (yl_cat rfl rfl rfl (by first | omega | (simp only [List.length_append]; omega) | (simp; omega))) ?_
    refine J.z q1 ?_
    refine J.z q1 ?_
    refine J.ns (Cj.ret (Ej.blkRet (Ej.seqRet (Ej.keep (List.nil_sublist _) ?_))))
    refine q21 ?_
    have he : Ke.isbn s = ([57, 55, 56] ++ (Ke.norm s).take 9 ++ [Ke.check ([57, 55, 56] ++ (Ke.norm s).take 9)], true) := by unfold Ke.isbn Ke.isbnN; rw [if_pos ⟨h10, hrs⟩]
    rw [he]
    exact ⟨rfl, rfl⟩
   have hno : ¬ ((Ke.norm s).length = 10 ∧ Ke.rightShort (Ke.norm s) = true) := fun e => Bool.noConfusion (e.2.symm.trans hc19)
   refine Cj.seq (Cj.drawSel [] [] 15 (by kernel_rfl) ?_)
   refine JA.fix fx1 (fun fx21 => ?_)
   refine JA.tk 0 rfl fx21 q0 ?_
   refine JA.tk 1 rfl fx21 (q28 tU9) ?_
   refine JA.tk 2 rfl fx21 q22 ?_
   refine JA.tk 3 rfl fx21 q0 ?_
   refine JA.split 39 rfl (fun hg22 => ?_) (fun hg22 => ?_)
   rotate_left
   ·
    have hno2 : ¬ ((Ke.norm s).length = 13 ∧ Ke.digits (Ke.norm s) = true ∧ Ke.check (Ke.norm s) = (Ke.norm s).getD 12 0) := fun e => nbf hg22 (by rw [e.1]; rfl)
    refine q19 4 3 39 true fx21 (.inl (congrArg Value.bool hg22)) ?_
    refine q19 5 3 39 true fx21 (.inl (congrArg Value.bool hg22)) ?_
    refine JA.tk 6 rfl fx21 (q9 hg22) ?_
    refine JA.tk 7 rfl fx21 q0 ?_
    refine q29 8 7 43 true fx21 ?_
    refine q29 9 7 43 true fx21 ?_
    refine q29 10 7 43 true fx21 ?_
    refine q29 11 7 43 true fx21 ?_
    refine q29 12 7 43 true fx21 ?_
    refine JA.tk 13 rfl fx21 q30 ?_
    refine JA.tk 14 rfl fx21 q1 ?_
    refine q12 ?_
    refine Ej.seq (Cj.cond rfl (fun hc28 => Bool.noConfusion (Eq.trans (Eq.symm rfl) hc28)) (fun hc28 => ?_))
    refine Cj.kb (Cj.sr (J.z q1 ?_))
    refine J.z q1 ?_
    refine J.ns (Cj.ret (Ej.keep (List.nil_sublist _) ?_))
    refine q21 ?_
    have he : Ke.isbn s = ([], false) := by unfold Ke.isbn Ke.isbnN; rw [if_neg hno, if_neg hno2]
    rw [he]
    exact ⟨rfl, rfl⟩
   have h13 : (Ke.norm s).length = 13 := by have h := ebq hg22; omega
   refine JA.tkG 4 3 39 true _ rfl fx21 rfl rfl hg22 q0 ?_
   refine JA.stepG 5 3 39 true _ (by kernel_rfl) rfl rfl rfl rfl hg22 (op_pure rfl rfl rfl rfl rfl (isDigits_ok (Ke.norm s) (by omega) _) ?_)
   refine ⟨fx0, ?_⟩
   refine JA.fix fx1 (fun fx23 => ?_)
   refine JA.tk 6 rfl fx23 (q11 hg22) ?_
   refine JA.tk 7 rfl fx23 q0 ?_
   refine JA.split 43 rfl (fun hg24 => ?_) (fun hg24 => ?_)
   ·
    have hdg : Ke.digits (Ke.norm s) = true := hg24
    have hd13 : Ke.digits ((Ke.norm s).take 12) = true := List.all_eq_true.2 fun c hc => List.all_eq_true.1 hdg c (List.mem_of_mem_take hc)
    obtain ⟨c, hg12⟩ : ∃ c, (Ke.norm s)[12]? = some c := ⟨_, lgg (by omega)⟩
    have hgd : (Ke.norm s).getD 12 0 = c := by rw [List.getD, hg12]; rfl
    refine JA.tkG 8 7 43 true _ rfl fx23 rfl rfl hg24 q0 ?_
    refine JA.tkG 10 7 43 true _ rfl fx23 rfl rfl hg24 q0 ?_
    refine JA.tkG 11 7 43 true _ rfl fx23 rfl rfl hg24 (q41 tU9 hg12) ?_
    refine JA.stepG 9 7 43 true _ (by kernel_rfl) rfl rfl rfl rfl hg24 (op_pure rfl rfl rfl rfl rfl (check_ok (Ke.norm s) (by omega) (by omega) hd13 _) ?_)
    refine ⟨fx0, ?_⟩
    refine JA.fix fx1 (fun fx25 => ?_)
    refine JA.tkG 12 7 43 true _ rfl fx25 rfl rfl hg24 q22 ?_
    refine JA.tk 13 rfl fx25 (q11 hg24) ?_
    refine JA.tk 14 rfl fx25 q1 ?_
    refine q12 ?_
    refine Ej.seq (Cj.cond rfl (fun hc26 => ?_) (fun hc26 => ?_))
    ·
     have hc26p := ebq hc26
     have hck : Ke.check (Ke.norm s) = (Ke.norm s).getD 12 0 := by have h := ebq hc26; rw [hgd]; exact UInt8.toNat_inj.1 (by omega)
     refine Cj.sr (J.z q0 ?_)
     refine J.z q1 ?_
     refine J.z q1 ?_
     refine J.ns (Cj.ret (Ej.blkRet (Ej.seqRet (Ej.keep (List.nil_sublist _) ?_))))
     refine q21 ?_
     have he : Ke.isbn s = (Ke.norm s, true) := by unfold Ke.isbn Ke.isbnN; rw [if_neg hno, if_pos ⟨h13, hdg, hck⟩]
     rw [he]
     exact ⟨rfl, rfl⟩
    ·
     have hc26p := nbf hc26
     have hno2 : ¬ ((Ke.norm s).length = 13 ∧ Ke.digits (Ke.norm s) = true ∧ Ke.check (Ke.norm s) = (Ke.norm s).getD 12 0) := fun e => nbf hc26 (by rw [e.2.2, hgd])
     refine Cj.kb (Cj.sr (J.z q1 ?_))
     refine J.z q1 ?_
     refine J.ns (Cj.ret (Ej.keep (List.nil_sublist _) ?_))
     refine q21 ?_
     have he : Ke.isbn s = ([], false) := by unfold Ke.isbn Ke.isbnN; rw [if_neg hno, if_neg hno2]
     rw [he]
     exact ⟨rfl, rfl⟩
   ·
    have hno2 : ¬ ((Ke.norm s).length = 13 ∧ Ke.digits (Ke.norm s) = true ∧ Ke.check (Ke.norm s) = (Ke.norm s).getD 12 0) := fun e => Bool.noConfusion (e.2.1.symm.trans hg24)
    refine q19 8 7 43 true fx23 (.inl (congrArg Value.bool hg24)) ?_
    refine q19 9 7 43 true fx23 (.inl (congrArg Value.bool hg24)) ?_
    refine q19 10 7 43 true fx23 (.inl (congrArg Value.bool hg24)) ?_
    refine q19 11 7 43 true fx23 (.inl (congrArg Value.bool hg24)) ?_
    refine q19 12 7 43 true fx23 (.inl (congrArg Value.bool hg24)) ?_
    refine JA.tk 13 rfl fx23 (q9 hg24) ?_
    refine JA.tk 14 rfl fx23 q1 ?_
    refine q12 ?_
    refine Ej.seq (Cj.cond rfl (fun hc27 => Bool.noConfusion (Eq.trans (Eq.symm rfl) hc27)) (fun hc27 => ?_))
    refine Cj.kb (Cj.sr (J.z q1 ?_))
    refine J.z q1 ?_
    refine J.ns (Cj.ret (Ej.keep (List.nil_sublist _) ?_))
    refine q21 ?_
    have he : Ke.isbn s = ([], false) := by unfold Ke.isbn Ke.isbnN; rw [if_neg hno, if_neg hno2]
    rw [he]
    exact ⟨rfl, rfl⟩
  have hno : ¬ ((Ke.norm s).length = 10 ∧ Ke.rightShort (Ke.norm s) = true) := fun e => nbf hg18 (by rw [e.1]; rfl)
  refine q4 3 21 22 true hg18 ?_
  refine q4 3 21 23 true hg18 ?_
  refine J.z (q9 hg18) ?_
  refine J.z q1 ?_
  refine J.c0 (fun hc29 => ?_)
  refine Cj.seq (Cj.drawSel [] [] 15 (by kernel_rfl) ?_)
  refine JA.fix fx1 (fun fx30 => ?_)
  refine JA.tk 0 rfl fx30 q0 ?_
  refine JA.tk 1 rfl fx30 (q28 tU9) ?_
  refine JA.tk 2 rfl fx30 q22 ?_
  refine JA.tk 3 rfl fx30 q0 ?_
  refine JA.split 39 rfl (fun hg31 => ?_) (fun hg31 => ?_)
  rotate_left
  ·
   have hno2 : ¬ ((Ke.norm s).length = 13 ∧ Ke.digits (Ke.norm s) = true ∧ Ke.check (Ke.norm s) = (Ke.norm s).getD 12 0) := fun e => nbf hg31 (by rw [e.1]; rfl)
   refine q19 4 3 39 true fx30 (.inl (congrArg Value.bool hg31)) ?_
   refine q19 5 3 39 true fx30 (.inl (congrArg Value.bool hg31)) ?_
   refine JA.tk 6 rfl fx30 (q9 hg31) ?_
   refine JA.tk 7 rfl fx30 q0 ?_
   refine q29 8 7 43 true fx30 ?_
   refine q29 9 7 43 true fx30 ?_
   refine q29 10 7 43 true fx30 ?_
   refine q29 11 7 43 true fx30 ?_
   refine q29 12 7 43 true fx30 ?_
   refine JA.tk 13 rfl fx30 q30 ?_
   refine JA.tk 14 rfl fx30 q1 ?_
   refine q12 ?_
   refine Ej.seq (Cj.cond rfl (fun hc37 => Bool.noConfusion (Eq.trans (Eq.symm rfl) hc37)) (fun hc37 => ?_))
   refine Cj.kb (Cj.sr (J.z q1 ?_))
   refine J.z q1 ?_
   refine J.ns (Cj.ret (Ej.keep (List.nil_sublist _) ?_))
   refine q21 ?_
   have he : Ke.isbn s = ([], false) := by unfold Ke.isbn Ke.isbnN; rw [if_neg hno, if_neg hno2]
   rw [he]
   exact ⟨rfl, rfl⟩
  have h13 : (Ke.norm s).length = 13 := by have h := ebq hg31; omega
  refine JA.tkG 4 3 39 true _ rfl fx30 rfl rfl hg31 q0 ?_
  refine JA.stepG 5 3 39 true _ (by kernel_rfl) rfl rfl rfl rfl hg31 (op_pure rfl rfl rfl rfl rfl (isDigits_ok (Ke.norm s) (by omega) _) ?_)
  refine ⟨fx0, ?_⟩
  refine JA.fix fx1 (fun fx32 => ?_)
  refine JA.tk 6 rfl fx32 (q11 hg31) ?_
  refine JA.tk 7 rfl fx32 q0 ?_
  refine JA.split 43 rfl (fun hg33 => ?_) (fun hg33 => ?_)
  ·
   have hdg : Ke.digits (Ke.norm s) = true := hg33
   have hd13 : Ke.digits ((Ke.norm s).take 12) = true := List.all_eq_true.2 fun c hc => List.all_eq_true.1 hdg c (List.mem_of_mem_take hc)
   obtain ⟨c, hg12⟩ : ∃ c, (Ke.norm s)[12]? = some c := ⟨_, lgg (by omega)⟩
   have hgd : (Ke.norm s).getD 12 0 = c := by rw [List.getD, hg12]; rfl
   refine JA.tkG 8 7 43 true _ rfl fx32 rfl rfl hg33 q0 ?_
   refine JA.tkG 10 7 43 true _ rfl fx32 rfl rfl hg33 q0 ?_
   refine JA.tkG 11 7 43 true _ rfl fx32 rfl rfl hg33 (q41 tU9 hg12) ?_
   refine JA.stepG 9 7 43 true _ (by kernel_rfl) rfl rfl rfl rfl hg33 (op_pure rfl rfl rfl rfl rfl (check_ok (Ke.norm s) (by omega) (by omega) hd13 _) ?_)
   refine ⟨fx0, ?_⟩
   refine JA.fix fx1 (fun fx34 => ?_)
   refine JA.tkG 12 7 43 true _ rfl fx34 rfl rfl hg33 q22 ?_
   refine JA.tk 13 rfl fx34 (q11 hg33) ?_
   refine JA.tk 14 rfl fx34 q1 ?_
   refine q12 ?_
   refine Ej.seq (Cj.cond rfl (fun hc35 => ?_) (fun hc35 => ?_))
   ·
    have hc35p := ebq hc35
    have hck : Ke.check (Ke.norm s) = (Ke.norm s).getD 12 0 := by have h := ebq hc35; rw [hgd]; exact UInt8.toNat_inj.1 (by omega)
    refine Cj.sr (J.z q0 ?_)
    refine J.z q1 ?_
    refine J.z q1 ?_
    refine J.ns (Cj.ret (Ej.blkRet (Ej.seqRet (Ej.keep (List.nil_sublist _) ?_))))
    refine q21 ?_
    have he : Ke.isbn s = (Ke.norm s, true) := by unfold Ke.isbn Ke.isbnN; rw [if_neg hno, if_pos ⟨h13, hdg, hck⟩]
    rw [he]
    exact ⟨rfl, rfl⟩
   ·
    have hc35p := nbf hc35
    have hno2 : ¬ ((Ke.norm s).length = 13 ∧ Ke.digits (Ke.norm s) = true ∧ Ke.check (Ke.norm s) = (Ke.norm s).getD 12 0) := fun e => nbf hc35 (by rw [e.2.2, hgd])
    refine Cj.kb (Cj.sr (J.z q1 ?_))
    refine J.z q1 ?_
    refine J.ns (Cj.ret (Ej.keep (List.nil_sublist _) ?_))
    refine q21 ?_
    have he : Ke.isbn s = ([], false) := by unfold Ke.isbn Ke.isbnN; rw [if_neg hno, if_neg hno2]
    rw [he]
    exact ⟨rfl, rfl⟩
  ·
   have hno2 : ¬ ((Ke.norm s).length = 13 ∧ Ke.digits (Ke.norm s) = true ∧ Ke.check (Ke.norm s) = (Ke.norm s).getD 12 0) := fun e => Bool.noConfusion (e.2.1.symm.trans hg33)
   refine q19 8 7 43 true fx32 (.inl (congrArg Value.bool hg33)) ?_
   refine q19 9 7 43 true fx32 (.inl (congrArg Value.bool hg33)) ?_
   refine q19 10 7 43 true fx32 (.inl (congrArg Value.bool hg33)) ?_
   refine q19 11 7 43 true fx32 (.inl (congrArg Value.bool hg33)) ?_
   refine q19 12 7 43 true fx32 (.inl (congrArg Value.bool hg33)) ?_
   refine JA.tk 13 rfl fx32 (q9 hg33) ?_
   refine JA.tk 14 rfl fx32 q1 ?_
   refine q12 ?_
   refine Ej.seq (Cj.cond rfl (fun hc36 => Bool.noConfusion (Eq.trans (Eq.symm rfl) hc36)) (fun hc36 => ?_))
   refine Cj.kb (Cj.sr (J.z q1 ?_))
   refine J.z q1 ?_
   refine J.ns (Cj.ret (Ej.keep (List.nil_sublist _) ?_))
   refine q21 ?_
   have he : Ke.isbn s = ([], false) := by unfold Ke.isbn Ke.isbnN; rw [if_neg hno, if_neg hno2]
   rw [he]
   exact ⟨rfl, rfl⟩
 have hc6p := odf hc6
 have htw : s.takeWhile Ke.okb = s := hn.elim (fun h => h.2) (fun ⟨k, h, _⟩ => absurd (odf hc6) (by rw [h]; simp))
 refine Cj.ks (Cj.sr (J.op rfl (op_buildSlice rfl rfl rfl tU28 tS9 tZ9 rfl rfl rfl rfl (LCat.one rfl (LCat.one rfl (LCat.one rfl (LCat.one rfl LCat.none)))) ?_)))
 intro b38 hb38
 refine J.pull Pull.z ?_
 refine J.op rfl (op_call (H1 := [_]) rfl rfl rfl rfl rfl (NewReplacer_ok b38 _ _) ?_ (fun _ _ _ _ ⟨_, _, h, _⟩ => nomatch h) (fun _ _ ⟨_, _, h, _⟩ => nomatch h))
 intro v39 I40 H41 hle42 hp43
 obtain ⟨rb, osl, h, rfl, ho⟩ := hp43; cases h
 refine J.z q0 ?_
 refine J.pull Pull.z ?_
 refine J.op rfl (op_call (H1 := [_]) rfl rfl rfl rfl rfl (Replace_ok rb osl s (by omega) _ ho) ?_ (fun _ _ _ _ h => by cases h.1) (fun _ _ h => by cases h.1))
 intro v44 I45 H46 hle47 hp48
 obtain ⟨h, rfl⟩ := hp48; cases h
 refine J.eqv 15 rfl (show _ = str (Ke.rep (s.takeWhile Ke.okb)) from (by rw [htw])) ?_
 refine J.op rfl (op_pure rfl rfl rfl rfl rfl (ToUpper_ok s (by omega) _) ?_)
 refine J.z q1 ?_
 refine J.nss (Cj.block (Cj.sr (J.z q0 ?_)))
 refine J.z (q28 tU9) ?_
 refine J.z q22 ?_
 refine J.z q0 ?_
 refine q15 21 (fun hg49 => ?_) (fun hg49 => ?_)
 ·
  have h10 : (Ke.norm s).length = 10 := by have h := ebq hg49; omega
  refine q3 3 21 true hg49 (q2 q0 ?_)
  refine q3 3 21 true hg49 (op_pure rfl rfl rfl rfl rfl (rightShort_ok (Ke.norm s) h10 hnc _) ?_)
  refine J.z (q11 hg49) ?_
  refine J.z q1 ?_
  refine J.cd (fun hc50 => ?_) (fun hc50 => ?_)
  ·
   have hrs : Ke.rightShort (Ke.norm s) = true := hc50
   have hd9 : Ke.digits ((Ke.norm s).take 9) = true := (Bool.and_eq_true_iff.1 hrs).2
   have hd12 := digits_12 (b := [48]) hd9 (by rw [List.length_take]; omega)
   refine Cj.sr (J.z q0 ?_)
   refine J.z (q49 (p := 0) (q := 9) tU9) ?_
   refine J.eqv 26 rfl (show _ = str ((Ke.norm s).take 9) from (by rw [List.drop_zero])) ?_
   refine J.z (yl_cat rfl rfl rfl (by first | omega | (simp only [List.length_append]; omega) | (simp; omega))) ?_
   refine J.z q1 ?_
   refine J.nssr (J.z q0 ?_)
   refine J.z q0 ?_
   refine J.z (yl_cat rfl rfl rfl (by first | omega | (simp only [List.length_append]; omega) | (simp; omega))) ?_
   refine J.op rfl (op_pure rfl rfl rfl rfl rfl (check_ok _ (by simp; omega) (by simp; omega) hd12 _) ?_)
   refine J.eqv 31 rfl (show _ = u8 (Ke.check ([57, 55, 56] ++ (Ke.norm s).take 9)) from (by rw [check_app (by simp; omega)])) ?_
   refine J.op rfl (q23 tU71 tS5 tZ5 ?_)
   intro b51 hb51
   refine J.z (yl_toStr [Ke.check ([57, 55, 56] ++ (Ke.norm s).take 9)] rfl rfl rfl tU71 tU9 tU5 (Blk.at 0 rfl) rfl) ?_
   refine J.z (yl_cat rfl rfl rfl (by first | omega | (simp only [List.length_append]; omega) | (simp; omega))) ?_
   refine J.z q1 ?_
   refine J.z q1 ?_
   refine J.ns (Cj.ret (Ej.blkRet (Ej.seqRet (Ej.keep (List.nil_sublist _) ?_))))
   refine q21 ?_
   have he : Ke.isbn s = ([57, 55, 56] ++ (Ke.norm s).take 9 ++ [Ke.check ([57, 55, 56] ++ (Ke.norm s).take 9)], true) := by unfold Ke.isbn Ke.isbnN; rw [if_pos ⟨h10, hrs⟩]
   rw [he]
   exact ⟨rfl, rfl⟩
  have hno : ¬ ((Ke.norm s).length = 10 ∧ Ke.rightShort (Ke.norm s) = true) := fun e => Bool.noConfusion (e.2.symm.trans hc50)
  refine Cj.seq (Cj.drawSel [] [] 15 (by kernel_rfl) ?_)
  refine JA.fix fx1 (fun fx52 => ?_)
  refine JA.tk 0 rfl fx52 q0 ?_
  refine JA.tk 1 rfl fx52 (q28 tU9) ?_
  refine JA.tk 2 rfl fx52 q22 ?_
  refine JA.tk 3 rfl fx52 q0 ?_
  refine JA.split 39 rfl (fun hg53 => ?_) (fun hg53 => ?_)
  rotate_left
  ·
   have hno2 : ¬ ((Ke.norm s).length = 13 ∧ Ke.digits (Ke.norm s) = true ∧ Ke.check (Ke.norm s) = (Ke.norm s).getD 12 0) := fun e => nbf hg53 (by rw [e.1]; rfl)
   refine q19 4 3 39 true fx52 (.inl (congrArg Value.bool hg53)) ?_
   refine q19 5 3 39 true fx52 (.inl (congrArg Value.bool hg53)) ?_
   refine JA.tk 6 rfl fx52 (q9 hg53) ?_
   refine JA.tk 7 rfl fx52 q0 ?_
   refine q29 8 7 43 true fx52 ?_
   refine q29 9 7 43 true fx52 ?_
   refine q29 10 7 43 true fx52 ?_
   refine q29 11 7 43 true fx52 ?_
   refine q29 12 7 43 true fx52 ?_
   refine JA.tk 13 rfl fx52 q30 ?_
   refine JA.tk 14 rfl fx52 q1 ?_
   refine q12 ?_
   refine Ej.seq (Cj.cond rfl (fun hc59 => Bool.noConfusion (Eq.trans (Eq.symm rfl) hc59)) (fun hc59 => ?_))
   refine Cj.kb (Cj.sr (J.z q1 ?_))
   refine J.z q1 ?_
   refine J.ns (Cj.ret (Ej.keep (List.nil_sublist _) ?_))
   refine q21 ?_
   have he : Ke.isbn s = ([], false) := by unfold Ke.isbn Ke.isbnN; rw [if_neg hno, if_neg hno2]
   rw [he]
   exact ⟨rfl, rfl⟩
  have h13 : (Ke.norm s).length = 13 := by have h := ebq hg53; omega
  refine JA.tkG 4 3 39 true _ rfl fx52 rfl rfl hg53 q0 ?_
  refine JA.stepG 5 3 39 true _ (by kernel_rfl) rfl rfl rfl rfl hg53 (op_pure rfl rfl rfl rfl rfl (isDigits_ok (Ke.norm s) (by omega) _) ?_)
  refine ⟨fx0, ?_⟩
  refine JA.fix fx1 (fun fx54 => ?_)
  refine JA.tk 6 rfl fx54 (q11 hg53) ?_
  refine JA.tk 7 rfl fx54 q0 ?_
  refine JA.split 43 rfl (fun hg55 => ?_) (fun hg55 => ?_)
  ·
   have hdg : Ke.digits (Ke.norm s) = true := hg55
   have hd13 : Ke.digits ((Ke.norm s).take 12) = true := List.all_eq_true.2 fun c hc => List.all_eq_true.1 hdg c (List.mem_of_mem_take hc)
   obtain ⟨c, hg12⟩ : ∃ c, (Ke.norm s)[12]? = some c := ⟨_, lgg (by omega)⟩
   have hgd : (Ke.norm s).getD 12 0 = c := by rw [List.getD, hg12]; rfl
   refine JA.tkG 8 7 43 true _ rfl fx54 rfl rfl hg55 q0 ?_
   refine JA.tkG 10 7 43 true _ rfl fx54 rfl rfl hg55 q0 ?_
   refine JA.tkG 11 7 43 true _ rfl fx54 rfl rfl hg55 (q41 tU9 hg12) ?_
   refine JA.stepG 9 7 43 true _ (by kernel_rfl) rfl rfl rfl rfl hg55 (op_pure rfl rfl rfl rfl rfl (check_ok (Ke.norm s) (by omega) (by omega) hd13 _) ?_)
   refine ⟨fx0, ?_⟩
   refine JA.fix fx1 (fun fx56 => ?_)
   refine JA.tkG 12 7 43 true _ rfl fx56 rfl rfl hg55 q22 ?_
   refine JA.tk 13 rfl fx56 (q11 hg55) ?_
   refine JA.tk 14 rfl fx56 q1 ?_
   refine q12 ?_
   refine Ej.seq (Cj.cond rfl (fun hc57 => ?_) (fun hc57 => ?_))
   ·
    have hc57p := ebq hc57
    have hck : Ke.check (Ke.norm s) = (Ke.norm s).getD 12 0 := by have h := ebq hc57; rw [hgd]; exact UInt8.toNat_inj.1 (by omega)
    refine Cj.sr (J.z q0 ?_)
    refine J.z q1 ?_
    refine J.z q1 ?_
    refine J.ns (Cj.ret (Ej.blkRet (Ej.seqRet (Ej.keep (List.nil_sublist _) ?_))))
    refine q21 ?_
    have he : Ke.isbn s = (Ke.norm s, true) := by unfold Ke.isbn Ke.isbnN; rw [if_neg hno, if_pos ⟨h13, hdg, hck⟩]
    rw [he]
    exact ⟨rfl, rfl⟩
   ·
    have hc57p := nbf hc57
    have hno2 : ¬ ((Ke.norm s).length = 13 ∧ Ke.digits (Ke.norm s) = true ∧ Ke.check (Ke.norm s) = (Ke.norm s).getD 12 0) := fun e => nbf hc57 (by rw [e.2.2, hgd])
    refine Cj.kb (Cj.sr (J.z q1 ?_))
    refine J.z q1 ?_
    refine J.ns (Cj.ret (Ej.keep (List.nil_sublist _) ?_))
    refine q21 ?_
    have he : Ke.isbn s = ([], false) := by unfold Ke.isbn Ke.isbnN; rw [if_neg hno, if_neg hno2]
    rw [he]
    exact ⟨rfl, rfl⟩
  ·
   have hno2 : ¬ ((Ke.norm s).length = 13 ∧ Ke.digits (Ke.norm s) = true ∧ Ke.check (Ke.norm s) = (Ke.norm s).getD 12 0) := fun e => Bool.noConfusion (e.2.1.symm.trans hg55)
   refine q19 8 7 43 true fx54 (.inl (congrArg Value.bool hg55)) ?_
   refine q19 9 7 43 true fx54 (.inl (congrArg Value.bool hg55)) ?_
   refine q19 10 7 43 true fx54 (.inl (congrArg Value.bool hg55)) ?_
   refine q19 11 7 43 true fx54 (.inl (congrArg Value.bool hg55)) ?_
   refine q19 12 7 43 true fx54 (.inl (congrArg Value.bool hg55)) ?_
   refine JA.tk 13 rfl fx54 (q9 hg55) ?_
   refine JA.tk 14 rfl fx54 q1 ?_
   refine q12 ?_
   refine Ej.seq (Cj.cond rfl (fun hc58 => Bool.noConfusion (Eq.trans (Eq.symm rfl) hc58)) (fun hc58 => ?_))
   refine Cj.kb (Cj.sr (J.z q1 ?_))
   refine J.z q1 ?_
   refine J.ns (Cj.ret (Ej.keep (List.nil_sublist _) ?_))
   refine q21 ?_
   have he : Ke.isbn s = ([], false) := by unfold Ke.isbn Ke.isbnN; rw [if_neg hno, if_neg hno2]
   rw [he]
   exact ⟨rfl, rfl⟩
 have hno : ¬ ((Ke.norm s).length = 10 ∧ Ke.rightShort (Ke.norm s) = true) := fun e => nbf hg49 (by rw [e.1]; rfl)
 refine q4 3 21 22 true hg49 ?_
 refine q4 3 21 23 true hg49 ?_
 refine J.z (q9 hg49) ?_
 refine J.z q1 ?_
 refine J.c0 (fun hc60 => ?_)
 refine Cj.seq (Cj.drawSel [] [] 15 (by kernel_rfl) ?_)
 refine JA.fix fx1 (fun fx61 => ?_)
 refine JA.tk 0 rfl fx61 q0 ?_
 refine JA.tk 1 rfl fx61 (q28 tU9) ?_
 refine JA.tk 2 rfl fx61 q22 ?_
 refine JA.tk 3 rfl fx61 q0 ?_
 refine JA.split 39 rfl (fun hg62 => ?_) (fun hg62 => ?_)
 rotate_left
 ·
  have hno2 : ¬ ((Ke.norm s).length = 13 ∧ Ke.digits (Ke.norm s) = true ∧ Ke.check (Ke.norm s) = (Ke.norm s).getD 12 0) := fun e => nbf hg62 (by rw [e.1]; rfl)
  refine q19 4 3 39 true fx61 (.inl (congrArg Value.bool hg62)) ?_
  refine q19 5 3 39 true fx61 (.inl (congrArg Value.bool hg62)) ?_
  refine JA.tk 6 rfl fx61 (q9 hg62) ?_
  refine JA.tk 7 rfl fx61 q0 ?_
  refine q29 8 7 43 true fx61 ?_
  refine q29 9 7 43 true fx61 ?_
  refine q29 10 7 43 true fx61 ?_
  refine q29 11 7 43 true fx61 ?_
  refine q29 12 7 43 true fx61 ?_
  refine JA.tk 13 rfl fx61 q30 ?_
  refine JA.tk 14 rfl fx61 q1 ?_
  refine q12 ?_
  refine Ej.seq (Cj.cond rfl (fun hc68 => Bool.noConfusion (Eq.trans (Eq.symm rfl) hc68)) (fun hc68 => ?_))
  refine Cj.kb (Cj.sr (J.z q1 ?_))
  refine J.z q1 ?_
  refine J.ns (Cj.ret (Ej.keep (List.nil_sublist _) ?_))
  refine q21 ?_
  have he : Ke.isbn s = ([], false) := by unfold Ke.isbn Ke.isbnN; rw [if_neg hno, if_neg hno2]
  rw [he]
  exact ⟨rfl, rfl⟩
 have h13 : (Ke.norm s).length = 13 := by have h := ebq hg62; omega
 refine JA.tkG 4 3 39 true _ rfl fx61 rfl rfl hg62 q0 ?_
 refine JA.stepG 5 3 39 true _ (by kernel_rfl) rfl rfl rfl rfl hg62 (op_pure rfl rfl rfl rfl rfl (isDigits_ok (Ke.norm s) (by omega) _) ?_)
 refine ⟨fx0, ?_⟩
 refine JA.fix fx1 (fun fx63 => ?_)
 refine JA.tk 6 rfl fx63 (q11 hg62) ?_
 refine JA.tk 7 rfl fx63 q0 ?_
 refine JA.split 43 rfl (fun hg64 => ?_) (fun hg64 => ?_)
 ·
  have hdg : Ke.digits (Ke.norm s) = true := hg64
  have hd13 : Ke.digits ((Ke.norm s).take 12) = true := List.all_eq_true.2 fun c hc => List.all_eq_true.1 hdg c (List.mem_of_mem_take hc)
  obtain ⟨c, hg12⟩ : ∃ c, (Ke.norm s)[12]? = some c := ⟨_, lgg (by omega)⟩
  have hgd : (Ke.norm s).getD 12 0 = c := by rw [List.getD, hg12]; rfl
  refine JA.tkG 8 7 43 true _ rfl fx63 rfl rfl hg64 q0 ?_
  refine JA.tkG 10 7 43 true _ rfl fx63 rfl rfl hg64 q0 ?_
  refine JA.tkG 11 7 43 true _ rfl fx63 rfl rfl hg64 (q41 tU9 hg12) ?_
  refine JA.stepG 9 7 43 true _ (by kernel_rfl) rfl rfl rfl rfl hg64 (op_pure rfl rfl rfl rfl rfl (check_ok (Ke.norm s) (by omega) (by omega) hd13 _) ?_)
  refine ⟨fx0, ?_⟩
  refine JA.fix fx1 (fun fx65 => ?_)
  refine JA.tkG 12 7 43 true _ rfl fx65 rfl rfl hg64 q22 ?_
  refine JA.tk 13 rfl fx65 (q11 hg64) ?_
  refine JA.tk 14 rfl fx65 q1 ?_
  refine q12 ?_
  refine Ej.seq (Cj.cond rfl (fun hc66 => ?_) (fun hc66 => ?_))
  ·
   have hc66p := ebq hc66
   have hck : Ke.check (Ke.norm s) = (Ke.norm s).getD 12 0 := by have h := ebq hc66; rw [hgd]; exact UInt8.toNat_inj.1 (by omega)
   refine Cj.sr (J.z q0 ?_)
   refine J.z q1 ?_
   refine J.z q1 ?_
   refine J.ns (Cj.ret (Ej.blkRet (Ej.seqRet (Ej.keep (List.nil_sublist _) ?_))))
   refine q21 ?_
   have he : Ke.isbn s = (Ke.norm s, true) := by unfold Ke.isbn Ke.isbnN; rw [if_neg hno, if_pos ⟨h13, hdg, hck⟩]
   rw [he]
   exact ⟨rfl, rfl⟩
  ·
   have hc66p := nbf hc66
   have hno2 : ¬ ((Ke.norm s).length = 13 ∧ Ke.digits (Ke.norm s) = true ∧ Ke.check (Ke.norm s) = (Ke.norm s).getD 12 0) := fun e => nbf hc66 (by rw [e.2.2, hgd])
   refine Cj.kb (Cj.sr (J.z q1 ?_))
   refine J.z q1 ?_
   refine J.ns (Cj.ret (Ej.keep (List.nil_sublist _) ?_))
   refine q21 ?_
   have he : Ke.isbn s = ([], false) := by unfold Ke.isbn Ke.isbnN; rw [if_neg hno, if_neg hno2]
   rw [he]
   exact ⟨rfl, rfl⟩
 ·
  have hno2 : ¬ ((Ke.norm s).length = 13 ∧ Ke.digits (Ke.norm s) = true ∧ Ke.check (Ke.norm s) = (Ke.norm s).getD 12 0) := fun e => Bool.noConfusion (e.2.1.symm.trans hg64)
  refine q19 8 7 43 true fx63 (.inl (congrArg Value.bool hg64)) ?_
  refine q19 9 7 43 true fx63 (.inl (congrArg Value.bool hg64)) ?_
  refine q19 10 7 43 true fx63 (.inl (congrArg Value.bool hg64)) ?_
  refine q19 11 7 43 true fx63 (.inl (congrArg Value.bool hg64)) ?_
  refine q19 12 7 43 true fx63 (.inl (congrArg Value.bool hg64)) ?_
  refine JA.tk 13 rfl fx63 (q9 hg64) ?_
  refine JA.tk 14 rfl fx63 q1 ?_
  refine q12 ?_
  refine Ej.seq (Cj.cond rfl (fun hc67 => Bool.noConfusion (Eq.trans (Eq.symm rfl) hc67)) (fun hc67 => ?_))
  refine Cj.kb (Cj.sr (J.z q1 ?_))
  refine J.z q1 ?_
  refine J.ns (Cj.ret (Ej.keep (List.nil_sublist _) ?_))
  refine q21 ?_
  have he : Ke.isbn s = ([], false) := by unfold Ke.isbn Ke.isbnN; rw [if_neg hno, if_neg hno2]
  rw [he]
  exact ⟨rfl, rfl⟩
end Go.Proofs.YtjcdfnbomkoheaaGreatDoor
end
section
namespace Ke
abbrev Row := List Bs
def pg (s : Bs) : Bool → Row → Row
  | true, [] => []
  | false, [] => [s]
  | d, x :: r => if s < x ∧ d = false then s :: x :: pg s true r else x :: pg s d r
def put (l : Row) (s : Bs) : Row := if s ∈ l then l else pg s false l
def Inc (l : Row) : Prop := l.Pairwise (· < ·)
theorem pg_true (s : Bs) : ∀ l, pg s true l = l
  | [] => rfl
  | x :: r => by unfold pg; rw [if_neg (by simp), pg_true s r]
theorem pg_mem (s : Bs) : ∀ (l : Row) (x : Bs), x ∈ pg s false l ↔ x = s ∨ x ∈ l
  | [], x => by simp [pg]
  | y :: r, x => by
    unfold pg
    by_cases h : s < y
    · rw [if_pos ⟨h, rfl⟩, pg_true]; simp
    rw [if_neg (fun e => h e.1), List.mem_cons, pg_mem s r x, List.mem_cons]
    constructor
    · rintro (h | h | h) <;> simp [h]
    rintro (h | h | h) <;> simp [h]
theorem lt_of {a b : Bs} (h : ¬ b < a) (hne : a ≠ b) : a < b := by
  have h1 : a ≤ b := List.not_lt.1 h
  rcases Decidable.em (a < b) with h2 | h2
  · exact h2
  exact absurd (List.le_antisymm h1 (List.not_lt.1 h2)) hne
theorem pg_inc (s : Bs) : ∀ {l : Row}, Inc l → s ∉ l → Inc (pg s false l)
  | [], _, _ => by simp [pg, Inc]
  | y :: r, hl, hn => by
    have hl' := List.pairwise_cons.1 hl
    unfold pg
    by_cases h : s < y
    · rw [if_pos ⟨h, rfl⟩, pg_true]
      refine List.pairwise_cons.2 ⟨fun z hz => ?_, hl⟩
      rcases List.mem_cons.1 hz with rfl | hz
      · exact h
      exact List.lt_trans h (hl'.1 z hz)
    rw [if_neg (fun e => h e.1)]
    refine List.pairwise_cons.2 ⟨fun z hz => ?_, pg_inc s hl'.2 fun e => hn (.tail _ e)⟩
    rcases (pg_mem s r z).1 hz with rfl | hz
    · exact lt_of h fun e => hn (e ▸ .head _)
    exact hl'.1 z hz
theorem put_mem (l : Row) (s x : Bs) : x ∈ put l s ↔ x = s ∨ x ∈ l := by
  unfold put
  split
  · rename_i h
    exact ⟨.inr, fun e => e.elim (fun e => e ▸ h) id⟩
  exact pg_mem s l x
theorem put_inc {l : Row} (s : Bs) (h : Inc l) : Inc (put l s) := by
  unfold put
  split
  · exact h
  rename_i hn; exact pg_inc s h hn
theorem puts_inc : ∀ (xs : Row) {l : Row}, Inc l → Inc (xs.foldl put l)
  | [], _, h => h
  | x :: r, _, h => puts_inc r (put_inc x h)
theorem puts_mem : ∀ (xs l : Row) (x : Bs), x ∈ xs.foldl put l ↔ x ∈ xs ∨ x ∈ l
  | [], _, _ => by simp
  | y :: r, l, x => by
    rw [List.foldl_cons, puts_mem r, put_mem, List.mem_cons]
    constructor
    · rintro (h | h | h) <;> simp [h]
    rintro ((h | h) | h) <;> simp [h]
theorem inc_eq : ∀ {a b : Row}, Inc a → Inc b → (∀ x, x ∈ a ↔ x ∈ b) → a = b
  | [], [], _, _, _ => rfl
  | [], y :: _, _, _, h => absurd ((h y).2 (.head _)) (by simp)
  | x :: _, [], _, _, h => absurd ((h x).1 (.head _)) (by simp)
  | x :: r, y :: t, ha, hb, h => by
    have ha' := List.pairwise_cons.1 ha
    have hb' := List.pairwise_cons.1 hb
    have hxy : x = y := by
      rcases List.mem_cons.1 ((h x).1 (.head _)) with e | e
      · exact e
      rcases List.mem_cons.1 ((h y).2 (.head _)) with e2 | e2
      · exact e2.symm
      exact absurd (List.lt_trans (hb'.1 x e) (ha'.1 y e2)) (List.lt_irrefl _)
    subst hxy
    rw [inc_eq ha'.2 hb'.2 fun z => ⟨fun hz => ?_, fun hz => ?_⟩]
    · rcases List.mem_cons.1 ((h z).1 (.tail _ hz)) with rfl | e
      · exact absurd (ha'.1 z hz) (List.lt_irrefl _)
      exact e
    rcases List.mem_cons.1 ((h z).2 (.tail _ hz)) with rfl | e
    · exact absurd (hb'.1 z hz) (List.lt_irrefl _)
    exact e
structure Sub where
  code : UInt8
  text : Bs
structure Fld where
  tag : Bs
  ind : Bs
  data : Bs
  sv : Go.Value
  subs : List Sub
def texts (f : Fld) (codes : Bs) : Row := (f.subs.filter fun s => codes.contains s.code).map (·.text)
def textOf (f : Fld) (codes : Bs) : Bs := join (texts f codes)
def skip (f : Fld) : Nat := match f.ind[1]? with
  | some c => if digit c then c.toNat - 48 else 0
  | none => 0
end Ke
end
section
namespace Go.Proofs.YtjcdfnbomkoheaaGreatDoor
open Go Go.Sx
def subC (s : Ke.Sub) : List Value := [u8 s.code, str s.text]
def fldC (f : Ke.Fld) : List Value := [str f.tag, str f.ind, str f.data, f.sv]
theorem subC_len (s : Ke.Sub) : (subC s).length = 2 := rfl
theorem fldC_len (f : Ke.Fld) : (fldC f).length = 4 := rfl
def RecS (I : Heap) (fs : List Ke.Fld) (v : Value) : Prop := RowS fldC I fs v ∧ ∀ f ∈ fs, RowS subC I f.subs f.sv
theorem RecS.mono {I I' : Heap} {fs : List Ke.Fld} {v : Value} (h : RecS I fs v) (hle : Le I I') : RecS I' fs v := ⟨h.1.mono hle, fun f hf => (h.2 f hf).mono hle⟩
def recV (k l : UInt8) (v : Value) : Value := .agg #[u8 k, u8 l, v]
def textsLen (ss : List Ke.Sub) : Nat := (ss.map (·.text.length)).sum
theorem gOk_len {base sz n : Nat} {xs ys : List Value} {g : Gs} (h : gOk base sz n xs g) (hl : ys.length = xs.length) : gOk base sz n ys g := by
  cases g with
  | none =>
    obtain ⟨h1, h2⟩ := h
    exact ⟨h1, List.length_eq_zero_iff.1 (by rw [hl, h2]; rfl)⟩
  | some q =>
    obtain ⟨b, c, sp⟩ := q
    obtain ⟨h1, h2, h3⟩ := h
    exact ⟨h1, by rw [hl]; exact h2, by rw [hl]; exact h3⟩
theorem fldC_one {f : Ke.Fld} {p : Option Addr} {n c : Nat} (h : f.sv = .slice p n c) : (fldC f).all Value.oneCell' = true := by
  unfold fldC; rw [h]; rfl
def tx (codes : List UInt8) (ss : List Ke.Sub) : List (List UInt8) := (ss.filter fun s => codes.contains s.code).map (·.text)
theorem tx_next {codes : List UInt8} {ss : List Ke.Sub} {k : Nat} {s : Ke.Sub} (h : ss[k]? = some s) : tx codes (ss.take (k + 1)) = tx codes (ss.take k) ++ (if codes.contains s.code then [s.text] else []) := by
  obtain ⟨hlt, hg⟩ := List.getElem?_eq_some_iff.1 h
  unfold tx
  rw [List.take_succ_eq_append_getElem hlt, hg, List.filter_append, List.map_append]
  by_cases hc : codes.contains s.code = true
  · rw [if_pos hc, List.filter_cons_of_pos (p := fun s : Ke.Sub => codes.contains s.code) hc]; rfl
  rw [if_neg hc, List.filter_cons_of_neg (p := fun s : Ke.Sub => codes.contains s.code) hc]; rfl
theorem tx_len (codes : List UInt8) (ss : List Ke.Sub) : (tx codes ss).length ≤ ss.length := by
  unfold tx; rw [List.length_map]; exact List.length_filter_le _ _
theorem join_len : ∀ l : List (List UInt8), (Ke.join l).length ≤ (l.map List.length).sum + l.length
  | [] => by simp [Ke.join]
  | [a] => by simp [Ke.join]
  | a :: b :: r => by
    have := join_len (b :: r)
    simp only [Ke.join, List.length_append, List.map_cons, List.sum_cons, List.length_cons, List.length_nil] at this ⊢
    omega
theorem tx_sum (codes : List UInt8) : ∀ ss : List Ke.Sub, ((tx codes ss).map List.length).sum ≤ textsLen ss
  | [] => by simp [tx]
  | s :: r => by
    have := tx_sum codes r
    unfold tx textsLen at this ⊢
    rw [List.filter_cons]
    split
    · simp only [List.map_cons, List.sum_cons]; omega
    simp only [List.map_cons, List.sum_cons]; omega
theorem textOf_len (f : Ke.Fld) (codes : List UInt8) : (Ke.textOf f codes).length ≤ textsLen f.subs + f.subs.length := by
  have h1 := join_len (tx codes f.subs); have h2 := tx_sum codes f.subs; have h3 := tx_len codes f.subs
  have : Ke.textOf f codes = Ke.join (tx codes f.subs) := rfl
  rw [this]; omega
theorem index_has (l : List UInt8) (c : UInt8) : decide (0 ≤ Lib.indexByte l c) = l.contains c := by
  induction l with
  | nil => rfl
  | cons d r ih =>
    rw [Lib.indexByte, List.contains_cons]
    simp only [beq_iff_eq]
    by_cases h : d = c
    · subst h; simp
    rw [if_neg h, show (c == d) = false from beq_eq_false_iff_ne.2 (Ne.symm h), Bool.false_or, ← ih]
    by_cases h0 : Lib.indexByte r c < 0
    · have : ¬ 0 ≤ Lib.indexByte r c := by omega
      rw [decide_eq_false this]
      exact decide_eq_false (by split <;> omega)
    have : 0 ≤ Lib.indexByte r c := by omega
    rw [decide_eq_true this]
    exact decide_eq_true (by split <;> omega)
theorem skip_no {f : Ke.Fld} (h : ¬ 1 < f.ind.length) : Ke.skip f = 0 := by
  unfold Ke.skip; rw [List.getElem?_eq_none (by omega)]
end Go.Proofs.YtjcdfnbomkoheaaGreatDoor
end
section
namespace Go.Proofs.YtjcdfnbomkoheaaGreatDoor
open _root_.Go.Proofs.Tryz
open Go Go.Sx
def StrP (I : Heap) (l : List (List UInt8)) (v : Value) : Prop := ∃ p c, v = .slice p l.length c ∧ l.length ≤ c ∧ (l ≠ [] → ∃ b o cs t fr sp, p = some ⟨b, o, none⟩ ∧ I b = some (.cells (List.toArray cs) t fr) ∧ cs.drop o = l.map str ++ sp)
theorem str_from {cs sp : List Value} {o : Nat} {l : List (List UInt8)} (h : cs.drop o = l.map str ++ sp) {k : Nat} {x : List UInt8} (hx : l[k]? = some x) : cs[o + k]? = some (str x) := by
  rw [← List.getElem?_drop, h]; exact str_get hx
theorem StrP.of {I : Heap} {l : List (List UInt8)} {v : Value} (h : StrS 9 I l v) : StrP I l v := by
  rcases h with ⟨rfl, rfl⟩ | ⟨b, c, sp, rfl, hc, hb⟩
  · exact ⟨none, 0, rfl, Nat.le_refl _, fun h => absurd rfl h⟩
  exact ⟨_, c, rfl, hc, fun _ => ⟨b, 0, _, _, _, sp, rfl, hb, rfl⟩⟩
theorem StrP.mono {I I' : Heap} {l : List (List UInt8)} {v : Value} (h : StrP I l v) (hle : Le I I') : StrP I' l v :=
  let ⟨p, c, h1, h2, h3⟩ := h; ⟨p, c, h1, h2, fun hn => let ⟨b, o, cs, t, fr, sp, h4, h5, h6⟩ := h3 hn; ⟨b, o, cs, t, fr, sp, h4, hle _ _ h5, h6⟩⟩
theorem take_same {α : Type} {a b : List α} {k : Nat} {x : α} (h : a.take k = b.take k) (h1 : a[k]? = some x) (h2 : b[k]? = some x) : a.take (k + 1) = b.take (k + 1) := by
  obtain ⟨l1, g1⟩ := List.getElem?_eq_some_iff.1 h1
  obtain ⟨l2, g2⟩ := List.getElem?_eq_some_iff.1 h2
  rw [List.take_succ_eq_append_getElem l1, List.take_succ_eq_append_getElem l2, h, g1, g2]
theorem join_next {l : List (List UInt8)} {k : Nat} {x : List UInt8} (h : l[k]? = some x) : Ke.join (l.take (k + 1)) = (if 0 < k then Ke.join (l.take k) ++ [32] else Ke.join (l.take k)) ++ x := by
  have key : ∀ (a : List (List UInt8)) (x : List UInt8), Ke.join (a ++ [x]) = (if 0 < a.length then Ke.join a ++ [32] else Ke.join a) ++ x := by
    intro a x
    induction a with
    | nil => rfl
    | cons b r ih =>
      cases r with
      | nil => simp [Ke.join]
      | cons c t =>
        have h1 : Ke.join (b :: c :: t ++ [x]) = b ++ [32] ++ Ke.join (c :: t ++ [x]) := rfl
        rw [h1, ih, if_pos (by simp), if_pos (by simp)]
        simp [Ke.join]
  obtain ⟨hlt, hg⟩ := List.getElem?_eq_some_iff.1 h
  rw [List.take_succ_eq_append_getElem hlt, hg, key, List.length_take, Nat.min_eq_left (by omega)]
theorem join_part (l : List (List UInt8)) (k : Nat) : (Ke.join (l.take k)).length ≤ (Ke.join l).length := by
  have key : ∀ a b : List (List UInt8), (Ke.join a).length ≤ (Ke.join (a ++ b)).length := by
    intro a b
    induction a with
    | nil => exact Nat.zero_le _
    | cons x r ih =>
      cases r with
      | nil =>
        cases b with
        | nil => exact Nat.le_refl _
        | cons y t => simp only [Ke.join, List.cons_append, List.nil_append, List.length_append]; omega
      | cons y t =>
        simp only [Ke.join, List.cons_append, List.length_append] at ih ⊢; omega
  have := key (l.take k) (l.drop k)
  rwa [List.take_append_drop] at this
theorem all_at {s : List UInt8} {k : Nat} {c : UInt8} (h : (s.take k).all Ke.digit = true) (hg : s[k]? = some c) (hd : Ke.digit c = true) : (s.take (k + 1)).all Ke.digit = true := by
  obtain ⟨hlt, hg⟩ := List.getElem?_eq_some_iff.1 hg
  rw [List.take_succ_eq_append_getElem hlt, hg, List.all_append, h]; simp [hd]
theorem not_all {s : List UInt8} {k : Nat} {c : UInt8} (hg : s[k]? = some c) (hd : ¬ Ke.digit c = true) : Ke.digits s = false := by
  rcases h : Ke.digits s with _ | _
  · rfl
  exact absurd (List.all_eq_true.1 h c (lmg hg)) hd
theorem has_next {s : List UInt8} {k : Nat} {c d : UInt8} (h : c ∉ s.take k) (hg : s[k]? = some d) (hd : d ≠ c) : c ∉ s.take (k + 1) := by
  obtain ⟨hlt, hg⟩ := List.getElem?_eq_some_iff.1 hg
  rw [List.take_succ_eq_append_getElem hlt, hg]
  simp only [List.mem_append, List.mem_singleton]
  rintro (e | e)
  · exact h e
  exact hd e.symm
theorem strip_cons0 {r : List UInt8} (h : r ≠ []) : Ke.strip (48 :: r) = Ke.strip r := by
  cases r with
  | nil => exact absurd rfl h
  | cons a t =>
    unfold Ke.strip
    have h1 : (48 :: a :: t).length - 1 = (a :: t).length - 1 + 1 := rfl
    rw [h1, List.drop_succ_cons]
    rfl
theorem strip_done {x : List UInt8} (h : x.length ≤ 1 ∨ ∃ c r, x = c :: r ∧ c ≠ 48) : Ke.strip x = x := by
  rcases h with h | ⟨c, r, rfl, hc⟩
  · match x, h with
    | [], _ => rfl
    | [a], _ => rfl
  cases r with
  | nil => rfl
  | cons a t =>
    have h1 : (c :: a :: t).dropLast = c :: (a :: t).dropLast := rfl
    have h2 : (c :: a :: t).length - 1 = (a :: t).length - 1 + 1 := rfl
    unfold Ke.strip
    rw [h1, List.dropWhile_cons_of_neg (by simpa using hc), h2, List.drop_succ_cons, List.cons_append]
    congr 1
    rw [List.dropLast_eq_take, List.take_append_drop]
theorem head_of0 {l : List UInt8} {x : UInt8} (h : l[0]? = some x) : l = x :: l.tail := by
  cases l with
  | nil => simp at h
  | cons a r => simp at h; subst h; rfl
theorem Same_ok (a b : List (List UInt8)) (va vb : Value) (ha0 : a.length ≤ 100000000000000) (I : Heap) (ha : StrP I a va) (hb : StrP I b vb) : Pure Tryz.prog 39 [va, vb] I (.bool (decide (a = b))) := by
 obtain ⟨p, c, rfl, hc, hp⟩ := ha
 obtain ⟨q, d, rfl, hd, hq⟩ := hb
 refine Ctr.ob func39 ?_
 intro w0 hw0
 refine Cj.sr (J.z q1 ?_)
 refine J.nsss (Cj.region (J.z q0 ?_))
 refine J.z (q14 tU28) ?_
 refine J.z q0 ?_
 refine J.z (q14 tU28) ?_
 refine J.z q45 ?_
 refine J.cd (fun hc1 => ?_) (fun hc1 => ?_)
 ·
  have hc1p := bne_iff_ne.1 hc1
  have hne : a.length ≠ b.length := fun e => (bne_iff_ne.1 hc1) (by rw [e])
  refine Cj.sr (J.z q1 ?_)
  refine J.ns (Cj.rs (q6 ?_))
  have he : decide (a = b) = false := decide_eq_false (fun e => hne (by rw [e]))
  rw [he]
  exact ⟨rfl, rfl, rfl⟩
 have hc1p := bne_f hc1
 have hle0 : a.length = b.length := by have h := hc1; simp at h; omega
 refine Cj.ks (Cj.seq (Cj.sr (J.z q1 ?_)))
 refine J.ns (Cj.block (Cj.loop (ι := Nat) (fun j => j ≤ a.length ∧ a.take j = b.take j) (fun j => a.length - j) (fun j => [(0, .slice p a.length c), (1, .slice q b.length d), (5, i64 (j : Int))]) (fun j => I) (fun j => []) 0 ⟨Nat.zero_le _, rfl⟩ ⟨rfl, rfl, rfl, trivial⟩ rfl rfl ?_))
 rintro j ⟨hj, hsm⟩
 refine Cj.seq (Cj.sr (J.z q0 ?_))
 refine J.z q0 ?_
 refine J.z (q14 tU28) ?_
 refine J.z q16 ?_
 refine J.cd (fun hc2 => ?_) (fun hc2 => ?_)
 ·
  have hc2p := odt hc2
  have hlt : j < a.length := by omega
  obtain ⟨x, hgx⟩ : ∃ x, a[j]? = some x := ⟨_, lgg hlt⟩
  obtain ⟨y, hgy⟩ : ∃ y, b[j]? = some y := ⟨_, lgg (by omega)⟩
  obtain ⟨ab, ao, acs, aty, afr, spa, rfl, hab, had⟩ := hp (ne_nil_of hlt)
  obtain ⟨bb, bo, bcs, bty, bfr, spb, rfl, hbb, hbd⟩ := hq (ne_nil_of (k := j) (by omega))
  refine Cj.ks (Cj.seq (Cj.block (Cj.seq (Cj.drawSel [] [] 9 (by kernel_rfl) ?_))))
  refine JA.fix fx1 (fun fx3 => ?_)
  refine JA.tk 0 rfl fx3 q0 ?_
  refine JA.tk 1 rfl fx3 q0 ?_
  refine JA.tk 2 rfl fx3 (q20 (off' := ao + j) tU28 tS9) ?_
  refine JA.tk 3 rfl fx3 (yl_load rfl rfl tA9 (Blk.immC hab) (str_from had hgx)) ?_
  refine JA.tk 4 rfl fx3 q0 ?_
  refine JA.tk 5 rfl fx3 q0 ?_
  refine JA.tk 6 rfl fx3 (q20 (off' := bo + j) tU28 tS9) ?_
  refine JA.tk 7 rfl fx3 (yl_load rfl rfl tA9 (Blk.immC hbb) (str_from hbd hgy)) ?_
  refine JA.tk 8 rfl fx3 (yl_neqStr rfl rfl rfl) ?_
  refine q12 ?_
  refine Ej.seq (Cj.cond rfl (fun hc4 => ?_) (fun hc4 => ?_))
  ·
   have hc4p := bne_iff_ne.1 hc4
   have hxn : x ≠ y := bne_iff_ne.1 hc4
   refine Cj.sr (J.z q1 ?_)
   refine J.ns (Cj.ret (Ej.blkRet (Ej.seqRet (Ej.loopRet (Ej.blkRet (Ej.seqRet (q6 ?_)))))))
   have he : decide (a = b) = false := decide_eq_false (fun e => by subst e; rw [hgx] at hgy; exact hxn (Option.some.inj hgy))
   rw [he]
   exact ⟨rfl, rfl, rfl⟩
  have hc4p := bne_f hc4
  have hxy : y = x := by have h := hc4; simp at h; exact h.symm
  refine Cj.kb (Cj.region (J.z q0 ?_))
  refine J.z q7 ?_
  refine J.z q1 ?_
  refine J.nil (Ej.round (j + 1) ⟨by omega, take_same hsm hgx (hxy ▸ hgy)⟩ (by omega) ⟨rfl, rfl, rfl, trivial⟩ rfl rfl)
 have hc2p := odf hc2
 refine Cj.xl (Cj.sr (J.z q1 ?_))
 refine J.ns (Cj.ret (q6 ?_))
 have he : decide (a = b) = true := decide_eq_true (by rw [List.take_of_length_le (by omega), List.take_of_length_le (by omega)] at hsm; exact hsm)
 rw [he]
 exact ⟨rfl, rfl, rfl⟩
theorem rJoin_ok (l : List (List UInt8)) (v : Value) (hl : l.length ≤ 100000000000000) (hs : (Ke.join l).length ≤ 1000000000000) (I : Heap) (hv : StrP I l v) : Pure Tryz.prog 93 [v] I (str (Ke.join l)) := by
 obtain ⟨p, c, rfl, hc, hp⟩ := hv
 refine Ctr.ob func93 ?_
 intro w0 hw0
 refine Cj.sr (J.z q1 ?_)
 refine J.nssr (J.z q1 ?_)
 refine J.nsss (Cj.region (J.z q1 ?_))
 refine J.ns (Cj.block (Cj.loop (ι := Nat) (fun j => j ≤ l.length) (fun j => l.length - j) (fun j => [(0, .slice p l.length c), (3, str (Ke.join (l.take j))), (4, i64 (j : Int))]) (fun j => I) (fun j => []) 0 (Nat.zero_le _) ⟨rfl, rfl, rfl, trivial⟩ rfl rfl ?_))
 intro j hj
 have hjp := join_part l j
 have hjp2 := join_part l (j + 1)
 refine Cj.seq (Cj.sr (J.z q0 ?_))
 refine J.z q0 ?_
 refine J.z (q14 tU28) ?_
 refine J.z q16 ?_
 refine J.cd (fun hc1 => ?_) (fun hc1 => ?_)
 ·
  have hc1p := odt hc1
  have hlt : j < l.length := by omega
  obtain ⟨x, hget⟩ : ∃ x, l[j]? = some x := ⟨_, lgg hlt⟩
  obtain ⟨lb, lo, lcs, lty, lfr, sp, rfl, hlb, hld⟩ := hp (ne_nil_of hlt)
  have hjn := congrArg List.length (join_next hget)
  rw [List.length_append] at hjn
  refine Cj.ks (Cj.seq (Cj.block (Cj.seq (Cj.sr (J.z q0 ?_)))))
  refine J.z (yl_gtr rfl rfl rfl) ?_
  refine J.cd (fun hc2 => ?_) (fun hc2 => ?_)
  ·
   have hc2p := odt hc2
   have hj0 : 0 < j := by have h := odt hc2; omega
   refine Cj.region (J.z q0 ?_)
   refine J.z (yl_cat rfl rfl rfl (by rw [if_pos hj0, List.length_append] at hjn; simp only [List.length_cons, List.length_nil] at hjn ⊢; omega)) ?_
   refine J.z q1 ?_
   refine J.nsr (J.z q0 ?_)
   refine J.z q0 ?_
   refine J.z q0 ?_
   refine J.z (q20 (off' := lo + j) tU28 tS9) ?_
   refine J.z (yl_load rfl rfl tA9 (Blk.imm hlb) (str_from hld hget)) ?_
   refine J.z (yl_cat rfl rfl rfl (by first | (rw [if_pos hj0, List.length_append] at hjn; simp only [List.length_append, List.length_cons, List.length_nil] at hjn ⊢; omega) | (rw [if_neg hj0] at hjn; omega))) ?_
   refine J.z q1 ?_
   refine J.nb (Cj.region (J.z q0 ?_))
   refine J.z q7 ?_
   refine J.z q1 ?_
   refine J.nil (Ej.round (j + 1) (by omega) (by omega) ⟨rfl, by rw [join_next hget, if_pos hj0]; rfl, rfl, trivial⟩ rfl rfl)
  have hc2p := odf hc2
  have hj0 : ¬ 0 < j := by have h := odf hc2; omega
  refine Cj.ks (Cj.region (J.z q0 ?_))
  refine J.z q0 ?_
  refine J.z q0 ?_
  refine J.z (q20 (off' := lo + j) tU28 tS9) ?_
  refine J.z (yl_load rfl rfl tA9 (Blk.imm hlb) (str_from hld hget)) ?_
  refine J.z (yl_cat rfl rfl rfl (by first | (rw [if_pos hj0, List.length_append] at hjn; simp only [List.length_append, List.length_cons, List.length_nil] at hjn ⊢; omega) | (rw [if_neg hj0] at hjn; omega))) ?_
  refine J.z q1 ?_
  refine J.nb (Cj.region (J.z q0 ?_))
  refine J.z q7 ?_
  refine J.z q1 ?_
  refine J.nil (Ej.round (j + 1) (by omega) (by omega) ⟨rfl, by rw [join_next hget, if_neg hj0]; rfl, rfl, trivial⟩ rfl rfl)
 have hc1p := odf hc1
 have hfull : l.take j = l := List.take_of_length_le (by omega)
 refine Cj.xl (Cj.sr (J.z q0 ?_))
 refine J.z q1 ?_
 refine J.ns (Cj.ret (q6 ?_))
 rw [hfull]
 exact ⟨rfl, rfl, rfl⟩
theorem rdigits_ok (s : List UInt8) (hs : s.length ≤ 1000000000000) (I : Heap) : Pure Tryz.prog 91 [str s] I (.bool (Ke.digits s)) := by
 refine Ctr.ob func91 ?_
 intro w0 hw0
 refine Cj.sr (J.z q1 ?_)
 refine J.nsss (Cj.region (J.z q1 ?_))
 refine J.ns (Cj.block (Cj.loop (ι := Nat) (fun j => j ≤ s.length ∧ (s.take j).all Ke.digit = true) (fun j => s.length - j) (fun j => [(0, str s), (3, i64 (j : Int))]) (fun j => I) (fun j => []) 0 ⟨Nat.zero_le _, rfl⟩ ⟨rfl, rfl, trivial⟩ rfl rfl ?_))
 rintro j ⟨hj, hall⟩
 refine Cj.seq (Cj.sr (J.z q0 ?_))
 refine J.z q0 ?_
 refine J.z (q28 tU9) ?_
 refine J.z q16 ?_
 refine J.cd (fun hc1 => ?_) (fun hc1 => ?_)
 ·
  have hc1p := odt hc1
  have hlt : j < s.length := by omega
  obtain ⟨c, hget⟩ : ∃ c, s[j]? = some c := ⟨_, lgg hlt⟩
  refine Cj.ks (Cj.seq (Cj.block (Cj.sr (J.z q0 ?_))))
  refine J.z q0 ?_
  refine J.z (q41 tU9 hget) ?_
  refine J.z q16 ?_
  refine J.z q0 ?_
  refine q15 14 (fun hg2 => ?_) (fun hg2 => ?_)
  ·
   have hnd : ¬ Ke.digit c = true := fun e => by have h1 := Ke.digit_iff.1 e; have h := odt hg2; omega
   refine q4 4 14 15 false hg2 ?_
   refine q4 4 14 16 false hg2 ?_
   refine q4 4 14 17 false hg2 ?_
   refine q4 4 14 18 false hg2 ?_
   refine J.z (q11 hg2) ?_
   refine J.c1 (fun hc3 => ?_)
   refine Cj.sr (J.z q1 ?_)
   refine J.ns (Cj.ret (Ej.blkRet (Ej.seqRet (Ej.loopRet (Ej.blkRet (Ej.seqRet (q6 ?_)))))))
   rw [not_all hget hnd]
   exact ⟨rfl, rfl, rfl⟩
  have hlo := odf hg2
  refine q3 4 14 false hg2 (q2 q0 ?_)
  refine q3 4 14 false hg2 (q2 q0 ?_)
  refine J.opG 4 14 false _ rfl rfl rfl hg2 (op_yld (q41 tU9 hget) rfl rfl ?_)
  refine q3 4 14 false hg2 (q2 (yl_gtr rfl rfl rfl) ?_)
  refine J.z (q9 hg2) ?_
  refine J.cd (fun hc4 => ?_) (fun hc4 => ?_)
  ·
   have hc4p := odt hc4
   have hnd : ¬ Ke.digit c = true := fun e => by have h1 := Ke.digit_iff.1 e; have h := odt hc4; omega
   refine Cj.sr (J.z q1 ?_)
   refine J.ns (Cj.ret (Ej.blkRet (Ej.seqRet (Ej.loopRet (Ej.blkRet (Ej.seqRet (q6 ?_)))))))
   rw [not_all hget hnd]
   exact ⟨rfl, rfl, rfl⟩
  have hc4p := odf hc4
  have hd : Ke.digit c = true := Ke.digit_iff.2 (by have h := odf hc4; omega)
  refine Cj.kb (Cj.region (J.z q0 ?_))
  refine J.z q7 ?_
  refine J.z q1 ?_
  refine J.nil (Ej.round (j + 1) ⟨by omega, all_at hall hget hd⟩ (by omega) ⟨rfl, rfl, trivial⟩ rfl rfl)
 have hc1p := odf hc1
 refine Cj.xl (Cj.sr (J.z q1 ?_))
 refine J.ns (Cj.ret (q6 ?_))
 have he : Ke.digits s = true := by rw [List.take_of_length_le (by omega)] at hall; exact hall
 rw [he]
 exact ⟨rfl, rfl, rfl⟩
theorem has_ok (s : List UInt8) (d : UInt8) (hs : s.length ≤ 1000000000000) (I : Heap) : Pure Tryz.prog 156 [str s, u8 d] I (.bool (s.contains d)) := by
 refine Ctr.ob func156 ?_
 intro w0 hw0
 refine Cj.sr (J.z q1 ?_)
 refine J.nsss (Cj.region (J.z q1 ?_))
 refine J.ns (Cj.block (Cj.loop (ι := Nat) (fun j => j ≤ s.length ∧ d ∉ s.take j) (fun j => s.length - j) (fun j => [(0, str s), (1, u8 d), (5, i64 (j : Int))]) (fun j => I) (fun j => []) 0 ⟨Nat.zero_le _, by simp⟩ ⟨rfl, rfl, rfl, trivial⟩ rfl rfl ?_))
 rintro j ⟨hj, hno⟩
 refine Cj.seq (Cj.sr (J.z q0 ?_))
 refine J.z q0 ?_
 refine J.z (q28 tU9) ?_
 refine J.z q16 ?_
 refine J.cd (fun hc1 => ?_) (fun hc1 => ?_)
 ·
  have hc1p := odt hc1
  have hlt : j < s.length := by omega
  obtain ⟨c, hget⟩ : ∃ c, s[j]? = some c := ⟨_, lgg hlt⟩
  refine Cj.ks (Cj.seq (Cj.block (Cj.sr (J.z q0 ?_))))
  refine J.z q0 ?_
  refine J.z (q41 tU9 hget) ?_
  refine J.z q0 ?_
  refine J.z q22 ?_
  refine J.cd (fun hc2 => ?_) (fun hc2 => ?_)
  ·
   have hc2p := ebq hc2
   have he : c = d := UInt8.toNat_inj.1 (by have h := ebq hc2; omega)
   refine Cj.sr (J.z q1 ?_)
   refine J.ns (Cj.ret (Ej.blkRet (Ej.seqRet (Ej.loopRet (Ej.blkRet (Ej.seqRet (q6 ?_)))))))
   have hx : s.contains d = true := by simpa using he ▸ lmg hget
   rw [hx]
   exact ⟨rfl, rfl, rfl⟩
  have hc2p := nbf hc2
  have hne : c ≠ d := fun e => nbf hc2 (by rw [e])
  refine Cj.kb (Cj.region (J.z q0 ?_))
  refine J.z q7 ?_
  refine J.z q1 ?_
  refine J.nil (Ej.round (j + 1) ⟨by omega, has_next hno hget hne⟩ (by omega) ⟨rfl, rfl, rfl, trivial⟩ rfl rfl)
 have hc1p := odf hc1
 refine Cj.xl (Cj.sr (J.z q1 ?_))
 refine J.ns (Cj.ret (q6 ?_))
 have hx : s.contains d = false := by rw [List.take_of_length_le (by omega)] at hno; simpa using hno
 rw [hx]
 exact ⟨rfl, rfl, rfl⟩
theorem number_ok (s : List UInt8) (hs : s.length ≤ 1000000000000) (I : Heap) : Pure Tryz.prog 92 [str s] I (str (Ke.number s)) := by
 refine Ctr.ob func92 ?_
 intro w0 hw0
 refine Cj.sr (J.z q1 ?_)
 refine J.nss (Cj.block (Cj.loop (ι := List UInt8) (fun x => Ke.strip x = Ke.strip s ∧ x.length ≤ s.length) (fun x => x.length) (fun x => [(0, str x)]) (fun x => I) (fun x => []) s ⟨rfl, Nat.le_refl _⟩ ⟨rfl, trivial⟩ rfl rfl ?_))
 rintro x ⟨hx, hxl⟩
 refine Cj.seq (Cj.sr (J.z q0 ?_))
 refine J.z (q28 tU9) ?_
 refine J.z (yl_gtr rfl rfl rfl) ?_
 refine J.z q0 ?_
 refine q15 7 (fun hg1 => ?_) (fun hg1 => ?_)
 ·
  have hl1 : 1 < x.length := by have h := odt hg1; omega
  obtain ⟨c, hget⟩ : ∃ c, x[0]? = some c := ⟨_, lgg (by omega)⟩
  have hxc : x = c :: x.tail := head_of0 hget
  have htn : x.tail ≠ [] := fun e => by rw [hxc, e] at hl1; simp at hl1
  refine q3 3 7 true hg1 (q2 q0 ?_)
  refine J.opG 3 7 true _ rfl rfl rfl hg1 (op_yld (q41 tU9 hget) rfl rfl ?_)
  refine q3 3 7 true hg1 (q2 q22 ?_)
  refine J.z (q11 hg1) ?_
  refine J.cd (fun hc2 => ?_) (fun hc2 => ?_)
  ·
   have hc2p := ebq hc2
   have hx0 : x = 48 :: x.tail := by have h := ebq hc2; rw [show c = 48 from UInt8.toNat_inj.1 (by rw [show (48 : UInt8).toNat = 48 from rfl]; omega)] at hxc; exact hxc
   refine Cj.ks (Cj.block (Cj.region (J.z q0 ?_)))
   refine J.z (yl_sliceStr (p := 1) (q := x.length) rfl rfl tU9 ⟨_, rfl⟩ rfl (by omega) (by omega)) ?_
   refine J.eqv 13 rfl (show _ = str x.tail from (by rw [List.take_length, List.drop_one])) ?_
   refine J.z q1 ?_
   refine J.nil (Ej.blkNormal (Ej.round x.tail ⟨by rw [← hx, hx0, strip_cons0 htn]; rfl, by rw [List.length_tail]; omega⟩ (by rw [List.length_tail]; omega) ⟨rfl, trivial⟩ rfl rfl))
  have hc2p := nbf hc2
  have hdone : x.length ≤ 1 ∨ ∃ c r, x = c :: r ∧ c ≠ 48 := .inr ⟨c, _, hxc, fun e => nbf hc2 (by rw [e]; rfl)⟩
  have hsl : (Ke.strip s).length = x.length := by rw [← hx, strip_done hdone]
  refine Cj.xl (Cj.sr (J.z q0 ?_))
  refine J.eqv 14 rfl (show _ = str (Ke.strip s) from (by rw [← hx, strip_done hdone])) ?_
  refine J.z (q28 tU9) ?_
  refine J.z (yl_min2 rfl rfl rfl) ?_
  refine J.eqv 16 rfl (show _ = i64 ((min (Ke.strip s).length 99 : Nat) : Int) from (congrArg i64 (by split <;> omega))) ?_
  refine J.z q1 ?_
  refine J.nssr (J.z q0 ?_)
  refine J.z (yl_quo rfl rfl rfl (by decide) (w64 (by show _ ≤ ((min (Ke.strip s).length 99 / 10 : Nat) : Int) ∧ ((min (Ke.strip s).length 99 / 10 : Nat) : Int) ≤ _; omega))) ?_
  refine J.eqv 18 rfl (show _ = i64 ((min (Ke.strip s).length 99 / 10 : Nat) : Int) from rfl) ?_
  refine J.z q7 ?_
  refine J.eqv 19 rfl (show _ = i64 ((48 + min (Ke.strip s).length 99 / 10 : Nat) : Int) from (congrArg i64 (by omega))) ?_
  refine J.z (yl_convInt rfl rfl tU3 tU5) ?_
  refine J.eqv 20 rfl (show _ = u8 (UInt8.ofNat (48 + min (Ke.strip s).length 99 / 10)) from (congrArg (Value.int .u8) (conv8 (by omega)))) ?_
  refine J.z q0 ?_
  refine J.z (yl_rem rfl rfl rfl (by decide)) ?_
  refine J.eqv 22 rfl (show _ = i64 ((min (Ke.strip s).length 99 % 10 : Nat) : Int) from rfl) ?_
  refine J.z q7 ?_
  refine J.eqv 23 rfl (show _ = i64 ((48 + min (Ke.strip s).length 99 % 10 : Nat) : Int) from (congrArg i64 (by omega))) ?_
  refine J.z (yl_convInt rfl rfl tU3 tU5) ?_
  refine J.eqv 24 rfl (show _ = u8 (UInt8.ofNat (48 + min (Ke.strip s).length 99 % 10)) from (congrArg (Value.int .u8) (conv8 (by omega)))) ?_
  refine J.op rfl (op_buildSlice rfl rfl rfl tU71 tS5 tZ5 rfl rfl rfl rfl (LCat.one rfl (LCat.one rfl LCat.none)) ?_)
  intro b3 hb3
  refine J.z (yl_toStr [UInt8.ofNat (48 + min (Ke.strip s).length 99 / 10), UInt8.ofNat (48 + min (Ke.strip s).length 99 % 10)] rfl rfl rfl tU71 tU9 tU5 (Blk.at 0 rfl) rfl) ?_
  refine J.z q0 ?_
  refine J.eqv 27 rfl (show _ = str (Ke.strip s) from (by rw [← hx, strip_done hdone])) ?_
  refine J.z (yl_cat rfl rfl rfl (by first | omega | (simp only [List.length_append]; omega) | (simp; omega))) ?_
  refine J.z q1 ?_
  refine J.ns (Cj.ret (Ej.bare ?_))
  refine q6 ?_
  exact ⟨rfl, rfl, rfl⟩
 have hdone : x.length ≤ 1 ∨ ∃ c r, x = c :: r ∧ c ≠ 48 := .inl (by have h := odf hg1; omega)
 have hsl : (Ke.strip s).length = x.length := by rw [← hx, strip_done hdone]
 refine q4 3 7 8 true hg1 ?_
 refine q4 3 7 9 true hg1 ?_
 refine q4 3 7 10 true hg1 ?_
 refine J.z (q9 hg1) ?_
 refine J.c0 (fun hc4 => ?_)
 refine Cj.xl (Cj.sr (J.z q0 ?_))
 refine J.eqv 14 rfl (show _ = str (Ke.strip s) from (by rw [← hx, strip_done hdone])) ?_
 refine J.z (q28 tU9) ?_
 refine J.z (yl_min2 rfl rfl rfl) ?_
 refine J.eqv 16 rfl (show _ = i64 ((min (Ke.strip s).length 99 : Nat) : Int) from (congrArg i64 (by split <;> omega))) ?_
 refine J.z q1 ?_
 refine J.nssr (J.z q0 ?_)
 refine J.z (yl_quo rfl rfl rfl (by decide) (w64 (by show _ ≤ ((min (Ke.strip s).length 99 / 10 : Nat) : Int) ∧ ((min (Ke.strip s).length 99 / 10 : Nat) : Int) ≤ _; omega))) ?_
 refine J.eqv 18 rfl (show _ = i64 ((min (Ke.strip s).length 99 / 10 : Nat) : Int) from rfl) ?_
 refine J.z q7 ?_
 refine J.eqv 19 rfl (show _ = i64 ((48 + min (Ke.strip s).length 99 / 10 : Nat) : Int) from (congrArg i64 (by omega))) ?_
 refine J.z (yl_convInt rfl rfl tU3 tU5) ?_
 refine J.eqv 20 rfl (show _ = u8 (UInt8.ofNat (48 + min (Ke.strip s).length 99 / 10)) from (congrArg (Value.int .u8) (conv8 (by omega)))) ?_
 refine J.z q0 ?_
 refine J.z (yl_rem rfl rfl rfl (by decide)) ?_
 refine J.eqv 22 rfl (show _ = i64 ((min (Ke.strip s).length 99 % 10 : Nat) : Int) from rfl) ?_
 refine J.z q7 ?_
 refine J.eqv 23 rfl (show _ = i64 ((48 + min (Ke.strip s).length 99 % 10 : Nat) : Int) from (congrArg i64 (by omega))) ?_
 refine J.z (yl_convInt rfl rfl tU3 tU5) ?_
 refine J.eqv 24 rfl (show _ = u8 (UInt8.ofNat (48 + min (Ke.strip s).length 99 % 10)) from (congrArg (Value.int .u8) (conv8 (by omega)))) ?_
 refine J.op rfl (op_buildSlice rfl rfl rfl tU71 tS5 tZ5 rfl rfl rfl rfl (LCat.one rfl (LCat.one rfl LCat.none)) ?_)
 intro b5 hb5
 refine J.z (yl_toStr [UInt8.ofNat (48 + min (Ke.strip s).length 99 / 10), UInt8.ofNat (48 + min (Ke.strip s).length 99 % 10)] rfl rfl rfl tU71 tU9 tU5 (Blk.at 0 rfl) rfl) ?_
 refine J.z q0 ?_
 refine J.eqv 27 rfl (show _ = str (Ke.strip s) from (by rw [← hx, strip_done hdone])) ?_
 refine J.z (yl_cat rfl rfl rfl (by first | omega | (simp only [List.length_append]; omega) | (simp; omega))) ?_
 refine J.z q1 ?_
 refine J.ns (Cj.ret (Ej.bare ?_))
 refine q6 ?_
 exact ⟨rfl, rfl, rfl⟩
end Go.Proofs.YtjcdfnbomkoheaaGreatDoor
end
section
namespace Go.Sx
open Go
def rcs (l : List Nat) : List Value := l.map fun (r : Nat) => Value.int .i32 (r : Int)
theorem rcs_get {l : List Nat} {sp : List Value} {k c : Nat} (h : l[k]? = some c) : (rcs l ++ sp)[k]? = some (.int .i32 (c : Int)) := by
  obtain ⟨hlt, hg⟩ := List.getElem?_eq_some_iff.1 h
  rw [List.getElem?_append_left (by simpa [rcs] using hlt)]
  simp [rcs, h]
section
variable {cx : Cx} {Q : Qt} {o : Oper} {e : Env} {I : Heap} {H : HL} {C : Ct} {S : World → Prop}
theorem op_toRunes {Sy T E d : Nat} {x : Operand} {l : List UInt8} {rs : List Nat} (hr : Conv.runesFrom ⟨l.toArray⟩ l.length 0 #[] = (rcs rs).toArray) (ho : o.op = .convert Sy T x) (hd : o.dst = some d) (hn : Nat.blt d cx.n = true) (hx : ev e x = some (str l))
    (hS : cx.P.underlying Sy = some .string) (hT : cx.P.underlying T = some (.slice E)) (hE : cx.P.underlying E = some (.int .i32))
    (k : ∀ b c sp, cx.w0.heap.size ≤ b → C ((d, .slice (some ⟨b, 0, none⟩) rs.length c) :: e) I ((b, cel E (rcs rs ++ sp)) :: H)) : OpJ cx Q o e I H C := by
  intro K hK a w ha hst
  unfold Oper.wp
  let cap := (Question.appendCap rs.length 0 E).cut (w.tape w.drawn (.appendCap rs.length 0 E))
  let sp : List Value := List.replicate (cap - rs.length) (.int .i32 0)
  have hsz : (rcs rs).toArray.size = rs.length := by simp [rcs]
  have hrun : (execOp a.eval o).run cx.P w = .ok (.value (.slice (some ⟨w.heap.size, 0, none⟩) rs.length cap))
      { { w with drawn := w.drawn + 1 } with heap := w.heap.push (cel E (rcs rs ++ sp)) } := by
    have h0 : (rcs rs).toArray ++ Array.replicate (cap - rs.length) (Value.int IntKind.i32 0) = (rcs rs ++ sp).toArray := by
      simp [sp]
    simp only [execOp, ho, convert, ha.eval hx, str, Sem.run_bind, run_underlying hS, run_underlying hT, Result.andThen_ok, run_underlying hE, Conv.stringToRunes, size_mk, hr, hsz, run_choose, Question.forced, newRow, run_newObj, Bool.false_eq_true, if_false, Sem.run_pure]
    rw [show (Question.appendCap rs.length 0 E).cut (w.tape w.drawn (Question.appendCap rs.length 0 E)) = cap from rfl, h0]
    rfl
  rw [hrun]
  simp only [Oper.upon, hd]
  exact hK _ _ _ (k w.heap.size cap sp hst.size) _ _ (ha.put hn) ((hst.drewN (w.drawn + 1)).alloc _)
theorem gV_slice {base sz n : Nat} {xs : List Value} {g : Gs} (h : gOk base sz n xs g) : ∃ p c, gV n g = .slice p n c := by
  cases g with
  | none => obtain ⟨rfl, _⟩ := h; exact ⟨none, 0, rfl⟩
  | some q => obtain ⟨b, c, sp⟩ := q; exact ⟨_, c, rfl⟩
theorem yl_lenG {base sz n : Nat} {xs : List Value} {g : Gs} (h : gOk base sz n xs g) {x : Operand} {T E : TypeId} (ho : o.op = .call ⟨.builtin .len, #[x], #[T]⟩) (hx : ev e x = some (gV n g)) (hu : cx.P.underlying T = some (.slice E)) : Yld cx o e S (i64 (n : Int)) := by
  obtain ⟨p, c, hp⟩ := gV_slice h
  exact yl_lenSlice ho (hx.trans (congrArg some hp)) hu
theorem yl_toStr1 {Sy T E : Nat} {x : Operand} (r : Int) {b c : Nat} {cs : List Value} {t : TypeId} {fr : Nat × Nat} (ho : o.op = .convert Sy T x) (hx : ev e x = some (.slice (some ⟨b, 0, none⟩) 1 c))
    (hS : cx.P.underlying Sy = some (.slice E)) (hT : cx.P.underlying T = some .string) (hE : cx.P.underlying E = some (.int .i32)) (hb : Blk S b (.cells cs.toArray t fr)) (hl : cs[0]? = some (.int .i32 r)) :
    Yld cx o e S (str (Utf8.encode r).data.toList) := by
  intro a w ha hs
  have hc : ∀ j v, [Value.int .i32 r][j]? = some v → w.cell? ((⟨b, 0, none⟩ : Addr).add j) = some v := fun j v hj => by
    rw [Addr.add_lit]
    refine cell_of_heap (hb w hs) ?_
    cases j with
    | zero => simp at hj; subst hj; simpa using hl
    | succ j => simp at hj
  have h1 := run_loadCells_list (P := cx.P) (w := w) ⟨b, 0, none⟩ [Value.int .i32 r] hc
  have h2 : (loadCells ⟨b, 0, none⟩ 1).run cx.P w = .ok #[Value.int .i32 r] w := h1
  simp only [execOp, ho, convert, ha.eval hx, Sem.run_bind, run_underlying hS, run_underlying hT, Result.andThen_ok, run_underlying hE, Conv.runesToString, h2]
  simp [str]
theorem q46 {Sy T E : Nat} {x : Operand} {r : Int} {b c : Nat} {cs : List Value} {t : TypeId} {fr : Nat × Nat} (hS : cx.P.underlying Sy = some (.slice E)) (hT : cx.P.underlying T = some .string) (hE : cx.P.underlying E = some (.int .i32)) (ho : o.op = .convert Sy T x := by exact rfl) (hx : ev e x = some (.slice (some ⟨b, 0, none⟩) 1 c) := by exact rfl) (hb : Blk S b (.cells cs.toArray t fr) := by exact Blk.at 0 rfl) (hl : cs[0]? = some (.int .i32 r) := by exact rfl) : Yld cx o e S (str (Utf8.encode r).data.toList) := yl_toStr1 r ho hx hS hT hE hb hl
end
end Go.Sx
end
section
namespace Go.Sx
open Go
section
variable {cx : Cx} {Q : Qt} {o : Oper} {e : Env} {I : Heap} {H : HL} {C : Ct} {S : World → Prop}
theorem yl_lssStr {x y : Operand} {T U : Nat} {l m : List UInt8} (ho : o.op = .binOp .lss T x y U) (hx : ev e x = some (str l)) (hy : ev e y = some (str m)) : Yld cx o e S (.bool (decide (l < m))) := by
  intro a w ha _
  have h := Go.Proofs.bytesLess_eq l m
  simp [execOp, ho, ha.eval hx, ha.eval hy, str, eqGuard_at_string, binOp, Op.stringOp, h]
theorem yl_geqStr {x y : Operand} {T U : Nat} {l m : List UInt8} (ho : o.op = .binOp .geq T x y U) (hx : ev e x = some (str l)) (hy : ev e y = some (str m)) : Yld cx o e S (.bool (!decide (l < m))) := by
  intro a w ha _
  have h := Go.Proofs.bytesLess_eq l m
  simp [execOp, ho, ha.eval hx, ha.eval hy, str, eqGuard_at_string, binOp, Op.stringOp, h]
end
end Go.Sx
namespace Go.Sx
open Go
theorem Le.mono {I J K : Heap} (h : Le I J) (k : Le J K) : Le I K := h.trans k
theorem Ej.retC {cx : Cx} {fn : Func} {post : Ending → Heap → HL → Prop} {e : Env} {I : Heap} {H H' : HL} {t T b n : Nat} {cs : List Value} {ty : TypeId} {fr : Nat × Nat} (hk : Keeps H' H) (hr : fn.results = #[.cell t T]) (hds : cx.ds = []) (hv : eg e t = some (ptr b 0))
    (hb : Blk (SS I H) b (.cells cs.toArray ty fr)) (ha0 : ∀ w, (isAgg T).run cx.P w = .ok true w) (hsz : ∀ w, (sizeOf T).run cx.P w = .ok n w) (hn : cs.length = n) (hp : post (.returned (.agg cs.toArray)) I H') :
    Ej cx (bodyPost cx.P fn (RR cx.w0 cx.D cx.I0 post)) .ret e I H := by
  intro a w ha hs
  refine ⟨ha.defs.trans hds, _, ?_, I, H', hs.sublist hk, hp⟩
  have h1 := ha.get t _ hv
  have hc : ∀ j v, cs[j]? = some v → w.cell? ((⟨b, 0, none⟩ : Addr).add j) = some v := fun j v hj => by
    rw [Addr.add_lit]; exact cell_of_heap (hb w hs.ss) (by simpa using hj)
  have h2 := run_loadCells_list (P := cx.P) (w := w) ⟨b, 0, none⟩ cs hc
  rw [hn] at h2
  simp [results, hr, h1, asAddr, loadVar, ha0, hsz, h2]
end Go.Sx
end
section
namespace Go.Sx
open Go
theorem flat_len {α : Type} {f : α → List Value} {sz : Nat} (hf : ∀ x, (f x).length = sz) : ∀ l : List α, (l.flatMap f).length = l.length * sz
  | [] => by simp
  | a :: r => by rw [List.flatMap_cons, List.length_append, hf a, flat_len hf r, List.length_cons, Nat.add_mul]; omega
theorem flat_one {α : Type} (f : α → List Value) (l : List α) (x : α) : (l ++ [x]).flatMap f = l.flatMap f ++ f x := by simp
section
variable {cx : Cx} {Q : Qt} {e : Env} {I : Heap} {R : HL} {T : TypeId} {α : Type} {l : List α} {f : α → List Value} {sz n base : Nat} {g : Gs}
theorem gR_cases {X : Heap → HL → Prop} (hf : ∀ x, (f x).length = sz) (hpos : 0 < sz) (hg : gOk base sz n (l.flatMap f) g) (hn : n = l.length) (hp : ∀ b o, base ≤ b → (∀ I', Le I I' → I' b = some o → X I' R) → X I ((b, o) :: R)) (k : ∀ I', Le I I' → RowS f I' l (gV n g) → X I' R) : X I (gH T (l.flatMap f) g ++ R) := by
  subst hn
  cases g with
  | none =>
    obtain ⟨h1, h2⟩ := hg
    have : l = [] := List.length_eq_zero_iff.1 h1
    subst this
    exact k I (Le.refl _) RowS.nil
  | some q =>
    obtain ⟨b, c, sp⟩ := q
    obtain ⟨h1, h2, h3⟩ := hg
    have hc : l.length ≤ c := by
      rw [flat_len hf] at h3
      exact Nat.le_of_mul_le_mul_right (by omega : l.length * sz ≤ c * sz) hpos
    exact hp b _ h1 fun I' hle hb => k I' hle ⟨_, c, rfl, hc, fun _ => ⟨b, 0, _, T, _, sp, rfl, hb, rfl⟩⟩
theorem Cj.keepR {c : Code} (hf : ∀ x, (f x).length = sz) (hpos : 0 < sz) (hg : gOk cx.w0.heap.size sz n (l.flatMap f) g) (hn : n = l.length) (k : ∀ I', Le I I' → RowS f I' l (gV n g) → Cj cx Q c e I' R) : Cj cx Q c e I (gH T (l.flatMap f) g ++ R) :=
  gR_cases (X := fun I H => Cj cx Q c e I H) hf hpos hg hn (fun _ _ hb k => Cj.persist hb k) k
theorem Ej.keepR {x : Exit} (hf : ∀ x, (f x).length = sz) (hpos : 0 < sz) (hg : gOk cx.w0.heap.size sz n (l.flatMap f) g) (hn : n = l.length) (k : ∀ I', Le I I' → RowS f I' l (gV n g) → Ej cx Q x e I' R) : Ej cx Q x e I (gH T (l.flatMap f) g ++ R) :=
  gR_cases (X := fun I H => Ej cx Q x e I H) hf hpos hg hn (fun _ _ hb k => Ej.persist hb k) k
theorem gV_one' (n : Nat) (g : Gs) : Value.oneCell' (gV n g) = true := by
  cases g with
  | none => rfl
  | some q => obtain ⟨b, c, sp⟩ := q; rfl
end
end Go.Sx
namespace Go.Sx
open Go
section
variable {cx : Cx} {o : Oper} {e : Env} {S : World → Prop}
theorem yl_sliceTo {x y : Operand} {T E n c sz j : Nat} {b : Option Addr} {kl : IntKind} (ho : o.op = .slice T x none (some y) none) (hx : ev e x = some (.slice b n c)) (hy : ev e y = some (.int kl (j : Int))) (hu : cx.P.underlying T = some (.slice E)) (hsz : ∀ w, (sizeOf E).run cx.P w = .ok sz w) (hj : j ≤ c) :
    Yld cx o e S (.slice b j c) := by
  intro a w ha _
  have h1 : (j : Int) ≤ c := by omega
  cases b with
  | none => simp [execOp, ho, ha.eval hx, ha.eval hy, Instr.sliceAt, Instr.slice, run_underlying hu, Instr.sliceBounds, run_sliceBound, h1, hsz]
  | some q =>
    simp [execOp, ho, ha.eval hx, ha.eval hy, Instr.sliceAt, Instr.slice, run_underlying hu, Instr.sliceBounds, run_sliceBound, h1, hsz, Addr.add]
end
theorem RowS.take {α : Type} {f : α → List Value} {I : Heap} {l : List α} {p : Option Addr} {c : Nat} (h : RowS f I l (.slice p l.length c)) {m : Nat} (hm : m ≤ l.length) : RowS f I (l.take m) (.slice p m c) := by
  obtain ⟨p', c', he, hc, hb⟩ := h
  cases he
  refine ⟨p, c, by rw [List.length_take, Nat.min_eq_left hm], by rw [List.length_take]; omega, fun hn => ?_⟩
  have hl : l ≠ [] := fun e => hn (by rw [e]; simp)
  obtain ⟨b, o, cs, t, fr, sp, h1, h2, h3⟩ := hb hl
  refine ⟨b, o, cs, t, fr, (l.drop m).flatMap f ++ sp, h1, h2, ?_⟩
  rw [h3, ← List.append_assoc, ← List.flatMap_append, List.take_append_drop]
end Go.Sx
namespace Go.Sx
open Go
theorem all_flat {α : Type} {f : α → List Value} : ∀ {l : List α}, (∀ x ∈ l, (f x).all Value.oneCell' = true) → (l.flatMap f).all Value.oneCell' = true
  | [], _ => rfl
  | a :: r, h => by rw [List.flatMap_cons, List.all_append, h a (.head _), all_flat fun x hx => h x (.tail _ hx)]; rfl
theorem Src.row {P : Program} {I : Heap} {H : HL} {α : Type} {f : α → List Value} {sz : Nat} {l : List α} {v : Value} (hf : ∀ x, (f x).length = sz) (h : RowS f I l v) (h1 : ∀ x ∈ l, (f x).all Value.oneCell' = true) : Src P I H sz l.length v (l.flatMap f) := by
  obtain ⟨p, c, rfl, _, hb⟩ := h
  cases l with
  | nil => exact Src.nil
  | cons a r =>
    obtain ⟨b, o, cs, t, fr, sp, rfl, h2, h3⟩ := hb (by simp)
    have hl := flat_len hf (a :: r)
    exact Src.slice (Blk.imm h2) (by rw [h3, ← hl, List.take_left]) hl (all_flat h1)
end Go.Sx
end
