/-
  Own texts on the laws of the seat, joined: the logic, and contracts of functions. Conditions: none.
-/
import Derived.Test.YtjcdfnbomkoheaaGreatDoorNmP
import Derived.Test.YtjcdfnbomkoheaaGreatDoorPP3
set_option maxRecDepth 100000
set_option maxHeartbeats 4000000
section
namespace Go.Proofs.YtjcdfnbomkoheaaGreatDoor
open _root_.Go.Proofs.Tryz
open Go Go.Sx
def rn (s : List UInt8) : List UInt8 := (s.takeWhile Ke.okb).filter Ke.nb
theorem up_X {c : UInt8} (h : c.toNat = 88 ∨ c.toNat = 120) : Ke.up c = 88 := by
  rcases h with h | h
  · rw [show c = 88 from UInt8.toNat_inj.1 (by rw [h]; rfl)]; rfl
  rw [show c = 120 from UInt8.toNat_inj.1 (by rw [h]; rfl)]; rfl
theorem up_same {c : UInt8} (h : Ke.digit c = true) : Ke.up c = c := (Ke.digit_ok h).2.2
theorem val_digit {c : UInt8} (h : Ke.digit c = true) : Ke.val c = c.toNat - 48 := by
  have := Ke.digit_iff.1 h
  unfold Ke.val
  rw [if_neg fun e => by rw [e] at this; exact absurd this.2 (by decide)]
theorem ch_ok {c : UInt8} (h : (48 ≤ c.toNat ∧ c.toNat ≤ 57) ∨ c.toNat = 88 ∨ c.toNat = 120) : Ke.okb c = true ∧ Ke.nb c = true := by
  revert h
  exact Ke.byte_all (p := fun c => (48 ≤ c.toNat ∧ c.toNat ≤ 57) ∨ c.toNat = 88 ∨ c.toNat = 120 → Ke.okb c = true ∧ Ke.nb c = true) (by decide +kernel) c
theorem sp_ok {c : UInt8} (h : c.toNat = 32 ∨ c.toNat = 45) : Ke.okb c = true ∧ Ke.nb c = false := by
  revert h
  exact Ke.byte_all (p := fun c => c.toNat = 32 ∨ c.toNat = 45 → Ke.okb c = true ∧ Ke.nb c = false) (by decide +kernel) c
theorem bad_ok {c : UInt8} (h : ¬ ((48 ≤ c.toNat ∧ c.toNat ≤ 57) ∨ c.toNat = 88 ∨ c.toNat = 120 ∨ c.toNat = 32 ∨ c.toNat = 45)) : Ke.okb c = false := by
  revert h
  exact Ke.byte_all (p := fun c => ¬ ((48 ≤ c.toNat ∧ c.toNat ≤ 57) ∨ c.toNat = 88 ∨ c.toNat = 120 ∨ c.toNat = 32 ∨ c.toNat = 45) → Ke.okb c = false) (by decide +kernel) c
theorem rn_chars (s : List UInt8) : ∀ c ∈ rn s, Ke.digit c = true ∨ c.toNat = 88 ∨ c.toNat = 120 := fun c hc => by
  obtain ⟨h1, h2⟩ := List.mem_filter.1 hc
  have h3 : Ke.okb c = true := List.all_eq_true.1 (List.all_takeWhile (p := Ke.okb)) c h1
  revert h2 h3
  exact Ke.byte_all (p := fun d => Ke.nb d = true → Ke.okb d = true → Ke.digit d = true ∨ d.toNat = 88 ∨ d.toNat = 120) (by decide +kernel) c
theorem rn_len (s : List UInt8) : (rn s).length ≤ s.length := nlt (List.length_filter_le _ _) (List.takeWhile_prefix _).length_le
theorem fil_next {s : List UInt8} {k : Nat} {c : UInt8} (h : s[k]? = some c) : (s.take (k + 1)).filter Ke.nb = (s.take k).filter Ke.nb ++ (if Ke.nb c then [c] else []) := by
  obtain ⟨hlt, hg⟩ := List.getElem?_eq_some_iff.1 h
  rw [List.take_succ_eq_append_getElem hlt, hg, List.filter_append]
  cases hn : Ke.nb c <;> simp [hn]
theorem digits_up {t : List UInt8} (h : ∀ c ∈ t, Ke.digit c = true ∨ c.toNat = 88 ∨ c.toNat = 120) : Ke.digits (t.map Ke.up) = Ke.digits t := by
  induction t with
  | nil => rfl
  | cons c r ih =>
    rw [List.map_cons, Ke.digits_cons, Ke.digits_cons, ih fun d hd => h d (.tail _ hd)]
    rcases h c (.head _) with e | e
    · rw [up_same e]
    rw [up_X e]
    have : Ke.digit c = false := by
      rcases hd : Ke.digit c with _ | _
      · rfl
      have := Ke.digit_iff.1 hd; omega
    rw [this]; rfl
theorem up_digits {t : List UInt8} (h : Ke.digits t = true) : t.map Ke.up = t := Ke.digits_val h
theorem not_digits_at {s : List UInt8} {j : Nat} {c : UInt8} (hj : j < 9) (hget : s[j]? = some c) (hx : c.toNat = 88 ∨ c.toNat = 120) : Ke.rightShort (s.map Ke.up) = false := by
  have h1 : ((s.map Ke.up).take 9)[j]? = some (Ke.up c) := by rw [List.getElem?_take, if_pos hj, List.getElem?_map, hget]; rfl
  have h2 : Ke.digits ((s.map Ke.up).take 9) = false := by
    refine not_all h1 ?_
    rw [up_X hx]; decide
  unfold Ke.rightShort; rw [h2, Bool.and_false]
theorem rCheck_ok (s : List UInt8) (h12 : 12 ≤ s.length) (hs : s.length ≤ 1000000000) (hd : Ke.digits (s.take 12) = true) (I : Heap) : Pure Tryz.prog 96 [str s] I (u8 (Ke.check s)) := by
 refine Ctr.ob func96 ?_
 intro w0 hw0
 refine Cj.sr (J.z q1 ?_)
 refine J.nssr (J.z q1 ?_)
 refine J.nsss (Cj.region (J.z q1 ?_))
 refine J.ns (Cj.block (Cj.loop (ι := Nat) (fun j => j ≤ 12) (fun j => 12 - j) (fun j => [(0, str s), (3, i64 ((Ke.csum 0 ((s.take 12).take j) : Nat) : Int)), (4, i64 (j : Int))]) (fun j => I) (fun j => []) 0 (Nat.zero_le _) ⟨rfl, rfl, rfl, trivial⟩ rfl rfl ?_))
 intro j hj
 have hsl := csum_le ((s.take 12).take j) 0
 rw [List.length_take, List.length_take] at hsl
 refine Cj.seq (Cj.sr (J.z q0 ?_))
 refine J.z q17 ?_
 refine J.cd (fun hc1 => ?_) (fun hc1 => ?_)
 ·
  have hc1p := odt hc1
  have hlt : j < s.length := by omega
  obtain ⟨c, hget⟩ : ∃ c, s[j]? = some c := ⟨_, lgg hlt⟩
  have hgu : (s.take 12)[j]? = some c := by rw [List.getElem?_take, if_pos (by omega)]; exact hget
  have hc := digits_at hd hgu
  refine Cj.ks (Cj.seq (Cj.block (Cj.sr (J.z q0 ?_))))
  refine J.z q0 ?_
  refine J.z (q42 tU9 hget) ?_
  refine J.z (yl_sub rfl rfl rfl (w8 (by omega))) ?_
  refine J.z (yl_convInt rfl rfl tU5 tU3) ?_
  refine J.eqv 14 rfl (show _ = i64 ((c.toNat - 48 : Nat) : Int) from (congrArg i64 ((w64 (by omega)).trans (by omega)))) ?_
  refine J.z q1 ?_
  refine J.nsss (Cj.region (J.z q0 ?_))
  refine J.z q53 ?_
  refine J.eqv 16 rfl (show _ = i64 ((j % 2 : Nat) : Int) from rfl) ?_
  refine J.z q23 ?_
  refine J.cd (fun hc2 => ?_) (fun hc2 => ?_)
  ·
   have hc2p := ebq hc2
   have h2 : j % 2 = 1 := by have h := ebq hc2; omega
   refine Cj.region (J.z q0 ?_)
   refine J.z (yl_mul rfl rfl rfl (w64 (by omega))) ?_
   refine J.z q1 ?_
   refine J.nsr (J.z q0 ?_)
   refine J.z q0 ?_
   refine J.z q7 ?_
   refine J.z q1 ?_
   refine J.nb (Cj.region (J.z q0 ?_))
   refine J.z q7 ?_
   refine J.z q1 ?_
   refine J.nil (Ej.round (j + 1) (by omega) (by omega) ⟨rfl, by rw [csum_next hgu, h2]; exact congrArg (fun z => some (Value.int .i64 z)) (by omega), rfl, trivial⟩ rfl rfl)
  have hc2p := nbf hc2
  have h2 : j % 2 = 0 := by have h := nbf hc2; omega
  refine Cj.ks (Cj.region (J.z q0 ?_))
  refine J.z q0 ?_
  refine J.z q7 ?_
  refine J.z q1 ?_
  refine J.nb (Cj.region (J.z q0 ?_))
  refine J.z q7 ?_
  refine J.z q1 ?_
  refine J.nil (Ej.round (j + 1) (by omega) (by omega) ⟨rfl, by rw [csum_next hgu, h2]; exact congrArg (fun z => some (Value.int .i64 z)) (by omega), rfl, trivial⟩ rfl rfl)
 have hc1p := odf hc1
 have hfull : (s.take 12).take j = s.take 12 := List.take_of_length_le (by rw [List.length_take]; omega)
 refine Cj.xl (Cj.sr (J.z q0 ?_))
 refine J.z q53 ?_
 refine J.eqv 24 rfl (show _ = i64 ((Ke.csum 0 (s.take 12) % 10 : Nat) : Int) from (by rw [hfull]; rfl)) ?_
 refine J.z q49 ?_
 refine J.eqv 25 rfl (show _ = i64 ((10 - Ke.csum 0 (s.take 12) % 10 : Nat) : Int) from (congrArg i64 (by omega))) ?_
 refine J.z q53 ?_
 refine J.eqv 26 rfl (show _ = i64 (((10 - Ke.csum 0 (s.take 12) % 10) % 10 : Nat) : Int) from rfl) ?_
 refine J.z q7 ?_
 refine J.eqv 27 rfl (show _ = i64 ((48 + (10 - Ke.csum 0 (s.take 12) % 10) % 10 : Nat) : Int) from (congrArg i64 (by omega))) ?_
 refine J.z (yl_convInt rfl rfl tU3 tU5) ?_
 refine J.eqv 28 rfl (show _ = u8 (Ke.check s) from (congrArg (Value.int .u8) (conv8 (by omega)))) ?_
 refine J.z q1 ?_
 refine J.ns (Cj.ret (q6 ?_))
 exact ⟨rfl, rfl, rfl⟩
theorem beq_cast (a b : Nat) : ((a : Int) == (b : Int)) = (a == b) := by
  rw [Bool.eq_iff_iff, beq_iff_eq, beq_iff_eq]; omega
theorem ten_next {s : List UInt8} {j : Nat} {c : UInt8} (hj : j ≤ 10) (hall : (s.take (min j 9)).all Ke.digit = true) (hget : s[j]? = some c) (hd : Ke.digit c = true) : (s.take (min (j + 1) 9)).all Ke.digit = true := by
  rcases Nat.lt_or_ge j 9 with h | h
  · rw [Nat.min_eq_left (by omega)] at hall ⊢; exact all_at hall hget hd
  rw [Nat.min_eq_right (by omega)] at hall ⊢; exact hall
theorem ten_ok (s : List UInt8) (h10 : s.length = 10) (hx : ∀ c ∈ s, Ke.digit c = true ∨ c.toNat = 88 ∨ c.toNat = 120) (I : Heap) : Pure Tryz.prog 95 [str s] I (.bool (Ke.rightShort (s.map Ke.up))) := by
 refine Ctr.ob func95 ?_
 intro w0 hw0
 refine Cj.sr (J.z q1 ?_)
 refine J.nssr (J.z q1 ?_)
 refine J.nsss (Cj.region (J.z q1 ?_))
 refine J.ns (Cj.block (Cj.loop (ι := Nat) (fun j => j ≤ 10 ∧ (s.take (min j 9)).all Ke.digit = true) (fun j => 10 - j) (fun j => [(0, str s), (3, i64 ((Ke.rsum 0 ((s.map Ke.up).take j) : Nat) : Int)), (4, i64 (j : Int))]) (fun j => I) (fun j => []) 0 ⟨Nat.zero_le _, rfl⟩ ⟨rfl, rfl, rfl, trivial⟩ rfl rfl ?_))
 rintro j ⟨hj, hall⟩
 have hsl := rsum_le ((s.map Ke.up).take j) 0
 rw [List.length_take, List.length_map, h10] at hsl
 refine Cj.seq (Cj.sr (J.z q0 ?_))
 refine J.z q17 ?_
 refine J.cd (fun hc1 => ?_) (fun hc1 => ?_)
 ·
  have hc1p := odt hc1
  have hlt : j < s.length := by omega
  obtain ⟨c, hget⟩ : ∃ c, s[j]? = some c := ⟨_, lgg hlt⟩
  have hgu : (s.map Ke.up)[j]? = some (Ke.up c) := by rw [List.getElem?_map, hget]; rfl
  have hxc := hx c (lmg hget)
  have hcl := c.toNat_lt
  have h48 : 48 ≤ c.toNat := hxc.elim (fun h => (Ke.digit_iff.1 h).1) (fun h => by omega)
  have hm : (10 - j) * Ke.val (Ke.up c) ≤ 10 * 255 := Nat.mul_le_mul (by omega) (val_le _)
  refine Cj.ks (Cj.seq (Cj.block (Cj.sr (J.z q0 ?_))))
  refine J.z q0 ?_
  refine J.z (q42 tU9 hget) ?_
  refine J.z (yl_convInt rfl rfl tU5 tU3) ?_
  refine J.eqv 13 rfl (show _ = i64 (c.toNat : Int) from (congrArg i64 (w64 (by omega)))) ?_
  refine J.z q49 ?_
  refine J.eqv 14 rfl (show _ = i64 ((c.toNat - 48 : Nat) : Int) from (congrArg i64 (by omega))) ?_
  refine J.z q1 ?_
  refine J.nsss (Cj.region (J.z q0 ?_))
  refine J.z q0 ?_
  refine J.z (q42 tU9 hget) ?_
  refine J.z q23 ?_
  refine J.z q0 ?_
  refine q16 19 (fun hg2 => ?_) (fun hg2 => ?_)
  ·
   have h19 := ebq hg2
   refine q3 4 19 20 false hg2 ?_
   refine q3 4 19 21 false hg2 ?_
   refine q3 4 19 22 false hg2 ?_
   refine q3 4 19 23 false hg2 ?_
   refine J.z (q11 hg2) ?_
   refine J.c1 (fun hc3 => ?_)
   refine Cj.seq ?_
   have hX : c.toNat = 88 ∨ c.toNat = 120 := by omega
   have hcv : Ke.val (Ke.up c) = 10 := by rw [up_X hX]; rfl
   refine Cj.region (J.z q1 ?_)
   refine J.nssr (J.z q0 ?_)
   refine J.z q17 ?_
   refine J.cd (fun hc4 => ?_) (fun hc4 => ?_)
   ·
    have hc4p := odt hc4
    have h26 := odt hc4
    refine Cj.sr (J.z q1 ?_)
    refine J.ns (Cj.rs (Ej.blkRet (Ej.seqRet (Ej.loopRet (Ej.blkRet (Ej.seqRet (q6 ?_)))))))
    rw [not_digits_at (by omega) hget hX]
    exact ⟨rfl, rfl, rfl⟩
   have hc4p := odf hc4
   have h26 := odf hc4
   refine Cj.ks (Cj.region (J.z q0 ?_))
   refine J.z q0 ?_
   refine J.z q49 ?_
   refine J.eqv 29 rfl (show _ = i64 ((10 - j : Nat) : Int) from (congrArg i64 (by omega))) ?_
   refine J.z q0 ?_
   refine J.eqv 30 rfl (show _ = i64 ((Ke.val (Ke.up c) : Nat) : Int) from (congrArg i64 (by omega))) ?_
   refine J.z (yl_mul rfl rfl rfl (w64 (by rw [← Int.natCast_mul]; omega))) ?_
   refine J.eqv 31 rfl (show _ = i64 (((10 - j) * Ke.val (Ke.up c) : Nat) : Int) from (congrArg i64 (Int.natCast_mul _ _).symm)) ?_
   refine J.z q7 ?_
   refine J.z q1 ?_
   refine J.nb (Cj.region (J.z q0 ?_))
   refine J.z q7 ?_
   refine J.z q1 ?_
   refine J.nil (Ej.round (j + 1) ⟨by omega, by rw [Nat.min_eq_right (by omega)] at hall ⊢; exact hall⟩ (by omega) ⟨rfl, by rw [rsum_next hgu]; exact congrArg (fun z => some (Value.int .i64 z)) (by omega), rfl, trivial⟩ rfl rfl)
  have h19 := nbf hg2
  refine q5 4 19 false hg2 (q2 q0 ?_)
  refine q5 4 19 false hg2 (q2 q0 ?_)
  refine J.opG 4 19 false _ rfl rfl rfl hg2 (op_yld (q42 tU9 hget) rfl rfl ?_)
  refine q5 4 19 false hg2 (q2 q23 ?_)
  refine J.z (q10 hg2) ?_
  refine J.cd (fun hc5 => ?_) (fun hc5 => ?_)
  ·
   have hc5p := ebq hc5
   have h24 := ebq hc5
   refine Cj.seq ?_
   have hX : c.toNat = 88 ∨ c.toNat = 120 := by omega
   have hcv : Ke.val (Ke.up c) = 10 := by rw [up_X hX]; rfl
   refine Cj.region (J.z q1 ?_)
   refine J.nssr (J.z q0 ?_)
   refine J.z q17 ?_
   refine J.cd (fun hc6 => ?_) (fun hc6 => ?_)
   ·
    have hc6p := odt hc6
    have h26 := odt hc6
    refine Cj.sr (J.z q1 ?_)
    refine J.ns (Cj.rs (Ej.blkRet (Ej.seqRet (Ej.loopRet (Ej.blkRet (Ej.seqRet (q6 ?_)))))))
    rw [not_digits_at (by omega) hget hX]
    exact ⟨rfl, rfl, rfl⟩
   have hc6p := odf hc6
   have h26 := odf hc6
   refine Cj.ks (Cj.region (J.z q0 ?_))
   refine J.z q0 ?_
   refine J.z q49 ?_
   refine J.eqv 29 rfl (show _ = i64 ((10 - j : Nat) : Int) from (congrArg i64 (by omega))) ?_
   refine J.z q0 ?_
   refine J.eqv 30 rfl (show _ = i64 ((Ke.val (Ke.up c) : Nat) : Int) from (congrArg i64 (by omega))) ?_
   refine J.z (yl_mul rfl rfl rfl (w64 (by rw [← Int.natCast_mul]; omega))) ?_
   refine J.eqv 31 rfl (show _ = i64 (((10 - j) * Ke.val (Ke.up c) : Nat) : Int) from (congrArg i64 (Int.natCast_mul _ _).symm)) ?_
   refine J.z q7 ?_
   refine J.z q1 ?_
   refine J.nb (Cj.region (J.z q0 ?_))
   refine J.z q7 ?_
   refine J.z q1 ?_
   refine J.nil (Ej.round (j + 1) ⟨by omega, by rw [Nat.min_eq_right (by omega)] at hall ⊢; exact hall⟩ (by omega) ⟨rfl, by rw [rsum_next hgu]; exact congrArg (fun z => some (Value.int .i64 z)) (by omega), rfl, trivial⟩ rfl rfl)
  have hc5p := nbf hc5
  have h24 := nbf hc5
  have hdc : Ke.digit c = true := hxc.resolve_right (by omega)
  have hcv : Ke.val (Ke.up c) = c.toNat - 48 := by rw [up_same hdc]; exact val_digit hdc
  refine Cj.ks (Cj.region (J.z q0 ?_))
  refine J.z q0 ?_
  refine J.z q49 ?_
  refine J.eqv 29 rfl (show _ = i64 ((10 - j : Nat) : Int) from (congrArg i64 (by omega))) ?_
  refine J.z q0 ?_
  refine J.eqv 30 rfl (show _ = i64 ((Ke.val (Ke.up c) : Nat) : Int) from (congrArg i64 (by omega))) ?_
  refine J.z (yl_mul rfl rfl rfl (w64 (by rw [← Int.natCast_mul]; omega))) ?_
  refine J.eqv 31 rfl (show _ = i64 (((10 - j) * Ke.val (Ke.up c) : Nat) : Int) from (congrArg i64 (Int.natCast_mul _ _).symm)) ?_
  refine J.z q7 ?_
  refine J.z q1 ?_
  refine J.nb (Cj.region (J.z q0 ?_))
  refine J.z q7 ?_
  refine J.z q1 ?_
  refine J.nil (Ej.round (j + 1) ⟨by omega, by exact ten_next hj hall hget hdc⟩ (by omega) ⟨rfl, by rw [rsum_next hgu]; exact congrArg (fun z => some (Value.int .i64 z)) (by omega), rfl, trivial⟩ rfl rfl)
 have hc1p := odf hc1
 have hfull : (s.map Ke.up).take j = s.map Ke.up := List.take_of_length_le (by rw [List.length_map]; omega)
 refine Cj.xl (Cj.sr (J.z q0 ?_))
 refine J.z q53 ?_
 refine J.eqv 34 rfl (show _ = i64 ((Ke.rsum 0 (s.map Ke.up) % 11 : Nat) : Int) from (by rw [hfull]; rfl)) ?_
 refine J.z q23 ?_
 refine J.z q1 ?_
 refine J.ns (Cj.ret (q6 ?_))
 have hr : Ke.rightShort (s.map Ke.up) = (Ke.rsum 0 (s.map Ke.up) % 11 == 0) := by
   unfold Ke.rightShort
   rw [← List.map_take, up_digits (show Ke.digits (s.take 9) = true by rw [Nat.min_eq_right (by omega)] at hall; exact hall), show Ke.digits (s.take 9) = true by rw [Nat.min_eq_right (by omega)] at hall; exact hall, Bool.and_true]
 rw [hr]
 exact ⟨congrArg (fun b => Ending.returned (.bool b)) (beq_cast _ _), rfl, rfl⟩
theorem rn_full {s : List UInt8} {j : Nat} (hj : ¬ j < s.length) (hall : (s.take j).all Ke.okb = true) : (s.take j).filter Ke.nb = rn s := by
  rw [List.take_of_length_le (by omega)] at hall ⊢
  unfold rn; rw [take_while_all hall]
theorem rn_cut {s : List UInt8} {j : Nat} {c : UInt8} (hall : (s.take j).all Ke.okb = true) (hget : s[j]? = some c) (hb : Ke.okb c = false) : (s.take j).filter Ke.nb = rn s := by
  unfold rn; rw [take_while hall hget hb]
theorem rIsbn_ok (s : List UInt8) (hs : s.length ≤ 100000000) (I : Heap) : Pure Tryz.prog 66 [str s] I (.tuple #[str (Ke.isbn s).1, .bool (Ke.isbn s).2]) := by
 refine Ctr.toPure ?_
 refine Ctr.ob func66 ?_
 intro w0 hw0
 refine Cj.sr (J.z q1 ?_)
 refine J.z q1 ?_
 refine J.nssr (J.z q1 ?_)
 refine J.nsss (Cj.region (J.z q1 ?_))
 refine J.ns (Cj.block (Cj.loop (ι := Nat) (fun j => j ≤ s.length ∧ (s.take j).all Ke.okb = true) (fun j => s.length - j) (fun j => [(0, str s), (4, str ((s.take j).filter Ke.nb)), (5, i64 (j : Int))]) (fun j => _) (fun j => []) 0 ⟨Nat.zero_le _, rfl⟩ ⟨rfl, rfl, rfl, trivial⟩ rfl rfl ?_))
 rintro j ⟨hj, hall⟩
 have hfl := List.length_filter_le Ke.nb (s.take j)
 rw [List.length_take, Nat.min_eq_left hj] at hfl
 refine Cj.seq (Cj.sr (J.z q0 ?_))
 refine J.z q0 ?_
 refine J.z (q26 tU9) ?_
 refine J.z q17 ?_
 refine J.cd (fun hc1 => ?_) (fun hc1 => ?_)
 ·
  have hc1p := odt hc1
  have hlt : j < s.length := by omega
  obtain ⟨c, hget⟩ : ∃ c, s[j]? = some c := ⟨_, lgg hlt⟩
  refine Cj.ks (Cj.seq (Cj.block (Cj.sr (J.z q0 ?_))))
  refine J.z q0 ?_
  refine J.z (q42 tU9 hget) ?_
  refine J.z q1 ?_
  refine J.nssr (J.z q0 ?_)
  refine J.z q34 ?_
  refine J.z q0 ?_
  refine q16 20 (fun hg2 => ?_) (fun hg2 => ?_)
  ·
   have h20 := odt hg2
   refine q5 2 20 true hg2 (q2 q0 ?_)
   refine q5 2 20 true hg2 (q2 q38 ?_)
   refine J.z (q11 hg2) ?_
   refine J.z q0 ?_
   refine q16 24 (fun hg3 => ?_) (fun hg3 => ?_)
   ·
    have h24 := odt hg3
    refine q3 6 24 25 false hg3 ?_
    refine q3 6 24 26 false hg3 ?_
    refine J.z (q11 hg3) ?_
    refine J.z q0 ?_
    refine q32 10 28 29 false ?_
    refine q32 10 28 30 false ?_
    refine J.z q51 ?_
    refine J.c1 (fun hc4 => ?_)
    have hk := ch_ok (c := c) (by omega)
    refine Cj.region (J.z q0 ?_)
    refine J.z q0 ?_
    refine J.op rfl (q24 tU71 tS5 tZ5 ?_)
    intro b5 hb5
    refine J.z (yl_toStr [c] rfl rfl rfl tU71 tU9 tU5 (Blk.at 0 rfl) rfl) ?_
    refine J.z (yl_cat rfl rfl rfl (by first | omega | (simp only [List.length_append]; omega) | (simp; omega))) ?_
    refine J.z q1 ?_
    refine J.nb ?_
    have hnx := fil_next hget
    rw [hk.2, if_pos rfl] at hnx
    refine Cj.region (J.z q0 ?_)
    refine J.z q7 ?_
    refine J.z q1 ?_
    refine J.nil (Ej.keep (Keeps.d Keeps.n) ?_)
    refine Ej.round (j + 1) ⟨by omega, all_next hall hget hk.1⟩ (by omega) ⟨rfl, by rw [hnx]; rfl, rfl, trivial⟩ rfl rfl
   have h24 := odf hg3
   refine q5 6 24 false hg3 (q2 q0 ?_)
   refine q5 6 24 false hg3 (q2 q23 ?_)
   refine J.z (q10 hg3) ?_
   refine J.z q0 ?_
   refine q16 28 (fun hg6 => ?_) (fun hg6 => ?_)
   ·
    have h28 := ebq hg6
    refine q3 10 28 29 false hg6 ?_
    refine q3 10 28 30 false hg6 ?_
    refine J.z (q11 hg6) ?_
    refine J.c1 (fun hc7 => ?_)
    have hk := ch_ok (c := c) (by omega)
    refine Cj.region (J.z q0 ?_)
    refine J.z q0 ?_
    refine J.op rfl (q24 tU71 tS5 tZ5 ?_)
    intro b8 hb8
    refine J.z (yl_toStr [c] rfl rfl rfl tU71 tU9 tU5 (Blk.at 0 rfl) rfl) ?_
    refine J.z (yl_cat rfl rfl rfl (by first | omega | (simp only [List.length_append]; omega) | (simp; omega))) ?_
    refine J.z q1 ?_
    refine J.nb ?_
    have hnx := fil_next hget
    rw [hk.2, if_pos rfl] at hnx
    refine Cj.region (J.z q0 ?_)
    refine J.z q7 ?_
    refine J.z q1 ?_
    refine J.nil (Ej.keep (Keeps.d Keeps.n) ?_)
    refine Ej.round (j + 1) ⟨by omega, all_next hall hget hk.1⟩ (by omega) ⟨rfl, by rw [hnx]; rfl, rfl, trivial⟩ rfl rfl
   have h28 := nbf hg6
   refine q5 10 28 false hg6 (q2 q0 ?_)
   refine q5 10 28 false hg6 (q2 q23 ?_)
   refine J.z (q10 hg6) ?_
   refine J.cd (fun hc9 => ?_) (fun hc9 => ?_)
   ·
    have hc9p := ebq hc9
    have h31 := ebq hc9
    have hk := ch_ok (c := c) (by omega)
    refine Cj.region (J.z q0 ?_)
    refine J.z q0 ?_
    refine J.op rfl (q24 tU71 tS5 tZ5 ?_)
    intro b10 hb10
    refine J.z (yl_toStr [c] rfl rfl rfl tU71 tU9 tU5 (Blk.at 0 rfl) rfl) ?_
    refine J.z (yl_cat rfl rfl rfl (by first | omega | (simp only [List.length_append]; omega) | (simp; omega))) ?_
    refine J.z q1 ?_
    refine J.nb ?_
    have hnx := fil_next hget
    rw [hk.2, if_pos rfl] at hnx
    refine Cj.region (J.z q0 ?_)
    refine J.z q7 ?_
    refine J.z q1 ?_
    refine J.nil (Ej.keep (Keeps.d Keeps.n) ?_)
    refine Ej.round (j + 1) ⟨by omega, all_next hall hget hk.1⟩ (by omega) ⟨rfl, by rw [hnx]; rfl, rfl, trivial⟩ rfl rfl
   have hc9p := nbf hc9
   have h31 := nbf hc9
   refine Cj.sr (J.z q0 ?_)
   refine J.z q47 ?_
   refine J.z q0 ?_
   refine q16 39 (fun hg11 => ?_) (fun hg11 => ?_)
   ·
    have h39 := bne_iff_ne.1 hg11
    refine q5 2 39 true hg11 (q2 q0 ?_)
    refine q5 2 39 true hg11 (q2 q47 ?_)
    refine J.z (q11 hg11) ?_
    refine J.cd (fun hc12 => ?_) (fun hc12 => ?_)
    ·
     have hc12p := bne_iff_ne.1 hc12
     have h42 := bne_iff_ne.1 hc12
     have hout := rn_cut hall hget (bad_ok (by omega))
     rw [hout]
     have hnl := rn_len s
     have hnc := rn_chars s
     have hiN : Ke.isbn s = Ke.isbnN ((rn s).map Ke.up) := rfl
     have hml : ((rn s).map Ke.up).length = (rn s).length := List.length_map _
     refine Cj.exit (Ej.blkOther rfl ?_)
     refine Ej.seqExit (Ej.loopExit (Ej.blkExit (Ej.seq (Cj.seq (Cj.sr (J.z q0 ?_))))))
     refine J.z (q26 tU9) ?_
     refine J.z q23 ?_
     refine J.cd (fun hc13 => ?_) (fun hc13 => ?_)
     ·
      have hc13p := ebq hc13
      have h10 : (rn s).length = 10 := by have h := ebq hc13; omega
      refine Cj.sr (J.z q0 ?_)
      refine J.op rfl (op_pure rfl rfl rfl rfl rfl (ten_ok (rn s) h10 hnc _) ?_)
      refine J.z q1 ?_
      refine J.nssr (J.z q0 ?_)
      refine J.cd (fun hc14 => ?_) (fun hc14 => ?_)
      ·
       have hrs : Ke.rightShort ((rn s).map Ke.up) = true := hc14
       have hd9 : Ke.digits ((rn s).take 9) = true := by rw [← digits_up (fun c hc => hnc c (List.mem_of_mem_take hc)), List.map_take]; exact (Bool.and_eq_true_iff.1 hrs).2
       have htk9 : ((rn s).map Ke.up).take 9 = (rn s).take 9 := by rw [← List.map_take, up_digits hd9]
       have hd12 := digits_12 (b := []) hd9 (by rw [List.length_take]; omega)
       rw [List.append_nil] at hd12
       refine Cj.sr (J.z q0 ?_)
       refine J.z (q54 (p := 0) (q := 9) tU9) ?_
       refine J.eqv 50 rfl (show _ = str ((rn s).take 9) from (by rw [List.drop_zero])) ?_
       refine J.z (yl_cat rfl rfl rfl (by first | omega | (simp only [List.length_append]; omega) | (simp; omega))) ?_
       refine J.z q1 ?_
       refine J.nssr (J.z q0 ?_)
       refine J.z q0 ?_
       refine J.op rfl (op_pure rfl rfl rfl rfl rfl (rCheck_ok _ (by simp; omega) (by simp; omega) hd12 _) ?_)
       refine J.op rfl (q24 tU71 tS5 tZ5 ?_)
       intro b15 hb15
       refine J.z (yl_toStr [Ke.check ([57, 55, 56] ++ (rn s).take 9)] rfl rfl rfl tU71 tU9 tU5 (Blk.at 0 rfl) rfl) ?_
       refine J.z (yl_cat rfl rfl rfl (by first | omega | (simp only [List.length_append]; omega) | (simp; omega))) ?_
       refine J.z q1 ?_
       refine J.z q1 ?_
       refine J.ns (Cj.rs (Ej.bare ?_))
       refine q22 ?_
       have he : Ke.isbn s = ([57, 55, 56] ++ (rn s).take 9 ++ [Ke.check ([57, 55, 56] ++ (rn s).take 9)], true) := by rw [hiN]; unfold Ke.isbnN; rw [if_pos ⟨hml.trans h10, hrs⟩, htk9]
       rw [he]
       exact ⟨rfl, rfl⟩
      have hno : ¬ (((rn s).map Ke.up).length = 10 ∧ Ke.rightShort ((rn s).map Ke.up) = true) := fun e => Bool.noConfusion (e.2.symm.trans hc14)
      refine Cj.ks (Cj.sr (J.z q0 ?_))
      refine J.op rfl (op_pure rfl rfl rfl rfl rfl (rdigits_ok (rn s) (by omega) _) ?_)
      refine J.z q1 ?_
      refine J.nsss (Cj.drawSel [] [] 13 (by kernel_rfl) ?_)
      refine JA.fix fx1 (fun fx16 => ?_)
      refine JA.tk 0 rfl fx16 q0 ?_
      refine JA.tk 1 rfl fx16 (q26 tU9) ?_
      refine JA.tk 2 rfl fx16 q23 ?_
      refine JA.tk 3 rfl fx16 q0 ?_
      refine JA.split 63 rfl (fun hg17 => ?_) (fun hg17 => ?_)
      rotate_left
      ·
       have hno2 : ¬ (((rn s).map Ke.up).length = 13 ∧ Ke.digits ((rn s).map Ke.up) = true ∧ Ke.check ((rn s).map Ke.up) = ((rn s).map Ke.up).getD 12 0) := fun e => nbf hg17 (by rw [← hml, e.1]; rfl)
       refine q20 4 3 63 true fx16 (.inl (congrArg Value.bool hg17)) ?_
       refine JA.tk 5 rfl fx16 (q10 hg17) ?_
       refine JA.tk 6 rfl fx16 q0 ?_
       refine q29 7 6 66 true fx16 ?_
       refine q29 8 6 66 true fx16 ?_
       refine q29 9 6 66 true fx16 ?_
       refine q29 10 6 66 true fx16 ?_
       refine q29 11 6 66 true fx16 ?_
       refine JA.tk 12 rfl fx16 q30 ?_
       refine q14 ?_
       refine Ej.seq (Cj.cond rfl (fun hc22 => Bool.noConfusion (Eq.trans (Eq.symm rfl) hc22)) (fun hc22 => ?_))
       refine Cj.ks (Cj.sr (J.z q1 ?_))
       refine J.z q1 ?_
       refine J.ns (Cj.ret (q22 ?_))
       have he : Ke.isbn s = ([], false) := by rw [hiN]; unfold Ke.isbnN; rw [if_neg hno, if_neg hno2]
       rw [he]
       exact ⟨rfl, rfl⟩
      have h13 : (rn s).length = 13 := by have h := ebq hg17; omega
      refine JA.tkG 4 3 63 true _ rfl fx16 rfl rfl hg17 q0 ?_
      refine JA.tk 5 rfl fx16 (q11 hg17) ?_
      refine JA.tk 6 rfl fx16 q0 ?_
      refine JA.split 66 rfl (fun hg18 => ?_) (fun hg18 => ?_)
      ·
       have hdg : Ke.digits (rn s) = true := hg18
       have hd13 : Ke.digits ((rn s).take 12) = true := List.all_eq_true.2 fun c hc => List.all_eq_true.1 hdg c (List.mem_of_mem_take hc)
       obtain ⟨d, hg12⟩ : ∃ c, (rn s)[12]? = some c := ⟨_, lgg (by omega)⟩
       have hgd : ((rn s).map Ke.up).getD 12 0 = d := by rw [up_digits hdg, List.getD, hg12]; rfl
       refine JA.tkG 7 6 66 true _ rfl fx16 rfl rfl hg18 q0 ?_
       refine JA.tkG 9 6 66 true _ rfl fx16 rfl rfl hg18 q0 ?_
       refine JA.tkG 10 6 66 true _ rfl fx16 rfl rfl hg18 (q42 tU9 hg12) ?_
       refine JA.stepG 8 6 66 true _ (by kernel_rfl) rfl rfl rfl rfl hg18 (op_pure rfl rfl rfl rfl rfl (rCheck_ok (rn s) (by omega) (by omega) hd13 _) ?_)
       refine ⟨fx0, ?_⟩
       refine JA.fix fx1 (fun fx19 => ?_)
       refine JA.tkG 11 6 66 true _ rfl fx19 rfl rfl hg18 q23 ?_
       refine JA.tk 12 rfl fx19 (q11 hg18) ?_
       refine q14 ?_
       refine Ej.seq (Cj.cond rfl (fun hc20 => ?_) (fun hc20 => ?_))
       ·
        have hc20p := ebq hc20
        have hck : Ke.check ((rn s).map Ke.up) = ((rn s).map Ke.up).getD 12 0 := by have h := ebq hc20; rw [hgd, up_digits hdg]; exact UInt8.toNat_inj.1 (by omega)
        refine Cj.sr (J.z q0 ?_)
        refine J.z q1 ?_
        refine J.z q1 ?_
        refine J.ns (Cj.rs (q22 ?_))
        have he : Ke.isbn s = (rn s, true) := by rw [hiN]; unfold Ke.isbnN; rw [if_neg hno, if_pos ⟨hml.trans h13, (digits_up hnc).trans hdg, hck⟩, up_digits hdg]
        rw [he]
        exact ⟨rfl, rfl⟩
       ·
        have hc20p := nbf hc20
        have hno2 : ¬ (((rn s).map Ke.up).length = 13 ∧ Ke.digits ((rn s).map Ke.up) = true ∧ Ke.check ((rn s).map Ke.up) = ((rn s).map Ke.up).getD 12 0) := fun e => nbf hc20 (by have h := e.2.2; rw [hgd, up_digits hdg] at h; rw [h])
        refine Cj.ks (Cj.sr (J.z q1 ?_))
        refine J.z q1 ?_
        refine J.ns (Cj.ret (q22 ?_))
        have he : Ke.isbn s = ([], false) := by rw [hiN]; unfold Ke.isbnN; rw [if_neg hno, if_neg hno2]
        rw [he]
        exact ⟨rfl, rfl⟩
      ·
       have hno2 : ¬ (((rn s).map Ke.up).length = 13 ∧ Ke.digits ((rn s).map Ke.up) = true ∧ Ke.check ((rn s).map Ke.up) = ((rn s).map Ke.up).getD 12 0) := fun e => Bool.noConfusion (((digits_up hnc).symm.trans e.2.1).symm.trans hg18)
       refine q20 7 6 66 true fx16 (.inl (congrArg Value.bool hg18)) ?_
       refine q20 8 6 66 true fx16 (.inl (congrArg Value.bool hg18)) ?_
       refine q20 9 6 66 true fx16 (.inl (congrArg Value.bool hg18)) ?_
       refine q20 10 6 66 true fx16 (.inl (congrArg Value.bool hg18)) ?_
       refine q20 11 6 66 true fx16 (.inl (congrArg Value.bool hg18)) ?_
       refine JA.tk 12 rfl fx16 (q10 hg18) ?_
       refine q14 ?_
       refine Ej.seq (Cj.cond rfl (fun hc21 => Bool.noConfusion (Eq.trans (Eq.symm rfl) hc21)) (fun hc21 => ?_))
       refine Cj.ks (Cj.sr (J.z q1 ?_))
       refine J.z q1 ?_
       refine J.ns (Cj.ret (q22 ?_))
       have he : Ke.isbn s = ([], false) := by rw [hiN]; unfold Ke.isbnN; rw [if_neg hno, if_neg hno2]
       rw [he]
       exact ⟨rfl, rfl⟩
     have hc13p := nbf hc13
     have hno : ¬ (((rn s).map Ke.up).length = 10 ∧ Ke.rightShort ((rn s).map Ke.up) = true) := fun e => nbf hc13 (by rw [← hml, e.1]; rfl)
     refine Cj.ks (Cj.sr (J.z q0 ?_))
     refine J.op rfl (op_pure rfl rfl rfl rfl rfl (rdigits_ok (rn s) (by omega) _) ?_)
     refine J.z q1 ?_
     refine J.nsss (Cj.drawSel [] [] 13 (by kernel_rfl) ?_)
     refine JA.fix fx1 (fun fx23 => ?_)
     refine JA.tk 0 rfl fx23 q0 ?_
     refine JA.tk 1 rfl fx23 (q26 tU9) ?_
     refine JA.tk 2 rfl fx23 q23 ?_
     refine JA.tk 3 rfl fx23 q0 ?_
     refine JA.split 63 rfl (fun hg24 => ?_) (fun hg24 => ?_)
     rotate_left
     ·
      have hno2 : ¬ (((rn s).map Ke.up).length = 13 ∧ Ke.digits ((rn s).map Ke.up) = true ∧ Ke.check ((rn s).map Ke.up) = ((rn s).map Ke.up).getD 12 0) := fun e => nbf hg24 (by rw [← hml, e.1]; rfl)
      refine q20 4 3 63 true fx23 (.inl (congrArg Value.bool hg24)) ?_
      refine JA.tk 5 rfl fx23 (q10 hg24) ?_
      refine JA.tk 6 rfl fx23 q0 ?_
      refine q29 7 6 66 true fx23 ?_
      refine q29 8 6 66 true fx23 ?_
      refine q29 9 6 66 true fx23 ?_
      refine q29 10 6 66 true fx23 ?_
      refine q29 11 6 66 true fx23 ?_
      refine JA.tk 12 rfl fx23 q30 ?_
      refine q14 ?_
      refine Ej.seq (Cj.cond rfl (fun hc29 => Bool.noConfusion (Eq.trans (Eq.symm rfl) hc29)) (fun hc29 => ?_))
      refine Cj.ks (Cj.sr (J.z q1 ?_))
      refine J.z q1 ?_
      refine J.ns (Cj.ret (q22 ?_))
      have he : Ke.isbn s = ([], false) := by rw [hiN]; unfold Ke.isbnN; rw [if_neg hno, if_neg hno2]
      rw [he]
      exact ⟨rfl, rfl⟩
     have h13 : (rn s).length = 13 := by have h := ebq hg24; omega
     refine JA.tkG 4 3 63 true _ rfl fx23 rfl rfl hg24 q0 ?_
     refine JA.tk 5 rfl fx23 (q11 hg24) ?_
     refine JA.tk 6 rfl fx23 q0 ?_
     refine JA.split 66 rfl (fun hg25 => ?_) (fun hg25 => ?_)
     ·
      have hdg : Ke.digits (rn s) = true := hg25
      have hd13 : Ke.digits ((rn s).take 12) = true := List.all_eq_true.2 fun c hc => List.all_eq_true.1 hdg c (List.mem_of_mem_take hc)
      obtain ⟨d, hg12⟩ : ∃ c, (rn s)[12]? = some c := ⟨_, lgg (by omega)⟩
      have hgd : ((rn s).map Ke.up).getD 12 0 = d := by rw [up_digits hdg, List.getD, hg12]; rfl
      refine JA.tkG 7 6 66 true _ rfl fx23 rfl rfl hg25 q0 ?_
      refine JA.tkG 9 6 66 true _ rfl fx23 rfl rfl hg25 q0 ?_
      refine JA.tkG 10 6 66 true _ rfl fx23 rfl rfl hg25 (q42 tU9 hg12) ?_
      refine JA.stepG 8 6 66 true _ (by kernel_rfl) rfl rfl rfl rfl hg25 (op_pure rfl rfl rfl rfl rfl (rCheck_ok (rn s) (by omega) (by omega) hd13 _) ?_)
      refine ⟨fx0, ?_⟩
      refine JA.fix fx1 (fun fx26 => ?_)
      refine JA.tkG 11 6 66 true _ rfl fx26 rfl rfl hg25 q23 ?_
      refine JA.tk 12 rfl fx26 (q11 hg25) ?_
      refine q14 ?_
      refine Ej.seq (Cj.cond rfl (fun hc27 => ?_) (fun hc27 => ?_))
      ·
       have hc27p := ebq hc27
       have hck : Ke.check ((rn s).map Ke.up) = ((rn s).map Ke.up).getD 12 0 := by have h := ebq hc27; rw [hgd, up_digits hdg]; exact UInt8.toNat_inj.1 (by omega)
       refine Cj.sr (J.z q0 ?_)
       refine J.z q1 ?_
       refine J.z q1 ?_
       refine J.ns (Cj.rs (q22 ?_))
       have he : Ke.isbn s = (rn s, true) := by rw [hiN]; unfold Ke.isbnN; rw [if_neg hno, if_pos ⟨hml.trans h13, (digits_up hnc).trans hdg, hck⟩, up_digits hdg]
       rw [he]
       exact ⟨rfl, rfl⟩
      ·
       have hc27p := nbf hc27
       have hno2 : ¬ (((rn s).map Ke.up).length = 13 ∧ Ke.digits ((rn s).map Ke.up) = true ∧ Ke.check ((rn s).map Ke.up) = ((rn s).map Ke.up).getD 12 0) := fun e => nbf hc27 (by have h := e.2.2; rw [hgd, up_digits hdg] at h; rw [h])
       refine Cj.ks (Cj.sr (J.z q1 ?_))
       refine J.z q1 ?_
       refine J.ns (Cj.ret (q22 ?_))
       have he : Ke.isbn s = ([], false) := by rw [hiN]; unfold Ke.isbnN; rw [if_neg hno, if_neg hno2]
       rw [he]
       exact ⟨rfl, rfl⟩
     ·
      have hno2 : ¬ (((rn s).map Ke.up).length = 13 ∧ Ke.digits ((rn s).map Ke.up) = true ∧ Ke.check ((rn s).map Ke.up) = ((rn s).map Ke.up).getD 12 0) := fun e => Bool.noConfusion (((digits_up hnc).symm.trans e.2.1).symm.trans hg25)
      refine q20 7 6 66 true fx23 (.inl (congrArg Value.bool hg25)) ?_
      refine q20 8 6 66 true fx23 (.inl (congrArg Value.bool hg25)) ?_
      refine q20 9 6 66 true fx23 (.inl (congrArg Value.bool hg25)) ?_
      refine q20 10 6 66 true fx23 (.inl (congrArg Value.bool hg25)) ?_
      refine q20 11 6 66 true fx23 (.inl (congrArg Value.bool hg25)) ?_
      refine JA.tk 12 rfl fx23 (q10 hg25) ?_
      refine q14 ?_
      refine Ej.seq (Cj.cond rfl (fun hc28 => Bool.noConfusion (Eq.trans (Eq.symm rfl) hc28)) (fun hc28 => ?_))
      refine Cj.ks (Cj.sr (J.z q1 ?_))
      refine J.z q1 ?_
      refine J.ns (Cj.ret (q22 ?_))
      have he : Ke.isbn s = ([], false) := by rw [hiN]; unfold Ke.isbnN; rw [if_neg hno, if_neg hno2]
      rw [he]
      exact ⟨rfl, rfl⟩
    have hc12p := bne_f hc12
    have h42 : (c.toNat : Int) = 45 := by have h := hc12; rw [bne_eq_false_iff_eq] at h; exact h
    refine Cj.kb ?_
    have hk := sp_ok (c := c) (by omega)
    have hnx := fil_next hget
    rw [hk.2, if_neg (by decide), List.append_nil] at hnx
    refine Cj.region (J.z q0 ?_)
    refine J.z q7 ?_
    refine J.z q1 ?_
    refine J.nil (Ej.round (j + 1) ⟨by omega, all_next hall hget hk.1⟩ (by omega) ⟨rfl, by rw [hnx]; rfl, rfl, trivial⟩ rfl rfl)
   have h39 : (c.toNat : Int) = 32 := by have h := hg11; rw [bne_eq_false_iff_eq] at h; exact h
   refine q3 2 39 40 true hg11 ?_
   refine q3 2 39 41 true hg11 ?_
   refine J.z (q10 hg11) ?_
   refine J.c0 (fun hc30 => ?_)
   refine Cj.kb ?_
   have hk := sp_ok (c := c) (by omega)
   have hnx := fil_next hget
   rw [hk.2, if_neg (by decide), List.append_nil] at hnx
   refine Cj.region (J.z q0 ?_)
   refine J.z q7 ?_
   refine J.z q1 ?_
   refine J.nil (Ej.round (j + 1) ⟨by omega, all_next hall hget hk.1⟩ (by omega) ⟨rfl, by rw [hnx]; rfl, rfl, trivial⟩ rfl rfl)
  have h20 := odf hg2
  refine q3 2 20 21 true hg2 ?_
  refine q3 2 20 22 true hg2 ?_
  refine J.z (q10 hg2) ?_
  refine J.z q0 ?_
  refine q12 6 24 false (q2 q0 ?_)
  refine q12 6 24 false (q2 q23 ?_)
  refine J.z q30 ?_
  refine J.z q0 ?_
  refine q16 28 (fun hg31 => ?_) (fun hg31 => ?_)
  ·
   have h28 := ebq hg31
   refine q3 10 28 29 false hg31 ?_
   refine q3 10 28 30 false hg31 ?_
   refine J.z (q11 hg31) ?_
   refine J.c1 (fun hc32 => ?_)
   have hk := ch_ok (c := c) (by omega)
   refine Cj.region (J.z q0 ?_)
   refine J.z q0 ?_
   refine J.op rfl (q24 tU71 tS5 tZ5 ?_)
   intro b33 hb33
   refine J.z (yl_toStr [c] rfl rfl rfl tU71 tU9 tU5 (Blk.at 0 rfl) rfl) ?_
   refine J.z (yl_cat rfl rfl rfl (by first | omega | (simp only [List.length_append]; omega) | (simp; omega))) ?_
   refine J.z q1 ?_
   refine J.nb ?_
   have hnx := fil_next hget
   rw [hk.2, if_pos rfl] at hnx
   refine Cj.region (J.z q0 ?_)
   refine J.z q7 ?_
   refine J.z q1 ?_
   refine J.nil (Ej.keep (Keeps.d Keeps.n) ?_)
   refine Ej.round (j + 1) ⟨by omega, all_next hall hget hk.1⟩ (by omega) ⟨rfl, by rw [hnx]; rfl, rfl, trivial⟩ rfl rfl
  have h28 := nbf hg31
  refine q5 10 28 false hg31 (q2 q0 ?_)
  refine q5 10 28 false hg31 (q2 q23 ?_)
  refine J.z (q10 hg31) ?_
  refine J.cd (fun hc34 => ?_) (fun hc34 => ?_)
  ·
   have hc34p := ebq hc34
   have h31 := ebq hc34
   have hk := ch_ok (c := c) (by omega)
   refine Cj.region (J.z q0 ?_)
   refine J.z q0 ?_
   refine J.op rfl (q24 tU71 tS5 tZ5 ?_)
   intro b35 hb35
   refine J.z (yl_toStr [c] rfl rfl rfl tU71 tU9 tU5 (Blk.at 0 rfl) rfl) ?_
   refine J.z (yl_cat rfl rfl rfl (by first | omega | (simp only [List.length_append]; omega) | (simp; omega))) ?_
   refine J.z q1 ?_
   refine J.nb ?_
   have hnx := fil_next hget
   rw [hk.2, if_pos rfl] at hnx
   refine Cj.region (J.z q0 ?_)
   refine J.z q7 ?_
   refine J.z q1 ?_
   refine J.nil (Ej.keep (Keeps.d Keeps.n) ?_)
   refine Ej.round (j + 1) ⟨by omega, all_next hall hget hk.1⟩ (by omega) ⟨rfl, by rw [hnx]; rfl, rfl, trivial⟩ rfl rfl
  have hc34p := nbf hc34
  have h31 := nbf hc34
  refine Cj.sr (J.z q0 ?_)
  refine J.z q47 ?_
  refine J.z q0 ?_
  refine q16 39 (fun hg36 => ?_) (fun hg36 => ?_)
  ·
   have h39 := bne_iff_ne.1 hg36
   refine q5 2 39 true hg36 (q2 q0 ?_)
   refine q5 2 39 true hg36 (q2 q47 ?_)
   refine J.z (q11 hg36) ?_
   refine J.cd (fun hc37 => ?_) (fun hc37 => ?_)
   ·
    have hc37p := bne_iff_ne.1 hc37
    have h42 := bne_iff_ne.1 hc37
    have hout := rn_cut hall hget (bad_ok (by omega))
    rw [hout]
    have hnl := rn_len s
    have hnc := rn_chars s
    have hiN : Ke.isbn s = Ke.isbnN ((rn s).map Ke.up) := rfl
    have hml : ((rn s).map Ke.up).length = (rn s).length := List.length_map _
    refine Cj.exit (Ej.blkOther rfl ?_)
    refine Ej.seqExit (Ej.loopExit (Ej.blkExit (Ej.seq (Cj.seq (Cj.sr (J.z q0 ?_))))))
    refine J.z (q26 tU9) ?_
    refine J.z q23 ?_
    refine J.cd (fun hc38 => ?_) (fun hc38 => ?_)
    ·
     have hc38p := ebq hc38
     have h10 : (rn s).length = 10 := by have h := ebq hc38; omega
     refine Cj.sr (J.z q0 ?_)
     refine J.op rfl (op_pure rfl rfl rfl rfl rfl (ten_ok (rn s) h10 hnc _) ?_)
     refine J.z q1 ?_
     refine J.nssr (J.z q0 ?_)
     refine J.cd (fun hc39 => ?_) (fun hc39 => ?_)
     ·
      have hrs : Ke.rightShort ((rn s).map Ke.up) = true := hc39
      have hd9 : Ke.digits ((rn s).take 9) = true := by rw [← digits_up (fun c hc => hnc c (List.mem_of_mem_take hc)), List.map_take]; exact (Bool.and_eq_true_iff.1 hrs).2
      have htk9 : ((rn s).map Ke.up).take 9 = (rn s).take 9 := by rw [← List.map_take, up_digits hd9]
      have hd12 := digits_12 (b := []) hd9 (by rw [List.length_take]; omega)
      rw [List.append_nil] at hd12
      refine Cj.sr (J.z q0 ?_)
      refine J.z (q54 (p := 0) (q := 9) tU9) ?_
      refine J.eqv 50 rfl (show _ = str ((rn s).take 9) from (by rw [List.drop_zero])) ?_
      refine J.z (yl_cat rfl rfl rfl (by first | omega | (simp only [List.length_append]; omega) | (simp; omega))) ?_
      refine J.z q1 ?_
      refine J.nssr (J.z q0 ?_)
      refine J.z q0 ?_
      refine J.op rfl (op_pure rfl rfl rfl rfl rfl (rCheck_ok _ (by simp; omega) (by simp; omega) hd12 _) ?_)
      refine J.op rfl (q24 tU71 tS5 tZ5 ?_)
      intro b40 hb40
      refine J.z (yl_toStr [Ke.check ([57, 55, 56] ++ (rn s).take 9)] rfl rfl rfl tU71 tU9 tU5 (Blk.at 0 rfl) rfl) ?_
      refine J.z (yl_cat rfl rfl rfl (by first | omega | (simp only [List.length_append]; omega) | (simp; omega))) ?_
      refine J.z q1 ?_
      refine J.z q1 ?_
      refine J.ns (Cj.rs (Ej.bare ?_))
      refine q22 ?_
      have he : Ke.isbn s = ([57, 55, 56] ++ (rn s).take 9 ++ [Ke.check ([57, 55, 56] ++ (rn s).take 9)], true) := by rw [hiN]; unfold Ke.isbnN; rw [if_pos ⟨hml.trans h10, hrs⟩, htk9]
      rw [he]
      exact ⟨rfl, rfl⟩
     have hno : ¬ (((rn s).map Ke.up).length = 10 ∧ Ke.rightShort ((rn s).map Ke.up) = true) := fun e => Bool.noConfusion (e.2.symm.trans hc39)
     refine Cj.ks (Cj.sr (J.z q0 ?_))
     refine J.op rfl (op_pure rfl rfl rfl rfl rfl (rdigits_ok (rn s) (by omega) _) ?_)
     refine J.z q1 ?_
     refine J.nsss (Cj.drawSel [] [] 13 (by kernel_rfl) ?_)
     refine JA.fix fx1 (fun fx41 => ?_)
     refine JA.tk 0 rfl fx41 q0 ?_
     refine JA.tk 1 rfl fx41 (q26 tU9) ?_
     refine JA.tk 2 rfl fx41 q23 ?_
     refine JA.tk 3 rfl fx41 q0 ?_
     refine JA.split 63 rfl (fun hg42 => ?_) (fun hg42 => ?_)
     rotate_left
     ·
      have hno2 : ¬ (((rn s).map Ke.up).length = 13 ∧ Ke.digits ((rn s).map Ke.up) = true ∧ Ke.check ((rn s).map Ke.up) = ((rn s).map Ke.up).getD 12 0) := fun e => nbf hg42 (by rw [← hml, e.1]; rfl)
      refine q20 4 3 63 true fx41 (.inl (congrArg Value.bool hg42)) ?_
      refine JA.tk 5 rfl fx41 (q10 hg42) ?_
      refine JA.tk 6 rfl fx41 q0 ?_
      refine q29 7 6 66 true fx41 ?_
      refine q29 8 6 66 true fx41 ?_
      refine q29 9 6 66 true fx41 ?_
      refine q29 10 6 66 true fx41 ?_
      refine q29 11 6 66 true fx41 ?_
      refine JA.tk 12 rfl fx41 q30 ?_
      refine q14 ?_
      refine Ej.seq (Cj.cond rfl (fun hc47 => Bool.noConfusion (Eq.trans (Eq.symm rfl) hc47)) (fun hc47 => ?_))
      refine Cj.ks (Cj.sr (J.z q1 ?_))
      refine J.z q1 ?_
      refine J.ns (Cj.ret (q22 ?_))
      have he : Ke.isbn s = ([], false) := by rw [hiN]; unfold Ke.isbnN; rw [if_neg hno, if_neg hno2]
      rw [he]
      exact ⟨rfl, rfl⟩
     have h13 : (rn s).length = 13 := by have h := ebq hg42; omega
     refine JA.tkG 4 3 63 true _ rfl fx41 rfl rfl hg42 q0 ?_
     refine JA.tk 5 rfl fx41 (q11 hg42) ?_
     refine JA.tk 6 rfl fx41 q0 ?_
     refine JA.split 66 rfl (fun hg43 => ?_) (fun hg43 => ?_)
     ·
      have hdg : Ke.digits (rn s) = true := hg43
      have hd13 : Ke.digits ((rn s).take 12) = true := List.all_eq_true.2 fun c hc => List.all_eq_true.1 hdg c (List.mem_of_mem_take hc)
      obtain ⟨d, hg12⟩ : ∃ c, (rn s)[12]? = some c := ⟨_, lgg (by omega)⟩
      have hgd : ((rn s).map Ke.up).getD 12 0 = d := by rw [up_digits hdg, List.getD, hg12]; rfl
      refine JA.tkG 7 6 66 true _ rfl fx41 rfl rfl hg43 q0 ?_
      refine JA.tkG 9 6 66 true _ rfl fx41 rfl rfl hg43 q0 ?_
      refine JA.tkG 10 6 66 true _ rfl fx41 rfl rfl hg43 (q42 tU9 hg12) ?_
      refine JA.stepG 8 6 66 true _ (by kernel_rfl) rfl rfl rfl rfl hg43 (op_pure rfl rfl rfl rfl rfl (rCheck_ok (rn s) (by omega) (by omega) hd13 _) ?_)
      refine ⟨fx0, ?_⟩
      refine JA.fix fx1 (fun fx44 => ?_)
      refine JA.tkG 11 6 66 true _ rfl fx44 rfl rfl hg43 q23 ?_
      refine JA.tk 12 rfl fx44 (q11 hg43) ?_
      refine q14 ?_
      refine Ej.seq (Cj.cond rfl (fun hc45 => ?_) (fun hc45 => ?_))
      ·
       have hc45p := ebq hc45
       have hck : Ke.check ((rn s).map Ke.up) = ((rn s).map Ke.up).getD 12 0 := by have h := ebq hc45; rw [hgd, up_digits hdg]; exact UInt8.toNat_inj.1 (by omega)
       refine Cj.sr (J.z q0 ?_)
       refine J.z q1 ?_
       refine J.z q1 ?_
       refine J.ns (Cj.rs (q22 ?_))
       have he : Ke.isbn s = (rn s, true) := by rw [hiN]; unfold Ke.isbnN; rw [if_neg hno, if_pos ⟨hml.trans h13, (digits_up hnc).trans hdg, hck⟩, up_digits hdg]
       rw [he]
       exact ⟨rfl, rfl⟩
      ·
       have hc45p := nbf hc45
       have hno2 : ¬ (((rn s).map Ke.up).length = 13 ∧ Ke.digits ((rn s).map Ke.up) = true ∧ Ke.check ((rn s).map Ke.up) = ((rn s).map Ke.up).getD 12 0) := fun e => nbf hc45 (by have h := e.2.2; rw [hgd, up_digits hdg] at h; rw [h])
       refine Cj.ks (Cj.sr (J.z q1 ?_))
       refine J.z q1 ?_
       refine J.ns (Cj.ret (q22 ?_))
       have he : Ke.isbn s = ([], false) := by rw [hiN]; unfold Ke.isbnN; rw [if_neg hno, if_neg hno2]
       rw [he]
       exact ⟨rfl, rfl⟩
     ·
      have hno2 : ¬ (((rn s).map Ke.up).length = 13 ∧ Ke.digits ((rn s).map Ke.up) = true ∧ Ke.check ((rn s).map Ke.up) = ((rn s).map Ke.up).getD 12 0) := fun e => Bool.noConfusion (((digits_up hnc).symm.trans e.2.1).symm.trans hg43)
      refine q20 7 6 66 true fx41 (.inl (congrArg Value.bool hg43)) ?_
      refine q20 8 6 66 true fx41 (.inl (congrArg Value.bool hg43)) ?_
      refine q20 9 6 66 true fx41 (.inl (congrArg Value.bool hg43)) ?_
      refine q20 10 6 66 true fx41 (.inl (congrArg Value.bool hg43)) ?_
      refine q20 11 6 66 true fx41 (.inl (congrArg Value.bool hg43)) ?_
      refine JA.tk 12 rfl fx41 (q10 hg43) ?_
      refine q14 ?_
      refine Ej.seq (Cj.cond rfl (fun hc46 => Bool.noConfusion (Eq.trans (Eq.symm rfl) hc46)) (fun hc46 => ?_))
      refine Cj.ks (Cj.sr (J.z q1 ?_))
      refine J.z q1 ?_
      refine J.ns (Cj.ret (q22 ?_))
      have he : Ke.isbn s = ([], false) := by rw [hiN]; unfold Ke.isbnN; rw [if_neg hno, if_neg hno2]
      rw [he]
      exact ⟨rfl, rfl⟩
    have hc38p := nbf hc38
    have hno : ¬ (((rn s).map Ke.up).length = 10 ∧ Ke.rightShort ((rn s).map Ke.up) = true) := fun e => nbf hc38 (by rw [← hml, e.1]; rfl)
    refine Cj.ks (Cj.sr (J.z q0 ?_))
    refine J.op rfl (op_pure rfl rfl rfl rfl rfl (rdigits_ok (rn s) (by omega) _) ?_)
    refine J.z q1 ?_
    refine J.nsss (Cj.drawSel [] [] 13 (by kernel_rfl) ?_)
    refine JA.fix fx1 (fun fx48 => ?_)
    refine JA.tk 0 rfl fx48 q0 ?_
    refine JA.tk 1 rfl fx48 (q26 tU9) ?_
    refine JA.tk 2 rfl fx48 q23 ?_
    refine JA.tk 3 rfl fx48 q0 ?_
    refine JA.split 63 rfl (fun hg49 => ?_) (fun hg49 => ?_)
    rotate_left
    ·
     have hno2 : ¬ (((rn s).map Ke.up).length = 13 ∧ Ke.digits ((rn s).map Ke.up) = true ∧ Ke.check ((rn s).map Ke.up) = ((rn s).map Ke.up).getD 12 0) := fun e => nbf hg49 (by rw [← hml, e.1]; rfl)
     refine q20 4 3 63 true fx48 (.inl (congrArg Value.bool hg49)) ?_
     refine JA.tk 5 rfl fx48 (q10 hg49) ?_
     refine JA.tk 6 rfl fx48 q0 ?_
     refine q29 7 6 66 true fx48 ?_
     refine q29 8 6 66 true fx48 ?_
     refine q29 9 6 66 true fx48 ?_
     refine q29 10 6 66 true fx48 ?_
     refine q29 11 6 66 true fx48 ?_
     refine JA.tk 12 rfl fx48 q30 ?_
     refine q14 ?_
     refine Ej.seq (Cj.cond rfl (fun hc54 => Bool.noConfusion (Eq.trans (Eq.symm rfl) hc54)) (fun hc54 => ?_))
     refine Cj.ks (Cj.sr (J.z q1 ?_))
     refine J.z q1 ?_
     refine J.ns (Cj.ret (q22 ?_))
     have he : Ke.isbn s = ([], false) := by rw [hiN]; unfold Ke.isbnN; rw [if_neg hno, if_neg hno2]
     rw [he]
     exact ⟨rfl, rfl⟩
    have h13 : (rn s).length = 13 := by have h := ebq hg49; omega
    refine JA.tkG 4 3 63 true _ rfl fx48 rfl rfl hg49 q0 ?_
    refine JA.tk 5 rfl fx48 (q11 hg49) ?_
    refine JA.tk 6 rfl fx48 q0 ?_
    refine JA.split 66 rfl (fun hg50 => ?_) (fun hg50 => ?_)
    ·
     have hdg : Ke.digits (rn s) = true := hg50
     have hd13 : Ke.digits ((rn s).take 12) = true := List.all_eq_true.2 fun c hc => List.all_eq_true.1 hdg c (List.mem_of_mem_take hc)
     obtain ⟨d, hg12⟩ : ∃ c, (rn s)[12]? = some c := ⟨_, lgg (by omega)⟩
     have hgd : ((rn s).map Ke.up).getD 12 0 = d := by rw [up_digits hdg, List.getD, hg12]; rfl
     refine JA.tkG 7 6 66 true _ rfl fx48 rfl rfl hg50 q0 ?_
     refine JA.tkG 9 6 66 true _ rfl fx48 rfl rfl hg50 q0 ?_
     refine JA.tkG 10 6 66 true _ rfl fx48 rfl rfl hg50 (q42 tU9 hg12) ?_
     refine JA.stepG 8 6 66 true _ (by kernel_rfl) rfl rfl rfl rfl hg50 (op_pure rfl rfl rfl rfl rfl (rCheck_ok (rn s) (by omega) (by omega) hd13 _) ?_)
     refine ⟨fx0, ?_⟩
     refine JA.fix fx1 (fun fx51 => ?_)
     refine JA.tkG 11 6 66 true _ rfl fx51 rfl rfl hg50 q23 ?_
     refine JA.tk 12 rfl fx51 (q11 hg50) ?_
     refine q14 ?_
     refine Ej.seq (Cj.cond rfl (fun hc52 => ?_) (fun hc52 => ?_))
     ·
      have hc52p := ebq hc52
      have hck : Ke.check ((rn s).map Ke.up) = ((rn s).map Ke.up).getD 12 0 := by have h := ebq hc52; rw [hgd, up_digits hdg]; exact UInt8.toNat_inj.1 (by omega)
      refine Cj.sr (J.z q0 ?_)
      refine J.z q1 ?_
      refine J.z q1 ?_
      refine J.ns (Cj.rs (q22 ?_))
      have he : Ke.isbn s = (rn s, true) := by rw [hiN]; unfold Ke.isbnN; rw [if_neg hno, if_pos ⟨hml.trans h13, (digits_up hnc).trans hdg, hck⟩, up_digits hdg]
      rw [he]
      exact ⟨rfl, rfl⟩
     ·
      have hc52p := nbf hc52
      have hno2 : ¬ (((rn s).map Ke.up).length = 13 ∧ Ke.digits ((rn s).map Ke.up) = true ∧ Ke.check ((rn s).map Ke.up) = ((rn s).map Ke.up).getD 12 0) := fun e => nbf hc52 (by have h := e.2.2; rw [hgd, up_digits hdg] at h; rw [h])
      refine Cj.ks (Cj.sr (J.z q1 ?_))
      refine J.z q1 ?_
      refine J.ns (Cj.ret (q22 ?_))
      have he : Ke.isbn s = ([], false) := by rw [hiN]; unfold Ke.isbnN; rw [if_neg hno, if_neg hno2]
      rw [he]
      exact ⟨rfl, rfl⟩
    ·
     have hno2 : ¬ (((rn s).map Ke.up).length = 13 ∧ Ke.digits ((rn s).map Ke.up) = true ∧ Ke.check ((rn s).map Ke.up) = ((rn s).map Ke.up).getD 12 0) := fun e => Bool.noConfusion (((digits_up hnc).symm.trans e.2.1).symm.trans hg50)
     refine q20 7 6 66 true fx48 (.inl (congrArg Value.bool hg50)) ?_
     refine q20 8 6 66 true fx48 (.inl (congrArg Value.bool hg50)) ?_
     refine q20 9 6 66 true fx48 (.inl (congrArg Value.bool hg50)) ?_
     refine q20 10 6 66 true fx48 (.inl (congrArg Value.bool hg50)) ?_
     refine q20 11 6 66 true fx48 (.inl (congrArg Value.bool hg50)) ?_
     refine JA.tk 12 rfl fx48 (q10 hg50) ?_
     refine q14 ?_
     refine Ej.seq (Cj.cond rfl (fun hc53 => Bool.noConfusion (Eq.trans (Eq.symm rfl) hc53)) (fun hc53 => ?_))
     refine Cj.ks (Cj.sr (J.z q1 ?_))
     refine J.z q1 ?_
     refine J.ns (Cj.ret (q22 ?_))
     have he : Ke.isbn s = ([], false) := by rw [hiN]; unfold Ke.isbnN; rw [if_neg hno, if_neg hno2]
     rw [he]
     exact ⟨rfl, rfl⟩
   have hc37p := bne_f hc37
   have h42 : (c.toNat : Int) = 45 := by have h := hc37; rw [bne_eq_false_iff_eq] at h; exact h
   refine Cj.kb ?_
   have hk := sp_ok (c := c) (by omega)
   have hnx := fil_next hget
   rw [hk.2, if_neg (by decide), List.append_nil] at hnx
   refine Cj.region (J.z q0 ?_)
   refine J.z q7 ?_
   refine J.z q1 ?_
   refine J.nil (Ej.round (j + 1) ⟨by omega, all_next hall hget hk.1⟩ (by omega) ⟨rfl, by rw [hnx]; rfl, rfl, trivial⟩ rfl rfl)
  have h39 : (c.toNat : Int) = 32 := by have h := hg36; rw [bne_eq_false_iff_eq] at h; exact h
  refine q3 2 39 40 true hg36 ?_
  refine q3 2 39 41 true hg36 ?_
  refine J.z (q10 hg36) ?_
  refine J.c0 (fun hc55 => ?_)
  refine Cj.kb ?_
  have hk := sp_ok (c := c) (by omega)
  have hnx := fil_next hget
  rw [hk.2, if_neg (by decide), List.append_nil] at hnx
  refine Cj.region (J.z q0 ?_)
  refine J.z q7 ?_
  refine J.z q1 ?_
  refine J.nil (Ej.round (j + 1) ⟨by omega, all_next hall hget hk.1⟩ (by omega) ⟨rfl, by rw [hnx]; rfl, rfl, trivial⟩ rfl rfl)
 have hc1p := odf hc1
 have hout := rn_full (s := s) (j := j) (by omega) hall
 rw [hout]
 have hnl := rn_len s
 have hnc := rn_chars s
 have hiN : Ke.isbn s = Ke.isbnN ((rn s).map Ke.up) := rfl
 have hml : ((rn s).map Ke.up).length = (rn s).length := List.length_map _
 refine Cj.xl (Cj.seq (Cj.sr (J.z q0 ?_)))
 refine J.z (q26 tU9) ?_
 refine J.z q23 ?_
 refine J.cd (fun hc56 => ?_) (fun hc56 => ?_)
 ·
  have hc56p := ebq hc56
  have h10 : (rn s).length = 10 := by have h := ebq hc56; omega
  refine Cj.sr (J.z q0 ?_)
  refine J.op rfl (op_pure rfl rfl rfl rfl rfl (ten_ok (rn s) h10 hnc _) ?_)
  refine J.z q1 ?_
  refine J.nssr (J.z q0 ?_)
  refine J.cd (fun hc57 => ?_) (fun hc57 => ?_)
  ·
   have hrs : Ke.rightShort ((rn s).map Ke.up) = true := hc57
   have hd9 : Ke.digits ((rn s).take 9) = true := by rw [← digits_up (fun c hc => hnc c (List.mem_of_mem_take hc)), List.map_take]; exact (Bool.and_eq_true_iff.1 hrs).2
   have htk9 : ((rn s).map Ke.up).take 9 = (rn s).take 9 := by rw [← List.map_take, up_digits hd9]
   have hd12 := digits_12 (b := []) hd9 (by rw [List.length_take]; omega)
   rw [List.append_nil] at hd12
   refine Cj.sr (J.z q0 ?_)
   refine J.z (q54 (p := 0) (q := 9) tU9) ?_
   refine J.eqv 50 rfl (show _ = str ((rn s).take 9) from (by rw [List.drop_zero])) ?_
   refine J.z (yl_cat rfl rfl rfl (by first | omega | (simp only [List.length_append]; omega) | (simp; omega))) ?_
   refine J.z q1 ?_
   refine J.nssr (J.z q0 ?_)
   refine J.z q0 ?_
   refine J.op rfl (op_pure rfl rfl rfl rfl rfl (rCheck_ok _ (by simp; omega) (by simp; omega) hd12 _) ?_)
   refine J.op rfl (q24 tU71 tS5 tZ5 ?_)
   intro b58 hb58
   refine J.z (yl_toStr [Ke.check ([57, 55, 56] ++ (rn s).take 9)] rfl rfl rfl tU71 tU9 tU5 (Blk.at 0 rfl) rfl) ?_
   refine J.z (yl_cat rfl rfl rfl (by first | omega | (simp only [List.length_append]; omega) | (simp; omega))) ?_
   refine J.z q1 ?_
   refine J.z q1 ?_
   refine J.ns (Cj.rs (Ej.bare ?_))
   refine q22 ?_
   have he : Ke.isbn s = ([57, 55, 56] ++ (rn s).take 9 ++ [Ke.check ([57, 55, 56] ++ (rn s).take 9)], true) := by rw [hiN]; unfold Ke.isbnN; rw [if_pos ⟨hml.trans h10, hrs⟩, htk9]
   rw [he]
   exact ⟨rfl, rfl⟩
  have hno : ¬ (((rn s).map Ke.up).length = 10 ∧ Ke.rightShort ((rn s).map Ke.up) = true) := fun e => Bool.noConfusion (e.2.symm.trans hc57)
  refine Cj.ks (Cj.sr (J.z q0 ?_))
  refine J.op rfl (op_pure rfl rfl rfl rfl rfl (rdigits_ok (rn s) (by omega) _) ?_)
  refine J.z q1 ?_
  refine J.nsss (Cj.drawSel [] [] 13 (by kernel_rfl) ?_)
  refine JA.fix fx1 (fun fx59 => ?_)
  refine JA.tk 0 rfl fx59 q0 ?_
  refine JA.tk 1 rfl fx59 (q26 tU9) ?_
  refine JA.tk 2 rfl fx59 q23 ?_
  refine JA.tk 3 rfl fx59 q0 ?_
  refine JA.split 63 rfl (fun hg60 => ?_) (fun hg60 => ?_)
  rotate_left
  ·
   have hno2 : ¬ (((rn s).map Ke.up).length = 13 ∧ Ke.digits ((rn s).map Ke.up) = true ∧ Ke.check ((rn s).map Ke.up) = ((rn s).map Ke.up).getD 12 0) := fun e => nbf hg60 (by rw [← hml, e.1]; rfl)
   refine q20 4 3 63 true fx59 (.inl (congrArg Value.bool hg60)) ?_
   refine JA.tk 5 rfl fx59 (q10 hg60) ?_
   refine JA.tk 6 rfl fx59 q0 ?_
   refine q29 7 6 66 true fx59 ?_
   refine q29 8 6 66 true fx59 ?_
   refine q29 9 6 66 true fx59 ?_
   refine q29 10 6 66 true fx59 ?_
   refine q29 11 6 66 true fx59 ?_
   refine JA.tk 12 rfl fx59 q30 ?_
   refine q14 ?_
   refine Ej.seq (Cj.cond rfl (fun hc65 => Bool.noConfusion (Eq.trans (Eq.symm rfl) hc65)) (fun hc65 => ?_))
   refine Cj.ks (Cj.sr (J.z q1 ?_))
   refine J.z q1 ?_
   refine J.ns (Cj.ret (q22 ?_))
   have he : Ke.isbn s = ([], false) := by rw [hiN]; unfold Ke.isbnN; rw [if_neg hno, if_neg hno2]
   rw [he]
   exact ⟨rfl, rfl⟩
  have h13 : (rn s).length = 13 := by have h := ebq hg60; omega
  refine JA.tkG 4 3 63 true _ rfl fx59 rfl rfl hg60 q0 ?_
  refine JA.tk 5 rfl fx59 (q11 hg60) ?_
  refine JA.tk 6 rfl fx59 q0 ?_
  refine JA.split 66 rfl (fun hg61 => ?_) (fun hg61 => ?_)
  ·
   have hdg : Ke.digits (rn s) = true := hg61
   have hd13 : Ke.digits ((rn s).take 12) = true := List.all_eq_true.2 fun c hc => List.all_eq_true.1 hdg c (List.mem_of_mem_take hc)
   obtain ⟨d, hg12⟩ : ∃ c, (rn s)[12]? = some c := ⟨_, lgg (by omega)⟩
   have hgd : ((rn s).map Ke.up).getD 12 0 = d := by rw [up_digits hdg, List.getD, hg12]; rfl
   refine JA.tkG 7 6 66 true _ rfl fx59 rfl rfl hg61 q0 ?_
   refine JA.tkG 9 6 66 true _ rfl fx59 rfl rfl hg61 q0 ?_
   refine JA.tkG 10 6 66 true _ rfl fx59 rfl rfl hg61 (q42 tU9 hg12) ?_
   refine JA.stepG 8 6 66 true _ (by kernel_rfl) rfl rfl rfl rfl hg61 (op_pure rfl rfl rfl rfl rfl (rCheck_ok (rn s) (by omega) (by omega) hd13 _) ?_)
   refine ⟨fx0, ?_⟩
   refine JA.fix fx1 (fun fx62 => ?_)
   refine JA.tkG 11 6 66 true _ rfl fx62 rfl rfl hg61 q23 ?_
   refine JA.tk 12 rfl fx62 (q11 hg61) ?_
   refine q14 ?_
   refine Ej.seq (Cj.cond rfl (fun hc63 => ?_) (fun hc63 => ?_))
   ·
    have hc63p := ebq hc63
    have hck : Ke.check ((rn s).map Ke.up) = ((rn s).map Ke.up).getD 12 0 := by have h := ebq hc63; rw [hgd, up_digits hdg]; exact UInt8.toNat_inj.1 (by omega)
    refine Cj.sr (J.z q0 ?_)
    refine J.z q1 ?_
    refine J.z q1 ?_
    refine J.ns (Cj.rs (q22 ?_))
    have he : Ke.isbn s = (rn s, true) := by rw [hiN]; unfold Ke.isbnN; rw [if_neg hno, if_pos ⟨hml.trans h13, (digits_up hnc).trans hdg, hck⟩, up_digits hdg]
    rw [he]
    exact ⟨rfl, rfl⟩
   ·
    have hc63p := nbf hc63
    have hno2 : ¬ (((rn s).map Ke.up).length = 13 ∧ Ke.digits ((rn s).map Ke.up) = true ∧ Ke.check ((rn s).map Ke.up) = ((rn s).map Ke.up).getD 12 0) := fun e => nbf hc63 (by have h := e.2.2; rw [hgd, up_digits hdg] at h; rw [h])
    refine Cj.ks (Cj.sr (J.z q1 ?_))
    refine J.z q1 ?_
    refine J.ns (Cj.ret (q22 ?_))
    have he : Ke.isbn s = ([], false) := by rw [hiN]; unfold Ke.isbnN; rw [if_neg hno, if_neg hno2]
    rw [he]
    exact ⟨rfl, rfl⟩
  ·
   have hno2 : ¬ (((rn s).map Ke.up).length = 13 ∧ Ke.digits ((rn s).map Ke.up) = true ∧ Ke.check ((rn s).map Ke.up) = ((rn s).map Ke.up).getD 12 0) := fun e => Bool.noConfusion (((digits_up hnc).symm.trans e.2.1).symm.trans hg61)
   refine q20 7 6 66 true fx59 (.inl (congrArg Value.bool hg61)) ?_
   refine q20 8 6 66 true fx59 (.inl (congrArg Value.bool hg61)) ?_
   refine q20 9 6 66 true fx59 (.inl (congrArg Value.bool hg61)) ?_
   refine q20 10 6 66 true fx59 (.inl (congrArg Value.bool hg61)) ?_
   refine q20 11 6 66 true fx59 (.inl (congrArg Value.bool hg61)) ?_
   refine JA.tk 12 rfl fx59 (q10 hg61) ?_
   refine q14 ?_
   refine Ej.seq (Cj.cond rfl (fun hc64 => Bool.noConfusion (Eq.trans (Eq.symm rfl) hc64)) (fun hc64 => ?_))
   refine Cj.ks (Cj.sr (J.z q1 ?_))
   refine J.z q1 ?_
   refine J.ns (Cj.ret (q22 ?_))
   have he : Ke.isbn s = ([], false) := by rw [hiN]; unfold Ke.isbnN; rw [if_neg hno, if_neg hno2]
   rw [he]
   exact ⟨rfl, rfl⟩
 have hc56p := nbf hc56
 have hno : ¬ (((rn s).map Ke.up).length = 10 ∧ Ke.rightShort ((rn s).map Ke.up) = true) := fun e => nbf hc56 (by rw [← hml, e.1]; rfl)
 refine Cj.ks (Cj.sr (J.z q0 ?_))
 refine J.op rfl (op_pure rfl rfl rfl rfl rfl (rdigits_ok (rn s) (by omega) _) ?_)
 refine J.z q1 ?_
 refine J.nsss (Cj.drawSel [] [] 13 (by kernel_rfl) ?_)
 refine JA.fix fx1 (fun fx66 => ?_)
 refine JA.tk 0 rfl fx66 q0 ?_
 refine JA.tk 1 rfl fx66 (q26 tU9) ?_
 refine JA.tk 2 rfl fx66 q23 ?_
 refine JA.tk 3 rfl fx66 q0 ?_
 refine JA.split 63 rfl (fun hg67 => ?_) (fun hg67 => ?_)
 rotate_left
 ·
  have hno2 : ¬ (((rn s).map Ke.up).length = 13 ∧ Ke.digits ((rn s).map Ke.up) = true ∧ Ke.check ((rn s).map Ke.up) = ((rn s).map Ke.up).getD 12 0) := fun e => nbf hg67 (by rw [← hml, e.1]; rfl)
  refine q20 4 3 63 true fx66 (.inl (congrArg Value.bool hg67)) ?_
  refine JA.tk 5 rfl fx66 (q10 hg67) ?_
  refine JA.tk 6 rfl fx66 q0 ?_
  refine q29 7 6 66 true fx66 ?_
  refine q29 8 6 66 true fx66 ?_
  refine q29 9 6 66 true fx66 ?_
  refine q29 10 6 66 true fx66 ?_
  refine q29 11 6 66 true fx66 ?_
  refine JA.tk 12 rfl fx66 q30 ?_
  refine q14 ?_
  refine Ej.seq (Cj.cond rfl (fun hc72 => Bool.noConfusion (Eq.trans (Eq.symm rfl) hc72)) (fun hc72 => ?_))
  refine Cj.ks (Cj.sr (J.z q1 ?_))
  refine J.z q1 ?_
  refine J.ns (Cj.ret (q22 ?_))
  have he : Ke.isbn s = ([], false) := by rw [hiN]; unfold Ke.isbnN; rw [if_neg hno, if_neg hno2]
  rw [he]
  exact ⟨rfl, rfl⟩
 have h13 : (rn s).length = 13 := by have h := ebq hg67; omega
 refine JA.tkG 4 3 63 true _ rfl fx66 rfl rfl hg67 q0 ?_
 refine JA.tk 5 rfl fx66 (q11 hg67) ?_
 refine JA.tk 6 rfl fx66 q0 ?_
 refine JA.split 66 rfl (fun hg68 => ?_) (fun hg68 => ?_)
 ·
  have hdg : Ke.digits (rn s) = true := hg68
  have hd13 : Ke.digits ((rn s).take 12) = true := List.all_eq_true.2 fun c hc => List.all_eq_true.1 hdg c (List.mem_of_mem_take hc)
  obtain ⟨d, hg12⟩ : ∃ c, (rn s)[12]? = some c := ⟨_, lgg (by omega)⟩
  have hgd : ((rn s).map Ke.up).getD 12 0 = d := by rw [up_digits hdg, List.getD, hg12]; rfl
  refine JA.tkG 7 6 66 true _ rfl fx66 rfl rfl hg68 q0 ?_
  refine JA.tkG 9 6 66 true _ rfl fx66 rfl rfl hg68 q0 ?_
  refine JA.tkG 10 6 66 true _ rfl fx66 rfl rfl hg68 (q42 tU9 hg12) ?_
  refine JA.stepG 8 6 66 true _ (by kernel_rfl) rfl rfl rfl rfl hg68 (op_pure rfl rfl rfl rfl rfl (rCheck_ok (rn s) (by omega) (by omega) hd13 _) ?_)
  refine ⟨fx0, ?_⟩
  refine JA.fix fx1 (fun fx69 => ?_)
  refine JA.tkG 11 6 66 true _ rfl fx69 rfl rfl hg68 q23 ?_
  refine JA.tk 12 rfl fx69 (q11 hg68) ?_
  refine q14 ?_
  refine Ej.seq (Cj.cond rfl (fun hc70 => ?_) (fun hc70 => ?_))
  ·
   have hc70p := ebq hc70
   have hck : Ke.check ((rn s).map Ke.up) = ((rn s).map Ke.up).getD 12 0 := by have h := ebq hc70; rw [hgd, up_digits hdg]; exact UInt8.toNat_inj.1 (by omega)
   refine Cj.sr (J.z q0 ?_)
   refine J.z q1 ?_
   refine J.z q1 ?_
   refine J.ns (Cj.rs (q22 ?_))
   have he : Ke.isbn s = (rn s, true) := by rw [hiN]; unfold Ke.isbnN; rw [if_neg hno, if_pos ⟨hml.trans h13, (digits_up hnc).trans hdg, hck⟩, up_digits hdg]
   rw [he]
   exact ⟨rfl, rfl⟩
  ·
   have hc70p := nbf hc70
   have hno2 : ¬ (((rn s).map Ke.up).length = 13 ∧ Ke.digits ((rn s).map Ke.up) = true ∧ Ke.check ((rn s).map Ke.up) = ((rn s).map Ke.up).getD 12 0) := fun e => nbf hc70 (by have h := e.2.2; rw [hgd, up_digits hdg] at h; rw [h])
   refine Cj.ks (Cj.sr (J.z q1 ?_))
   refine J.z q1 ?_
   refine J.ns (Cj.ret (q22 ?_))
   have he : Ke.isbn s = ([], false) := by rw [hiN]; unfold Ke.isbnN; rw [if_neg hno, if_neg hno2]
   rw [he]
   exact ⟨rfl, rfl⟩
 ·
  have hno2 : ¬ (((rn s).map Ke.up).length = 13 ∧ Ke.digits ((rn s).map Ke.up) = true ∧ Ke.check ((rn s).map Ke.up) = ((rn s).map Ke.up).getD 12 0) := fun e => Bool.noConfusion (((digits_up hnc).symm.trans e.2.1).symm.trans hg68)
  refine q20 7 6 66 true fx66 (.inl (congrArg Value.bool hg68)) ?_
  refine q20 8 6 66 true fx66 (.inl (congrArg Value.bool hg68)) ?_
  refine q20 9 6 66 true fx66 (.inl (congrArg Value.bool hg68)) ?_
  refine q20 10 6 66 true fx66 (.inl (congrArg Value.bool hg68)) ?_
  refine q20 11 6 66 true fx66 (.inl (congrArg Value.bool hg68)) ?_
  refine JA.tk 12 rfl fx66 (q10 hg68) ?_
  refine q14 ?_
  refine Ej.seq (Cj.cond rfl (fun hc71 => Bool.noConfusion (Eq.trans (Eq.symm rfl) hc71)) (fun hc71 => ?_))
  refine Cj.ks (Cj.sr (J.z q1 ?_))
  refine J.z q1 ?_
  refine J.ns (Cj.ret (q22 ?_))
  have he : Ke.isbn s = ([], false) := by rw [hiN]; unfold Ke.isbnN; rw [if_neg hno, if_neg hno2]
  rw [he]
  exact ⟨rfl, rfl⟩
end Go.Proofs.YtjcdfnbomkoheaaGreatDoor
end
section
namespace Ke
open Go.Lib (decodeL decodeN)
end Ke
end
section
namespace Ke
end Ke
end
section
namespace Go.Proofs.YtjcdfnbomkoheaaGreatDoor
open _root_.Go.Proofs.Tryz
open Go Go.Sx
theorem mod_eq (n : Int) {m : Int} (hm : 0 < m) : (n.tmod m + m).tmod m = n % m := by
  have h1 := Int.tmod_lt_of_pos n hm
  have h2 : -m < n.tmod m := by
    have := Int.lt_tmod_of_pos n hm
    omega
  rw [Int.tmod_eq_emod_of_nonneg (by omega), Int.add_emod_right, Int.tmod_def, Int.sub_mul_emod_self_left]
def pairC (p : List UInt8 × List UInt8) : List Value := [str p.1, str p.2]
theorem tabc {k : Nat} {a b : List UInt8} (h : Ke.rows[k]? = some (a, b)) : (Ke.rows.flatMap pairC)[k * 2]? = some (str a) ∧ (Ke.rows.flatMap pairC)[k * 2 + 1]? = some (str b) := by
  have h0 := row_fcell (f := pairC) (n := 2) (cs := Ke.rows.flatMap pairC) (sp := []) (o := 0) (fun _ => rfl) (by simp) h 0 (by decide)
  have h1 := row_fcell (f := pairC) (n := 2) (cs := Ke.rows.flatMap pairC) (sp := []) (o := 0) (fun _ => rfl) (by simp) h 1 (by decide)
  rw [Nat.zero_add] at h0 h1
  exact ⟨h0, h1⟩
theorem look_mem : ∀ {l : List (Nat × List UInt8)} {c : Nat} {a : List UInt8}, (l.map (·.1)).Nodup → (c, a) ∈ l → l.lookup c = some a
  | (d, b) :: r, c, a, hn, h => by
    simp only [List.map_cons, List.nodup_cons] at hn
    rw [List.lookup_cons]
    rcases List.mem_cons.1 h with h | h
    · cases h; simp
    have : c ≠ d := fun e => hn.1 (e ▸ List.mem_map.2 ⟨_, h, rfl⟩)
    rw [show (c == d) = false from by simpa using this]
    exact look_mem hn.2 h
theorem rowTab_mem {c : Nat} : ∀ {l : List (List UInt8 × List UInt8)} {k : Nat} {a b : List UInt8}, l[k]? = some (a, b) → c ∈ Ke.runes b → (c, a) ∈ Ke.rowTab l
  | [], _, _, _, h, _ => by simp at h
  | (x, y) :: r, 0, a, b, h, hc => by
    simp at h; obtain ⟨rfl, rfl⟩ := h
    exact List.mem_append_left _ (List.mem_map.2 ⟨c, hc, rfl⟩)
  | (x, y) :: r, k + 1, a, b, h, hc => List.mem_append_right _ (rowTab_mem (l := r) (by simpa using h) hc)
theorem look_found {k j c : Nat} {a b : List UInt8} (h : Ke.rows[k]? = some (a, b)) (hj : (Ke.runes b)[j]? = some c) : Ke.tab.lookup c = some a := by
  refine look_mem Ke.tab_nodup ?_
  rw [← Ke.tab_eq]
  exact rowTab_mem h (lmg hj)
theorem look_next {k c : Nat} {a b : List UInt8} (h : Ke.rows[k]? = some (a, b)) (h1 : c ∉ (Ke.rowTab (Ke.rows.take k)).map (·.1)) (h2 : c ∉ Ke.runes b) : c ∉ (Ke.rowTab (Ke.rows.take (k + 1))).map (·.1) := by
  rw [Ke.rowTab_next h, List.map_append, List.mem_append, List.map_map]
  rintro (g | g)
  · exact h1 g
  obtain ⟨x, hx, rfl⟩ := List.mem_map.1 g
  exact h2 hx
theorem look_none {c : Nat} {k : Nat} (hk : ¬ k < 31) (h : c ∉ (Ke.rowTab (Ke.rows.take k)).map (·.1)) : Ke.tab.lookup c = none := by
  rw [List.take_of_length_le (show Ke.rows.length ≤ k by show 31 ≤ k; omega), Ke.tab_eq] at h
  exact Ke.lookup_none h
theorem rune_next {l : List Nat} {k c d : Nat} (h : c ∉ l.take k) (hg : l[k]? = some d) (hd : d ≠ c) : c ∉ l.take (k + 1) := by
  obtain ⟨hlt, hg⟩ := List.getElem?_eq_some_iff.1 hg
  rw [List.take_succ_eq_append_getElem hlt, hg, List.mem_append, List.mem_singleton]
  rintro (e | e)
  · exact h e
  exact hd e.symm
theorem runes_fromF : ∀ (f : Nat) (s : List UInt8) (i : Nat) (acc : Array Value), s.length - i ≤ f → Conv.runesFrom ⟨s.toArray⟩ f i acc = acc ++ (rcs (Ke.runes (s.drop i))).toArray
  | 0, s, i, acc, h => by
    rw [Ke.runes_end (by omega)]
    simp [Conv.runesFrom, rcs]
  | f + 1, s, i, acc, h => by
    unfold Conv.runesFrom
    by_cases hi : i < s.length
    · rw [if_pos (by rw [size_mk]; exact hi)]
      have hw := Ke.decode_width s hi
      rw [Ke.runes_at hi]
      dsimp only
      rw [runes_fromF f s _ _ (by omega)]
      simp [rcs]
    rw [if_neg (by rw [size_mk]; exact hi), Ke.runes_end (by omega)]
    simp [rcs]
theorem runes_all (s : List UInt8) : Conv.runesFrom ⟨s.toArray⟩ s.length 0 #[] = (rcs (Ke.runes s)).toArray := by
  rw [runes_fromF _ _ _ _ (by omega), List.drop_zero]; simp
theorem runes_lenS (s : List UInt8) : (Ke.runes s).length ≤ s.length := Ke.runes_len _ _
theorem Table_ok (I : Heap) : Ctr Tryz.prog 155 [] I [] (fun e _I' H' => ∃ b, e = .returned (.slice (some ⟨b, 0, none⟩) 31 31) ∧ H' = [(b, cel 22 (Ke.rows.flatMap pairC))]) := by
 refine Ctr.ob func155 ?_
 intro w0 hw0
 refine Cj.sr (J.z q1 ?_)
 refine J.nssr (J.z (q40 (zs := [(str []), (str [])]) tZ22 tU22 tS9) ?_)
 refine J.z (q40 (zs := [(str []), (str [])]) tZ22 tU22 tS9) ?_
 refine J.z (q40 (zs := [(str []), (str [])]) tZ22 tU22 tS9) ?_
 refine J.z (q40 (zs := [(str []), (str [])]) tZ22 tU22 tS9) ?_
 refine J.z (q40 (zs := [(str []), (str [])]) tZ22 tU22 tS9) ?_
 refine J.z (q40 (zs := [(str []), (str [])]) tZ22 tU22 tS9) ?_
 refine J.z (q40 (zs := [(str []), (str [])]) tZ22 tU22 tS9) ?_
 refine J.z (q40 (zs := [(str []), (str [])]) tZ22 tU22 tS9) ?_
 refine J.z (q40 (zs := [(str []), (str [])]) tZ22 tU22 tS9) ?_
 refine J.z (q40 (zs := [(str []), (str [])]) tZ22 tU22 tS9) ?_
 refine J.z (q40 (zs := [(str []), (str [])]) tZ22 tU22 tS9) ?_
 refine J.z (q40 (zs := [(str []), (str [])]) tZ22 tU22 tS9) ?_
 refine J.z (q40 (zs := [(str []), (str [])]) tZ22 tU22 tS9) ?_
 refine J.z (q40 (zs := [(str []), (str [])]) tZ22 tU22 tS9) ?_
 refine J.z (q40 (zs := [(str []), (str [])]) tZ22 tU22 tS9) ?_
 refine J.z (q40 (zs := [(str []), (str [])]) tZ22 tU22 tS9) ?_
 refine J.z (q40 (zs := [(str []), (str [])]) tZ22 tU22 tS9) ?_
 refine J.z (q40 (zs := [(str []), (str [])]) tZ22 tU22 tS9) ?_
 refine J.z (q40 (zs := [(str []), (str [])]) tZ22 tU22 tS9) ?_
 refine J.z (q40 (zs := [(str []), (str [])]) tZ22 tU22 tS9) ?_
 refine J.z (q40 (zs := [(str []), (str [])]) tZ22 tU22 tS9) ?_
 refine J.z (q40 (zs := [(str []), (str [])]) tZ22 tU22 tS9) ?_
 refine J.z (q40 (zs := [(str []), (str [])]) tZ22 tU22 tS9) ?_
 refine J.z (q40 (zs := [(str []), (str [])]) tZ22 tU22 tS9) ?_
 refine J.z (q40 (zs := [(str []), (str [])]) tZ22 tU22 tS9) ?_
 refine J.z (q40 (zs := [(str []), (str [])]) tZ22 tU22 tS9) ?_
 refine J.z (q40 (zs := [(str []), (str [])]) tZ22 tU22 tS9) ?_
 refine J.z (q40 (zs := [(str []), (str [])]) tZ22 tU22 tS9) ?_
 refine J.z (q40 (zs := [(str []), (str [])]) tZ22 tU22 tS9) ?_
 refine J.z (q40 (zs := [(str []), (str [])]) tZ22 tU22 tS9) ?_
 refine J.z (q40 (zs := [(str []), (str [])]) tZ22 tU22 tS9) ?_
 refine J.op rfl (op_buildSlice rfl rfl rfl underlying192 sizeOf22 tZ22 rfl rfl rfl rfl (LCat.agg rfl (LCat.agg rfl (LCat.agg rfl (LCat.agg rfl (LCat.agg rfl (LCat.agg rfl (LCat.agg rfl (LCat.agg rfl (LCat.agg rfl (LCat.agg rfl (LCat.agg rfl (LCat.agg rfl (LCat.agg rfl (LCat.agg rfl (LCat.agg rfl (LCat.agg rfl (LCat.agg rfl (LCat.agg rfl (LCat.agg rfl (LCat.agg rfl (LCat.agg rfl (LCat.agg rfl (LCat.agg rfl (LCat.agg rfl (LCat.agg rfl (LCat.agg rfl (LCat.agg rfl (LCat.agg rfl (LCat.agg rfl (LCat.agg rfl (LCat.agg rfl LCat.none))))))))))))))))))))))))))))))) ?_)
 intro b1 hb1
 refine J.z q1 ?_
 refine J.ns (Cj.ret (q6 ?_))
 exact ⟨b1, rfl, rfl⟩
theorem letter_ok (c : Nat) (I : Heap) : Pure Tryz.prog 113 [.int .i32 (c : Int)] I (str ((Ke.tab.lookup c).getD [])) := by
 refine Ctr.toPure ?_
 refine Ctr.ob func113 ?_
 intro w0 hw0
 refine Cj.sr (J.z q1 ?_)
 refine J.nssr (J.op rfl (q44 rfl rfl rfl rfl rfl (Table_ok _) ?_))
 intro v2 I3 H4 hle5 hn1 hp6
 obtain ⟨tb, h, rfl⟩ := hp6; cases h
 refine J.persist (hn1 _ (.head _)) (fun I9 hle9 htb => ?_)
 refine J.z q1 ?_
 refine J.nsss (Cj.region (J.z q1 ?_))
 refine J.ns (Cj.block (Cj.loop (ι := Nat) (fun k => k ≤ 31 ∧ c ∉ (Ke.rowTab (Ke.rows.take k)).map (·.1)) (fun k => 31 - k) (fun k => [(0, .int .i32 (c : Int)), (3, .slice (some ⟨tb, 0, none⟩) 31 31), (4, i64 (k : Int))]) (fun k => _) (fun k => []) 0 ⟨Nat.zero_le _, by simp [Ke.rowTab]⟩ ⟨rfl, rfl, rfl, trivial⟩ rfl rfl ?_))
 rintro k ⟨hk, hno⟩
 refine Cj.seq (Cj.sr (J.z q0 ?_))
 refine J.z q0 ?_
 refine J.z (q15 underlying192) ?_
 refine J.z q17 ?_
 refine J.cd (fun hc7 => ?_) (fun hc7 => ?_)
 ·
  have hc7p := odt hc7
  refine Cj.ks (Cj.seq (Cj.block (Cj.seq ?_)))
  have hlt : k < 31 := by omega
  obtain ⟨⟨a, b⟩, hget⟩ : ∃ p, Ke.rows[k]? = some p := ⟨_, lgg (show k < Ke.rows.length from hlt)⟩
  obtain ⟨-, -, hbl⟩ := Ke.row_parts _ (lmg hget)
  dsimp only at hbl
  have hrb := runes_lenS b
  refine Cj.region (J.z q0 ?_)
  refine J.z q0 ?_
  refine J.z (q19 (off' := k * 2) underlying192 sizeOf22) ?_
  refine J.z (yl_indexArr (off' := k * 2 + 1) rfl rfl rfl tU22 tS9 (by decide) (by decide) (by simp)) ?_
  refine J.z (q37 tA9 (Blk.imm htb) (tabc hget).2) ?_
  refine J.op rfl (op_toRunes (runes_all b) rfl rfl rfl rfl tU9 tU129 tU21 ?_)
  intro b8 c9 sp10 hb8
  refine J.z q1 ?_
  refine J.nssr (J.z q1 ?_)
  refine J.ns (Cj.block (Cj.loop (ι := Nat) (fun j => j ≤ (Ke.runes b).length ∧ c ∉ (Ke.runes b).take j) (fun j => (Ke.runes b).length - j) (fun j => [(0, .int .i32 (c : Int)), (3, .slice (some ⟨tb, 0, none⟩) 31 31), (4, i64 (k : Int)), (5, .slice (some ⟨b8, 0, none⟩) (Ke.runes b).length c9), (6, i64 (j : Int))]) (fun j => _) (fun j => [(b8, cel 21 (rcs (Ke.runes b) ++ sp10))]) 0 ⟨Nat.zero_le _, by simp⟩ ⟨rfl, rfl, rfl, rfl, rfl, trivial⟩ rfl rfl ?_))
  rintro j ⟨hj, hnj⟩
  refine Cj.seq (Cj.sr (J.z q0 ?_))
  refine J.z q0 ?_
  refine J.z (q15 tU129) ?_
  refine J.z q17 ?_
  refine J.cd (fun hc11 => ?_) (fun hc11 => ?_)
  ·
   have hc11p := odt hc11
   refine Cj.ks (Cj.seq (Cj.block (Cj.seq ?_)))
   have hjl : j < (Ke.runes b).length := by omega
   obtain ⟨d, hgj⟩ : ∃ d, (Ke.runes b)[j]? = some d := ⟨_, lgg hjl⟩
   refine Cj.region (J.z q0 ?_)
   refine J.z q0 ?_
   refine J.z (q19 (off' := j) tU129 tS21) ?_
   refine J.z (yl_load rfl rfl isAgg21 (Blk.at 0 rfl) (rcs_get hgj)) ?_
   refine J.z q0 ?_
   refine J.z q23 ?_
   refine J.cd (fun hc12 => ?_) (fun hc12 => ?_)
   ·
    have hc12p := ebq hc12
    have hdc : d = c := by have h := ebq hc12; omega
    subst hdc
    refine Cj.sr (J.z q0 ?_)
    refine J.z q0 ?_
    refine J.z (q19 (off' := k * 2) underlying192 sizeOf22) ?_
    refine J.z (yl_indexArr (off' := k * 2) rfl rfl rfl tU22 tS9 (by decide) (by decide) (by simp)) ?_
    refine J.z (q37 tA9 (Blk.imm htb) (tabc hget).1) ?_
    refine J.z q1 ?_
    refine J.ns (Cj.ret (Ej.blkRet (Ej.seqRet (Ej.loopRet (Ej.blkRet (Ej.blkRet (Ej.seqRet (Ej.loopRet (Ej.blkRet (Ej.seqRet (Ej.bare ?_)))))))))))
    refine q6 ?_
    rw [look_found hget hgj]
    exact ⟨rfl, rfl⟩
   have hc12p := nbf hc12
   have hne : d ≠ c := fun e => nbf hc12 (by rw [e])
   refine Cj.kb (Cj.region (J.z q0 ?_))
   refine J.z q7 ?_
   refine J.z q1 ?_
   refine J.nil (Ej.round (j + 1) ⟨by omega, rune_next hnj hgj hne⟩ (by omega) ⟨rfl, rfl, rfl, rfl, rfl, trivial⟩ rfl rfl)
  have hc11p := odf hc11
  have hnb : c ∉ Ke.runes b := by rw [List.take_of_length_le (by omega)] at hnj; exact hnj
  refine Cj.exit (Ej.seqExit (Ej.loopExit (Ej.blkExit (Ej.blkNormal (Ej.seq (Cj.region (J.z q0 ?_)))))))
  refine J.z q7 ?_
  refine J.z q1 ?_
  refine J.nil (Ej.keep (Keeps.d Keeps.n) ?_)
  refine Ej.round (k + 1) ⟨by omega, look_next hget hno hnb⟩ (by omega) ⟨rfl, rfl, rfl, trivial⟩ rfl rfl
 have hc7p := odf hc7
 refine Cj.xl (Cj.sr (J.z q1 ?_))
 refine J.ns (Cj.ret (q6 ?_))
 rw [look_none (by omega) hno]
 exact ⟨rfl, rfl⟩
theorem tab_ne {c : Nat} {x : List UInt8} (h : Ke.tab.lookup c = some x) : x ≠ [] := by
  have h1 : Ke.tab.all (fun p => decide (p.2 ≠ [])) = true := by decide +kernel
  obtain ⟨p, hp, rfl⟩ := Ke.mem_lookup h
  simpa using List.all_eq_true.1 h1 p hp
theorem rChar_ok (c : Nat) (hc : c ≤ 1114111) (I : Heap) : Pure Tryz.prog 82 [.int .i32 (c : Int)] I (str (Ke.char c)) := by
 refine Ctr.ob func82 ?_
 intro w0 hw0
 refine Cj.sr (J.z q1 ?_)
 refine J.ns (Cj.join (ι := Unit) (fun _u => ¬ ((97 ≤ c ∧ c ≤ 122) ∨ (48 ≤ c ∧ c ≤ 57))) (fun _u => [(0, .int .i32 (c : Int))]) (fun _u => I) (fun _u => []) ?_ (fun hcut => ?_))
 ·
  intro _ a0
  refine Cj.join (ι := Unit) (fun _u => ¬ ((97 ≤ c ∧ c ≤ 122) ∨ (48 ≤ c ∧ c ≤ 57)) ∧ ¬ (65 ≤ c ∧ c ≤ 90)) (fun _u => [(0, .int .i32 (c : Int))]) (fun _u => I) (fun _u => []) ?_ (fun hcut => ?_)
  ·
   rintro - ⟨a0, a1⟩
   refine Cj.join (ι := Unit) (fun _u => ¬ ((97 ≤ c ∧ c ≤ 122) ∨ (48 ≤ c ∧ c ≤ 57)) ∧ ¬ (65 ≤ c ∧ c ≤ 90) ∧ 128 ≤ c) (fun _u => [(0, .int .i32 (c : Int))]) (fun _u => I) (fun _u => []) ?_ (fun hcut => ?_)
   ·
    rintro - ⟨a0, a1, a2⟩
    refine Cj.join (ι := Unit) (fun _u => ¬ ((97 ≤ c ∧ c ≤ 122) ∨ (48 ≤ c ∧ c ≤ 57)) ∧ ¬ (65 ≤ c ∧ c ≤ 90) ∧ 128 ≤ c ∧ ¬ ((768 ≤ c ∧ c ≤ 879) ∨ (65056 ≤ c ∧ c ≤ 65071))) (fun _u => [(0, .int .i32 (c : Int))]) (fun _u => I) (fun _u => []) ?_ (fun hcut => ?_)
    ·
     rintro - ⟨a0, a1, a2, a3⟩
     refine Cj.sr (J.z q0 ?_)
     refine J.op rfl (op_pure rfl rfl rfl rfl rfl (letter_ok c _) ?_)
     refine J.z q1 ?_
     refine J.ns (Cj.join (ι := Unit) (fun _u => ¬ ((97 ≤ c ∧ c ≤ 122) ∨ (48 ≤ c ∧ c ≤ 57)) ∧ ¬ (65 ≤ c ∧ c ≤ 90) ∧ 128 ≤ c ∧ ¬ ((768 ≤ c ∧ c ≤ 879) ∨ (65056 ≤ c ∧ c ≤ 65071)) ∧ Ke.tab.lookup c = none ∧ c ≠ 962 ∧ ¬ ((945 ≤ c ∧ c ≤ 969) ∨ (1072 ≤ c ∧ c ≤ 1103)) ∧ ¬ (((913 ≤ c ∧ c ≤ 937) ∧ c ≠ 930) ∨ (1040 ≤ c ∧ c ≤ 1071))) (fun _u => [(0, .int .i32 (c : Int))]) (fun _u => I) (fun _u => []) ?_ (fun hcut => ?_))
     ·
      rintro - ⟨a0, a1, a2, a3, a4, a5, a6, a7⟩
      refine Cj.sr (J.z q1 ?_)
      refine J.ns (Cj.ret (q6 ?_))
      refine ⟨?_, rfl, rfl⟩
      refine congrArg (fun l => Ending.returned (str l)) ?_
      unfold Ke.char
      rw [if_neg (by omega), if_neg (by omega), if_neg (by omega), if_neg (by omega), a4]
      simp only
      rw [if_neg a5, if_neg a6, if_neg a7]
     refine Cj.block (Cj.sr (J.z q0 ?_))
     refine J.z (yl_neqStr rfl rfl rfl) ?_
     refine J.z q1 ?_
     refine J.cd (fun hc1 => ?_) (fun hc1 => ?_)
     ·
      have hc1p := bne_iff_ne.1 hc1
      obtain ⟨x, hx⟩ : ∃ x, Ke.tab.lookup c = some x := by
        have h := bne_iff_ne.1 hc1
        cases hl : Ke.tab.lookup c with
        | none => rw [hl] at h; exact absurd rfl h
        | some x => exact ⟨x, rfl⟩
      refine Cj.eqv 3 rfl (show _ = str x from (by rw [hx]; rfl)) ?_
      refine Cj.sr (J.z q0 ?_)
      refine J.z q1 ?_
      refine J.ns (Cj.ret (Ej.blkRet (Ej.seqRet (q6 ?_))))
      refine ⟨?_, rfl, rfl⟩
      refine congrArg (fun l => Ending.returned (str l)) ?_
      unfold Ke.char
      rw [if_neg (by omega), if_neg (by omega), if_neg (by omega), if_neg (by omega), hx]
     have hc1p := bne_f hc1
     have hx : Ke.tab.lookup c = none := by
       have h := bne_f hc1
       cases hl : Ke.tab.lookup c with
       | none => rfl
       | some x => rw [hl] at h; exact absurd h (tab_ne hl)
     refine Cj.sr (J.z q0 ?_)
     refine J.z q23 ?_
     refine J.z q1 ?_
     refine J.cd (fun hc2 => ?_) (fun hc2 => ?_)
     ·
      have hc2p := ebq hc2
      refine Cj.sr (J.op rfl (q24 tU129 tS21 tZ21 ?_))
      intro b3 hb3
      refine J.z (q48 tU129 tU9 tU21) ?_
      refine J.z q1 ?_
      refine J.ns (Cj.ret (Ej.blkRet (Ej.seqRet (Ej.bare ?_))))
      refine q6 ?_
      refine ⟨?_, rfl, rfl⟩
      refine congrArg (fun l => Ending.returned (str l)) ?_
      unfold Ke.char
      rw [if_neg (by omega), if_neg (by omega), if_neg (by omega), if_neg (by omega), hx]
      simp only
      rw [if_pos (by omega)]; rfl
     have hc2p := nbf hc2
     refine Cj.sr (J.z q0 ?_)
     refine J.z q34 ?_
     refine J.z q0 ?_
     refine q16 61 (fun hg4 => ?_) (fun hg4 => ?_)
     ·
      have hg4p := odt hg4
      refine q5 2 61 true hg4 (q2 q0 ?_)
      refine q5 2 61 true hg4 (q2 q38 ?_)
      refine J.z (q11 hg4) ?_
      refine J.z q0 ?_
      refine q16 65 (fun hg5 => ?_) (fun hg5 => ?_)
      ·
       have hg5p := odt hg5
       refine q3 6 65 66 false hg5 ?_
       refine q3 6 65 67 false hg5 ?_
       refine q3 6 65 68 false hg5 ?_
       refine J.skipU 9 68 69 true rfl rfl rfl rfl rfl ?_
       refine J.skipU 9 68 70 true rfl rfl rfl rfl rfl ?_
       refine q3 6 65 71 false hg5 ?_
       refine J.z (q11 hg5) ?_
       refine J.z q1 ?_
       refine J.c1 (fun hc6 => ?_)
       refine Cj.sr (J.z q0 ?_)
       refine J.op rfl (q24 tU129 tS21 tZ21 ?_)
       intro b7 hb7
       refine J.z (q48 tU129 tU9 tU21) ?_
       refine J.z q1 ?_
       refine J.ns (Cj.ret (Ej.blkRet (Ej.seqRet (Ej.bare ?_))))
       refine q6 ?_
       refine ⟨?_, rfl, rfl⟩
       refine congrArg (fun l => Ending.returned (str l)) ?_
       unfold Ke.char
       rw [if_neg (by omega), if_neg (by omega), if_neg (by omega), if_neg (by omega), hx]
       simp only
       rw [if_neg (by omega), if_pos (by omega)]; exact Ke.enc_encode (by unfold Ke.okc; omega)
      have hg5p := odf hg5
      refine q5 6 65 false hg5 (q2 q0 ?_)
      refine q5 6 65 false hg5 (q2 q34 ?_)
      refine q5 6 65 false hg5 (q2 q0 ?_)
      refine q16 68 (fun hg8 => ?_) (fun hg8 => ?_)
      ·
       have hg8p := odt hg8
       refine q5 9 68 true hg8 (q2 q0 ?_)
       refine q5 9 68 true hg8 (q2 q38 ?_)
       refine q5 6 65 false hg5 (q2 (q11 hg8) ?_)
       refine J.z (q10 hg5) ?_
       refine J.z q1 ?_
       refine J.cd (fun hc9 => ?_) (fun hc9 => ?_)
       ·
        have hc9p := odt hc9
        refine Cj.sr (J.z q0 ?_)
        refine J.op rfl (q24 tU129 tS21 tZ21 ?_)
        intro b10 hb10
        refine J.z (q48 tU129 tU9 tU21) ?_
        refine J.z q1 ?_
        refine J.ns (Cj.ret (Ej.blkRet (Ej.seqRet (Ej.bare ?_))))
        refine q6 ?_
        refine ⟨?_, rfl, rfl⟩
        refine congrArg (fun l => Ending.returned (str l)) ?_
        unfold Ke.char
        rw [if_neg (by omega), if_neg (by omega), if_neg (by omega), if_neg (by omega), hx]
        simp only
        rw [if_neg (by omega), if_pos (by omega)]; exact Ke.enc_encode (by unfold Ke.okc; omega)
       have hc9p := odf hc9
       refine Cj.sr (J.z q0 ?_)
       refine J.z q34 ?_
       refine J.z q0 ?_
       refine q16 79 (fun hg11 => ?_) (fun hg11 => ?_)
       ·
        have hg11p := odt hg11
        refine q5 2 79 true hg11 (q2 q0 ?_)
        refine q5 2 79 true hg11 (q2 q38 ?_)
        refine J.z (q11 hg11) ?_
        refine J.z q0 ?_
        refine q16 83 (fun hg12 => ?_) (fun hg12 => ?_)
        ·
         have hg12p := odt hg12
         refine q5 6 83 true hg12 (q2 q0 ?_)
         refine q5 6 83 true hg12 (q2 q47 ?_)
         refine J.z (q11 hg12) ?_
         refine J.z q0 ?_
         refine q16 87 (fun hg13 => ?_) (fun hg13 => ?_)
         ·
          have hg13p := bne_iff_ne.1 hg13
          refine q3 10 87 88 false hg13 ?_
          refine q3 10 87 89 false hg13 ?_
          refine q3 10 87 90 false hg13 ?_
          refine J.skipU 13 90 91 true rfl rfl rfl rfl rfl ?_
          refine J.skipU 13 90 92 true rfl rfl rfl rfl rfl ?_
          refine q3 10 87 93 false hg13 ?_
          refine J.z (q11 hg13) ?_
          refine J.z q1 ?_
          refine J.c1 (fun hc14 => ?_)
          refine Cj.sr (J.z q0 ?_)
          refine J.z (yl_add rfl rfl rfl (i32w (by omega))) ?_
          refine J.op rfl (q24 tU129 tS21 tZ21 ?_)
          intro b15 hb15
          refine J.z (q48 tU129 tU9 tU21) ?_
          refine J.z q1 ?_
          refine J.ns (Cj.ret (Ej.blkRet (Ej.seqRet (Ej.bare ?_))))
          refine q6 ?_
          refine ⟨?_, rfl, rfl⟩
          refine congrArg (fun l => Ending.returned (str l)) ?_
          unfold Ke.char
          rw [if_neg (by omega), if_neg (by omega), if_neg (by omega), if_neg (by omega), hx]
          simp only
          rw [if_neg (by omega), if_neg (by omega), if_pos (by omega)]; exact (congrArg (fun n : Int => (Utf8.encode n).data.toList) (by omega)).trans (Ke.enc_encode (c := c + 32) (by unfold Ke.okc; omega))
         have hg13p := bne_f hg13
         refine q5 10 87 false hg13 (q2 q0 ?_)
         refine q5 10 87 false hg13 (q2 q34 ?_)
         refine q5 10 87 false hg13 (q2 q0 ?_)
         refine q16 90 (fun hg16 => ?_) (fun hg16 => ?_)
         ·
          have hg16p := odt hg16
          refine q5 13 90 true hg16 (q2 q0 ?_)
          refine q5 13 90 true hg16 (q2 q38 ?_)
          refine q5 10 87 false hg13 (q2 (q11 hg16) ?_)
          refine J.z (q10 hg13) ?_
          refine J.z q1 ?_
          refine J.cd (fun hc17 => ?_) (fun hc17 => ?_)
          ·
           have hc17p := odt hc17
           refine Cj.sr (J.z q0 ?_)
           refine J.z (yl_add rfl rfl rfl (i32w (by omega))) ?_
           refine J.op rfl (q24 tU129 tS21 tZ21 ?_)
           intro b18 hb18
           refine J.z (q48 tU129 tU9 tU21) ?_
           refine J.z q1 ?_
           refine J.ns (Cj.ret (Ej.blkRet (Ej.seqRet (Ej.bare ?_))))
           refine q6 ?_
           refine ⟨?_, rfl, rfl⟩
           refine congrArg (fun l => Ending.returned (str l)) ?_
           unfold Ke.char
           rw [if_neg (by omega), if_neg (by omega), if_neg (by omega), if_neg (by omega), hx]
           simp only
           rw [if_neg (by omega), if_neg (by omega), if_pos (by omega)]; exact (congrArg (fun n : Int => (Utf8.encode n).data.toList) (by omega)).trans (Ke.enc_encode (c := c + 32) (by unfold Ke.okc; omega))
          have hc17p := odf hc17
          refine Cj.skip (Ej.blkNormal ?_)
          exact hcut () _ _ _ ⟨by omega, by omega, by omega, by omega, hx, by omega, by omega, by omega⟩ ⟨rfl, trivial⟩ rfl rfl
         have hg16p := odf hg16
         refine q3 13 90 91 true hg16 ?_
         refine q3 13 90 92 true hg16 ?_
         refine q5 10 87 false hg13 (q2 (q10 hg16) ?_)
         refine J.z (q10 hg13) ?_
         refine J.z q1 ?_
         refine J.c0 (fun hc19 => ?_)
         refine Cj.skip (Ej.blkNormal ?_)
         exact hcut () _ _ _ ⟨by omega, by omega, by omega, by omega, hx, by omega, by omega, by omega⟩ ⟨rfl, trivial⟩ rfl rfl
        have hg12p := odf hg12
        refine q3 6 83 84 true hg12 ?_
        refine q3 6 83 85 true hg12 ?_
        refine J.z (q10 hg12) ?_
        refine J.z q0 ?_
        refine q12 10 87 false (q2 q0 ?_)
        refine q12 10 87 false (q2 q34 ?_)
        refine q12 10 87 false (q2 q0 ?_)
        refine q16 90 (fun hg20 => ?_) (fun hg20 => ?_)
        ·
         have hg20p := odt hg20
         refine q5 13 90 true hg20 (q2 q0 ?_)
         refine q5 13 90 true hg20 (q2 q38 ?_)
         refine q12 10 87 false (q2 (q11 hg20) ?_)
         refine J.z q30 ?_
         refine J.z q1 ?_
         refine J.cd (fun hc21 => ?_) (fun hc21 => ?_)
         ·
          have hc21p := odt hc21
          refine Cj.sr (J.z q0 ?_)
          refine J.z (yl_add rfl rfl rfl (i32w (by omega))) ?_
          refine J.op rfl (q24 tU129 tS21 tZ21 ?_)
          intro b22 hb22
          refine J.z (q48 tU129 tU9 tU21) ?_
          refine J.z q1 ?_
          refine J.ns (Cj.ret (Ej.blkRet (Ej.seqRet (Ej.bare ?_))))
          refine q6 ?_
          refine ⟨?_, rfl, rfl⟩
          refine congrArg (fun l => Ending.returned (str l)) ?_
          unfold Ke.char
          rw [if_neg (by omega), if_neg (by omega), if_neg (by omega), if_neg (by omega), hx]
          simp only
          rw [if_neg (by omega), if_neg (by omega), if_pos (by omega)]; exact (congrArg (fun n : Int => (Utf8.encode n).data.toList) (by omega)).trans (Ke.enc_encode (c := c + 32) (by unfold Ke.okc; omega))
         have hc21p := odf hc21
         refine Cj.skip (Ej.blkNormal ?_)
         exact hcut () _ _ _ ⟨by omega, by omega, by omega, by omega, hx, by omega, by omega, by omega⟩ ⟨rfl, trivial⟩ rfl rfl
        have hg20p := odf hg20
        refine q3 13 90 91 true hg20 ?_
        refine q3 13 90 92 true hg20 ?_
        refine q12 10 87 false (q2 (q10 hg20) ?_)
        refine J.z q30 ?_
        refine J.z q1 ?_
        refine J.c0 (fun hc23 => ?_)
        refine Cj.skip (Ej.blkNormal ?_)
        exact hcut () _ _ _ ⟨by omega, by omega, by omega, by omega, hx, by omega, by omega, by omega⟩ ⟨rfl, trivial⟩ rfl rfl
       have hg11p := odf hg11
       refine q3 2 79 80 true hg11 ?_
       refine q3 2 79 81 true hg11 ?_
       refine J.z (q10 hg11) ?_
       refine J.z q0 ?_
       refine q32 6 83 84 true ?_
       refine q32 6 83 85 true ?_
       refine J.z q30 ?_
       refine J.z q0 ?_
       refine q12 10 87 false (q2 q0 ?_)
       refine q12 10 87 false (q2 q34 ?_)
       refine q12 10 87 false (q2 q0 ?_)
       refine q16 90 (fun hg24 => ?_) (fun hg24 => ?_)
       ·
        have hg24p := odt hg24
        refine q5 13 90 true hg24 (q2 q0 ?_)
        refine q5 13 90 true hg24 (q2 q38 ?_)
        refine q12 10 87 false (q2 (q11 hg24) ?_)
        refine J.z q30 ?_
        refine J.z q1 ?_
        refine J.cd (fun hc25 => ?_) (fun hc25 => ?_)
        ·
         have hc25p := odt hc25
         refine Cj.sr (J.z q0 ?_)
         refine J.z (yl_add rfl rfl rfl (i32w (by omega))) ?_
         refine J.op rfl (q24 tU129 tS21 tZ21 ?_)
         intro b26 hb26
         refine J.z (q48 tU129 tU9 tU21) ?_
         refine J.z q1 ?_
         refine J.ns (Cj.ret (Ej.blkRet (Ej.seqRet (Ej.bare ?_))))
         refine q6 ?_
         refine ⟨?_, rfl, rfl⟩
         refine congrArg (fun l => Ending.returned (str l)) ?_
         unfold Ke.char
         rw [if_neg (by omega), if_neg (by omega), if_neg (by omega), if_neg (by omega), hx]
         simp only
         rw [if_neg (by omega), if_neg (by omega), if_pos (by omega)]; exact (congrArg (fun n : Int => (Utf8.encode n).data.toList) (by omega)).trans (Ke.enc_encode (c := c + 32) (by unfold Ke.okc; omega))
        have hc25p := odf hc25
        refine Cj.skip (Ej.blkNormal ?_)
        exact hcut () _ _ _ ⟨by omega, by omega, by omega, by omega, hx, by omega, by omega, by omega⟩ ⟨rfl, trivial⟩ rfl rfl
       have hg24p := odf hg24
       refine q3 13 90 91 true hg24 ?_
       refine q3 13 90 92 true hg24 ?_
       refine q12 10 87 false (q2 (q10 hg24) ?_)
       refine J.z q30 ?_
       refine J.z q1 ?_
       refine J.c0 (fun hc27 => ?_)
       refine Cj.skip (Ej.blkNormal ?_)
       exact hcut () _ _ _ ⟨by omega, by omega, by omega, by omega, hx, by omega, by omega, by omega⟩ ⟨rfl, trivial⟩ rfl rfl
      have hg8p := odf hg8
      refine q3 9 68 69 true hg8 ?_
      refine q3 9 68 70 true hg8 ?_
      refine q5 6 65 false hg5 (q2 (q10 hg8) ?_)
      refine J.z (q10 hg5) ?_
      refine J.z q1 ?_
      refine J.c0 (fun hc28 => ?_)
      refine Cj.sr (J.z q0 ?_)
      refine J.z q34 ?_
      refine J.z q0 ?_
      refine q16 79 (fun hg29 => ?_) (fun hg29 => ?_)
      ·
       have hg29p := odt hg29
       refine q5 2 79 true hg29 (q2 q0 ?_)
       refine q5 2 79 true hg29 (q2 q38 ?_)
       refine J.z (q11 hg29) ?_
       refine J.z q0 ?_
       refine q16 83 (fun hg30 => ?_) (fun hg30 => ?_)
       ·
        have hg30p := odt hg30
        refine q5 6 83 true hg30 (q2 q0 ?_)
        refine q5 6 83 true hg30 (q2 q47 ?_)
        refine J.z (q11 hg30) ?_
        refine J.z q0 ?_
        refine q16 87 (fun hg31 => ?_) (fun hg31 => ?_)
        ·
         have hg31p := bne_iff_ne.1 hg31
         refine q3 10 87 88 false hg31 ?_
         refine q3 10 87 89 false hg31 ?_
         refine q3 10 87 90 false hg31 ?_
         refine J.skipU 13 90 91 true rfl rfl rfl rfl rfl ?_
         refine J.skipU 13 90 92 true rfl rfl rfl rfl rfl ?_
         refine q3 10 87 93 false hg31 ?_
         refine J.z (q11 hg31) ?_
         refine J.z q1 ?_
         refine J.c1 (fun hc32 => ?_)
         refine Cj.sr (J.z q0 ?_)
         refine J.z (yl_add rfl rfl rfl (i32w (by omega))) ?_
         refine J.op rfl (q24 tU129 tS21 tZ21 ?_)
         intro b33 hb33
         refine J.z (q48 tU129 tU9 tU21) ?_
         refine J.z q1 ?_
         refine J.ns (Cj.ret (Ej.blkRet (Ej.seqRet (Ej.bare ?_))))
         refine q6 ?_
         refine ⟨?_, rfl, rfl⟩
         refine congrArg (fun l => Ending.returned (str l)) ?_
         unfold Ke.char
         rw [if_neg (by omega), if_neg (by omega), if_neg (by omega), if_neg (by omega), hx]
         simp only
         rw [if_neg (by omega), if_neg (by omega), if_pos (by omega)]; exact (congrArg (fun n : Int => (Utf8.encode n).data.toList) (by omega)).trans (Ke.enc_encode (c := c + 32) (by unfold Ke.okc; omega))
        have hg31p := bne_f hg31
        refine q5 10 87 false hg31 (q2 q0 ?_)
        refine q5 10 87 false hg31 (q2 q34 ?_)
        refine q5 10 87 false hg31 (q2 q0 ?_)
        refine q16 90 (fun hg34 => ?_) (fun hg34 => ?_)
        ·
         have hg34p := odt hg34
         refine q5 13 90 true hg34 (q2 q0 ?_)
         refine q5 13 90 true hg34 (q2 q38 ?_)
         refine q5 10 87 false hg31 (q2 (q11 hg34) ?_)
         refine J.z (q10 hg31) ?_
         refine J.z q1 ?_
         refine J.cd (fun hc35 => ?_) (fun hc35 => ?_)
         ·
          have hc35p := odt hc35
          refine Cj.sr (J.z q0 ?_)
          refine J.z (yl_add rfl rfl rfl (i32w (by omega))) ?_
          refine J.op rfl (q24 tU129 tS21 tZ21 ?_)
          intro b36 hb36
          refine J.z (q48 tU129 tU9 tU21) ?_
          refine J.z q1 ?_
          refine J.ns (Cj.ret (Ej.blkRet (Ej.seqRet (Ej.bare ?_))))
          refine q6 ?_
          refine ⟨?_, rfl, rfl⟩
          refine congrArg (fun l => Ending.returned (str l)) ?_
          unfold Ke.char
          rw [if_neg (by omega), if_neg (by omega), if_neg (by omega), if_neg (by omega), hx]
          simp only
          rw [if_neg (by omega), if_neg (by omega), if_pos (by omega)]; exact (congrArg (fun n : Int => (Utf8.encode n).data.toList) (by omega)).trans (Ke.enc_encode (c := c + 32) (by unfold Ke.okc; omega))
         have hc35p := odf hc35
         refine Cj.skip (Ej.blkNormal ?_)
         exact hcut () _ _ _ ⟨by omega, by omega, by omega, by omega, hx, by omega, by omega, by omega⟩ ⟨rfl, trivial⟩ rfl rfl
        have hg34p := odf hg34
        refine q3 13 90 91 true hg34 ?_
        refine q3 13 90 92 true hg34 ?_
        refine q5 10 87 false hg31 (q2 (q10 hg34) ?_)
        refine J.z (q10 hg31) ?_
        refine J.z q1 ?_
        refine J.c0 (fun hc37 => ?_)
        refine Cj.skip (Ej.blkNormal ?_)
        exact hcut () _ _ _ ⟨by omega, by omega, by omega, by omega, hx, by omega, by omega, by omega⟩ ⟨rfl, trivial⟩ rfl rfl
       have hg30p := odf hg30
       refine q3 6 83 84 true hg30 ?_
       refine q3 6 83 85 true hg30 ?_
       refine J.z (q10 hg30) ?_
       refine J.z q0 ?_
       refine q12 10 87 false (q2 q0 ?_)
       refine q12 10 87 false (q2 q34 ?_)
       refine q12 10 87 false (q2 q0 ?_)
       refine q16 90 (fun hg38 => ?_) (fun hg38 => ?_)
       ·
        have hg38p := odt hg38
        refine q5 13 90 true hg38 (q2 q0 ?_)
        refine q5 13 90 true hg38 (q2 q38 ?_)
        refine q12 10 87 false (q2 (q11 hg38) ?_)
        refine J.z q30 ?_
        refine J.z q1 ?_
        refine J.cd (fun hc39 => ?_) (fun hc39 => ?_)
        ·
         have hc39p := odt hc39
         refine Cj.sr (J.z q0 ?_)
         refine J.z (yl_add rfl rfl rfl (i32w (by omega))) ?_
         refine J.op rfl (q24 tU129 tS21 tZ21 ?_)
         intro b40 hb40
         refine J.z (q48 tU129 tU9 tU21) ?_
         refine J.z q1 ?_
         refine J.ns (Cj.ret (Ej.blkRet (Ej.seqRet (Ej.bare ?_))))
         refine q6 ?_
         refine ⟨?_, rfl, rfl⟩
         refine congrArg (fun l => Ending.returned (str l)) ?_
         unfold Ke.char
         rw [if_neg (by omega), if_neg (by omega), if_neg (by omega), if_neg (by omega), hx]
         simp only
         rw [if_neg (by omega), if_neg (by omega), if_pos (by omega)]; exact (congrArg (fun n : Int => (Utf8.encode n).data.toList) (by omega)).trans (Ke.enc_encode (c := c + 32) (by unfold Ke.okc; omega))
        have hc39p := odf hc39
        refine Cj.skip (Ej.blkNormal ?_)
        exact hcut () _ _ _ ⟨by omega, by omega, by omega, by omega, hx, by omega, by omega, by omega⟩ ⟨rfl, trivial⟩ rfl rfl
       have hg38p := odf hg38
       refine q3 13 90 91 true hg38 ?_
       refine q3 13 90 92 true hg38 ?_
       refine q12 10 87 false (q2 (q10 hg38) ?_)
       refine J.z q30 ?_
       refine J.z q1 ?_
       refine J.c0 (fun hc41 => ?_)
       refine Cj.skip (Ej.blkNormal ?_)
       exact hcut () _ _ _ ⟨by omega, by omega, by omega, by omega, hx, by omega, by omega, by omega⟩ ⟨rfl, trivial⟩ rfl rfl
      have hg29p := odf hg29
      refine q3 2 79 80 true hg29 ?_
      refine q3 2 79 81 true hg29 ?_
      refine J.z (q10 hg29) ?_
      refine J.z q0 ?_
      refine q32 6 83 84 true ?_
      refine q32 6 83 85 true ?_
      refine J.z q30 ?_
      refine J.z q0 ?_
      refine q12 10 87 false (q2 q0 ?_)
      refine q12 10 87 false (q2 q34 ?_)
      refine q12 10 87 false (q2 q0 ?_)
      refine q16 90 (fun hg42 => ?_) (fun hg42 => ?_)
      ·
       have hg42p := odt hg42
       refine q5 13 90 true hg42 (q2 q0 ?_)
       refine q5 13 90 true hg42 (q2 q38 ?_)
       refine q12 10 87 false (q2 (q11 hg42) ?_)
       refine J.z q30 ?_
       refine J.z q1 ?_
       refine J.cd (fun hc43 => ?_) (fun hc43 => ?_)
       ·
        have hc43p := odt hc43
        refine Cj.sr (J.z q0 ?_)
        refine J.z (yl_add rfl rfl rfl (i32w (by omega))) ?_
        refine J.op rfl (q24 tU129 tS21 tZ21 ?_)
        intro b44 hb44
        refine J.z (q48 tU129 tU9 tU21) ?_
        refine J.z q1 ?_
        refine J.ns (Cj.ret (Ej.blkRet (Ej.seqRet (Ej.bare ?_))))
        refine q6 ?_
        refine ⟨?_, rfl, rfl⟩
        refine congrArg (fun l => Ending.returned (str l)) ?_
        unfold Ke.char
        rw [if_neg (by omega), if_neg (by omega), if_neg (by omega), if_neg (by omega), hx]
        simp only
        rw [if_neg (by omega), if_neg (by omega), if_pos (by omega)]; exact (congrArg (fun n : Int => (Utf8.encode n).data.toList) (by omega)).trans (Ke.enc_encode (c := c + 32) (by unfold Ke.okc; omega))
       have hc43p := odf hc43
       refine Cj.skip (Ej.blkNormal ?_)
       exact hcut () _ _ _ ⟨by omega, by omega, by omega, by omega, hx, by omega, by omega, by omega⟩ ⟨rfl, trivial⟩ rfl rfl
      have hg42p := odf hg42
      refine q3 13 90 91 true hg42 ?_
      refine q3 13 90 92 true hg42 ?_
      refine q12 10 87 false (q2 (q10 hg42) ?_)
      refine J.z q30 ?_
      refine J.z q1 ?_
      refine J.c0 (fun hc45 => ?_)
      refine Cj.skip (Ej.blkNormal ?_)
      exact hcut () _ _ _ ⟨by omega, by omega, by omega, by omega, hx, by omega, by omega, by omega⟩ ⟨rfl, trivial⟩ rfl rfl
     have hg4p := odf hg4
     refine q3 2 61 62 true hg4 ?_
     refine q3 2 61 63 true hg4 ?_
     refine J.z (q10 hg4) ?_
     refine J.z q0 ?_
     refine q12 6 65 false (q2 q0 ?_)
     refine q12 6 65 false (q2 q34 ?_)
     refine q12 6 65 false (q2 q0 ?_)
     refine q16 68 (fun hg46 => ?_) (fun hg46 => ?_)
     ·
      have hg46p := odt hg46
      refine q5 9 68 true hg46 (q2 q0 ?_)
      refine q5 9 68 true hg46 (q2 q38 ?_)
      refine q12 6 65 false (q2 (q11 hg46) ?_)
      refine J.z q30 ?_
      refine J.z q1 ?_
      refine J.cd (fun hc47 => ?_) (fun hc47 => ?_)
      ·
       have hc47p := odt hc47
       refine Cj.sr (J.z q0 ?_)
       refine J.op rfl (q24 tU129 tS21 tZ21 ?_)
       intro b48 hb48
       refine J.z (q48 tU129 tU9 tU21) ?_
       refine J.z q1 ?_
       refine J.ns (Cj.ret (Ej.blkRet (Ej.seqRet (Ej.bare ?_))))
       refine q6 ?_
       refine ⟨?_, rfl, rfl⟩
       refine congrArg (fun l => Ending.returned (str l)) ?_
       unfold Ke.char
       rw [if_neg (by omega), if_neg (by omega), if_neg (by omega), if_neg (by omega), hx]
       simp only
       rw [if_neg (by omega), if_pos (by omega)]; exact Ke.enc_encode (by unfold Ke.okc; omega)
      have hc47p := odf hc47
      refine Cj.sr (J.z q0 ?_)
      refine J.z q34 ?_
      refine J.z q0 ?_
      refine q16 79 (fun hg49 => ?_) (fun hg49 => ?_)
      ·
       have hg49p := odt hg49
       refine q5 2 79 true hg49 (q2 q0 ?_)
       refine q5 2 79 true hg49 (q2 q38 ?_)
       refine J.z (q11 hg49) ?_
       refine J.z q0 ?_
       refine q16 83 (fun hg50 => ?_) (fun hg50 => ?_)
       ·
        have hg50p := odt hg50
        refine q5 6 83 true hg50 (q2 q0 ?_)
        refine q5 6 83 true hg50 (q2 q47 ?_)
        refine J.z (q11 hg50) ?_
        refine J.z q0 ?_
        refine q16 87 (fun hg51 => ?_) (fun hg51 => ?_)
        ·
         have hg51p := bne_iff_ne.1 hg51
         refine q3 10 87 88 false hg51 ?_
         refine q3 10 87 89 false hg51 ?_
         refine q3 10 87 90 false hg51 ?_
         refine J.skipU 13 90 91 true rfl rfl rfl rfl rfl ?_
         refine J.skipU 13 90 92 true rfl rfl rfl rfl rfl ?_
         refine q3 10 87 93 false hg51 ?_
         refine J.z (q11 hg51) ?_
         refine J.z q1 ?_
         refine J.c1 (fun hc52 => ?_)
         refine Cj.sr (J.z q0 ?_)
         refine J.z (yl_add rfl rfl rfl (i32w (by omega))) ?_
         refine J.op rfl (q24 tU129 tS21 tZ21 ?_)
         intro b53 hb53
         refine J.z (q48 tU129 tU9 tU21) ?_
         refine J.z q1 ?_
         refine J.ns (Cj.ret (Ej.blkRet (Ej.seqRet (Ej.bare ?_))))
         refine q6 ?_
         refine ⟨?_, rfl, rfl⟩
         refine congrArg (fun l => Ending.returned (str l)) ?_
         unfold Ke.char
         rw [if_neg (by omega), if_neg (by omega), if_neg (by omega), if_neg (by omega), hx]
         simp only
         rw [if_neg (by omega), if_neg (by omega), if_pos (by omega)]; exact (congrArg (fun n : Int => (Utf8.encode n).data.toList) (by omega)).trans (Ke.enc_encode (c := c + 32) (by unfold Ke.okc; omega))
        have hg51p := bne_f hg51
        refine q5 10 87 false hg51 (q2 q0 ?_)
        refine q5 10 87 false hg51 (q2 q34 ?_)
        refine q5 10 87 false hg51 (q2 q0 ?_)
        refine q16 90 (fun hg54 => ?_) (fun hg54 => ?_)
        ·
         have hg54p := odt hg54
         refine q5 13 90 true hg54 (q2 q0 ?_)
         refine q5 13 90 true hg54 (q2 q38 ?_)
         refine q5 10 87 false hg51 (q2 (q11 hg54) ?_)
         refine J.z (q10 hg51) ?_
         refine J.z q1 ?_
         refine J.cd (fun hc55 => ?_) (fun hc55 => ?_)
         ·
          have hc55p := odt hc55
          refine Cj.sr (J.z q0 ?_)
          refine J.z (yl_add rfl rfl rfl (i32w (by omega))) ?_
          refine J.op rfl (q24 tU129 tS21 tZ21 ?_)
          intro b56 hb56
          refine J.z (q48 tU129 tU9 tU21) ?_
          refine J.z q1 ?_
          refine J.ns (Cj.ret (Ej.blkRet (Ej.seqRet (Ej.bare ?_))))
          refine q6 ?_
          refine ⟨?_, rfl, rfl⟩
          refine congrArg (fun l => Ending.returned (str l)) ?_
          unfold Ke.char
          rw [if_neg (by omega), if_neg (by omega), if_neg (by omega), if_neg (by omega), hx]
          simp only
          rw [if_neg (by omega), if_neg (by omega), if_pos (by omega)]; exact (congrArg (fun n : Int => (Utf8.encode n).data.toList) (by omega)).trans (Ke.enc_encode (c := c + 32) (by unfold Ke.okc; omega))
         have hc55p := odf hc55
         refine Cj.skip (Ej.blkNormal ?_)
         exact hcut () _ _ _ ⟨by omega, by omega, by omega, by omega, hx, by omega, by omega, by omega⟩ ⟨rfl, trivial⟩ rfl rfl
        have hg54p := odf hg54
        refine q3 13 90 91 true hg54 ?_
        refine q3 13 90 92 true hg54 ?_
        refine q5 10 87 false hg51 (q2 (q10 hg54) ?_)
        refine J.z (q10 hg51) ?_
        refine J.z q1 ?_
        refine J.c0 (fun hc57 => ?_)
        refine Cj.skip (Ej.blkNormal ?_)
        exact hcut () _ _ _ ⟨by omega, by omega, by omega, by omega, hx, by omega, by omega, by omega⟩ ⟨rfl, trivial⟩ rfl rfl
       have hg50p := odf hg50
       refine q3 6 83 84 true hg50 ?_
       refine q3 6 83 85 true hg50 ?_
       refine J.z (q10 hg50) ?_
       refine J.z q0 ?_
       refine q12 10 87 false (q2 q0 ?_)
       refine q12 10 87 false (q2 q34 ?_)
       refine q12 10 87 false (q2 q0 ?_)
       refine q16 90 (fun hg58 => ?_) (fun hg58 => ?_)
       ·
        have hg58p := odt hg58
        refine q5 13 90 true hg58 (q2 q0 ?_)
        refine q5 13 90 true hg58 (q2 q38 ?_)
        refine q12 10 87 false (q2 (q11 hg58) ?_)
        refine J.z q30 ?_
        refine J.z q1 ?_
        refine J.cd (fun hc59 => ?_) (fun hc59 => ?_)
        ·
         have hc59p := odt hc59
         refine Cj.sr (J.z q0 ?_)
         refine J.z (yl_add rfl rfl rfl (i32w (by omega))) ?_
         refine J.op rfl (q24 tU129 tS21 tZ21 ?_)
         intro b60 hb60
         refine J.z (q48 tU129 tU9 tU21) ?_
         refine J.z q1 ?_
         refine J.ns (Cj.ret (Ej.blkRet (Ej.seqRet (Ej.bare ?_))))
         refine q6 ?_
         refine ⟨?_, rfl, rfl⟩
         refine congrArg (fun l => Ending.returned (str l)) ?_
         unfold Ke.char
         rw [if_neg (by omega), if_neg (by omega), if_neg (by omega), if_neg (by omega), hx]
         simp only
         rw [if_neg (by omega), if_neg (by omega), if_pos (by omega)]; exact (congrArg (fun n : Int => (Utf8.encode n).data.toList) (by omega)).trans (Ke.enc_encode (c := c + 32) (by unfold Ke.okc; omega))
        have hc59p := odf hc59
        refine Cj.skip (Ej.blkNormal ?_)
        exact hcut () _ _ _ ⟨by omega, by omega, by omega, by omega, hx, by omega, by omega, by omega⟩ ⟨rfl, trivial⟩ rfl rfl
       have hg58p := odf hg58
       refine q3 13 90 91 true hg58 ?_
       refine q3 13 90 92 true hg58 ?_
       refine q12 10 87 false (q2 (q10 hg58) ?_)
       refine J.z q30 ?_
       refine J.z q1 ?_
       refine J.c0 (fun hc61 => ?_)
       refine Cj.skip (Ej.blkNormal ?_)
       exact hcut () _ _ _ ⟨by omega, by omega, by omega, by omega, hx, by omega, by omega, by omega⟩ ⟨rfl, trivial⟩ rfl rfl
      have hg49p := odf hg49
      refine q3 2 79 80 true hg49 ?_
      refine q3 2 79 81 true hg49 ?_
      refine J.z (q10 hg49) ?_
      refine J.z q0 ?_
      refine q32 6 83 84 true ?_
      refine q32 6 83 85 true ?_
      refine J.z q30 ?_
      refine J.z q0 ?_
      refine q12 10 87 false (q2 q0 ?_)
      refine q12 10 87 false (q2 q34 ?_)
      refine q12 10 87 false (q2 q0 ?_)
      refine q16 90 (fun hg62 => ?_) (fun hg62 => ?_)
      ·
       have hg62p := odt hg62
       refine q5 13 90 true hg62 (q2 q0 ?_)
       refine q5 13 90 true hg62 (q2 q38 ?_)
       refine q12 10 87 false (q2 (q11 hg62) ?_)
       refine J.z q30 ?_
       refine J.z q1 ?_
       refine J.cd (fun hc63 => ?_) (fun hc63 => ?_)
       ·
        have hc63p := odt hc63
        refine Cj.sr (J.z q0 ?_)
        refine J.z (yl_add rfl rfl rfl (i32w (by omega))) ?_
        refine J.op rfl (q24 tU129 tS21 tZ21 ?_)
        intro b64 hb64
        refine J.z (q48 tU129 tU9 tU21) ?_
        refine J.z q1 ?_
        refine J.ns (Cj.ret (Ej.blkRet (Ej.seqRet (Ej.bare ?_))))
        refine q6 ?_
        refine ⟨?_, rfl, rfl⟩
        refine congrArg (fun l => Ending.returned (str l)) ?_
        unfold Ke.char
        rw [if_neg (by omega), if_neg (by omega), if_neg (by omega), if_neg (by omega), hx]
        simp only
        rw [if_neg (by omega), if_neg (by omega), if_pos (by omega)]; exact (congrArg (fun n : Int => (Utf8.encode n).data.toList) (by omega)).trans (Ke.enc_encode (c := c + 32) (by unfold Ke.okc; omega))
       have hc63p := odf hc63
       refine Cj.skip (Ej.blkNormal ?_)
       exact hcut () _ _ _ ⟨by omega, by omega, by omega, by omega, hx, by omega, by omega, by omega⟩ ⟨rfl, trivial⟩ rfl rfl
      have hg62p := odf hg62
      refine q3 13 90 91 true hg62 ?_
      refine q3 13 90 92 true hg62 ?_
      refine q12 10 87 false (q2 (q10 hg62) ?_)
      refine J.z q30 ?_
      refine J.z q1 ?_
      refine J.c0 (fun hc65 => ?_)
      refine Cj.skip (Ej.blkNormal ?_)
      exact hcut () _ _ _ ⟨by omega, by omega, by omega, by omega, hx, by omega, by omega, by omega⟩ ⟨rfl, trivial⟩ rfl rfl
     have hg46p := odf hg46
     refine q3 9 68 69 true hg46 ?_
     refine q3 9 68 70 true hg46 ?_
     refine q12 6 65 false (q2 (q10 hg46) ?_)
     refine J.z q30 ?_
     refine J.z q1 ?_
     refine J.c0 (fun hc66 => ?_)
     refine Cj.sr (J.z q0 ?_)
     refine J.z q34 ?_
     refine J.z q0 ?_
     refine q16 79 (fun hg67 => ?_) (fun hg67 => ?_)
     ·
      have hg67p := odt hg67
      refine q5 2 79 true hg67 (q2 q0 ?_)
      refine q5 2 79 true hg67 (q2 q38 ?_)
      refine J.z (q11 hg67) ?_
      refine J.z q0 ?_
      refine q16 83 (fun hg68 => ?_) (fun hg68 => ?_)
      ·
       have hg68p := odt hg68
       refine q5 6 83 true hg68 (q2 q0 ?_)
       refine q5 6 83 true hg68 (q2 q47 ?_)
       refine J.z (q11 hg68) ?_
       refine J.z q0 ?_
       refine q16 87 (fun hg69 => ?_) (fun hg69 => ?_)
       ·
        have hg69p := bne_iff_ne.1 hg69
        refine q3 10 87 88 false hg69 ?_
        refine q3 10 87 89 false hg69 ?_
        refine q3 10 87 90 false hg69 ?_
        refine J.skipU 13 90 91 true rfl rfl rfl rfl rfl ?_
        refine J.skipU 13 90 92 true rfl rfl rfl rfl rfl ?_
        refine q3 10 87 93 false hg69 ?_
        refine J.z (q11 hg69) ?_
        refine J.z q1 ?_
        refine J.c1 (fun hc70 => ?_)
        refine Cj.sr (J.z q0 ?_)
        refine J.z (yl_add rfl rfl rfl (i32w (by omega))) ?_
        refine J.op rfl (q24 tU129 tS21 tZ21 ?_)
        intro b71 hb71
        refine J.z (q48 tU129 tU9 tU21) ?_
        refine J.z q1 ?_
        refine J.ns (Cj.ret (Ej.blkRet (Ej.seqRet (Ej.bare ?_))))
        refine q6 ?_
        refine ⟨?_, rfl, rfl⟩
        refine congrArg (fun l => Ending.returned (str l)) ?_
        unfold Ke.char
        rw [if_neg (by omega), if_neg (by omega), if_neg (by omega), if_neg (by omega), hx]
        simp only
        rw [if_neg (by omega), if_neg (by omega), if_pos (by omega)]; exact (congrArg (fun n : Int => (Utf8.encode n).data.toList) (by omega)).trans (Ke.enc_encode (c := c + 32) (by unfold Ke.okc; omega))
       have hg69p := bne_f hg69
       refine q5 10 87 false hg69 (q2 q0 ?_)
       refine q5 10 87 false hg69 (q2 q34 ?_)
       refine q5 10 87 false hg69 (q2 q0 ?_)
       refine q16 90 (fun hg72 => ?_) (fun hg72 => ?_)
       ·
        have hg72p := odt hg72
        refine q5 13 90 true hg72 (q2 q0 ?_)
        refine q5 13 90 true hg72 (q2 q38 ?_)
        refine q5 10 87 false hg69 (q2 (q11 hg72) ?_)
        refine J.z (q10 hg69) ?_
        refine J.z q1 ?_
        refine J.cd (fun hc73 => ?_) (fun hc73 => ?_)
        ·
         have hc73p := odt hc73
         refine Cj.sr (J.z q0 ?_)
         refine J.z (yl_add rfl rfl rfl (i32w (by omega))) ?_
         refine J.op rfl (q24 tU129 tS21 tZ21 ?_)
         intro b74 hb74
         refine J.z (q48 tU129 tU9 tU21) ?_
         refine J.z q1 ?_
         refine J.ns (Cj.ret (Ej.blkRet (Ej.seqRet (Ej.bare ?_))))
         refine q6 ?_
         refine ⟨?_, rfl, rfl⟩
         refine congrArg (fun l => Ending.returned (str l)) ?_
         unfold Ke.char
         rw [if_neg (by omega), if_neg (by omega), if_neg (by omega), if_neg (by omega), hx]
         simp only
         rw [if_neg (by omega), if_neg (by omega), if_pos (by omega)]; exact (congrArg (fun n : Int => (Utf8.encode n).data.toList) (by omega)).trans (Ke.enc_encode (c := c + 32) (by unfold Ke.okc; omega))
        have hc73p := odf hc73
        refine Cj.skip (Ej.blkNormal ?_)
        exact hcut () _ _ _ ⟨by omega, by omega, by omega, by omega, hx, by omega, by omega, by omega⟩ ⟨rfl, trivial⟩ rfl rfl
       have hg72p := odf hg72
       refine q3 13 90 91 true hg72 ?_
       refine q3 13 90 92 true hg72 ?_
       refine q5 10 87 false hg69 (q2 (q10 hg72) ?_)
       refine J.z (q10 hg69) ?_
       refine J.z q1 ?_
       refine J.c0 (fun hc75 => ?_)
       refine Cj.skip (Ej.blkNormal ?_)
       exact hcut () _ _ _ ⟨by omega, by omega, by omega, by omega, hx, by omega, by omega, by omega⟩ ⟨rfl, trivial⟩ rfl rfl
      have hg68p := odf hg68
      refine q3 6 83 84 true hg68 ?_
      refine q3 6 83 85 true hg68 ?_
      refine J.z (q10 hg68) ?_
      refine J.z q0 ?_
      refine q12 10 87 false (q2 q0 ?_)
      refine q12 10 87 false (q2 q34 ?_)
      refine q12 10 87 false (q2 q0 ?_)
      refine q16 90 (fun hg76 => ?_) (fun hg76 => ?_)
      ·
       have hg76p := odt hg76
       refine q5 13 90 true hg76 (q2 q0 ?_)
       refine q5 13 90 true hg76 (q2 q38 ?_)
       refine q12 10 87 false (q2 (q11 hg76) ?_)
       refine J.z q30 ?_
       refine J.z q1 ?_
       refine J.cd (fun hc77 => ?_) (fun hc77 => ?_)
       ·
        have hc77p := odt hc77
        refine Cj.sr (J.z q0 ?_)
        refine J.z (yl_add rfl rfl rfl (i32w (by omega))) ?_
        refine J.op rfl (q24 tU129 tS21 tZ21 ?_)
        intro b78 hb78
        refine J.z (q48 tU129 tU9 tU21) ?_
        refine J.z q1 ?_
        refine J.ns (Cj.ret (Ej.blkRet (Ej.seqRet (Ej.bare ?_))))
        refine q6 ?_
        refine ⟨?_, rfl, rfl⟩
        refine congrArg (fun l => Ending.returned (str l)) ?_
        unfold Ke.char
        rw [if_neg (by omega), if_neg (by omega), if_neg (by omega), if_neg (by omega), hx]
        simp only
        rw [if_neg (by omega), if_neg (by omega), if_pos (by omega)]; exact (congrArg (fun n : Int => (Utf8.encode n).data.toList) (by omega)).trans (Ke.enc_encode (c := c + 32) (by unfold Ke.okc; omega))
       have hc77p := odf hc77
       refine Cj.skip (Ej.blkNormal ?_)
       exact hcut () _ _ _ ⟨by omega, by omega, by omega, by omega, hx, by omega, by omega, by omega⟩ ⟨rfl, trivial⟩ rfl rfl
      have hg76p := odf hg76
      refine q3 13 90 91 true hg76 ?_
      refine q3 13 90 92 true hg76 ?_
      refine q12 10 87 false (q2 (q10 hg76) ?_)
      refine J.z q30 ?_
      refine J.z q1 ?_
      refine J.c0 (fun hc79 => ?_)
      refine Cj.skip (Ej.blkNormal ?_)
      exact hcut () _ _ _ ⟨by omega, by omega, by omega, by omega, hx, by omega, by omega, by omega⟩ ⟨rfl, trivial⟩ rfl rfl
     have hg67p := odf hg67
     refine q3 2 79 80 true hg67 ?_
     refine q3 2 79 81 true hg67 ?_
     refine J.z (q10 hg67) ?_
     refine J.z q0 ?_
     refine q32 6 83 84 true ?_
     refine q32 6 83 85 true ?_
     refine J.z q30 ?_
     refine J.z q0 ?_
     refine q12 10 87 false (q2 q0 ?_)
     refine q12 10 87 false (q2 q34 ?_)
     refine q12 10 87 false (q2 q0 ?_)
     refine q16 90 (fun hg80 => ?_) (fun hg80 => ?_)
     ·
      have hg80p := odt hg80
      refine q5 13 90 true hg80 (q2 q0 ?_)
      refine q5 13 90 true hg80 (q2 q38 ?_)
      refine q12 10 87 false (q2 (q11 hg80) ?_)
      refine J.z q30 ?_
      refine J.z q1 ?_
      refine J.cd (fun hc81 => ?_) (fun hc81 => ?_)
      ·
       have hc81p := odt hc81
       refine Cj.sr (J.z q0 ?_)
       refine J.z (yl_add rfl rfl rfl (i32w (by omega))) ?_
       refine J.op rfl (q24 tU129 tS21 tZ21 ?_)
       intro b82 hb82
       refine J.z (q48 tU129 tU9 tU21) ?_
       refine J.z q1 ?_
       refine J.ns (Cj.ret (Ej.blkRet (Ej.seqRet (Ej.bare ?_))))
       refine q6 ?_
       refine ⟨?_, rfl, rfl⟩
       refine congrArg (fun l => Ending.returned (str l)) ?_
       unfold Ke.char
       rw [if_neg (by omega), if_neg (by omega), if_neg (by omega), if_neg (by omega), hx]
       simp only
       rw [if_neg (by omega), if_neg (by omega), if_pos (by omega)]; exact (congrArg (fun n : Int => (Utf8.encode n).data.toList) (by omega)).trans (Ke.enc_encode (c := c + 32) (by unfold Ke.okc; omega))
      have hc81p := odf hc81
      refine Cj.skip (Ej.blkNormal ?_)
      exact hcut () _ _ _ ⟨by omega, by omega, by omega, by omega, hx, by omega, by omega, by omega⟩ ⟨rfl, trivial⟩ rfl rfl
     have hg80p := odf hg80
     refine q3 13 90 91 true hg80 ?_
     refine q3 13 90 92 true hg80 ?_
     refine q12 10 87 false (q2 (q10 hg80) ?_)
     refine J.z q30 ?_
     refine J.z q1 ?_
     refine J.c0 (fun hc83 => ?_)
     refine Cj.skip (Ej.blkNormal ?_)
     exact hcut () _ _ _ ⟨by omega, by omega, by omega, by omega, hx, by omega, by omega, by omega⟩ ⟨rfl, trivial⟩ rfl rfl
    refine Cj.sr (J.z q0 ?_)
    refine J.z q34 ?_
    refine J.z q0 ?_
    refine q16 35 (fun hg84 => ?_) (fun hg84 => ?_)
    ·
     have hg84p := odt hg84
     refine q5 2 35 true hg84 (q2 q0 ?_)
     refine q5 2 35 true hg84 (q2 q38 ?_)
     refine J.z (q11 hg84) ?_
     refine J.z q0 ?_
     refine q16 39 (fun hg85 => ?_) (fun hg85 => ?_)
     ·
      have hg85p := odt hg85
      refine q3 6 39 40 false hg85 ?_
      refine q3 6 39 41 false hg85 ?_
      refine q3 6 39 42 false hg85 ?_
      refine J.skipU 9 42 43 true rfl rfl rfl rfl rfl ?_
      refine J.skipU 9 42 44 true rfl rfl rfl rfl rfl ?_
      refine q3 6 39 45 false hg85 ?_
      refine J.z (q11 hg85) ?_
      refine J.c1 (fun hc86 => ?_)
      refine Cj.sr (J.z q1 ?_)
      refine J.ns (Cj.rs (q6 ?_))
      refine ⟨?_, rfl, rfl⟩
      refine congrArg (fun l => Ending.returned (str l)) ?_
      unfold Ke.char
      rw [if_neg (by omega), if_neg (by omega), if_neg (by omega), if_pos (by omega)]
     have hg85p := odf hg85
     refine q5 6 39 false hg85 (q2 q0 ?_)
     refine q5 6 39 false hg85 (q2 q34 ?_)
     refine q5 6 39 false hg85 (q2 q0 ?_)
     refine q16 42 (fun hg87 => ?_) (fun hg87 => ?_)
     ·
      have hg87p := odt hg87
      refine q5 9 42 true hg87 (q2 q0 ?_)
      refine q5 9 42 true hg87 (q2 q38 ?_)
      refine q5 6 39 false hg85 (q2 (q11 hg87) ?_)
      refine J.z (q10 hg85) ?_
      refine J.cd (fun hc88 => ?_) (fun hc88 => ?_)
      ·
       have hc88p := odt hc88
       refine Cj.sr (J.z q1 ?_)
       refine J.ns (Cj.rs (q6 ?_))
       refine ⟨?_, rfl, rfl⟩
       refine congrArg (fun l => Ending.returned (str l)) ?_
       unfold Ke.char
       rw [if_neg (by omega), if_neg (by omega), if_neg (by omega), if_pos (by omega)]
      have hc88p := odf hc88
      refine Cj.skip ?_
      exact hcut () _ _ _ ⟨by omega, by omega, by omega, by omega⟩ ⟨rfl, trivial⟩ rfl rfl
     have hg87p := odf hg87
     refine q3 9 42 43 true hg87 ?_
     refine q3 9 42 44 true hg87 ?_
     refine q5 6 39 false hg85 (q2 (q10 hg87) ?_)
     refine J.z (q10 hg85) ?_
     refine J.c0 (fun hc89 => ?_)
     refine Cj.skip ?_
     exact hcut () _ _ _ ⟨by omega, by omega, by omega, by omega⟩ ⟨rfl, trivial⟩ rfl rfl
    have hg84p := odf hg84
    refine q3 2 35 36 true hg84 ?_
    refine q3 2 35 37 true hg84 ?_
    refine J.z (q10 hg84) ?_
    refine J.z q0 ?_
    refine q12 6 39 false (q2 q0 ?_)
    refine q12 6 39 false (q2 q34 ?_)
    refine q12 6 39 false (q2 q0 ?_)
    refine q16 42 (fun hg90 => ?_) (fun hg90 => ?_)
    ·
     have hg90p := odt hg90
     refine q5 9 42 true hg90 (q2 q0 ?_)
     refine q5 9 42 true hg90 (q2 q38 ?_)
     refine q12 6 39 false (q2 (q11 hg90) ?_)
     refine J.z q30 ?_
     refine J.cd (fun hc91 => ?_) (fun hc91 => ?_)
     ·
      have hc91p := odt hc91
      refine Cj.sr (J.z q1 ?_)
      refine J.ns (Cj.rs (q6 ?_))
      refine ⟨?_, rfl, rfl⟩
      refine congrArg (fun l => Ending.returned (str l)) ?_
      unfold Ke.char
      rw [if_neg (by omega), if_neg (by omega), if_neg (by omega), if_pos (by omega)]
     have hc91p := odf hc91
     refine Cj.skip ?_
     exact hcut () _ _ _ ⟨by omega, by omega, by omega, by omega⟩ ⟨rfl, trivial⟩ rfl rfl
    have hg90p := odf hg90
    refine q3 9 42 43 true hg90 ?_
    refine q3 9 42 44 true hg90 ?_
    refine q12 6 39 false (q2 (q10 hg90) ?_)
    refine J.z q30 ?_
    refine J.c0 (fun hc92 => ?_)
    refine Cj.skip ?_
    exact hcut () _ _ _ ⟨by omega, by omega, by omega, by omega⟩ ⟨rfl, trivial⟩ rfl rfl
   refine Cj.sr (J.z q0 ?_)
   refine J.z q17 ?_
   refine J.cd (fun hc93 => ?_) (fun hc93 => ?_)
   ·
    have hc93p := odt hc93
    refine Cj.sr (J.z q1 ?_)
    refine J.ns (Cj.rs (q6 ?_))
    refine ⟨?_, rfl, rfl⟩
    refine congrArg (fun l => Ending.returned (str l)) ?_
    unfold Ke.char
    rw [if_neg (by omega), if_neg (by omega), if_pos (by omega)]
   have hc93p := odf hc93
   refine Cj.skip ?_
   exact hcut () _ _ _ ⟨by omega, by omega, by omega⟩ ⟨rfl, trivial⟩ rfl rfl
  refine Cj.sr (J.z q0 ?_)
  refine J.z q34 ?_
  refine J.z q0 ?_
  refine q16 23 (fun hg94 => ?_) (fun hg94 => ?_)
  ·
   have hg94p := odt hg94
   refine q5 2 23 true hg94 (q2 q0 ?_)
   refine q5 2 23 true hg94 (q2 q38 ?_)
   refine J.z (q11 hg94) ?_
   refine J.cd (fun hc95 => ?_) (fun hc95 => ?_)
   ·
    have hc95p := odt hc95
    refine Cj.sr (J.z q0 ?_)
    refine J.z (yl_add rfl rfl rfl (i32w (by omega))) ?_
    refine J.op rfl (q24 tU129 tS21 tZ21 ?_)
    intro b96 hb96
    refine J.z (q48 tU129 tU9 tU21) ?_
    refine J.z q1 ?_
    refine J.ns (Cj.rs (Ej.bare ?_))
    refine q6 ?_
    refine ⟨?_, rfl, rfl⟩
    refine congrArg (fun l => Ending.returned (str l)) ?_
    unfold Ke.char
    rw [if_neg (by omega), if_pos (by omega)]; exact (congrArg (fun n : Int => (Utf8.encode n).data.toList) (by omega)).trans (Ke.enc_encode (c := c + 32) (by unfold Ke.okc; omega))
   have hc95p := odf hc95
   refine Cj.skip ?_
   exact hcut () _ _ _ ⟨by omega, by omega⟩ ⟨rfl, trivial⟩ rfl rfl
  have hg94p := odf hg94
  refine q3 2 23 24 true hg94 ?_
  refine q3 2 23 25 true hg94 ?_
  refine J.z (q10 hg94) ?_
  refine J.c0 (fun hc97 => ?_)
  refine Cj.skip ?_
  exact hcut () _ _ _ ⟨by omega, by omega⟩ ⟨rfl, trivial⟩ rfl rfl
 refine Cj.sr (J.z q0 ?_)
 refine J.z q34 ?_
 refine J.z q0 ?_
 refine q16 6 (fun hg98 => ?_) (fun hg98 => ?_)
 ·
  have hg98p := odt hg98
  refine q5 2 6 true hg98 (q2 q0 ?_)
  refine q5 2 6 true hg98 (q2 q38 ?_)
  refine J.z (q11 hg98) ?_
  refine J.z q0 ?_
  refine q16 10 (fun hg99 => ?_) (fun hg99 => ?_)
  ·
   have hg99p := odt hg99
   refine q3 6 10 11 false hg99 ?_
   refine q3 6 10 12 false hg99 ?_
   refine q3 6 10 13 false hg99 ?_
   refine J.skipU 9 13 14 true rfl rfl rfl rfl rfl ?_
   refine J.skipU 9 13 15 true rfl rfl rfl rfl rfl ?_
   refine q3 6 10 16 false hg99 ?_
   refine J.z (q11 hg99) ?_
   refine J.c1 (fun hc100 => ?_)
   refine Cj.sr (J.z q0 ?_)
   refine J.op rfl (q24 tU129 tS21 tZ21 ?_)
   intro b101 hb101
   refine J.z (q48 tU129 tU9 tU21) ?_
   refine J.z q1 ?_
   refine J.ns (Cj.rs (Ej.bare ?_))
   refine q6 ?_
   refine ⟨?_, rfl, rfl⟩
   refine congrArg (fun l => Ending.returned (str l)) ?_
   unfold Ke.char
   rw [if_pos (by omega)]; exact Ke.enc_encode (by unfold Ke.okc; omega)
  have hg99p := odf hg99
  refine q5 6 10 false hg99 (q2 q0 ?_)
  refine q5 6 10 false hg99 (q2 q34 ?_)
  refine q5 6 10 false hg99 (q2 q0 ?_)
  refine q16 13 (fun hg102 => ?_) (fun hg102 => ?_)
  ·
   have hg102p := odt hg102
   refine q5 9 13 true hg102 (q2 q0 ?_)
   refine q5 9 13 true hg102 (q2 q38 ?_)
   refine q5 6 10 false hg99 (q2 (q11 hg102) ?_)
   refine J.z (q10 hg99) ?_
   refine J.cd (fun hc103 => ?_) (fun hc103 => ?_)
   ·
    have hc103p := odt hc103
    refine Cj.sr (J.z q0 ?_)
    refine J.op rfl (q24 tU129 tS21 tZ21 ?_)
    intro b104 hb104
    refine J.z (q48 tU129 tU9 tU21) ?_
    refine J.z q1 ?_
    refine J.ns (Cj.rs (Ej.bare ?_))
    refine q6 ?_
    refine ⟨?_, rfl, rfl⟩
    refine congrArg (fun l => Ending.returned (str l)) ?_
    unfold Ke.char
    rw [if_pos (by omega)]; exact Ke.enc_encode (by unfold Ke.okc; omega)
   have hc103p := odf hc103
   refine Cj.skip ?_
   exact hcut () _ _ _ (by omega) ⟨rfl, trivial⟩ rfl rfl
  have hg102p := odf hg102
  refine q3 9 13 14 true hg102 ?_
  refine q3 9 13 15 true hg102 ?_
  refine q5 6 10 false hg99 (q2 (q10 hg102) ?_)
  refine J.z (q10 hg99) ?_
  refine J.c0 (fun hc105 => ?_)
  refine Cj.skip ?_
  exact hcut () _ _ _ (by omega) ⟨rfl, trivial⟩ rfl rfl
 have hg98p := odf hg98
 refine q3 2 6 7 true hg98 ?_
 refine q3 2 6 8 true hg98 ?_
 refine J.z (q10 hg98) ?_
 refine J.z q0 ?_
 refine q12 6 10 false (q2 q0 ?_)
 refine q12 6 10 false (q2 q34 ?_)
 refine q12 6 10 false (q2 q0 ?_)
 refine q16 13 (fun hg106 => ?_) (fun hg106 => ?_)
 ·
  have hg106p := odt hg106
  refine q5 9 13 true hg106 (q2 q0 ?_)
  refine q5 9 13 true hg106 (q2 q38 ?_)
  refine q12 6 10 false (q2 (q11 hg106) ?_)
  refine J.z q30 ?_
  refine J.cd (fun hc107 => ?_) (fun hc107 => ?_)
  ·
   have hc107p := odt hc107
   refine Cj.sr (J.z q0 ?_)
   refine J.op rfl (q24 tU129 tS21 tZ21 ?_)
   intro b108 hb108
   refine J.z (q48 tU129 tU9 tU21) ?_
   refine J.z q1 ?_
   refine J.ns (Cj.rs (Ej.bare ?_))
   refine q6 ?_
   refine ⟨?_, rfl, rfl⟩
   refine congrArg (fun l => Ending.returned (str l)) ?_
   unfold Ke.char
   rw [if_pos (by omega)]; exact Ke.enc_encode (by unfold Ke.okc; omega)
  have hc107p := odf hc107
  refine Cj.skip ?_
  exact hcut () _ _ _ (by omega) ⟨rfl, trivial⟩ rfl rfl
 have hg106p := odf hg106
 refine q3 9 13 14 true hg106 ?_
 refine q3 9 13 15 true hg106 ?_
 refine q12 6 10 false (q2 (q10 hg106) ?_)
 refine J.z q30 ?_
 refine J.c0 (fun hc109 => ?_)
 refine Cj.skip ?_
 exact hcut () _ _ _ (by omega) ⟨rfl, trivial⟩ rfl rfl
theorem rWords_ok (s : List UInt8) (hs : s.length ≤ 1000000000) (I : Heap) : Ctr Tryz.prog 47 [str s] I [] (fun e _I' H' => ∃ g, gOk 0 1 (Ke.words s).length ((Ke.words s).map str) g ∧ e = .returned (gV (Ke.words s).length g) ∧ H' = gH 9 ((Ke.words s).map str) g) := by
 have hrl := runes_lenS s
 refine Ctr.ob func47 ?_
 intro w0 hw0
 refine Cj.sr (J.z q1 ?_)
 refine J.nssr (J.z q1 ?_)
 refine J.nssr (J.z q1 ?_)
 refine J.nssr (J.z q0 ?_)
 refine J.op rfl (op_toRunes (runes_all s) rfl rfl rfl rfl tU9 tU129 tU21 ?_)
 intro b1 c2 sp3 hb1
 refine J.z q1 ?_
 refine J.nsss (Cj.region (J.z q1 ?_))
 refine J.ns (Cj.block (Cj.loop (ι := Nat × List UInt8 × List (List UInt8) × Gs) (fun x => x.1 ≤ (Ke.runes s).length ∧ Ke.words s = x.2.2.1 ++ Ke.wf x.2.1 ((Ke.runes s).drop x.1) ∧ x.2.1.length ≤ 4 * x.1 ∧ x.2.2.1.length ≤ x.1 ∧ gOk 0 1 x.2.2.1.length (x.2.2.1.map str) x.2.2.2) (fun x => (Ke.runes s).length - x.1) (fun x => [(3, gV x.2.2.1.length x.2.2.2), (4, str x.2.1), (5, .slice (some ⟨b1, 0, none⟩) (Ke.runes s).length c2), (6, i64 (x.1 : Int))]) (fun x => I) (fun x => (b1, cel 21 (rcs (Ke.runes s) ++ sp3)) :: gH 9 (x.2.2.1.map str) x.2.2.2) (0, [], [], none) ⟨Nat.zero_le _, rfl, Nat.zero_le _, Nat.zero_le _, rfl, rfl⟩ ⟨rfl, rfl, rfl, rfl, trivial⟩ rfl rfl ?_))
 rintro ⟨k, w, acc, g⟩ ⟨hk, hws, hwl, hal, hg⟩
 dsimp only at hk hws hwl hal hg ⊢
 refine Cj.seq (Cj.sr (J.z q0 ?_))
 refine J.z q0 ?_
 refine J.z (q15 tU129) ?_
 refine J.z q17 ?_
 refine J.cd (fun hc4 => ?_) (fun hc4 => ?_)
 ·
  have hc4p := odt hc4
  refine Cj.ks (Cj.seq (Cj.block (Cj.seq ?_)))
  have hlt : k < (Ke.runes s).length := by omega
  obtain ⟨c, hget⟩ : ∃ c, (Ke.runes s)[k]? = some c := ⟨_, lgg hlt⟩
  have hdr := drop_cons hget
  have hcl := Ke.char_len c
  have hcm : c ≤ 1114111 := Ke.runes_le _ _ c (lmg hget)
  refine Cj.region (J.z q0 ?_)
  refine J.z q0 ?_
  refine J.z (q19 (off' := k) tU129 tS21) ?_
  refine J.z (yl_load rfl rfl isAgg21 (Blk.at 0 rfl) (rcs_get hget)) ?_
  refine J.op rfl (op_pure rfl rfl rfl rfl rfl (rChar_ok c hcm _) ?_)
  refine J.z q1 ?_
  refine J.nsss (Cj.region (J.z q0 ?_))
  refine J.z (yl_neqStr rfl rfl rfl) ?_
  refine J.cd (fun hc5 => ?_) (fun hc5 => ?_)
  ·
   have hc5p := bne_iff_ne.1 hc5
   have hne : Ke.char c ≠ [32] := bne_iff_ne.1 hc5
   refine Cj.sr (J.z q0 ?_)
   refine J.z q0 ?_
   refine J.z (yl_cat rfl rfl rfl (by omega)) ?_
   refine J.z q1 ?_
   refine J.ns (Cj.exit (Ej.seqExit (Ej.blkExit (Ej.seq (Cj.region (J.z q0 ?_))))))
   refine J.z q7 ?_
   refine J.z q1 ?_
   refine J.nil (Ej.round (k + 1, w ++ Ke.char c, acc, g) ⟨by dsimp only; omega, by dsimp only; rw [hws, hdr, Ke.wf_in hne], by dsimp only; rw [List.length_append]; omega, by dsimp only; omega, hg⟩ (by dsimp only; omega) ⟨rfl, rfl, rfl, rfl, trivial⟩ rfl rfl)
  have hc5p := bne_f hc5
  have he : Ke.char c = [32] := bne_f hc5
  refine Cj.ks (Cj.seq (Cj.sr (J.z q0 ?_)))
  refine J.z (yl_neqStr rfl rfl rfl) ?_
  refine J.cd (fun hc6 => ?_) (fun hc6 => ?_)
  ·
   have hc6p := bne_iff_ne.1 hc6
   have hw : w ≠ [] := bne_iff_ne.1 hc6
   refine Cj.region (J.z q0 ?_)
   refine J.z q0 ?_
   refine J.op rfl (q24 tU28 tS9 tZ9 ?_)
   intro b7 hb7
   refine J.op rfl (op_appendB 0 (Nat.zero_le _) (by' := 15) [_, _] rfl rfl rfl rfl rfl tU28 (.inr ⟨_, tU28⟩) (by kernel_rfl) tS9 tZ9 rfl hg rfl (Src.slice (Blk.at 0 rfl) rfl rfl rfl) (by omega) ?_)
   intro g8 hg8
   refine J.z q1 ?_
   refine J.nsr (J.z q1 ?_)
   refine J.nb (Cj.region (J.z q0 ?_))
   refine J.z q7 ?_
   refine J.z q1 ?_
   refine J.nil (Ej.keep (Keeps.d (Keeps.k Keeps.r)) ?_)
   refine Ej.round (k + 1, [], acc ++ [w], g8) ⟨by dsimp only; omega, by dsimp only; rw [hws, hdr, Ke.wf_out he hw, List.append_assoc]; rfl, Nat.zero_le _, by dsimp only; rw [List.length_append]; simp only [List.length_cons, List.length_nil]; omega, by dsimp only; rw [List.map_append, List.length_append]; exact hg8⟩ (by dsimp only; omega) ⟨by dsimp only; rw [List.length_append]; rfl, rfl, rfl, rfl, trivial⟩ rfl (by dsimp only; rw [List.map_append]; rfl)
  have hc6p := bne_f hc6
  have hw : w = [] := bne_f hc6
  refine Cj.ks (Cj.region (J.z q1 ?_))
  refine J.nb (Cj.region (J.z q0 ?_))
  refine J.z q7 ?_
  refine J.z q1 ?_
  refine J.nil (Ej.round (k + 1, [], acc, g) ⟨by dsimp only; omega, by dsimp only; rw [hws, hdr, hw, Ke.wf_out0 he], Nat.zero_le _, by dsimp only; omega, hg⟩ (by dsimp only; omega) ⟨rfl, rfl, rfl, rfl, trivial⟩ rfl rfl)
 have hc4p := odf hc4
 have hfull : (Ke.runes s).drop k = [] := List.drop_eq_nil_of_le (by omega)
 refine Cj.xl (Cj.seq (Cj.sr (J.z q0 ?_)))
 refine J.z (yl_neqStr rfl rfl rfl) ?_
 refine J.cd (fun hc9 => ?_) (fun hc9 => ?_)
 ·
  have hc9p := bne_iff_ne.1 hc9
  have hw : w ≠ [] := bne_iff_ne.1 hc9
  have hres : Ke.words s = acc ++ [w] := by rw [hws, hfull, Ke.wf_end, if_neg hw]
  refine Cj.region (J.z q0 ?_)
  refine J.z q0 ?_
  refine J.op rfl (q24 tU28 tS9 tZ9 ?_)
  intro b10 hb10
  refine J.op rfl (op_appendB 0 (Nat.zero_le _) (by' := 15) [_, _] rfl rfl rfl rfl rfl tU28 (.inr ⟨_, tU28⟩) (by kernel_rfl) tS9 tZ9 rfl hg rfl (Src.slice (Blk.at 0 rfl) rfl rfl rfl) (by omega) ?_)
  intro g11 hg11
  refine J.z q1 ?_
  refine J.nssr (J.z q0 ?_)
  refine J.z q1 ?_
  refine J.ns (Cj.ret (Ej.keep (Keeps.d (Keeps.d Keeps.r)) ?_))
  refine q6 ?_
  rw [hres, List.map_append, List.length_append]
  exact ⟨g11, hg11, rfl, rfl⟩
 have hc9p := bne_f hc9
 have hw : w = [] := bne_f hc9
 have hres : Ke.words s = acc := by rw [hws, hfull, Ke.wf_end, if_pos hw, List.append_nil]
 refine Cj.ks (Cj.sr (J.z q0 ?_))
 refine J.z q1 ?_
 refine J.ns (Cj.ret (Ej.keep (Keeps.d Keeps.r) ?_))
 refine q6 ?_
 rw [hres]
 exact ⟨g, hg, rfl, rfl⟩
def mix (ws : List (List UInt8)) (j : Nat) : List (List UInt8) := (ws.take j).map Ke.sortWord ++ ws.drop j
theorem mix_len (ws : List (List UInt8)) (j : Nat) : (mix ws j).length = ws.length := by unfold mix; simp; omega
theorem mix_at {ws : List (List UInt8)} {j : Nat} {x : List UInt8} (h : ws[j]? = some x) : (mix ws j)[j]? = some x := by
  obtain ⟨hlt, hg⟩ := List.getElem?_eq_some_iff.1 h
  unfold mix
  rw [List.getElem?_append_right (by simp; omega), List.getElem?_drop, List.length_map, List.length_take, Nat.min_eq_left (by omega), Nat.sub_self, Nat.add_zero, h]
theorem mix_next {ws : List (List UInt8)} {j : Nat} {x : List UInt8} (h : ws[j]? = some x) : mix ws (j + 1) = (mix ws j).set j (Ke.sortWord x) := by
  obtain ⟨hlt, hg⟩ := List.getElem?_eq_some_iff.1 h
  unfold mix
  rw [List.take_succ_eq_append_getElem hlt, hg, List.map_append, drop_cons h, List.set_append_right _ _ (by simp; omega), List.length_map, List.length_take, Nat.min_eq_left (by omega), Nat.sub_self]
  simp
theorem mix_same {ws : List (List UInt8)} {j : Nat} {x : List UInt8} (h : ws[j]? = some x) (hs : Ke.sortWord x = x) : mix ws (j + 1) = mix ws j := by
  rw [mix_next h, hs]
  apply List.ext_getElem?
  intro i
  rw [List.getElem?_set]
  by_cases hi : j = i
  · subst hi; rw [if_pos rfl, mix_at h, if_pos (by rw [mix_len]; exact (List.getElem?_eq_some_iff.1 h).1)]
  rw [if_neg hi]
theorem mix_set {ws : List (List UInt8)} {j : Nat} {x : List UInt8} {sp : List Value} (h : ws[j]? = some x) : ((mix ws j).map str ++ sp).set j (str (Ke.sortWord x)) = (mix ws (j + 1)).map str ++ sp := by
  rw [mix_next h, List.set_append_left _ _ (by rw [List.length_map, mix_len]; exact (List.getElem?_eq_some_iff.1 h).1), List.map_set]
theorem mix_end (ws : List (List UInt8)) {j : Nat} (h : ¬ j < ws.length) : mix ws j = ws.map Ke.sortWord := by
  unfold mix
  rw [List.take_of_length_le (by omega), List.drop_eq_nil_of_le (by omega), List.append_nil]
theorem rSort_ok (s : List UInt8) (skip : Int) (hs : s.length ≤ 100000000) (I : Heap) : Pure Tryz.prog 61 [str s, i64 skip] I (str (Ke.sortKey s skip)) := by
 refine Ctr.toPure ?_
 have hcl : (Ke.cut s skip).length ≤ s.length := by unfold Ke.cut; simp
 have hwl := Ke.words_len (Ke.cut s skip)
 have hjl := Ke.sort_len (Ke.cut s skip)
 refine Ctr.ob func61 ?_
 intro w0 hw0
 refine Cj.sr (J.z q1 ?_)
 refine J.nssr (J.z q0 ?_)
 refine J.z q0 ?_
 refine J.z (yl_max2 rfl rfl rfl) ?_
 refine J.z q0 ?_
 refine J.z (q26 tU9) ?_
 refine J.z (yl_min2 rfl rfl rfl) ?_
 refine J.eqv 13 rfl (show _ = i64 (((min (max skip 0) (s.length : Int)).toNat : Nat) : Int) from (congrArg i64 (by omega))) ?_
 refine J.z (yl_sliceStr (p := (min (max skip 0) (s.length : Int)).toNat) (q := s.length) rfl rfl tU9 ⟨_, rfl⟩ rfl (by omega) (by omega)) ?_
 refine J.eqv 14 rfl (show _ = str (Ke.cut s skip) from (by rw [List.take_length]; rfl)) ?_
 refine J.op rfl (q57 rfl rfl rfl rfl rfl (rWords_ok (Ke.cut s skip) (by omega) _) ?_)
 intro v2 I3 H4 hle5 hn1 hp6
 obtain ⟨g, hg, h, rfl⟩ := hp6; cases h
 replace hg := hg.base hn1
 refine J.z q1 ?_
 refine J.nsss (Cj.region (J.z q1 ?_))
 refine J.ns (Cj.block (Cj.loop (ι := Nat) (fun j => j ≤ (Ke.words (Ke.cut s skip)).length) (fun j => (Ke.words (Ke.cut s skip)).length - j) (fun j => [(5, gV (Ke.words (Ke.cut s skip)).length g), (6, i64 (j : Int))]) (fun j => _) (fun j => gH 9 ((mix (Ke.words (Ke.cut s skip)) j).map str) g) 0 (Nat.zero_le _) ⟨rfl, rfl, trivial⟩ rfl (by rw [List.append_nil, show mix (Ke.words (Ke.cut s skip)) 0 = (Ke.words (Ke.cut s skip)) by simp [mix]]) ?_))
 intro j hj
 refine Cj.seq (Cj.sr (J.z q0 ?_))
 refine J.z q0 ?_
 refine J.z (yl_lenG hg rfl rfl tU28) ?_
 refine J.z q17 ?_
 refine J.cd (fun hc7 => ?_) (fun hc7 => ?_)
 ·
  have hc7p := odt hc7
  refine Cj.ks (Cj.seq (Cj.block (Cj.seq ?_)))
  have hlt : j < (Ke.words (Ke.cut s skip)).length := by omega
  obtain ⟨x, hget⟩ : ∃ x, (Ke.words (Ke.cut s skip))[j]? = some x := ⟨_, lgg hlt⟩
  have hxm := lmg hget
  have hxl := Ke.words_each _ x hxm
  have hma := mix_at hget
  obtain ⟨bg8, cg9, sp10, rfl, hbg8⟩ := hg.some (by omega)
  refine Cj.region (J.z q0 ?_)
  refine J.z q0 ?_
  refine J.z (q19 (off' := j) tU28 tS9) ?_
  refine J.z (yl_load rfl rfl tA9 (Blk.at 0 rfl) (str_get hma)) ?_
  refine J.op rfl (op_pure rfl rfl rfl rfl rfl (rdigits_ok x (by omega) _) ?_)
  refine J.z q1 ?_
  refine J.nssr (J.z q0 ?_)
  refine J.cd (fun hc11 => ?_) (fun hc11 => ?_)
  ·
   have hsw : Ke.sortWord x = Ke.number x := by unfold Ke.sortWord; rw [show Ke.digits x = true from hc11]; rfl
   refine Cj.region (J.z q0 ?_)
   refine J.z q0 ?_
   refine J.z q0 ?_
   refine J.z q0 ?_
   refine J.z (q19 (off' := j) tU28 tS9) ?_
   refine J.z (yl_load rfl rfl tA9 (Blk.at 0 rfl) (str_get hma)) ?_
   refine J.op rfl (op_pure rfl rfl rfl rfl rfl (number_ok x (by omega) _) ?_)
   refine J.eqv 34 rfl (show _ = str (Ke.sortWord x) from (by rw [hsw])) ?_
   refine J.z (q19 (off' := j) tU28 tS9) ?_
   refine J.op rfl (op_store1 0 rfl rfl rfl rfl rfl rfl tS9 rfl (.inl rfl) (by simp only [List.length_append, List.length_map, mix_len]; omega) LSet.z ?_)
   refine J.nb (Cj.region (J.z q0 ?_))
   refine J.z q7 ?_
   refine J.z q1 ?_
   refine J.nil (Ej.round (j + 1) (by omega) (by omega) ⟨rfl, rfl, trivial⟩ rfl (by rw [mix_set hget]; rfl))
  have hsw : Ke.sortWord x = x := by unfold Ke.sortWord; rw [show Ke.digits x = false from hc11]; rfl
  refine Cj.kb (Cj.region (J.z q0 ?_))
  refine J.z q7 ?_
  refine J.z q1 ?_
  refine J.nil (Ej.round (j + 1) (by omega) (by omega) ⟨rfl, rfl, trivial⟩ rfl (by rw [mix_same hget hsw]))
 have hc7p := odf hc7
 refine Cj.xl (Cj.seq ?_)
 have hme := mix_end (Ke.words (Ke.cut s skip)) (j := j) (by omega)
 rw [hme]
 refine Cj.perm (H' := gH _ _ _ ++ []) (by rw [List.append_nil]) ?_
 have hg2 : gOk w0.heap.size 1 (Ke.words (Ke.cut s skip)).length (((Ke.words (Ke.cut s skip)).map Ke.sortWord).map str) g := gOk_len hg (by simp)
 refine Cj.keepS hg2 (fun I8 hle8 hv => ?_)
 rw [show (Ke.words (Ke.cut s skip)).length = ((Ke.words (Ke.cut s skip)).map Ke.sortWord).length from (List.length_map _).symm] at hv ⊢
 refine Cj.region (J.z q0 ?_)
 refine J.op rfl (op_pure rfl rfl rfl rfl rfl (rJoin_ok ((Ke.words (Ke.cut s skip)).map Ke.sortWord) _ (by rw [List.length_map]; omega) (by omega) _ (StrP.of hv)) ?_)
 refine J.z q1 ?_
 refine J.ns (Cj.ret (q6 ?_))
 exact ⟨rfl, rfl⟩
theorem StrP.len {I : Heap} {l : List (List UInt8)} {v : Value} (h : StrP I l v) : ∃ p c, v = .slice p l.length c := let ⟨p, c, h, _⟩ := h; ⟨p, c, h⟩
theorem pg_next {s x : List UInt8} {d : Bool} {l : List (List UInt8)} : Ke.pg s d (x :: l) = (if s < x ∧ d = false then [s, x] else [x]) ++ Ke.pg s (d || decide (s < x)) l := by
  rw [Ke.pg]
  by_cases h : s < x
  · cases d
    · rw [if_pos ⟨h, rfl⟩, if_pos ⟨h, rfl⟩]; simp [h]
    rw [if_neg (by simp), if_neg (by simp)]; rfl
  rw [if_neg (fun g => h g.1), if_neg (fun g => h g.1)]; simp [h]
theorem pg_len (s : List UInt8) : ∀ (l : List (List UInt8)) (d : Bool), (Ke.pg s d l).length ≤ l.length + 1
  | [], true => Nat.zero_le _
  | [], false => Nat.le_refl _
  | x :: l, d => by
    have := pg_len s l (d || decide (s < x))
    rw [pg_next, List.length_append, List.length_cons]
    by_cases h : s < x ∧ d = false
    · rw [if_pos h]
      obtain ⟨h1, rfl⟩ := h
      have h2 : Ke.pg s (false || decide (s < x)) l = l := by rw [decide_eq_true h1]; exact Ke.pg_true s l
      rw [h2]; simp; omega
    rw [if_neg h]; simp; omega
theorem put_len (l : List (List UInt8)) (s : List UInt8) : (Ke.put l s).length ≤ l.length + 1 := by
  unfold Ke.put
  split
  · omega
  exact pg_len s l false
theorem puts_len : ∀ (xs l : List (List UInt8)), (xs.foldl Ke.put l).length ≤ l.length + xs.length
  | [], l => Nat.le_refl _
  | x :: xs, l => by
    have h1 := puts_len xs (Ke.put l x)
    have h2 := put_len l x
    simp only [List.foldl_cons, List.length_cons]; omega
theorem puts_one (xs : List (List UInt8)) (x : List UInt8) : (xs ++ [x]).foldl Ke.put [] = Ke.put (xs.foldl Ke.put []) x := by rw [List.foldl_append]; rfl
theorem rText_ok (f : Ke.Fld) (codes : List UInt8) (hcl : codes.length ≤ 1000) (hn : f.subs.length ≤ 2000000) (htx : textsLen f.subs ≤ 3000000) (I : Heap) (hr : RowS subC I f.subs f.sv) : Pure Tryz.prog 114 [.agg (fldC f).toArray, str codes] I (str (Ke.textOf f codes)) := by
 refine Ctr.toPure ?_
 obtain ⟨p2, c2, hsv, hc2, hp2⟩ := hr
 refine Ctr.ob func114 ?_
 intro w0 hw0
 refine Cj.sr (J.op rfl (q28 ?_))
 intro b1 hb1
 refine J.z q1 ?_
 refine J.nssr (J.z q1 ?_)
 refine J.nsss (Cj.region (J.z q1 ?_))
 refine J.ns (Cj.block (Cj.loop (ι := Nat × Gs) (fun j => j.1 ≤ f.subs.length ∧ gOk w0.heap.size 1 (tx codes (f.subs.take j.1)).length ((tx codes (f.subs.take j.1)).map str) j.2) (fun j => f.subs.length - j.1) (fun j => [(1, str codes), (2, ptr b1 0), (5, gV (tx codes (f.subs.take j.1)).length j.2), (6, i64 (j.1 : Int))]) (fun j => _) (fun j => (b1, cel 31 (fldC f)) :: gH 9 ((tx codes (f.subs.take j.1)).map str) j.2) (0, none) ⟨Nat.zero_le _, rfl, rfl⟩ ⟨rfl, rfl, rfl, rfl, trivial⟩ rfl rfl ?_))
 rintro ⟨j, g⟩ ⟨hj, hg⟩
 dsimp only at hj hg ⊢
 have htl := tx_len codes (f.subs.take j)
 rw [List.length_take, Nat.min_eq_left hj] at htl
 refine Cj.seq (Cj.sr (J.z q0 ?_))
 refine J.z (q4 (off' := 3) tU31 tS29) ?_
 refine J.z (q18 tA29) ?_
 refine J.eqv 10 rfl (show _ = .slice p2 f.subs.length c2 from hsv) ?_
 refine J.z (q15 tU29) ?_
 refine J.z q17 ?_
 refine J.cd (fun hc2 => ?_) (fun hc2 => ?_)
 ·
  have hc2p := odt hc2
  refine Cj.ks (Cj.seq (Cj.block (Cj.seq ?_)))
  have hlt : j < f.subs.length := by omega
  obtain ⟨sb, hsget⟩ : ∃ x, f.subs[j]? = some x := ⟨_, lgg hlt⟩
  obtain ⟨sbk, so, scs, sty, sfr, sp2, rfl, hsbk, hsd⟩ := hp2 (ne_nil_of hlt)
  have hnx := tx_next (codes := codes) hsget
  refine Cj.region (J.z q0 ?_)
  refine J.z (q4 (off' := 3) tU31 tS29) ?_
  refine J.z (q18 tA29) ?_
  refine J.eqv 17 rfl (show _ = .slice (some ⟨sbk, so, none⟩) f.subs.length c2 from hsv) ?_
  refine J.z q0 ?_
  refine J.z (q19 (off' := so + j * 2) tU29 tS65) ?_
  refine J.z (q4 tU65 tS5) ?_
  refine J.z (yl_load rfl rfl tA5 (Blk.imm hsbk) (row_fcell subC_len hsd hsget 0 (by decide))) ?_
  refine J.op rfl (op_pure rfl rfl rfl rfl rfl (has_ok codes sb.code (by omega) _) ?_)
  refine J.z q1 ?_
  refine J.nssr (J.z q0 ?_)
  refine J.cd (fun hc3 => ?_) (fun hc3 => ?_)
  ·
   rw [if_pos hc3] at hnx
   refine Cj.region (J.z q0 ?_)
   refine J.z (q4 (off' := 3) tU31 tS29) ?_
   refine J.z (q18 tA29) ?_
   refine J.eqv 26 rfl (show _ = .slice (some ⟨sbk, so, none⟩) f.subs.length c2 from hsv) ?_
   refine J.z q0 ?_
   refine J.z (q19 (off' := so + j * 2) tU29 tS65) ?_
   refine J.z (q4 (off' := so + j * 2 + 1) tU65 tS9) ?_
   refine J.z (yl_load rfl rfl tA9 (Blk.imm hsbk) (row_fcell subC_len hsd hsget 1 (by decide))) ?_
   refine J.op rfl (q24 tU28 tS9 tZ9 ?_)
   intro b4 hb4
   refine J.op rfl (op_append (by' := 15) [_, _] rfl rfl rfl rfl rfl tU28 (.inr ⟨_, tU28⟩) (by kernel_rfl) tS9 tZ9 rfl hg rfl (Src.slice (Blk.at 0 rfl) rfl rfl rfl) (by omega) ?_)
   intro g5 hg5
   refine J.z q1 ?_
   refine J.nb (Cj.region (J.z q0 ?_))
   refine J.z q7 ?_
   refine J.z q1 ?_
   refine J.nil (Ej.keep (Keeps.d (Keeps.k Keeps.r)) ?_)
   refine Ej.round (j + 1, g5) ⟨by dsimp only; omega, by dsimp only; rw [hnx, List.map_append, List.length_append]; exact hg5⟩ (by dsimp only; omega) ⟨rfl, rfl, by dsimp only; rw [hnx, List.length_append]; rfl, rfl, trivial⟩ rfl (by dsimp only; rw [hnx, List.map_append]; rfl)
  rw [if_neg (fun e => Bool.noConfusion (e.symm.trans hc3))] at hnx
  refine Cj.kb (Cj.region (J.z q0 ?_))
  refine J.z q7 ?_
  refine J.z q1 ?_
  refine J.nil (Ej.round (j + 1, g) ⟨by dsimp only; omega, by dsimp only; rw [hnx, List.append_nil]; exact hg⟩ (by dsimp only; omega) ⟨rfl, rfl, by dsimp only; rw [hnx, List.append_nil]; rfl, rfl, trivial⟩ rfl (by dsimp only; rw [hnx, List.append_nil]))
 have hc2p := odf hc2
 refine Cj.xl (Cj.seq ?_)
 have hfull : f.subs.take j = f.subs := List.take_of_length_le (by omega)
 rw [hfull] at hg ⊢
 have htl2 := textOf_len f codes
 refine Cj.perm (H' := gH _ _ _ ++ [_]) List.perm_append_comm ?_
 refine Cj.keepS hg (fun I8 hle8 hv => ?_)
 refine Cj.region (J.z q0 ?_)
 refine J.op rfl (op_pure rfl rfl rfl rfl rfl (rJoin_ok (tx codes f.subs) _ (by have := tx_len codes f.subs; omega) (by have e : Ke.join (tx codes f.subs) = Ke.textOf f codes := rfl; rw [e]; omega) _ (StrP.of hv)) ?_)
 refine J.z q1 ?_
 refine J.ns (Cj.ret (Ej.bare ?_))
 refine q6 ?_
 exact ⟨rfl, rfl⟩
end Go.Proofs.YtjcdfnbomkoheaaGreatDoor
end
