/-
  Own texts on the laws of the seat, joined: the logic, and contracts of functions. Conditions: none.
-/
import Derived.Test.YtjcdfnbomkoheaaGreatDoorPC6
import Derived.Test.YtjcdfnbomkoheaaGreatDoorPC3
set_option maxRecDepth 100000
set_option maxHeartbeats 4000000
section
namespace Go.Proofs.YtjcdfnbomkoheaaGreatDoor
open _root_.Go.Proofs.Tryz
open Go Go.Sx
def rn (s : List UInt8) : List UInt8 := (s.takeWhile Ke.okb).filter Ke.nb
theorem up_X {c : UInt8} (h : c.toNat = 88 ∨ c.toNat = 120) : Ke.up c = 88 := by
  rcases h with h | h
  · rw [show c = 88 from UInt8.toNat_inj.1 (by rw [h]; rfl)]; rfl
  rw [show c = 120 from UInt8.toNat_inj.1 (by rw [h]; rfl)]; rfl
theorem up_same {c : UInt8} (h : Ke.digit c = true) : Ke.up c = c := (Ke.digit_ok h).2.2
theorem val_digit {c : UInt8} (h : Ke.digit c = true) : Ke.val c = c.toNat - 48 := by
  have := Ke.digit_iff.1 h
  unfold Ke.val
  rw [if_neg fun e => by rw [e] at this; exact absurd this.2 (by decide)]
theorem ch_ok {c : UInt8} (h : (48 ≤ c.toNat ∧ c.toNat ≤ 57) ∨ c.toNat = 88 ∨ c.toNat = 120) : Ke.okb c = true ∧ Ke.nb c = true := by
  revert h
  exact Ke.byte_all (p := fun c => (48 ≤ c.toNat ∧ c.toNat ≤ 57) ∨ c.toNat = 88 ∨ c.toNat = 120 → Ke.okb c = true ∧ Ke.nb c = true) (by decide +kernel) c
theorem sp_ok {c : UInt8} (h : c.toNat = 32 ∨ c.toNat = 45) : Ke.okb c = true ∧ Ke.nb c = false := by
  revert h
  exact Ke.byte_all (p := fun c => c.toNat = 32 ∨ c.toNat = 45 → Ke.okb c = true ∧ Ke.nb c = false) (by decide +kernel) c
theorem bad_ok {c : UInt8} (h : ¬ ((48 ≤ c.toNat ∧ c.toNat ≤ 57) ∨ c.toNat = 88 ∨ c.toNat = 120 ∨ c.toNat = 32 ∨ c.toNat = 45)) : Ke.okb c = false := by
  revert h
  exact Ke.byte_all (p := fun c => ¬ ((48 ≤ c.toNat ∧ c.toNat ≤ 57) ∨ c.toNat = 88 ∨ c.toNat = 120 ∨ c.toNat = 32 ∨ c.toNat = 45) → Ke.okb c = false) (by decide +kernel) c
theorem rn_chars (s : List UInt8) : ∀ c ∈ rn s, Ke.digit c = true ∨ c.toNat = 88 ∨ c.toNat = 120 := fun c hc => by
  obtain ⟨h1, h2⟩ := List.mem_filter.1 hc
  have h3 : Ke.okb c = true := List.all_eq_true.1 (List.all_takeWhile (p := Ke.okb)) c h1
  revert h2 h3
  exact Ke.byte_all (p := fun d => Ke.nb d = true → Ke.okb d = true → Ke.digit d = true ∨ d.toNat = 88 ∨ d.toNat = 120) (by decide +kernel) c
theorem rn_len (s : List UInt8) : (rn s).length ≤ s.length := Nat.le_trans (List.length_filter_le _ _) (List.takeWhile_prefix _).length_le
theorem fil_next {s : List UInt8} {k : Nat} {c : UInt8} (h : s[k]? = some c) : (s.take (k + 1)).filter Ke.nb = (s.take k).filter Ke.nb ++ (if Ke.nb c then [c] else []) := by
  obtain ⟨hlt, hg⟩ := List.getElem?_eq_some_iff.1 h
  rw [List.take_succ_eq_append_getElem hlt, hg, List.filter_append]
  cases hn : Ke.nb c <;> simp [hn]
theorem digits_up {t : List UInt8} (h : ∀ c ∈ t, Ke.digit c = true ∨ c.toNat = 88 ∨ c.toNat = 120) : Ke.digits (t.map Ke.up) = Ke.digits t := by
  induction t with
  | nil => rfl
  | cons c r ih =>
    rw [List.map_cons, Ke.digits_cons, Ke.digits_cons, ih fun d hd => h d (.tail _ hd)]
    rcases h c (.head _) with e | e
    · rw [up_same e]
    rw [up_X e]
    have : Ke.digit c = false := by
      rcases hd : Ke.digit c with _ | _
      · rfl
      have := Ke.digit_iff.1 hd; omega
    rw [this]; rfl
theorem up_digits {t : List UInt8} (h : Ke.digits t = true) : t.map Ke.up = t := Ke.digits_val h
theorem not_digits_at {s : List UInt8} {j : Nat} {c : UInt8} (hj : j < 9) (hget : s[j]? = some c) (hx : c.toNat = 88 ∨ c.toNat = 120) : Ke.rightShort (s.map Ke.up) = false := by
  have h1 : ((s.map Ke.up).take 9)[j]? = some (Ke.up c) := by rw [List.getElem?_take, if_pos hj, List.getElem?_map, hget]; rfl
  have h2 : Ke.digits ((s.map Ke.up).take 9) = false := by
    refine not_all h1 ?_
    rw [up_X hx]; decide
  unfold Ke.rightShort; rw [h2, Bool.and_false]
theorem rCheck_ok (s : List UInt8) (h12 : 12 ≤ s.length) (hs : s.length ≤ 1000000000) (hd : Ke.digits (s.take 12) = true) (I : Heap) : Pure Tryz.prog 96 [str s] I (u8 (Ke.check s)) := by
 refine Ctr.ob func96 ?_
 intro w0 hw0
 refine Cj.sr (J.z q1 ?_)
 refine J.nssr (J.z q1 ?_)
 refine J.nsss (Cj.region (J.z q1 ?_))
 refine J.ns (Cj.block (Cj.loop (ι := Nat) (fun j => j ≤ 12) (fun j => 12 - j) (fun j => [(0, str s), (3, i64 ((Ke.csum 0 ((s.take 12).take j) : Nat) : Int)), (4, i64 (j : Int))]) (fun j => I) (fun j => []) 0 (Nat.zero_le _) ⟨rfl, rfl, rfl, trivial⟩ rfl rfl ?_))
 intro j hj
 have hsl := csum_le ((s.take 12).take j) 0
 rw [List.length_take, List.length_take] at hsl
 refine Cj.seq (Cj.sr (J.z q0 ?_))
 refine J.z q17 ?_
 refine J.cd (fun hc1 => ?_) (fun hc1 => ?_)
 ·
  have hc1p := of_decide_eq_true hc1
  have hlt : j < s.length := by omega
  obtain ⟨c, hget⟩ : ∃ c, s[j]? = some c := ⟨_, List.getElem?_eq_getElem hlt⟩
  have hgu : (s.take 12)[j]? = some c := by rw [List.getElem?_take, if_pos (by omega)]; exact hget
  have hc := digits_at hd hgu
  refine Cj.skip (Ej.seq (Cj.seq (Cj.block (Cj.sr (J.z q0 ?_)))))
  refine J.z q0 ?_
  refine J.z (q27 underlying9 hget) ?_
  refine J.z (yl_sub rfl rfl rfl (w8 (by omega))) ?_
  refine J.z (yl_convInt rfl rfl underlying5 underlying3) ?_
  refine J.eqv 14 rfl (show _ = i64 ((c.toNat - 48 : Nat) : Int) from (congrArg i64 ((w64 (by omega)).trans (by omega)))) ?_
  refine J.z q1 ?_
  refine J.nsss (Cj.region (J.z q0 ?_))
  refine J.z (yl_rem rfl rfl rfl (by decide)) ?_
  refine J.eqv 16 rfl (show _ = i64 ((j % 2 : Nat) : Int) from rfl) ?_
  refine J.z q20 ?_
  refine J.cd (fun hc2 => ?_) (fun hc2 => ?_)
  ·
   have hc2p := eq_of_beq hc2
   have h2 : j % 2 = 1 := by have h := eq_of_beq hc2; omega
   refine Cj.region (J.z q0 ?_)
   refine J.z (yl_mul rfl rfl rfl (w64 (by omega))) ?_
   refine J.z q1 ?_
   refine J.nsr (J.z q0 ?_)
   refine J.z q0 ?_
   refine J.z (yl_add rfl rfl rfl (w64 (by omega))) ?_
   refine J.z q1 ?_
   refine J.nil (Ej.blkNormal (Ej.seq (Cj.region (J.z q0 ?_))))
   refine J.z (yl_add rfl rfl rfl (w64 (by omega))) ?_
   refine J.z q1 ?_
   refine J.nil (Ej.round (j + 1) (by omega) (by omega) ⟨rfl, by rw [csum_next hgu, h2]; exact congrArg (fun z => some (Value.int .i64 z)) (by omega), rfl, trivial⟩ rfl rfl)
  have hc2p := ne_of_beq_false hc2
  have h2 : j % 2 = 0 := by have h := ne_of_beq_false hc2; omega
  refine Cj.skip (Ej.seq (Cj.region (J.z q0 ?_)))
  refine J.z q0 ?_
  refine J.z (yl_add rfl rfl rfl (w64 (by omega))) ?_
  refine J.z q1 ?_
  refine J.nil (Ej.blkNormal (Ej.seq (Cj.region (J.z q0 ?_))))
  refine J.z (yl_add rfl rfl rfl (w64 (by omega))) ?_
  refine J.z q1 ?_
  refine J.nil (Ej.round (j + 1) (by omega) (by omega) ⟨rfl, by rw [csum_next hgu, h2]; exact congrArg (fun z => some (Value.int .i64 z)) (by omega), rfl, trivial⟩ rfl rfl)
 have hc1p := of_decide_eq_false hc1
 have hfull : (s.take 12).take j = s.take 12 := List.take_of_length_le (by rw [List.length_take]; omega)
 refine Cj.exit (Ej.seqExit (Ej.loopExit (Ej.blkExit (Ej.seq (Cj.sr (J.z q0 ?_))))))
 refine J.z (yl_rem rfl rfl rfl (by decide)) ?_
 refine J.eqv 24 rfl (show _ = i64 ((Ke.csum 0 (s.take 12) % 10 : Nat) : Int) from (by rw [hfull]; rfl)) ?_
 refine J.z (yl_sub rfl rfl rfl (w64 (by omega))) ?_
 refine J.eqv 25 rfl (show _ = i64 ((10 - Ke.csum 0 (s.take 12) % 10 : Nat) : Int) from (congrArg i64 (by omega))) ?_
 refine J.z (yl_rem rfl rfl rfl (by decide)) ?_
 refine J.eqv 26 rfl (show _ = i64 (((10 - Ke.csum 0 (s.take 12) % 10) % 10 : Nat) : Int) from rfl) ?_
 refine J.z (yl_add rfl rfl rfl (w64 (by omega))) ?_
 refine J.eqv 27 rfl (show _ = i64 ((48 + (10 - Ke.csum 0 (s.take 12) % 10) % 10 : Nat) : Int) from (congrArg i64 (by omega))) ?_
 refine J.z (yl_convInt rfl rfl underlying3 underlying5) ?_
 refine J.eqv 28 rfl (show _ = u8 (Ke.check s) from (congrArg (Value.int .u8) (conv8 (by omega)))) ?_
 refine J.z q1 ?_
 refine J.ns (Cj.ret (q6 ?_))
 exact ⟨rfl, rfl, rfl⟩
theorem beq_cast (a b : Nat) : ((a : Int) == (b : Int)) = (a == b) := by
  rw [Bool.eq_iff_iff, beq_iff_eq, beq_iff_eq]; omega
theorem ten_next {s : List UInt8} {j : Nat} {c : UInt8} (hj : j ≤ 10) (hall : (s.take (min j 9)).all Ke.digit = true) (hget : s[j]? = some c) (hd : Ke.digit c = true) : (s.take (min (j + 1) 9)).all Ke.digit = true := by
  rcases Nat.lt_or_ge j 9 with h | h
  · rw [Nat.min_eq_left (by omega)] at hall ⊢; exact all_at hall hget hd
  rw [Nat.min_eq_right (by omega)] at hall ⊢; exact hall
theorem ten_ok (s : List UInt8) (h10 : s.length = 10) (hx : ∀ c ∈ s, Ke.digit c = true ∨ c.toNat = 88 ∨ c.toNat = 120) (I : Heap) : Pure Tryz.prog 95 [str s] I (.bool (Ke.rightShort (s.map Ke.up))) := by
 refine Ctr.ob func95 ?_
 intro w0 hw0
 refine Cj.sr (J.z q1 ?_)
 refine J.nssr (J.z q1 ?_)
 refine J.nsss (Cj.region (J.z q1 ?_))
 refine J.ns (Cj.block (Cj.loop (ι := Nat) (fun j => j ≤ 10 ∧ (s.take (min j 9)).all Ke.digit = true) (fun j => 10 - j) (fun j => [(0, str s), (3, i64 ((Ke.rsum 0 ((s.map Ke.up).take j) : Nat) : Int)), (4, i64 (j : Int))]) (fun j => I) (fun j => []) 0 ⟨Nat.zero_le _, rfl⟩ ⟨rfl, rfl, rfl, trivial⟩ rfl rfl ?_))
 rintro j ⟨hj, hall⟩
 have hsl := rsum_le ((s.map Ke.up).take j) 0
 rw [List.length_take, List.length_map, h10] at hsl
 refine Cj.seq (Cj.sr (J.z q0 ?_))
 refine J.z q17 ?_
 refine J.cd (fun hc1 => ?_) (fun hc1 => ?_)
 ·
  have hc1p := of_decide_eq_true hc1
  have hlt : j < s.length := by omega
  obtain ⟨c, hget⟩ : ∃ c, s[j]? = some c := ⟨_, List.getElem?_eq_getElem hlt⟩
  have hgu : (s.map Ke.up)[j]? = some (Ke.up c) := by rw [List.getElem?_map, hget]; rfl
  have hxc := hx c (List.mem_of_getElem? hget)
  have hcl := c.toNat_lt
  have h48 : 48 ≤ c.toNat := hxc.elim (fun h => (Ke.digit_iff.1 h).1) (fun h => by omega)
  have hm : (10 - j) * Ke.val (Ke.up c) ≤ 10 * 255 := Nat.mul_le_mul (by omega) (val_le _)
  refine Cj.skip (Ej.seq (Cj.seq (Cj.block (Cj.sr (J.z q0 ?_)))))
  refine J.z q0 ?_
  refine J.z (q27 underlying9 hget) ?_
  refine J.z (yl_convInt rfl rfl underlying5 underlying3) ?_
  refine J.eqv 13 rfl (show _ = i64 (c.toNat : Int) from (congrArg i64 (w64 (by omega)))) ?_
  refine J.z (yl_sub rfl rfl rfl (w64 (by omega))) ?_
  refine J.eqv 14 rfl (show _ = i64 ((c.toNat - 48 : Nat) : Int) from (congrArg i64 (by omega))) ?_
  refine J.z q1 ?_
  refine J.nsss (Cj.region (J.z q0 ?_))
  refine J.z q0 ?_
  refine J.z (q27 underlying9 hget) ?_
  refine J.z q20 ?_
  refine J.z q0 ?_
  refine J.split 19 rfl (fun hg2 => ?_) (fun hg2 => ?_)
  ·
   have h19 := eq_of_beq hg2
   refine q4 4 19 20 false hg2 ?_
   refine q4 4 19 21 false hg2 ?_
   refine q4 4 19 22 false hg2 ?_
   refine q4 4 19 23 false hg2 ?_
   refine J.z (q11 hg2) ?_
   refine J.c1 (fun hc3 => ?_)
   refine Cj.seq ?_
   have hX : c.toNat = 88 ∨ c.toNat = 120 := by omega
   have hcv : Ke.val (Ke.up c) = 10 := by rw [up_X hX]; rfl
   refine Cj.region (J.z q1 ?_)
   refine J.nssr (J.z q0 ?_)
   refine J.z q17 ?_
   refine J.cd (fun hc4 => ?_) (fun hc4 => ?_)
   ·
    have hc4p := of_decide_eq_true hc4
    have h26 := of_decide_eq_true hc4
    refine Cj.sr (J.z q1 ?_)
    refine J.ns (Cj.ret (Ej.seqRet (Ej.blkRet (Ej.seqRet (Ej.loopRet (Ej.blkRet (Ej.seqRet (q6 ?_))))))))
    rw [not_digits_at (by omega) hget hX]
    exact ⟨rfl, rfl, rfl⟩
   have hc4p := of_decide_eq_false hc4
   have h26 := of_decide_eq_false hc4
   refine Cj.skip (Ej.seq (Cj.region (J.z q0 ?_)))
   refine J.z q0 ?_
   refine J.z (yl_sub rfl rfl rfl (w64 (by omega))) ?_
   refine J.eqv 29 rfl (show _ = i64 ((10 - j : Nat) : Int) from (congrArg i64 (by omega))) ?_
   refine J.z q0 ?_
   refine J.eqv 30 rfl (show _ = i64 ((Ke.val (Ke.up c) : Nat) : Int) from (congrArg i64 (by omega))) ?_
   refine J.z (yl_mul rfl rfl rfl (w64 (by rw [← Int.natCast_mul]; omega))) ?_
   refine J.eqv 31 rfl (show _ = i64 (((10 - j) * Ke.val (Ke.up c) : Nat) : Int) from (congrArg i64 (Int.natCast_mul _ _).symm)) ?_
   refine J.z (yl_add rfl rfl rfl (w64 (by omega))) ?_
   refine J.z q1 ?_
   refine J.nil (Ej.blkNormal (Ej.seq (Cj.region (J.z q0 ?_))))
   refine J.z (yl_add rfl rfl rfl (w64 (by omega))) ?_
   refine J.z q1 ?_
   refine J.nil (Ej.round (j + 1) ⟨by omega, by rw [Nat.min_eq_right (by omega)] at hall ⊢; exact hall⟩ (by omega) ⟨rfl, by rw [rsum_next hgu]; exact congrArg (fun z => some (Value.int .i64 z)) (by omega), rfl, trivial⟩ rfl rfl)
  have h19 := ne_of_beq_false hg2
  refine q5 4 19 false hg2 (q2 q0 ?_)
  refine q5 4 19 false hg2 (q2 q0 ?_)
  refine J.opG 4 19 false _ rfl rfl rfl hg2 (op_yld (q27 underlying9 hget) rfl rfl ?_)
  refine q5 4 19 false hg2 (q2 q20 ?_)
  refine J.z (q10 hg2) ?_
  refine J.cd (fun hc5 => ?_) (fun hc5 => ?_)
  ·
   have hc5p := eq_of_beq hc5
   have h24 := eq_of_beq hc5
   refine Cj.seq ?_
   have hX : c.toNat = 88 ∨ c.toNat = 120 := by omega
   have hcv : Ke.val (Ke.up c) = 10 := by rw [up_X hX]; rfl
   refine Cj.region (J.z q1 ?_)
   refine J.nssr (J.z q0 ?_)
   refine J.z q17 ?_
   refine J.cd (fun hc6 => ?_) (fun hc6 => ?_)
   ·
    have hc6p := of_decide_eq_true hc6
    have h26 := of_decide_eq_true hc6
    refine Cj.sr (J.z q1 ?_)
    refine J.ns (Cj.ret (Ej.seqRet (Ej.blkRet (Ej.seqRet (Ej.loopRet (Ej.blkRet (Ej.seqRet (q6 ?_))))))))
    rw [not_digits_at (by omega) hget hX]
    exact ⟨rfl, rfl, rfl⟩
   have hc6p := of_decide_eq_false hc6
   have h26 := of_decide_eq_false hc6
   refine Cj.skip (Ej.seq (Cj.region (J.z q0 ?_)))
   refine J.z q0 ?_
   refine J.z (yl_sub rfl rfl rfl (w64 (by omega))) ?_
   refine J.eqv 29 rfl (show _ = i64 ((10 - j : Nat) : Int) from (congrArg i64 (by omega))) ?_
   refine J.z q0 ?_
   refine J.eqv 30 rfl (show _ = i64 ((Ke.val (Ke.up c) : Nat) : Int) from (congrArg i64 (by omega))) ?_
   refine J.z (yl_mul rfl rfl rfl (w64 (by rw [← Int.natCast_mul]; omega))) ?_
   refine J.eqv 31 rfl (show _ = i64 (((10 - j) * Ke.val (Ke.up c) : Nat) : Int) from (congrArg i64 (Int.natCast_mul _ _).symm)) ?_
   refine J.z (yl_add rfl rfl rfl (w64 (by omega))) ?_
   refine J.z q1 ?_
   refine J.nil (Ej.blkNormal (Ej.seq (Cj.region (J.z q0 ?_))))
   refine J.z (yl_add rfl rfl rfl (w64 (by omega))) ?_
   refine J.z q1 ?_
   refine J.nil (Ej.round (j + 1) ⟨by omega, by rw [Nat.min_eq_right (by omega)] at hall ⊢; exact hall⟩ (by omega) ⟨rfl, by rw [rsum_next hgu]; exact congrArg (fun z => some (Value.int .i64 z)) (by omega), rfl, trivial⟩ rfl rfl)
  have hc5p := ne_of_beq_false hc5
  have h24 := ne_of_beq_false hc5
  have hdc : Ke.digit c = true := hxc.resolve_right (by omega)
  have hcv : Ke.val (Ke.up c) = c.toNat - 48 := by rw [up_same hdc]; exact val_digit hdc
  refine Cj.skip (Ej.seq (Cj.region (J.z q0 ?_)))
  refine J.z q0 ?_
  refine J.z (yl_sub rfl rfl rfl (w64 (by omega))) ?_
  refine J.eqv 29 rfl (show _ = i64 ((10 - j : Nat) : Int) from (congrArg i64 (by omega))) ?_
  refine J.z q0 ?_
  refine J.eqv 30 rfl (show _ = i64 ((Ke.val (Ke.up c) : Nat) : Int) from (congrArg i64 (by omega))) ?_
  refine J.z (yl_mul rfl rfl rfl (w64 (by rw [← Int.natCast_mul]; omega))) ?_
  refine J.eqv 31 rfl (show _ = i64 (((10 - j) * Ke.val (Ke.up c) : Nat) : Int) from (congrArg i64 (Int.natCast_mul _ _).symm)) ?_
  refine J.z (yl_add rfl rfl rfl (w64 (by omega))) ?_
  refine J.z q1 ?_
  refine J.nil (Ej.blkNormal (Ej.seq (Cj.region (J.z q0 ?_))))
  refine J.z (yl_add rfl rfl rfl (w64 (by omega))) ?_
  refine J.z q1 ?_
  refine J.nil (Ej.round (j + 1) ⟨by omega, by exact ten_next hj hall hget hdc⟩ (by omega) ⟨rfl, by rw [rsum_next hgu]; exact congrArg (fun z => some (Value.int .i64 z)) (by omega), rfl, trivial⟩ rfl rfl)
 have hc1p := of_decide_eq_false hc1
 have hfull : (s.map Ke.up).take j = s.map Ke.up := List.take_of_length_le (by rw [List.length_map]; omega)
 refine Cj.exit (Ej.seqExit (Ej.loopExit (Ej.blkExit (Ej.seq (Cj.sr (J.z q0 ?_))))))
 refine J.z (yl_rem rfl rfl rfl (by decide)) ?_
 refine J.eqv 34 rfl (show _ = i64 ((Ke.rsum 0 (s.map Ke.up) % 11 : Nat) : Int) from (by rw [hfull]; rfl)) ?_
 refine J.z q20 ?_
 refine J.z q1 ?_
 refine J.ns (Cj.ret (q6 ?_))
 have hr : Ke.rightShort (s.map Ke.up) = (Ke.rsum 0 (s.map Ke.up) % 11 == 0) := by
   unfold Ke.rightShort
   rw [← List.map_take, up_digits (show Ke.digits (s.take 9) = true by rw [Nat.min_eq_right (by omega)] at hall; exact hall), show Ke.digits (s.take 9) = true by rw [Nat.min_eq_right (by omega)] at hall; exact hall, Bool.and_true]
 rw [hr]
 exact ⟨congrArg (fun b => Ending.returned (.bool b)) (beq_cast _ _), rfl, rfl⟩
theorem rn_full {s : List UInt8} {j : Nat} (hj : ¬ j < s.length) (hall : (s.take j).all Ke.okb = true) : (s.take j).filter Ke.nb = rn s := by
  rw [List.take_of_length_le (by omega)] at hall ⊢
  unfold rn; rw [take_while_all hall]
theorem rn_cut {s : List UInt8} {j : Nat} {c : UInt8} (hall : (s.take j).all Ke.okb = true) (hget : s[j]? = some c) (hb : Ke.okb c = false) : (s.take j).filter Ke.nb = rn s := by
  unfold rn; rw [take_while hall hget hb]
theorem rIsbn_ok (s : List UInt8) (hs : s.length ≤ 100000000) (I : Heap) : Pure Tryz.prog 66 [str s] I (.tuple #[str (Ke.isbn s).1, .bool (Ke.isbn s).2]) := by
 refine Ctr.toPure ?_
 refine Ctr.ob func66 ?_
 intro w0 hw0
 refine Cj.sr (J.z q1 ?_)
 refine J.z q1 ?_
 refine J.nssr (J.z q1 ?_)
 refine J.nsss (Cj.region (J.z q1 ?_))
 refine J.ns (Cj.block (Cj.loop (ι := Nat) (fun j => j ≤ s.length ∧ (s.take j).all Ke.okb = true) (fun j => s.length - j) (fun j => [(0, str s), (4, str ((s.take j).filter Ke.nb)), (5, i64 (j : Int))]) (fun j => _) (fun j => []) 0 ⟨Nat.zero_le _, rfl⟩ ⟨rfl, rfl, rfl, trivial⟩ rfl rfl ?_))
 rintro j ⟨hj, hall⟩
 have hfl := List.length_filter_le Ke.nb (s.take j)
 rw [List.length_take, Nat.min_eq_left hj] at hfl
 refine Cj.seq (Cj.sr (J.z q0 ?_))
 refine J.z q0 ?_
 refine J.z (q23 underlying9) ?_
 refine J.z q17 ?_
 refine J.cd (fun hc1 => ?_) (fun hc1 => ?_)
 ·
  have hc1p := of_decide_eq_true hc1
  have hlt : j < s.length := by omega
  obtain ⟨c, hget⟩ : ∃ c, s[j]? = some c := ⟨_, List.getElem?_eq_getElem hlt⟩
  refine Cj.skip (Ej.seq (Cj.seq (Cj.block (Cj.sr (J.z q0 ?_)))))
  refine J.z q0 ?_
  refine J.z (q27 underlying9 hget) ?_
  refine J.z q1 ?_
  refine J.nssr (J.z q0 ?_)
  refine J.z (yl_geq rfl rfl rfl) ?_
  refine J.z q0 ?_
  refine J.split 20 rfl (fun hg2 => ?_) (fun hg2 => ?_)
  rotate_left
  ·
   have h20 := of_decide_eq_false hg2
   refine q4 2 20 21 true hg2 ?_
   refine q4 2 20 22 true hg2 ?_
   refine J.z (q10 hg2) ?_
   refine J.z q0 ?_
   refine q12 6 24 false (q2 q0 ?_)
   refine q12 6 24 false (q2 q20 ?_)
   refine J.z q21 ?_
   refine J.z q0 ?_
   refine J.split 28 rfl (fun hg31 => ?_) (fun hg31 => ?_)
   ·
    have h28 := eq_of_beq hg31
    refine q4 10 28 29 false hg31 ?_
    refine q4 10 28 30 false hg31 ?_
    refine J.z (q11 hg31) ?_
    refine J.c1 (fun hc32 => ?_)
    have hk := ch_ok (c := c) (by omega)
    refine Cj.region (J.z q0 ?_)
    refine J.z q0 ?_
    refine J.op rfl (q13 underlying71 sizeOf5 zeroValue5 (LCat.one rfl LCat.none) ?_)
    intro b33 hb33
    refine J.z (yl_toStr [c] rfl rfl rfl underlying71 underlying9 underlying5 (Blk.at 0 rfl) rfl) ?_
    refine J.z (yl_cat rfl rfl rfl (by first | omega | (simp only [List.length_append]; omega) | (simp; omega))) ?_
    refine J.z q1 ?_
    refine J.nil (Ej.blkNormal (Ej.seq ?_))
    have hnx := fil_next hget
    rw [hk.2, if_pos rfl] at hnx
    refine Cj.region (J.z q0 ?_)
    refine J.z (yl_add rfl rfl rfl (w64 (by omega))) ?_
    refine J.z q1 ?_
    refine J.nil (Ej.keep (Keeps.d Keeps.n) ?_)
    refine Ej.round (j + 1) ⟨by omega, all_next hall hget hk.1⟩ (by omega) ⟨rfl, by rw [hnx]; rfl, rfl, trivial⟩ rfl rfl
   have h28 := ne_of_beq_false hg31
   refine q5 10 28 false hg31 (q2 q0 ?_)
   refine q5 10 28 false hg31 (q2 q20 ?_)
   refine J.z (q10 hg31) ?_
   refine J.cd (fun hc34 => ?_) (fun hc34 => ?_)
   ·
    have hc34p := eq_of_beq hc34
    have h31 := eq_of_beq hc34
    have hk := ch_ok (c := c) (by omega)
    refine Cj.region (J.z q0 ?_)
    refine J.z q0 ?_
    refine J.op rfl (q13 underlying71 sizeOf5 zeroValue5 (LCat.one rfl LCat.none) ?_)
    intro b35 hb35
    refine J.z (yl_toStr [c] rfl rfl rfl underlying71 underlying9 underlying5 (Blk.at 0 rfl) rfl) ?_
    refine J.z (yl_cat rfl rfl rfl (by first | omega | (simp only [List.length_append]; omega) | (simp; omega))) ?_
    refine J.z q1 ?_
    refine J.nil (Ej.blkNormal (Ej.seq ?_))
    have hnx := fil_next hget
    rw [hk.2, if_pos rfl] at hnx
    refine Cj.region (J.z q0 ?_)
    refine J.z (yl_add rfl rfl rfl (w64 (by omega))) ?_
    refine J.z q1 ?_
    refine J.nil (Ej.keep (Keeps.d Keeps.n) ?_)
    refine Ej.round (j + 1) ⟨by omega, all_next hall hget hk.1⟩ (by omega) ⟨rfl, by rw [hnx]; rfl, rfl, trivial⟩ rfl rfl
   have hc34p := ne_of_beq_false hc34
   have h31 := ne_of_beq_false hc34
   refine Cj.sr (J.z q0 ?_)
   refine J.z (yl_neq rfl rfl rfl) ?_
   refine J.z q0 ?_
   refine J.split 39 rfl (fun hg36 => ?_) (fun hg36 => ?_)
   rotate_left
   ·
    have h39 : (c.toNat : Int) = 32 := by have h := hg36; rw [bne_eq_false_iff_eq] at h; exact h
    refine q4 2 39 40 true hg36 ?_
    refine q4 2 39 41 true hg36 ?_
    refine J.z (q10 hg36) ?_
    refine J.c0 (fun hc55 => ?_)
    refine Cj.skip (Ej.blkNormal (Ej.seq ?_))
    have hk := sp_ok (c := c) (by omega)
    have hnx := fil_next hget
    rw [hk.2, if_neg (by decide), List.append_nil] at hnx
    refine Cj.region (J.z q0 ?_)
    refine J.z (yl_add rfl rfl rfl (w64 (by omega))) ?_
    refine J.z q1 ?_
    refine J.nil (Ej.round (j + 1) ⟨by omega, all_next hall hget hk.1⟩ (by omega) ⟨rfl, by rw [hnx]; rfl, rfl, trivial⟩ rfl rfl)
   have h39 := bne_iff_ne.1 hg36
   refine q5 2 39 true hg36 (q2 q0 ?_)
   refine q5 2 39 true hg36 (q2 (yl_neq rfl rfl rfl) ?_)
   refine J.z (q11 hg36) ?_
   refine J.cd (fun hc37 => ?_) (fun hc37 => ?_)
   ·
    have hc37p := bne_iff_ne.1 hc37
    have h42 := bne_iff_ne.1 hc37
    have hout := rn_cut hall hget (bad_ok (by omega))
    rw [hout]
    have hnl := rn_len s
    have hnc := rn_chars s
    have hiN : Ke.isbn s = Ke.isbnN ((rn s).map Ke.up) := rfl
    have hml : ((rn s).map Ke.up).length = (rn s).length := List.length_map _
    refine Cj.exit (Ej.blkOther rfl ?_)
    refine Ej.seqExit (Ej.loopExit (Ej.blkExit (Ej.seq (Cj.seq (Cj.sr (J.z q0 ?_))))))
    refine J.z (q23 underlying9) ?_
    refine J.z q20 ?_
    refine J.cd (fun hc38 => ?_) (fun hc38 => ?_)
    ·
     have hc38p := eq_of_beq hc38
     have h10 : (rn s).length = 10 := by have h := eq_of_beq hc38; omega
     refine Cj.sr (J.z q0 ?_)
     refine J.op rfl (op_pure rfl rfl rfl rfl rfl (ten_ok (rn s) h10 hnc _) ?_)
     refine J.z q1 ?_
     refine J.nssr (J.z q0 ?_)
     refine J.cd (fun hc39 => ?_) (fun hc39 => ?_)
     ·
      have hrs : Ke.rightShort ((rn s).map Ke.up) = true := hc39
      have hd9 : Ke.digits ((rn s).take 9) = true := by rw [← digits_up (fun c hc => hnc c (List.mem_of_mem_take hc)), List.map_take]; exact (Bool.and_eq_true_iff.1 hrs).2
      have htk9 : ((rn s).map Ke.up).take 9 = (rn s).take 9 := by rw [← List.map_take, up_digits hd9]
      have hd12 := digits_12 (b := []) hd9 (by rw [List.length_take]; omega)
      rw [List.append_nil] at hd12
      refine Cj.sr (J.z q0 ?_)
      refine J.z (yl_sliceStr (p := 0) (q := 9) rfl rfl underlying9 rfl ⟨_, rfl⟩ (by omega) (by omega)) ?_
      refine J.eqv 50 rfl (show _ = str ((rn s).take 9) from (by rw [List.drop_zero])) ?_
      refine J.z (yl_cat rfl rfl rfl (by first | omega | (simp only [List.length_append]; omega) | (simp; omega))) ?_
      refine J.z q1 ?_
      refine J.nssr (J.z q0 ?_)
      refine J.z q0 ?_
      refine J.op rfl (op_pure rfl rfl rfl rfl rfl (rCheck_ok _ (by simp; omega) (by simp; omega) hd12 _) ?_)
      refine J.op rfl (q13 underlying71 sizeOf5 zeroValue5 (LCat.one rfl LCat.none) ?_)
      intro b40 hb40
      refine J.z (yl_toStr [Ke.check ([57, 55, 56] ++ (rn s).take 9)] rfl rfl rfl underlying71 underlying9 underlying5 (Blk.at 0 rfl) rfl) ?_
      refine J.z (yl_cat rfl rfl rfl (by first | omega | (simp only [List.length_append]; omega) | (simp; omega))) ?_
      refine J.z q1 ?_
      refine J.z q1 ?_
      refine J.ns (Cj.ret (Ej.seqRet (Ej.bare ?_)))
      refine q19 ?_
      have he : Ke.isbn s = ([57, 55, 56] ++ (rn s).take 9 ++ [Ke.check ([57, 55, 56] ++ (rn s).take 9)], true) := by rw [hiN]; unfold Ke.isbnN; rw [if_pos ⟨hml.trans h10, hrs⟩, htk9]
      rw [he]
      exact ⟨rfl, rfl⟩
     ·
      have hno : ¬ (((rn s).map Ke.up).length = 10 ∧ Ke.rightShort ((rn s).map Ke.up) = true) := fun e => Bool.noConfusion (e.2.symm.trans hc39)
      refine Cj.skip (Ej.seq (Cj.sr (J.z q0 ?_)))
      refine J.op rfl (op_pure rfl rfl rfl rfl rfl (rdigits_ok (rn s) (by omega) _) ?_)
      refine J.z q1 ?_
      refine J.nsss (Cj.drawSel [] [] 13 (by kernel_rfl) ?_)
      refine JA.fix fx1 (fun fx41 => ?_)
      refine JA.tk 0 rfl fx41 q0 ?_
      refine JA.tk 1 rfl fx41 (q23 underlying9) ?_
      refine JA.tk 2 rfl fx41 q20 ?_
      refine JA.tk 3 rfl fx41 q0 ?_
      refine JA.split 63 rfl (fun hg42 => ?_) (fun hg42 => ?_)
      ·
       have h13 : (rn s).length = 13 := by have h := eq_of_beq hg42; omega
       refine JA.tkG 4 3 63 true _ rfl fx41 rfl rfl hg42 q0 ?_
       refine JA.tk 5 rfl fx41 (q11 hg42) ?_
       refine JA.tk 6 rfl fx41 q0 ?_
       refine JA.split 66 rfl (fun hg43 => ?_) (fun hg43 => ?_)
       ·
        have hdg : Ke.digits (rn s) = true := hg43
        have hd13 : Ke.digits ((rn s).take 12) = true := List.all_eq_true.2 fun c hc => List.all_eq_true.1 hdg c (List.mem_of_mem_take hc)
        obtain ⟨d, hg12⟩ : ∃ c, (rn s)[12]? = some c := ⟨_, List.getElem?_eq_getElem (by omega)⟩
        have hgd : ((rn s).map Ke.up).getD 12 0 = d := by rw [up_digits hdg, List.getD, hg12]; rfl
        refine JA.tkG 7 6 66 true _ rfl fx41 rfl rfl hg43 q0 ?_
        refine JA.tkG 9 6 66 true _ rfl fx41 rfl rfl hg43 q0 ?_
        refine JA.tkG 10 6 66 true _ rfl fx41 rfl rfl hg43 (q27 underlying9 hg12) ?_
        refine JA.stepG 8 6 66 true _ (by kernel_rfl) rfl rfl rfl rfl hg43 (op_pure rfl rfl rfl rfl rfl (rCheck_ok (rn s) (by omega) (by omega) hd13 _) ?_)
        refine ⟨fx0, ?_⟩
        refine JA.fix fx1 (fun fx44 => ?_)
        refine JA.tkG 11 6 66 true _ rfl fx44 rfl rfl hg43 q20 ?_
        refine JA.tk 12 rfl fx44 (q11 hg43) ?_
        refine JA.done (by kernel_rfl) ?_
        refine Ej.seq (Cj.cond rfl (fun hc45 => ?_) (fun hc45 => ?_))
        ·
         have hc45p := eq_of_beq hc45
         have hck : Ke.check ((rn s).map Ke.up) = ((rn s).map Ke.up).getD 12 0 := by have h := eq_of_beq hc45; rw [hgd, up_digits hdg]; exact UInt8.toNat_inj.1 (by omega)
         refine Cj.sr (J.z q0 ?_)
         refine J.z q1 ?_
         refine J.z q1 ?_
         refine J.ns (Cj.ret (Ej.seqRet (q19 ?_)))
         have he : Ke.isbn s = (rn s, true) := by rw [hiN]; unfold Ke.isbnN; rw [if_neg hno, if_pos ⟨hml.trans h13, (digits_up hnc).trans hdg, hck⟩, up_digits hdg]
         rw [he]
         exact ⟨rfl, rfl⟩
        ·
         have hc45p := ne_of_beq_false hc45
         have hno2 : ¬ (((rn s).map Ke.up).length = 13 ∧ Ke.digits ((rn s).map Ke.up) = true ∧ Ke.check ((rn s).map Ke.up) = ((rn s).map Ke.up).getD 12 0) := fun e => ne_of_beq_false hc45 (by have h := e.2.2; rw [hgd, up_digits hdg] at h; rw [h])
         refine Cj.skip (Ej.seq (Cj.sr (J.z q1 ?_)))
         refine J.z q1 ?_
         refine J.ns (Cj.ret (q19 ?_))
         have he : Ke.isbn s = ([], false) := by rw [hiN]; unfold Ke.isbnN; rw [if_neg hno, if_neg hno2]
         rw [he]
         exact ⟨rfl, rfl⟩
       ·
        have hno2 : ¬ (((rn s).map Ke.up).length = 13 ∧ Ke.digits ((rn s).map Ke.up) = true ∧ Ke.check ((rn s).map Ke.up) = ((rn s).map Ke.up).getD 12 0) := fun e => Bool.noConfusion (((digits_up hnc).symm.trans e.2.1).symm.trans hg43)
        refine q8 7 6 66 true fx41 (.inl (congrArg Value.bool hg43)) ?_
        refine q8 8 6 66 true fx41 (.inl (congrArg Value.bool hg43)) ?_
        refine q8 9 6 66 true fx41 (.inl (congrArg Value.bool hg43)) ?_
        refine q8 10 6 66 true fx41 (.inl (congrArg Value.bool hg43)) ?_
        refine q8 11 6 66 true fx41 (.inl (congrArg Value.bool hg43)) ?_
        refine JA.tk 12 rfl fx41 (q10 hg43) ?_
        refine JA.done (by kernel_rfl) ?_
        refine Ej.seq (Cj.cond rfl (fun hc46 => Bool.noConfusion (Eq.trans (Eq.symm rfl) hc46)) (fun hc46 => ?_))
        refine Cj.skip (Ej.seq (Cj.sr (J.z q1 ?_)))
        refine J.z q1 ?_
        refine J.ns (Cj.ret (q19 ?_))
        have he : Ke.isbn s = ([], false) := by rw [hiN]; unfold Ke.isbnN; rw [if_neg hno, if_neg hno2]
        rw [he]
        exact ⟨rfl, rfl⟩
      ·
       have hno2 : ¬ (((rn s).map Ke.up).length = 13 ∧ Ke.digits ((rn s).map Ke.up) = true ∧ Ke.check ((rn s).map Ke.up) = ((rn s).map Ke.up).getD 12 0) := fun e => ne_of_beq_false hg42 (by rw [← hml, e.1]; rfl)
       refine q8 4 3 63 true fx41 (.inl (congrArg Value.bool hg42)) ?_
       refine JA.tk 5 rfl fx41 (q10 hg42) ?_
       refine JA.tk 6 rfl fx41 q0 ?_
       refine q8 7 6 66 true fx41 (.inl (congrArg Value.bool rfl)) ?_
       refine q8 8 6 66 true fx41 (.inl (congrArg Value.bool rfl)) ?_
       refine q8 9 6 66 true fx41 (.inl (congrArg Value.bool rfl)) ?_
       refine q8 10 6 66 true fx41 (.inl (congrArg Value.bool rfl)) ?_
       refine q8 11 6 66 true fx41 (.inl (congrArg Value.bool rfl)) ?_
       refine JA.tk 12 rfl fx41 q21 ?_
       refine JA.done (by kernel_rfl) ?_
       refine Ej.seq (Cj.cond rfl (fun hc47 => Bool.noConfusion (Eq.trans (Eq.symm rfl) hc47)) (fun hc47 => ?_))
       refine Cj.skip (Ej.seq (Cj.sr (J.z q1 ?_)))
       refine J.z q1 ?_
       refine J.ns (Cj.ret (q19 ?_))
       have he : Ke.isbn s = ([], false) := by rw [hiN]; unfold Ke.isbnN; rw [if_neg hno, if_neg hno2]
       rw [he]
       exact ⟨rfl, rfl⟩
    ·
     have hc38p := ne_of_beq_false hc38
     have hno : ¬ (((rn s).map Ke.up).length = 10 ∧ Ke.rightShort ((rn s).map Ke.up) = true) := fun e => ne_of_beq_false hc38 (by rw [← hml, e.1]; rfl)
     refine Cj.skip (Ej.seq (Cj.sr (J.z q0 ?_)))
     refine J.op rfl (op_pure rfl rfl rfl rfl rfl (rdigits_ok (rn s) (by omega) _) ?_)
     refine J.z q1 ?_
     refine J.nsss (Cj.drawSel [] [] 13 (by kernel_rfl) ?_)
     refine JA.fix fx1 (fun fx48 => ?_)
     refine JA.tk 0 rfl fx48 q0 ?_
     refine JA.tk 1 rfl fx48 (q23 underlying9) ?_
     refine JA.tk 2 rfl fx48 q20 ?_
     refine JA.tk 3 rfl fx48 q0 ?_
     refine JA.split 63 rfl (fun hg49 => ?_) (fun hg49 => ?_)
     ·
      have h13 : (rn s).length = 13 := by have h := eq_of_beq hg49; omega
      refine JA.tkG 4 3 63 true _ rfl fx48 rfl rfl hg49 q0 ?_
      refine JA.tk 5 rfl fx48 (q11 hg49) ?_
      refine JA.tk 6 rfl fx48 q0 ?_
      refine JA.split 66 rfl (fun hg50 => ?_) (fun hg50 => ?_)
      ·
       have hdg : Ke.digits (rn s) = true := hg50
       have hd13 : Ke.digits ((rn s).take 12) = true := List.all_eq_true.2 fun c hc => List.all_eq_true.1 hdg c (List.mem_of_mem_take hc)
       obtain ⟨d, hg12⟩ : ∃ c, (rn s)[12]? = some c := ⟨_, List.getElem?_eq_getElem (by omega)⟩
       have hgd : ((rn s).map Ke.up).getD 12 0 = d := by rw [up_digits hdg, List.getD, hg12]; rfl
       refine JA.tkG 7 6 66 true _ rfl fx48 rfl rfl hg50 q0 ?_
       refine JA.tkG 9 6 66 true _ rfl fx48 rfl rfl hg50 q0 ?_
       refine JA.tkG 10 6 66 true _ rfl fx48 rfl rfl hg50 (q27 underlying9 hg12) ?_
       refine JA.stepG 8 6 66 true _ (by kernel_rfl) rfl rfl rfl rfl hg50 (op_pure rfl rfl rfl rfl rfl (rCheck_ok (rn s) (by omega) (by omega) hd13 _) ?_)
       refine ⟨fx0, ?_⟩
       refine JA.fix fx1 (fun fx51 => ?_)
       refine JA.tkG 11 6 66 true _ rfl fx51 rfl rfl hg50 q20 ?_
       refine JA.tk 12 rfl fx51 (q11 hg50) ?_
       refine JA.done (by kernel_rfl) ?_
       refine Ej.seq (Cj.cond rfl (fun hc52 => ?_) (fun hc52 => ?_))
       ·
        have hc52p := eq_of_beq hc52
        have hck : Ke.check ((rn s).map Ke.up) = ((rn s).map Ke.up).getD 12 0 := by have h := eq_of_beq hc52; rw [hgd, up_digits hdg]; exact UInt8.toNat_inj.1 (by omega)
        refine Cj.sr (J.z q0 ?_)
        refine J.z q1 ?_
        refine J.z q1 ?_
        refine J.ns (Cj.ret (Ej.seqRet (q19 ?_)))
        have he : Ke.isbn s = (rn s, true) := by rw [hiN]; unfold Ke.isbnN; rw [if_neg hno, if_pos ⟨hml.trans h13, (digits_up hnc).trans hdg, hck⟩, up_digits hdg]
        rw [he]
        exact ⟨rfl, rfl⟩
       ·
        have hc52p := ne_of_beq_false hc52
        have hno2 : ¬ (((rn s).map Ke.up).length = 13 ∧ Ke.digits ((rn s).map Ke.up) = true ∧ Ke.check ((rn s).map Ke.up) = ((rn s).map Ke.up).getD 12 0) := fun e => ne_of_beq_false hc52 (by have h := e.2.2; rw [hgd, up_digits hdg] at h; rw [h])
        refine Cj.skip (Ej.seq (Cj.sr (J.z q1 ?_)))
        refine J.z q1 ?_
        refine J.ns (Cj.ret (q19 ?_))
        have he : Ke.isbn s = ([], false) := by rw [hiN]; unfold Ke.isbnN; rw [if_neg hno, if_neg hno2]
        rw [he]
        exact ⟨rfl, rfl⟩
      ·
       have hno2 : ¬ (((rn s).map Ke.up).length = 13 ∧ Ke.digits ((rn s).map Ke.up) = true ∧ Ke.check ((rn s).map Ke.up) = ((rn s).map Ke.up).getD 12 0) := fun e => Bool.noConfusion (((digits_up hnc).symm.trans e.2.1).symm.trans hg50)
       refine q8 7 6 66 true fx48 (.inl (congrArg Value.bool hg50)) ?_
       refine q8 8 6 66 true fx48 (.inl (congrArg Value.bool hg50)) ?_
       refine q8 9 6 66 true fx48 (.inl (congrArg Value.bool hg50)) ?_
       refine q8 10 6 66 true fx48 (.inl (congrArg Value.bool hg50)) ?_
       refine q8 11 6 66 true fx48 (.inl (congrArg Value.bool hg50)) ?_
       refine JA.tk 12 rfl fx48 (q10 hg50) ?_
       refine JA.done (by kernel_rfl) ?_
       refine Ej.seq (Cj.cond rfl (fun hc53 => Bool.noConfusion (Eq.trans (Eq.symm rfl) hc53)) (fun hc53 => ?_))
       refine Cj.skip (Ej.seq (Cj.sr (J.z q1 ?_)))
       refine J.z q1 ?_
       refine J.ns (Cj.ret (q19 ?_))
       have he : Ke.isbn s = ([], false) := by rw [hiN]; unfold Ke.isbnN; rw [if_neg hno, if_neg hno2]
       rw [he]
       exact ⟨rfl, rfl⟩
     ·
      have hno2 : ¬ (((rn s).map Ke.up).length = 13 ∧ Ke.digits ((rn s).map Ke.up) = true ∧ Ke.check ((rn s).map Ke.up) = ((rn s).map Ke.up).getD 12 0) := fun e => ne_of_beq_false hg49 (by rw [← hml, e.1]; rfl)
      refine q8 4 3 63 true fx48 (.inl (congrArg Value.bool hg49)) ?_
      refine JA.tk 5 rfl fx48 (q10 hg49) ?_
      refine JA.tk 6 rfl fx48 q0 ?_
      refine q8 7 6 66 true fx48 (.inl (congrArg Value.bool rfl)) ?_
      refine q8 8 6 66 true fx48 (.inl (congrArg Value.bool rfl)) ?_
      refine q8 9 6 66 true fx48 (.inl (congrArg Value.bool rfl)) ?_
      refine q8 10 6 66 true fx48 (.inl (congrArg Value.bool rfl)) ?_
      refine q8 11 6 66 true fx48 (.inl (congrArg Value.bool rfl)) ?_
      refine JA.tk 12 rfl fx48 q21 ?_
      refine JA.done (by kernel_rfl) ?_
      refine Ej.seq (Cj.cond rfl (fun hc54 => Bool.noConfusion (Eq.trans (Eq.symm rfl) hc54)) (fun hc54 => ?_))
      refine Cj.skip (Ej.seq (Cj.sr (J.z q1 ?_)))
      refine J.z q1 ?_
      refine J.ns (Cj.ret (q19 ?_))
      have he : Ke.isbn s = ([], false) := by rw [hiN]; unfold Ke.isbnN; rw [if_neg hno, if_neg hno2]
      rw [he]
      exact ⟨rfl, rfl⟩
   ·
    have hc37p := bne_f hc37
    have h42 : (c.toNat : Int) = 45 := by have h := hc37; rw [bne_eq_false_iff_eq] at h; exact h
    refine Cj.skip (Ej.blkNormal (Ej.seq ?_))
    have hk := sp_ok (c := c) (by omega)
    have hnx := fil_next hget
    rw [hk.2, if_neg (by decide), List.append_nil] at hnx
    refine Cj.region (J.z q0 ?_)
    refine J.z (yl_add rfl rfl rfl (w64 (by omega))) ?_
    refine J.z q1 ?_
    refine J.nil (Ej.round (j + 1) ⟨by omega, all_next hall hget hk.1⟩ (by omega) ⟨rfl, by rw [hnx]; rfl, rfl, trivial⟩ rfl rfl)
  have h20 := of_decide_eq_true hg2
  refine q5 2 20 true hg2 (q2 q0 ?_)
  refine q5 2 20 true hg2 (q2 (yl_leq rfl rfl rfl) ?_)
  refine J.z (q11 hg2) ?_
  refine J.z q0 ?_
  refine J.split 24 rfl (fun hg3 => ?_) (fun hg3 => ?_)
  ·
   have h24 := of_decide_eq_true hg3
   refine q4 6 24 25 false hg3 ?_
   refine q4 6 24 26 false hg3 ?_
   refine J.z (q11 hg3) ?_
   refine J.z q0 ?_
   refine J.sk 10 28 29 rfl ?_
   refine J.sk 10 28 30 rfl ?_
   refine J.z (yl_pick1 rfl rfl rfl rfl) ?_
   refine J.c1 (fun hc4 => ?_)
   have hk := ch_ok (c := c) (by omega)
   refine Cj.region (J.z q0 ?_)
   refine J.z q0 ?_
   refine J.op rfl (q13 underlying71 sizeOf5 zeroValue5 (LCat.one rfl LCat.none) ?_)
   intro b5 hb5
   refine J.z (yl_toStr [c] rfl rfl rfl underlying71 underlying9 underlying5 (Blk.at 0 rfl) rfl) ?_
   refine J.z (yl_cat rfl rfl rfl (by first | omega | (simp only [List.length_append]; omega) | (simp; omega))) ?_
   refine J.z q1 ?_
   refine J.nil (Ej.blkNormal (Ej.seq ?_))
   have hnx := fil_next hget
   rw [hk.2, if_pos rfl] at hnx
   refine Cj.region (J.z q0 ?_)
   refine J.z (yl_add rfl rfl rfl (w64 (by omega))) ?_
   refine J.z q1 ?_
   refine J.nil (Ej.keep (Keeps.d Keeps.n) ?_)
   refine Ej.round (j + 1) ⟨by omega, all_next hall hget hk.1⟩ (by omega) ⟨rfl, by rw [hnx]; rfl, rfl, trivial⟩ rfl rfl
  ·
   have h24 := of_decide_eq_false hg3
   refine q5 6 24 false hg3 (q2 q0 ?_)
   refine q5 6 24 false hg3 (q2 q20 ?_)
   refine J.z (q10 hg3) ?_
   refine J.z q0 ?_
   refine J.split 28 rfl (fun hg6 => ?_) (fun hg6 => ?_)
   ·
    have h28 := eq_of_beq hg6
    refine q4 10 28 29 false hg6 ?_
    refine q4 10 28 30 false hg6 ?_
    refine J.z (q11 hg6) ?_
    refine J.c1 (fun hc7 => ?_)
    have hk := ch_ok (c := c) (by omega)
    refine Cj.region (J.z q0 ?_)
    refine J.z q0 ?_
    refine J.op rfl (q13 underlying71 sizeOf5 zeroValue5 (LCat.one rfl LCat.none) ?_)
    intro b8 hb8
    refine J.z (yl_toStr [c] rfl rfl rfl underlying71 underlying9 underlying5 (Blk.at 0 rfl) rfl) ?_
    refine J.z (yl_cat rfl rfl rfl (by first | omega | (simp only [List.length_append]; omega) | (simp; omega))) ?_
    refine J.z q1 ?_
    refine J.nil (Ej.blkNormal (Ej.seq ?_))
    have hnx := fil_next hget
    rw [hk.2, if_pos rfl] at hnx
    refine Cj.region (J.z q0 ?_)
    refine J.z (yl_add rfl rfl rfl (w64 (by omega))) ?_
    refine J.z q1 ?_
    refine J.nil (Ej.keep (Keeps.d Keeps.n) ?_)
    refine Ej.round (j + 1) ⟨by omega, all_next hall hget hk.1⟩ (by omega) ⟨rfl, by rw [hnx]; rfl, rfl, trivial⟩ rfl rfl
   ·
    have h28 := ne_of_beq_false hg6
    refine q5 10 28 false hg6 (q2 q0 ?_)
    refine q5 10 28 false hg6 (q2 q20 ?_)
    refine J.z (q10 hg6) ?_
    refine J.cd (fun hc9 => ?_) (fun hc9 => ?_)
    ·
     have hc9p := eq_of_beq hc9
     have h31 := eq_of_beq hc9
     have hk := ch_ok (c := c) (by omega)
     refine Cj.region (J.z q0 ?_)
     refine J.z q0 ?_
     refine J.op rfl (q13 underlying71 sizeOf5 zeroValue5 (LCat.one rfl LCat.none) ?_)
     intro b10 hb10
     refine J.z (yl_toStr [c] rfl rfl rfl underlying71 underlying9 underlying5 (Blk.at 0 rfl) rfl) ?_
     refine J.z (yl_cat rfl rfl rfl (by first | omega | (simp only [List.length_append]; omega) | (simp; omega))) ?_
     refine J.z q1 ?_
     refine J.nil (Ej.blkNormal (Ej.seq ?_))
     have hnx := fil_next hget
     rw [hk.2, if_pos rfl] at hnx
     refine Cj.region (J.z q0 ?_)
     refine J.z (yl_add rfl rfl rfl (w64 (by omega))) ?_
     refine J.z q1 ?_
     refine J.nil (Ej.keep (Keeps.d Keeps.n) ?_)
     refine Ej.round (j + 1) ⟨by omega, all_next hall hget hk.1⟩ (by omega) ⟨rfl, by rw [hnx]; rfl, rfl, trivial⟩ rfl rfl
    ·
     have hc9p := ne_of_beq_false hc9
     have h31 := ne_of_beq_false hc9
     refine Cj.sr (J.z q0 ?_)
     refine J.z (yl_neq rfl rfl rfl) ?_
     refine J.z q0 ?_
     refine J.split 39 rfl (fun hg11 => ?_) (fun hg11 => ?_)
     ·
      have h39 := bne_iff_ne.1 hg11
      refine q5 2 39 true hg11 (q2 q0 ?_)
      refine q5 2 39 true hg11 (q2 (yl_neq rfl rfl rfl) ?_)
      refine J.z (q11 hg11) ?_
      refine J.cd (fun hc12 => ?_) (fun hc12 => ?_)
      ·
       have hc12p := bne_iff_ne.1 hc12
       have h42 := bne_iff_ne.1 hc12
       have hout := rn_cut hall hget (bad_ok (by omega))
       rw [hout]
       have hnl := rn_len s
       have hnc := rn_chars s
       have hiN : Ke.isbn s = Ke.isbnN ((rn s).map Ke.up) := rfl
       have hml : ((rn s).map Ke.up).length = (rn s).length := List.length_map _
       refine Cj.exit (Ej.blkOther rfl ?_)
       refine Ej.seqExit (Ej.loopExit (Ej.blkExit (Ej.seq (Cj.seq (Cj.sr (J.z q0 ?_))))))
       refine J.z (q23 underlying9) ?_
       refine J.z q20 ?_
       refine J.cd (fun hc13 => ?_) (fun hc13 => ?_)
       ·
        have hc13p := eq_of_beq hc13
        have h10 : (rn s).length = 10 := by have h := eq_of_beq hc13; omega
        refine Cj.sr (J.z q0 ?_)
        refine J.op rfl (op_pure rfl rfl rfl rfl rfl (ten_ok (rn s) h10 hnc _) ?_)
        refine J.z q1 ?_
        refine J.nssr (J.z q0 ?_)
        refine J.cd (fun hc14 => ?_) (fun hc14 => ?_)
        ·
         have hrs : Ke.rightShort ((rn s).map Ke.up) = true := hc14
         have hd9 : Ke.digits ((rn s).take 9) = true := by rw [← digits_up (fun c hc => hnc c (List.mem_of_mem_take hc)), List.map_take]; exact (Bool.and_eq_true_iff.1 hrs).2
         have htk9 : ((rn s).map Ke.up).take 9 = (rn s).take 9 := by rw [← List.map_take, up_digits hd9]
         have hd12 := digits_12 (b := []) hd9 (by rw [List.length_take]; omega)
         rw [List.append_nil] at hd12
         refine Cj.sr (J.z q0 ?_)
         refine J.z (yl_sliceStr (p := 0) (q := 9) rfl rfl underlying9 rfl ⟨_, rfl⟩ (by omega) (by omega)) ?_
         refine J.eqv 50 rfl (show _ = str ((rn s).take 9) from (by rw [List.drop_zero])) ?_
         refine J.z (yl_cat rfl rfl rfl (by first | omega | (simp only [List.length_append]; omega) | (simp; omega))) ?_
         refine J.z q1 ?_
         refine J.nssr (J.z q0 ?_)
         refine J.z q0 ?_
         refine J.op rfl (op_pure rfl rfl rfl rfl rfl (rCheck_ok _ (by simp; omega) (by simp; omega) hd12 _) ?_)
         refine J.op rfl (q13 underlying71 sizeOf5 zeroValue5 (LCat.one rfl LCat.none) ?_)
         intro b15 hb15
         refine J.z (yl_toStr [Ke.check ([57, 55, 56] ++ (rn s).take 9)] rfl rfl rfl underlying71 underlying9 underlying5 (Blk.at 0 rfl) rfl) ?_
         refine J.z (yl_cat rfl rfl rfl (by first | omega | (simp only [List.length_append]; omega) | (simp; omega))) ?_
         refine J.z q1 ?_
         refine J.z q1 ?_
         refine J.ns (Cj.ret (Ej.seqRet (Ej.bare ?_)))
         refine q19 ?_
         have he : Ke.isbn s = ([57, 55, 56] ++ (rn s).take 9 ++ [Ke.check ([57, 55, 56] ++ (rn s).take 9)], true) := by rw [hiN]; unfold Ke.isbnN; rw [if_pos ⟨hml.trans h10, hrs⟩, htk9]
         rw [he]
         exact ⟨rfl, rfl⟩
        ·
         have hno : ¬ (((rn s).map Ke.up).length = 10 ∧ Ke.rightShort ((rn s).map Ke.up) = true) := fun e => Bool.noConfusion (e.2.symm.trans hc14)
         refine Cj.skip (Ej.seq (Cj.sr (J.z q0 ?_)))
         refine J.op rfl (op_pure rfl rfl rfl rfl rfl (rdigits_ok (rn s) (by omega) _) ?_)
         refine J.z q1 ?_
         refine J.nsss (Cj.drawSel [] [] 13 (by kernel_rfl) ?_)
         refine JA.fix fx1 (fun fx16 => ?_)
         refine JA.tk 0 rfl fx16 q0 ?_
         refine JA.tk 1 rfl fx16 (q23 underlying9) ?_
         refine JA.tk 2 rfl fx16 q20 ?_
         refine JA.tk 3 rfl fx16 q0 ?_
         refine JA.split 63 rfl (fun hg17 => ?_) (fun hg17 => ?_)
         ·
          have h13 : (rn s).length = 13 := by have h := eq_of_beq hg17; omega
          refine JA.tkG 4 3 63 true _ rfl fx16 rfl rfl hg17 q0 ?_
          refine JA.tk 5 rfl fx16 (q11 hg17) ?_
          refine JA.tk 6 rfl fx16 q0 ?_
          refine JA.split 66 rfl (fun hg18 => ?_) (fun hg18 => ?_)
          ·
           have hdg : Ke.digits (rn s) = true := hg18
           have hd13 : Ke.digits ((rn s).take 12) = true := List.all_eq_true.2 fun c hc => List.all_eq_true.1 hdg c (List.mem_of_mem_take hc)
           obtain ⟨d, hg12⟩ : ∃ c, (rn s)[12]? = some c := ⟨_, List.getElem?_eq_getElem (by omega)⟩
           have hgd : ((rn s).map Ke.up).getD 12 0 = d := by rw [up_digits hdg, List.getD, hg12]; rfl
           refine JA.tkG 7 6 66 true _ rfl fx16 rfl rfl hg18 q0 ?_
           refine JA.tkG 9 6 66 true _ rfl fx16 rfl rfl hg18 q0 ?_
           refine JA.tkG 10 6 66 true _ rfl fx16 rfl rfl hg18 (q27 underlying9 hg12) ?_
           refine JA.stepG 8 6 66 true _ (by kernel_rfl) rfl rfl rfl rfl hg18 (op_pure rfl rfl rfl rfl rfl (rCheck_ok (rn s) (by omega) (by omega) hd13 _) ?_)
           refine ⟨fx0, ?_⟩
           refine JA.fix fx1 (fun fx19 => ?_)
           refine JA.tkG 11 6 66 true _ rfl fx19 rfl rfl hg18 q20 ?_
           refine JA.tk 12 rfl fx19 (q11 hg18) ?_
           refine JA.done (by kernel_rfl) ?_
           refine Ej.seq (Cj.cond rfl (fun hc20 => ?_) (fun hc20 => ?_))
           ·
            have hc20p := eq_of_beq hc20
            have hck : Ke.check ((rn s).map Ke.up) = ((rn s).map Ke.up).getD 12 0 := by have h := eq_of_beq hc20; rw [hgd, up_digits hdg]; exact UInt8.toNat_inj.1 (by omega)
            refine Cj.sr (J.z q0 ?_)
            refine J.z q1 ?_
            refine J.z q1 ?_
            refine J.ns (Cj.ret (Ej.seqRet (q19 ?_)))
            have he : Ke.isbn s = (rn s, true) := by rw [hiN]; unfold Ke.isbnN; rw [if_neg hno, if_pos ⟨hml.trans h13, (digits_up hnc).trans hdg, hck⟩, up_digits hdg]
            rw [he]
            exact ⟨rfl, rfl⟩
           ·
            have hc20p := ne_of_beq_false hc20
            have hno2 : ¬ (((rn s).map Ke.up).length = 13 ∧ Ke.digits ((rn s).map Ke.up) = true ∧ Ke.check ((rn s).map Ke.up) = ((rn s).map Ke.up).getD 12 0) := fun e => ne_of_beq_false hc20 (by have h := e.2.2; rw [hgd, up_digits hdg] at h; rw [h])
            refine Cj.skip (Ej.seq (Cj.sr (J.z q1 ?_)))
            refine J.z q1 ?_
            refine J.ns (Cj.ret (q19 ?_))
            have he : Ke.isbn s = ([], false) := by rw [hiN]; unfold Ke.isbnN; rw [if_neg hno, if_neg hno2]
            rw [he]
            exact ⟨rfl, rfl⟩
          ·
           have hno2 : ¬ (((rn s).map Ke.up).length = 13 ∧ Ke.digits ((rn s).map Ke.up) = true ∧ Ke.check ((rn s).map Ke.up) = ((rn s).map Ke.up).getD 12 0) := fun e => Bool.noConfusion (((digits_up hnc).symm.trans e.2.1).symm.trans hg18)
           refine q8 7 6 66 true fx16 (.inl (congrArg Value.bool hg18)) ?_
           refine q8 8 6 66 true fx16 (.inl (congrArg Value.bool hg18)) ?_
           refine q8 9 6 66 true fx16 (.inl (congrArg Value.bool hg18)) ?_
           refine q8 10 6 66 true fx16 (.inl (congrArg Value.bool hg18)) ?_
           refine q8 11 6 66 true fx16 (.inl (congrArg Value.bool hg18)) ?_
           refine JA.tk 12 rfl fx16 (q10 hg18) ?_
           refine JA.done (by kernel_rfl) ?_
           refine Ej.seq (Cj.cond rfl (fun hc21 => Bool.noConfusion (Eq.trans (Eq.symm rfl) hc21)) (fun hc21 => ?_))
           refine Cj.skip (Ej.seq (Cj.sr (J.z q1 ?_)))
           refine J.z q1 ?_
           refine J.ns (Cj.ret (q19 ?_))
           have he : Ke.isbn s = ([], false) := by rw [hiN]; unfold Ke.isbnN; rw [if_neg hno, if_neg hno2]
           rw [he]
           exact ⟨rfl, rfl⟩
         ·
          have hno2 : ¬ (((rn s).map Ke.up).length = 13 ∧ Ke.digits ((rn s).map Ke.up) = true ∧ Ke.check ((rn s).map Ke.up) = ((rn s).map Ke.up).getD 12 0) := fun e => ne_of_beq_false hg17 (by rw [← hml, e.1]; rfl)
          refine q8 4 3 63 true fx16 (.inl (congrArg Value.bool hg17)) ?_
          refine JA.tk 5 rfl fx16 (q10 hg17) ?_
          refine JA.tk 6 rfl fx16 q0 ?_
          refine q8 7 6 66 true fx16 (.inl (congrArg Value.bool rfl)) ?_
          refine q8 8 6 66 true fx16 (.inl (congrArg Value.bool rfl)) ?_
          refine q8 9 6 66 true fx16 (.inl (congrArg Value.bool rfl)) ?_
          refine q8 10 6 66 true fx16 (.inl (congrArg Value.bool rfl)) ?_
          refine q8 11 6 66 true fx16 (.inl (congrArg Value.bool rfl)) ?_
          refine JA.tk 12 rfl fx16 q21 ?_
          refine JA.done (by kernel_rfl) ?_
          refine Ej.seq (Cj.cond rfl (fun hc22 => Bool.noConfusion (Eq.trans (Eq.symm rfl) hc22)) (fun hc22 => ?_))
          refine Cj.skip (Ej.seq (Cj.sr (J.z q1 ?_)))
          refine J.z q1 ?_
          refine J.ns (Cj.ret (q19 ?_))
          have he : Ke.isbn s = ([], false) := by rw [hiN]; unfold Ke.isbnN; rw [if_neg hno, if_neg hno2]
          rw [he]
          exact ⟨rfl, rfl⟩
       ·
        have hc13p := ne_of_beq_false hc13
        have hno : ¬ (((rn s).map Ke.up).length = 10 ∧ Ke.rightShort ((rn s).map Ke.up) = true) := fun e => ne_of_beq_false hc13 (by rw [← hml, e.1]; rfl)
        refine Cj.skip (Ej.seq (Cj.sr (J.z q0 ?_)))
        refine J.op rfl (op_pure rfl rfl rfl rfl rfl (rdigits_ok (rn s) (by omega) _) ?_)
        refine J.z q1 ?_
        refine J.nsss (Cj.drawSel [] [] 13 (by kernel_rfl) ?_)
        refine JA.fix fx1 (fun fx23 => ?_)
        refine JA.tk 0 rfl fx23 q0 ?_
        refine JA.tk 1 rfl fx23 (q23 underlying9) ?_
        refine JA.tk 2 rfl fx23 q20 ?_
        refine JA.tk 3 rfl fx23 q0 ?_
        refine JA.split 63 rfl (fun hg24 => ?_) (fun hg24 => ?_)
        ·
         have h13 : (rn s).length = 13 := by have h := eq_of_beq hg24; omega
         refine JA.tkG 4 3 63 true _ rfl fx23 rfl rfl hg24 q0 ?_
         refine JA.tk 5 rfl fx23 (q11 hg24) ?_
         refine JA.tk 6 rfl fx23 q0 ?_
         refine JA.split 66 rfl (fun hg25 => ?_) (fun hg25 => ?_)
         ·
          have hdg : Ke.digits (rn s) = true := hg25
          have hd13 : Ke.digits ((rn s).take 12) = true := List.all_eq_true.2 fun c hc => List.all_eq_true.1 hdg c (List.mem_of_mem_take hc)
          obtain ⟨d, hg12⟩ : ∃ c, (rn s)[12]? = some c := ⟨_, List.getElem?_eq_getElem (by omega)⟩
          have hgd : ((rn s).map Ke.up).getD 12 0 = d := by rw [up_digits hdg, List.getD, hg12]; rfl
          refine JA.tkG 7 6 66 true _ rfl fx23 rfl rfl hg25 q0 ?_
          refine JA.tkG 9 6 66 true _ rfl fx23 rfl rfl hg25 q0 ?_
          refine JA.tkG 10 6 66 true _ rfl fx23 rfl rfl hg25 (q27 underlying9 hg12) ?_
          refine JA.stepG 8 6 66 true _ (by kernel_rfl) rfl rfl rfl rfl hg25 (op_pure rfl rfl rfl rfl rfl (rCheck_ok (rn s) (by omega) (by omega) hd13 _) ?_)
          refine ⟨fx0, ?_⟩
          refine JA.fix fx1 (fun fx26 => ?_)
          refine JA.tkG 11 6 66 true _ rfl fx26 rfl rfl hg25 q20 ?_
          refine JA.tk 12 rfl fx26 (q11 hg25) ?_
          refine JA.done (by kernel_rfl) ?_
          refine Ej.seq (Cj.cond rfl (fun hc27 => ?_) (fun hc27 => ?_))
          ·
           have hc27p := eq_of_beq hc27
           have hck : Ke.check ((rn s).map Ke.up) = ((rn s).map Ke.up).getD 12 0 := by have h := eq_of_beq hc27; rw [hgd, up_digits hdg]; exact UInt8.toNat_inj.1 (by omega)
           refine Cj.sr (J.z q0 ?_)
           refine J.z q1 ?_
           refine J.z q1 ?_
           refine J.ns (Cj.ret (Ej.seqRet (q19 ?_)))
           have he : Ke.isbn s = (rn s, true) := by rw [hiN]; unfold Ke.isbnN; rw [if_neg hno, if_pos ⟨hml.trans h13, (digits_up hnc).trans hdg, hck⟩, up_digits hdg]
           rw [he]
           exact ⟨rfl, rfl⟩
          ·
           have hc27p := ne_of_beq_false hc27
           have hno2 : ¬ (((rn s).map Ke.up).length = 13 ∧ Ke.digits ((rn s).map Ke.up) = true ∧ Ke.check ((rn s).map Ke.up) = ((rn s).map Ke.up).getD 12 0) := fun e => ne_of_beq_false hc27 (by have h := e.2.2; rw [hgd, up_digits hdg] at h; rw [h])
           refine Cj.skip (Ej.seq (Cj.sr (J.z q1 ?_)))
           refine J.z q1 ?_
           refine J.ns (Cj.ret (q19 ?_))
           have he : Ke.isbn s = ([], false) := by rw [hiN]; unfold Ke.isbnN; rw [if_neg hno, if_neg hno2]
           rw [he]
           exact ⟨rfl, rfl⟩
         ·
          have hno2 : ¬ (((rn s).map Ke.up).length = 13 ∧ Ke.digits ((rn s).map Ke.up) = true ∧ Ke.check ((rn s).map Ke.up) = ((rn s).map Ke.up).getD 12 0) := fun e => Bool.noConfusion (((digits_up hnc).symm.trans e.2.1).symm.trans hg25)
          refine q8 7 6 66 true fx23 (.inl (congrArg Value.bool hg25)) ?_
          refine q8 8 6 66 true fx23 (.inl (congrArg Value.bool hg25)) ?_
          refine q8 9 6 66 true fx23 (.inl (congrArg Value.bool hg25)) ?_
          refine q8 10 6 66 true fx23 (.inl (congrArg Value.bool hg25)) ?_
          refine q8 11 6 66 true fx23 (.inl (congrArg Value.bool hg25)) ?_
          refine JA.tk 12 rfl fx23 (q10 hg25) ?_
          refine JA.done (by kernel_rfl) ?_
          refine Ej.seq (Cj.cond rfl (fun hc28 => Bool.noConfusion (Eq.trans (Eq.symm rfl) hc28)) (fun hc28 => ?_))
          refine Cj.skip (Ej.seq (Cj.sr (J.z q1 ?_)))
          refine J.z q1 ?_
          refine J.ns (Cj.ret (q19 ?_))
          have he : Ke.isbn s = ([], false) := by rw [hiN]; unfold Ke.isbnN; rw [if_neg hno, if_neg hno2]
          rw [he]
          exact ⟨rfl, rfl⟩
        ·
         have hno2 : ¬ (((rn s).map Ke.up).length = 13 ∧ Ke.digits ((rn s).map Ke.up) = true ∧ Ke.check ((rn s).map Ke.up) = ((rn s).map Ke.up).getD 12 0) := fun e => ne_of_beq_false hg24 (by rw [← hml, e.1]; rfl)
         refine q8 4 3 63 true fx23 (.inl (congrArg Value.bool hg24)) ?_
         refine JA.tk 5 rfl fx23 (q10 hg24) ?_
         refine JA.tk 6 rfl fx23 q0 ?_
         refine q8 7 6 66 true fx23 (.inl (congrArg Value.bool rfl)) ?_
         refine q8 8 6 66 true fx23 (.inl (congrArg Value.bool rfl)) ?_
         refine q8 9 6 66 true fx23 (.inl (congrArg Value.bool rfl)) ?_
         refine q8 10 6 66 true fx23 (.inl (congrArg Value.bool rfl)) ?_
         refine q8 11 6 66 true fx23 (.inl (congrArg Value.bool rfl)) ?_
         refine JA.tk 12 rfl fx23 q21 ?_
         refine JA.done (by kernel_rfl) ?_
         refine Ej.seq (Cj.cond rfl (fun hc29 => Bool.noConfusion (Eq.trans (Eq.symm rfl) hc29)) (fun hc29 => ?_))
         refine Cj.skip (Ej.seq (Cj.sr (J.z q1 ?_)))
         refine J.z q1 ?_
         refine J.ns (Cj.ret (q19 ?_))
         have he : Ke.isbn s = ([], false) := by rw [hiN]; unfold Ke.isbnN; rw [if_neg hno, if_neg hno2]
         rw [he]
         exact ⟨rfl, rfl⟩
      ·
       have hc12p := bne_f hc12
       have h42 : (c.toNat : Int) = 45 := by have h := hc12; rw [bne_eq_false_iff_eq] at h; exact h
       refine Cj.skip (Ej.blkNormal (Ej.seq ?_))
       have hk := sp_ok (c := c) (by omega)
       have hnx := fil_next hget
       rw [hk.2, if_neg (by decide), List.append_nil] at hnx
       refine Cj.region (J.z q0 ?_)
       refine J.z (yl_add rfl rfl rfl (w64 (by omega))) ?_
       refine J.z q1 ?_
       refine J.nil (Ej.round (j + 1) ⟨by omega, all_next hall hget hk.1⟩ (by omega) ⟨rfl, by rw [hnx]; rfl, rfl, trivial⟩ rfl rfl)
     ·
      have h39 : (c.toNat : Int) = 32 := by have h := hg11; rw [bne_eq_false_iff_eq] at h; exact h
      refine q4 2 39 40 true hg11 ?_
      refine q4 2 39 41 true hg11 ?_
      refine J.z (q10 hg11) ?_
      refine J.c0 (fun hc30 => ?_)
      refine Cj.skip (Ej.blkNormal (Ej.seq ?_))
      have hk := sp_ok (c := c) (by omega)
      have hnx := fil_next hget
      rw [hk.2, if_neg (by decide), List.append_nil] at hnx
      refine Cj.region (J.z q0 ?_)
      refine J.z (yl_add rfl rfl rfl (w64 (by omega))) ?_
      refine J.z q1 ?_
      refine J.nil (Ej.round (j + 1) ⟨by omega, all_next hall hget hk.1⟩ (by omega) ⟨rfl, by rw [hnx]; rfl, rfl, trivial⟩ rfl rfl)
 have hc1p := of_decide_eq_false hc1
 have hout := rn_full (s := s) (j := j) (by omega) hall
 rw [hout]
 have hnl := rn_len s
 have hnc := rn_chars s
 have hiN : Ke.isbn s = Ke.isbnN ((rn s).map Ke.up) := rfl
 have hml : ((rn s).map Ke.up).length = (rn s).length := List.length_map _
 refine Cj.exit (Ej.seqExit (Ej.loopExit (Ej.blkExit (Ej.seq (Cj.seq (Cj.sr (J.z q0 ?_)))))))
 refine J.z (q23 underlying9) ?_
 refine J.z q20 ?_
 refine J.cd (fun hc56 => ?_) (fun hc56 => ?_)
 ·
  have hc56p := eq_of_beq hc56
  have h10 : (rn s).length = 10 := by have h := eq_of_beq hc56; omega
  refine Cj.sr (J.z q0 ?_)
  refine J.op rfl (op_pure rfl rfl rfl rfl rfl (ten_ok (rn s) h10 hnc _) ?_)
  refine J.z q1 ?_
  refine J.nssr (J.z q0 ?_)
  refine J.cd (fun hc57 => ?_) (fun hc57 => ?_)
  ·
   have hrs : Ke.rightShort ((rn s).map Ke.up) = true := hc57
   have hd9 : Ke.digits ((rn s).take 9) = true := by rw [← digits_up (fun c hc => hnc c (List.mem_of_mem_take hc)), List.map_take]; exact (Bool.and_eq_true_iff.1 hrs).2
   have htk9 : ((rn s).map Ke.up).take 9 = (rn s).take 9 := by rw [← List.map_take, up_digits hd9]
   have hd12 := digits_12 (b := []) hd9 (by rw [List.length_take]; omega)
   rw [List.append_nil] at hd12
   refine Cj.sr (J.z q0 ?_)
   refine J.z (yl_sliceStr (p := 0) (q := 9) rfl rfl underlying9 rfl ⟨_, rfl⟩ (by omega) (by omega)) ?_
   refine J.eqv 50 rfl (show _ = str ((rn s).take 9) from (by rw [List.drop_zero])) ?_
   refine J.z (yl_cat rfl rfl rfl (by first | omega | (simp only [List.length_append]; omega) | (simp; omega))) ?_
   refine J.z q1 ?_
   refine J.nssr (J.z q0 ?_)
   refine J.z q0 ?_
   refine J.op rfl (op_pure rfl rfl rfl rfl rfl (rCheck_ok _ (by simp; omega) (by simp; omega) hd12 _) ?_)
   refine J.op rfl (q13 underlying71 sizeOf5 zeroValue5 (LCat.one rfl LCat.none) ?_)
   intro b58 hb58
   refine J.z (yl_toStr [Ke.check ([57, 55, 56] ++ (rn s).take 9)] rfl rfl rfl underlying71 underlying9 underlying5 (Blk.at 0 rfl) rfl) ?_
   refine J.z (yl_cat rfl rfl rfl (by first | omega | (simp only [List.length_append]; omega) | (simp; omega))) ?_
   refine J.z q1 ?_
   refine J.z q1 ?_
   refine J.ns (Cj.ret (Ej.seqRet (Ej.bare ?_)))
   refine q19 ?_
   have he : Ke.isbn s = ([57, 55, 56] ++ (rn s).take 9 ++ [Ke.check ([57, 55, 56] ++ (rn s).take 9)], true) := by rw [hiN]; unfold Ke.isbnN; rw [if_pos ⟨hml.trans h10, hrs⟩, htk9]
   rw [he]
   exact ⟨rfl, rfl⟩
  have hno : ¬ (((rn s).map Ke.up).length = 10 ∧ Ke.rightShort ((rn s).map Ke.up) = true) := fun e => Bool.noConfusion (e.2.symm.trans hc57)
  refine Cj.skip (Ej.seq (Cj.sr (J.z q0 ?_)))
  refine J.op rfl (op_pure rfl rfl rfl rfl rfl (rdigits_ok (rn s) (by omega) _) ?_)
  refine J.z q1 ?_
  refine J.nsss (Cj.drawSel [] [] 13 (by kernel_rfl) ?_)
  refine JA.fix fx1 (fun fx59 => ?_)
  refine JA.tk 0 rfl fx59 q0 ?_
  refine JA.tk 1 rfl fx59 (q23 underlying9) ?_
  refine JA.tk 2 rfl fx59 q20 ?_
  refine JA.tk 3 rfl fx59 q0 ?_
  refine JA.split 63 rfl (fun hg60 => ?_) (fun hg60 => ?_)
  rotate_left
  ·
   have hno2 : ¬ (((rn s).map Ke.up).length = 13 ∧ Ke.digits ((rn s).map Ke.up) = true ∧ Ke.check ((rn s).map Ke.up) = ((rn s).map Ke.up).getD 12 0) := fun e => ne_of_beq_false hg60 (by rw [← hml, e.1]; rfl)
   refine q8 4 3 63 true fx59 (.inl (congrArg Value.bool hg60)) ?_
   refine JA.tk 5 rfl fx59 (q10 hg60) ?_
   refine JA.tk 6 rfl fx59 q0 ?_
   refine q8 7 6 66 true fx59 (.inl (congrArg Value.bool rfl)) ?_
   refine q8 8 6 66 true fx59 (.inl (congrArg Value.bool rfl)) ?_
   refine q8 9 6 66 true fx59 (.inl (congrArg Value.bool rfl)) ?_
   refine q8 10 6 66 true fx59 (.inl (congrArg Value.bool rfl)) ?_
   refine q8 11 6 66 true fx59 (.inl (congrArg Value.bool rfl)) ?_
   refine JA.tk 12 rfl fx59 q21 ?_
   refine JA.done (by kernel_rfl) ?_
   refine Ej.seq (Cj.cond rfl (fun hc65 => Bool.noConfusion (Eq.trans (Eq.symm rfl) hc65)) (fun hc65 => ?_))
   refine Cj.skip (Ej.seq (Cj.sr (J.z q1 ?_)))
   refine J.z q1 ?_
   refine J.ns (Cj.ret (q19 ?_))
   have he : Ke.isbn s = ([], false) := by rw [hiN]; unfold Ke.isbnN; rw [if_neg hno, if_neg hno2]
   rw [he]
   exact ⟨rfl, rfl⟩
  have h13 : (rn s).length = 13 := by have h := eq_of_beq hg60; omega
  refine JA.tkG 4 3 63 true _ rfl fx59 rfl rfl hg60 q0 ?_
  refine JA.tk 5 rfl fx59 (q11 hg60) ?_
  refine JA.tk 6 rfl fx59 q0 ?_
  refine JA.split 66 rfl (fun hg61 => ?_) (fun hg61 => ?_)
  ·
   have hdg : Ke.digits (rn s) = true := hg61
   have hd13 : Ke.digits ((rn s).take 12) = true := List.all_eq_true.2 fun c hc => List.all_eq_true.1 hdg c (List.mem_of_mem_take hc)
   obtain ⟨d, hg12⟩ : ∃ c, (rn s)[12]? = some c := ⟨_, List.getElem?_eq_getElem (by omega)⟩
   have hgd : ((rn s).map Ke.up).getD 12 0 = d := by rw [up_digits hdg, List.getD, hg12]; rfl
   refine JA.tkG 7 6 66 true _ rfl fx59 rfl rfl hg61 q0 ?_
   refine JA.tkG 9 6 66 true _ rfl fx59 rfl rfl hg61 q0 ?_
   refine JA.tkG 10 6 66 true _ rfl fx59 rfl rfl hg61 (q27 underlying9 hg12) ?_
   refine JA.stepG 8 6 66 true _ (by kernel_rfl) rfl rfl rfl rfl hg61 (op_pure rfl rfl rfl rfl rfl (rCheck_ok (rn s) (by omega) (by omega) hd13 _) ?_)
   refine ⟨fx0, ?_⟩
   refine JA.fix fx1 (fun fx62 => ?_)
   refine JA.tkG 11 6 66 true _ rfl fx62 rfl rfl hg61 q20 ?_
   refine JA.tk 12 rfl fx62 (q11 hg61) ?_
   refine JA.done (by kernel_rfl) ?_
   refine Ej.seq (Cj.cond rfl (fun hc63 => ?_) (fun hc63 => ?_))
   ·
    have hc63p := eq_of_beq hc63
    have hck : Ke.check ((rn s).map Ke.up) = ((rn s).map Ke.up).getD 12 0 := by have h := eq_of_beq hc63; rw [hgd, up_digits hdg]; exact UInt8.toNat_inj.1 (by omega)
    refine Cj.sr (J.z q0 ?_)
    refine J.z q1 ?_
    refine J.z q1 ?_
    refine J.ns (Cj.ret (Ej.seqRet (q19 ?_)))
    have he : Ke.isbn s = (rn s, true) := by rw [hiN]; unfold Ke.isbnN; rw [if_neg hno, if_pos ⟨hml.trans h13, (digits_up hnc).trans hdg, hck⟩, up_digits hdg]
    rw [he]
    exact ⟨rfl, rfl⟩
   ·
    have hc63p := ne_of_beq_false hc63
    have hno2 : ¬ (((rn s).map Ke.up).length = 13 ∧ Ke.digits ((rn s).map Ke.up) = true ∧ Ke.check ((rn s).map Ke.up) = ((rn s).map Ke.up).getD 12 0) := fun e => ne_of_beq_false hc63 (by have h := e.2.2; rw [hgd, up_digits hdg] at h; rw [h])
    refine Cj.skip (Ej.seq (Cj.sr (J.z q1 ?_)))
    refine J.z q1 ?_
    refine J.ns (Cj.ret (q19 ?_))
    have he : Ke.isbn s = ([], false) := by rw [hiN]; unfold Ke.isbnN; rw [if_neg hno, if_neg hno2]
    rw [he]
    exact ⟨rfl, rfl⟩
  ·
   have hno2 : ¬ (((rn s).map Ke.up).length = 13 ∧ Ke.digits ((rn s).map Ke.up) = true ∧ Ke.check ((rn s).map Ke.up) = ((rn s).map Ke.up).getD 12 0) := fun e => Bool.noConfusion (((digits_up hnc).symm.trans e.2.1).symm.trans hg61)
   refine q8 7 6 66 true fx59 (.inl (congrArg Value.bool hg61)) ?_
   refine q8 8 6 66 true fx59 (.inl (congrArg Value.bool hg61)) ?_
   refine q8 9 6 66 true fx59 (.inl (congrArg Value.bool hg61)) ?_
   refine q8 10 6 66 true fx59 (.inl (congrArg Value.bool hg61)) ?_
   refine q8 11 6 66 true fx59 (.inl (congrArg Value.bool hg61)) ?_
   refine JA.tk 12 rfl fx59 (q10 hg61) ?_
   refine JA.done (by kernel_rfl) ?_
   refine Ej.seq (Cj.cond rfl (fun hc64 => Bool.noConfusion (Eq.trans (Eq.symm rfl) hc64)) (fun hc64 => ?_))
   refine Cj.skip (Ej.seq (Cj.sr (J.z q1 ?_)))
   refine J.z q1 ?_
   refine J.ns (Cj.ret (q19 ?_))
   have he : Ke.isbn s = ([], false) := by rw [hiN]; unfold Ke.isbnN; rw [if_neg hno, if_neg hno2]
   rw [he]
   exact ⟨rfl, rfl⟩
 have hc56p := ne_of_beq_false hc56
 have hno : ¬ (((rn s).map Ke.up).length = 10 ∧ Ke.rightShort ((rn s).map Ke.up) = true) := fun e => ne_of_beq_false hc56 (by rw [← hml, e.1]; rfl)
 refine Cj.skip (Ej.seq (Cj.sr (J.z q0 ?_)))
 refine J.op rfl (op_pure rfl rfl rfl rfl rfl (rdigits_ok (rn s) (by omega) _) ?_)
 refine J.z q1 ?_
 refine J.nsss (Cj.drawSel [] [] 13 (by kernel_rfl) ?_)
 refine JA.fix fx1 (fun fx66 => ?_)
 refine JA.tk 0 rfl fx66 q0 ?_
 refine JA.tk 1 rfl fx66 (q23 underlying9) ?_
 refine JA.tk 2 rfl fx66 q20 ?_
 refine JA.tk 3 rfl fx66 q0 ?_
 refine JA.split 63 rfl (fun hg67 => ?_) (fun hg67 => ?_)
 rotate_left
 ·
  have hno2 : ¬ (((rn s).map Ke.up).length = 13 ∧ Ke.digits ((rn s).map Ke.up) = true ∧ Ke.check ((rn s).map Ke.up) = ((rn s).map Ke.up).getD 12 0) := fun e => ne_of_beq_false hg67 (by rw [← hml, e.1]; rfl)
  refine q8 4 3 63 true fx66 (.inl (congrArg Value.bool hg67)) ?_
  refine JA.tk 5 rfl fx66 (q10 hg67) ?_
  refine JA.tk 6 rfl fx66 q0 ?_
  refine q8 7 6 66 true fx66 (.inl (congrArg Value.bool rfl)) ?_
  refine q8 8 6 66 true fx66 (.inl (congrArg Value.bool rfl)) ?_
  refine q8 9 6 66 true fx66 (.inl (congrArg Value.bool rfl)) ?_
  refine q8 10 6 66 true fx66 (.inl (congrArg Value.bool rfl)) ?_
  refine q8 11 6 66 true fx66 (.inl (congrArg Value.bool rfl)) ?_
  refine JA.tk 12 rfl fx66 q21 ?_
  refine JA.done (by kernel_rfl) ?_
  refine Ej.seq (Cj.cond rfl (fun hc72 => Bool.noConfusion (Eq.trans (Eq.symm rfl) hc72)) (fun hc72 => ?_))
  refine Cj.skip (Ej.seq (Cj.sr (J.z q1 ?_)))
  refine J.z q1 ?_
  refine J.ns (Cj.ret (q19 ?_))
  have he : Ke.isbn s = ([], false) := by rw [hiN]; unfold Ke.isbnN; rw [if_neg hno, if_neg hno2]
  rw [he]
  exact ⟨rfl, rfl⟩
 have h13 : (rn s).length = 13 := by have h := eq_of_beq hg67; omega
 refine JA.tkG 4 3 63 true _ rfl fx66 rfl rfl hg67 q0 ?_
 refine JA.tk 5 rfl fx66 (q11 hg67) ?_
 refine JA.tk 6 rfl fx66 q0 ?_
 refine JA.split 66 rfl (fun hg68 => ?_) (fun hg68 => ?_)
 ·
  have hdg : Ke.digits (rn s) = true := hg68
  have hd13 : Ke.digits ((rn s).take 12) = true := List.all_eq_true.2 fun c hc => List.all_eq_true.1 hdg c (List.mem_of_mem_take hc)
  obtain ⟨d, hg12⟩ : ∃ c, (rn s)[12]? = some c := ⟨_, List.getElem?_eq_getElem (by omega)⟩
  have hgd : ((rn s).map Ke.up).getD 12 0 = d := by rw [up_digits hdg, List.getD, hg12]; rfl
  refine JA.tkG 7 6 66 true _ rfl fx66 rfl rfl hg68 q0 ?_
  refine JA.tkG 9 6 66 true _ rfl fx66 rfl rfl hg68 q0 ?_
  refine JA.tkG 10 6 66 true _ rfl fx66 rfl rfl hg68 (q27 underlying9 hg12) ?_
  refine JA.stepG 8 6 66 true _ (by kernel_rfl) rfl rfl rfl rfl hg68 (op_pure rfl rfl rfl rfl rfl (rCheck_ok (rn s) (by omega) (by omega) hd13 _) ?_)
  refine ⟨fx0, ?_⟩
  refine JA.fix fx1 (fun fx69 => ?_)
  refine JA.tkG 11 6 66 true _ rfl fx69 rfl rfl hg68 q20 ?_
  refine JA.tk 12 rfl fx69 (q11 hg68) ?_
  refine JA.done (by kernel_rfl) ?_
  refine Ej.seq (Cj.cond rfl (fun hc70 => ?_) (fun hc70 => ?_))
  ·
   have hc70p := eq_of_beq hc70
   have hck : Ke.check ((rn s).map Ke.up) = ((rn s).map Ke.up).getD 12 0 := by have h := eq_of_beq hc70; rw [hgd, up_digits hdg]; exact UInt8.toNat_inj.1 (by omega)
   refine Cj.sr (J.z q0 ?_)
   refine J.z q1 ?_
   refine J.z q1 ?_
   refine J.ns (Cj.ret (Ej.seqRet (q19 ?_)))
   have he : Ke.isbn s = (rn s, true) := by rw [hiN]; unfold Ke.isbnN; rw [if_neg hno, if_pos ⟨hml.trans h13, (digits_up hnc).trans hdg, hck⟩, up_digits hdg]
   rw [he]
   exact ⟨rfl, rfl⟩
  ·
   have hc70p := ne_of_beq_false hc70
   have hno2 : ¬ (((rn s).map Ke.up).length = 13 ∧ Ke.digits ((rn s).map Ke.up) = true ∧ Ke.check ((rn s).map Ke.up) = ((rn s).map Ke.up).getD 12 0) := fun e => ne_of_beq_false hc70 (by have h := e.2.2; rw [hgd, up_digits hdg] at h; rw [h])
   refine Cj.skip (Ej.seq (Cj.sr (J.z q1 ?_)))
   refine J.z q1 ?_
   refine J.ns (Cj.ret (q19 ?_))
   have he : Ke.isbn s = ([], false) := by rw [hiN]; unfold Ke.isbnN; rw [if_neg hno, if_neg hno2]
   rw [he]
   exact ⟨rfl, rfl⟩
 ·
  have hno2 : ¬ (((rn s).map Ke.up).length = 13 ∧ Ke.digits ((rn s).map Ke.up) = true ∧ Ke.check ((rn s).map Ke.up) = ((rn s).map Ke.up).getD 12 0) := fun e => Bool.noConfusion (((digits_up hnc).symm.trans e.2.1).symm.trans hg68)
  refine q8 7 6 66 true fx66 (.inl (congrArg Value.bool hg68)) ?_
  refine q8 8 6 66 true fx66 (.inl (congrArg Value.bool hg68)) ?_
  refine q8 9 6 66 true fx66 (.inl (congrArg Value.bool hg68)) ?_
  refine q8 10 6 66 true fx66 (.inl (congrArg Value.bool hg68)) ?_
  refine q8 11 6 66 true fx66 (.inl (congrArg Value.bool hg68)) ?_
  refine JA.tk 12 rfl fx66 (q10 hg68) ?_
  refine JA.done (by kernel_rfl) ?_
  refine Ej.seq (Cj.cond rfl (fun hc71 => Bool.noConfusion (Eq.trans (Eq.symm rfl) hc71)) (fun hc71 => ?_))
  refine Cj.skip (Ej.seq (Cj.sr (J.z q1 ?_)))
  refine J.z q1 ?_
  refine J.ns (Cj.ret (q19 ?_))
  have he : Ke.isbn s = ([], false) := by rw [hiN]; unfold Ke.isbnN; rw [if_neg hno, if_neg hno2]
  rw [he]
  exact ⟨rfl, rfl⟩
end Go.Proofs.YtjcdfnbomkoheaaGreatDoor
end
section
namespace Ke
open Go.Lib (decodeL decodeN)
end Ke
end
section
namespace Ke
end Ke
end
