/-
  Own texts on the laws of the seat, joined: the logic, and contracts of functions. Conditions: none.
-/
import Derived.Test.YtjcdfnbomkoheaaGreatDoorNmP
import Derived.Test.YtjcdfnbomkoheaaGreatDoorPP5
import Derived.Test.YtjcdfnbomkoheaaGreatDoorPP6
set_option maxRecDepth 100000
set_option maxHeartbeats 4000000
section
namespace Go.Proofs.YtjcdfnbomkoheaaGreatDoor
open _root_.Go.Proofs.Tryz
open Go Go.Sx
theorem tw_len {α : Type} {p : α → Bool} : ∀ {l : List α} {k : Nat}, (∀ x ∈ l.take k, p x = true) → (∀ x, l[k]? = some x → p x = false) → k ≤ l.length → (l.takeWhile p).length = k
  | [], k, _, _, hk => by have : k = 0 := by simpa using hk
                          subst this; rfl
  | x :: r, 0, _, h2, _ => by rw [List.takeWhile_cons, if_neg (by rw [h2 x rfl]; decide)]; rfl
  | x :: r, k + 1, h1, h2, hk => by
    rw [List.takeWhile_cons, if_pos (h1 x (by rw [List.take_succ_cons]; exact .head _)), List.length_cons, tw_len (k := k) (fun y hy => h1 y (by rw [List.take_succ_cons]; exact .tail _ hy)) (fun y hy => h2 y (by rw [List.getElem?_cons_succ]; exact hy)) (by simpa using hk)]
theorem all_nextD {α : Type} {p : α → Bool} {l : List α} {k : Nat} {x : α} (h : ∀ y ∈ l.take k, p y = true) (hg : l[k]? = some x) (hx : p x = true) : ∀ y ∈ l.take (k + 1), p y = true := by
  obtain ⟨hlt, hg⟩ := List.getElem?_eq_some_iff.1 hg
  rw [List.take_succ_eq_append_getElem hlt, hg]
  intro y hy
  rcases List.mem_append.1 hy with g | g
  · exact h y g
  rw [List.mem_singleton.1 g]; exact hx
theorem uy_some {s : List UInt8} {k : Nat} (h : Ix.yearOf s = Ix.yearOf (s.drop k)) (h4 : ((s.drop k).takeWhile Ke.digit).length = 4) : uy s = ((s.take (k + 4)).drop k, true) := by
  unfold uy
  rw [h, Ix.year_step, if_pos h4, List.drop_take]
  simp
theorem uy_none {s : List UInt8} {k : Nat} (h : Ix.yearOf s = Ix.yearOf (s.drop k)) (hk : s.length ≤ k) : uy s = ([], false) := by
  unfold uy
  rw [h, List.drop_eq_nil_of_le hk, Ix.year_nil]; rfl
theorem uy_step {s : List UInt8} {k n : Nat} (h : Ix.yearOf s = Ix.yearOf (s.drop k)) (hn : ((s.drop k).takeWhile Ke.digit).length = n) (h4 : n ≠ 4) : Ix.yearOf s = Ix.yearOf (s.drop (k + n + 1)) := by
  rw [h, Ix.year_step, if_neg (by omega), hn, List.drop_drop, Nat.add_assoc]
theorem rYear_ok (s : List UInt8) (hs : s.length ≤ 1000000000) (I : Heap) : Pure Tryz.prog 115 [str s] I (.tuple #[str (uy s).1, .bool (uy s).2]) := by
 refine Ctr.toPure ?_
 refine Ctr.ob func115 ?_
 intro w0 hw0
 refine Cj.sr (J.z q1 ?_)
 refine J.z q1 ?_
 refine J.nsss (Cj.region (J.z q1 ?_))
 refine J.ns (Cj.block (Cj.loop (ι := Nat) (fun k => k ≤ s.length + 1 ∧ Ix.yearOf s = Ix.yearOf (s.drop k)) (fun k => s.length + 1 - k) (fun k => [(0, str s), (4, i64 (k : Int))]) (fun k => _) (fun k => []) 0 ⟨Nat.zero_le _, rfl⟩ ⟨rfl, rfl, trivial⟩ rfl rfl ?_))
 rintro k ⟨hk, hyr⟩
 refine Cj.seq (Cj.sr (J.z q0 ?_))
 refine J.z q0 ?_
 refine J.z (q26 tU9) ?_
 refine J.z q17 ?_
 refine J.cd (fun hc1 => ?_) (fun hc1 => ?_)
 ·
  have hc1p := odt hc1
  refine Cj.ks (Cj.seq (Cj.block (Cj.sr (J.z q1 ?_))))
  refine J.nss (Cj.block (Cj.loop (ι := Nat) (fun n => k + n ≤ s.length ∧ ∀ x ∈ (s.drop k).take n, Ke.digit x = true) (fun n => s.length - k - n) (fun n => [(0, str s), (4, i64 (k : Int)), (5, i64 (n : Int))]) (fun n => _) (fun n => []) 0 ⟨by omega, fun x hx => by simp at hx⟩ ⟨rfl, rfl, rfl, trivial⟩ rfl rfl ?_))
  rintro n ⟨hkn, hdg⟩
  refine Cj.seq (Cj.sr (J.z q0 ?_))
  refine J.z q0 ?_
  refine J.z q7 ?_
  refine J.z q0 ?_
  refine J.z (q26 tU9) ?_
  refine J.z q17 ?_
  refine J.z q0 ?_
  refine q16 18 (fun hg2 => ?_) (fun hg2 => ?_)
  ·
   have hg2p := odt hg2
   have hlt2 : k + n < s.length := by have h := odt hg2; omega
   obtain ⟨c, hget⟩ : ∃ c, s[k + n]? = some c := ⟨_, lgg hlt2⟩
   refine q5 6 18 true hg2 (q2 q0 ?_)
   refine q5 6 18 true hg2 (q2 q0 ?_)
   refine q5 6 18 true hg2 (q2 q0 ?_)
   refine J.opG 6 18 true _ rfl rfl rfl hg2 (op_yld q7 rfl rfl ?_)
   refine J.eqv 22 rfl (show _ = i64 ((k + n : Nat) : Int) from rfl) ?_
   refine J.opG 6 18 true _ rfl rfl rfl hg2 (op_yld (q42 tU9 hget) rfl rfl ?_)
   refine q5 6 18 true hg2 (q2 q34 ?_)
   refine J.z (q11 hg2) ?_
   refine J.z q0 ?_
   refine q16 26 (fun hg3 => ?_) (fun hg3 => ?_)
   ·
    have hg3p := odt hg3
    have h48 : 48 ≤ c.toNat := by have h := odt hg3; omega
    refine q5 14 26 true hg3 (q2 q0 ?_)
    refine q5 14 26 true hg3 (q2 q0 ?_)
    refine q5 14 26 true hg3 (q2 q0 ?_)
    refine J.opG 14 26 true _ rfl rfl rfl hg3 (op_yld q7 rfl rfl ?_)
    refine J.eqv 30 rfl (show _ = i64 ((k + n : Nat) : Int) from rfl) ?_
    refine J.opG 14 26 true _ rfl rfl rfl hg3 (op_yld (q42 tU9 hget) rfl rfl ?_)
    refine q5 14 26 true hg3 (q2 q38 ?_)
    refine J.z (q11 hg3) ?_
    refine J.cd (fun hc4 => ?_) (fun hc4 => ?_)
    ·
     have hc4p := odt hc4
     have hdig : Ke.digit c = true := by rw [Ix.digit_nat]; have h := odt hc4; simp only [decide_eq_true_eq]; omega
     refine Cj.ks (Cj.block (Cj.region (J.z q0 ?_)))
     refine J.z q7 ?_
     refine J.z q1 ?_
     refine J.nil (Ej.blkNormal (Ej.round (n + 1) ⟨by omega, all_nextD hdg (by rw [List.getElem?_drop]; exact hget) hdig⟩ (by omega) ⟨rfl, rfl, rfl, trivial⟩ rfl rfl))
    have hc4p := odf hc4
    have hndig : ¬ Ke.digit c = true := by rw [Ix.digit_nat]; have h := odf hc4; simp only [decide_eq_true_eq]; omega
    refine Cj.xl (Cj.seq (Cj.seq ?_))
    have hn : ((s.drop k).takeWhile Ke.digit).length = n := tw_len hdg (fun x hx => by rw [List.getElem?_drop, hget] at hx; cases hx; exact Bool.eq_false_iff.2 hndig) (by rw [List.length_drop]; omega)
    refine Cj.region (J.z q0 ?_)
    refine J.z q23 ?_
    refine J.cd (fun hc5 => ?_) (fun hc5 => ?_)
    ·
     have hc5p := ebq hc5
     have h4 : n = 4 := by have h := ebq hc5; omega
     have hyy := uy_some hyr (hn.trans h4)
     refine Cj.sr (J.z q0 ?_)
     refine J.z q0 ?_
     refine J.z q0 ?_
     refine J.z q7 ?_
     refine J.z (yl_sliceStr (p := k) (q := k + 4) rfl rfl tU9 ⟨_, rfl⟩ ⟨_, rfl⟩ (by omega) (by omega)) ?_
     refine J.z q1 ?_
     refine J.z q1 ?_
     refine J.ns (Cj.rs (Ej.blkRet (Ej.seqRet (Ej.loopRet (Ej.blkRet (Ej.seqRet (q22 ?_)))))))
     rw [hyy]
     exact ⟨rfl, rfl⟩
    have hc5p := nbf hc5
    have h4 : n ≠ 4 := by have h := nbf hc5; omega
    refine Cj.ks (Cj.region (J.z q0 ?_))
    refine J.z q0 ?_
    refine J.z q7 ?_
    refine J.z q1 ?_
    refine J.nb (Cj.region (J.z q0 ?_))
    refine J.z q7 ?_
    refine J.z q1 ?_
    refine J.nil (Ej.round (k + n + 1) ⟨by omega, uy_step hyr hn (by omega)⟩ (by omega) ⟨rfl, rfl, trivial⟩ rfl rfl)
   have hg3p := odf hg3
   have hndig : ¬ Ke.digit c = true := by rw [Ix.digit_nat]; have h := odf hg3; simp only [decide_eq_true_eq]; omega
   refine q3 14 26 27 true hg3 ?_
   refine q3 14 26 28 true hg3 ?_
   refine q3 14 26 29 true hg3 ?_
   refine q3 14 26 30 true hg3 ?_
   refine q3 14 26 31 true hg3 ?_
   refine q3 14 26 32 true hg3 ?_
   refine J.z (q10 hg3) ?_
   refine J.c0 (fun hc6 => ?_)
   refine Cj.xl (Cj.seq (Cj.seq ?_))
   have hn : ((s.drop k).takeWhile Ke.digit).length = n := tw_len hdg (fun x hx => by rw [List.getElem?_drop, hget] at hx; cases hx; exact Bool.eq_false_iff.2 hndig) (by rw [List.length_drop]; omega)
   refine Cj.region (J.z q0 ?_)
   refine J.z q23 ?_
   refine J.cd (fun hc7 => ?_) (fun hc7 => ?_)
   ·
    have hc7p := ebq hc7
    have h4 : n = 4 := by have h := ebq hc7; omega
    have hyy := uy_some hyr (hn.trans h4)
    refine Cj.sr (J.z q0 ?_)
    refine J.z q0 ?_
    refine J.z q0 ?_
    refine J.z q7 ?_
    refine J.z (yl_sliceStr (p := k) (q := k + 4) rfl rfl tU9 ⟨_, rfl⟩ ⟨_, rfl⟩ (by omega) (by omega)) ?_
    refine J.z q1 ?_
    refine J.z q1 ?_
    refine J.ns (Cj.rs (Ej.blkRet (Ej.seqRet (Ej.loopRet (Ej.blkRet (Ej.seqRet (q22 ?_)))))))
    rw [hyy]
    exact ⟨rfl, rfl⟩
   have hc7p := nbf hc7
   have h4 : n ≠ 4 := by have h := nbf hc7; omega
   refine Cj.ks (Cj.region (J.z q0 ?_))
   refine J.z q0 ?_
   refine J.z q7 ?_
   refine J.z q1 ?_
   refine J.nb (Cj.region (J.z q0 ?_))
   refine J.z q7 ?_
   refine J.z q1 ?_
   refine J.nil (Ej.round (k + n + 1) ⟨by omega, uy_step hyr hn (by omega)⟩ (by omega) ⟨rfl, rfl, trivial⟩ rfl rfl)
  have hg2p := odf hg2
  have hge2 : ¬ k + n < s.length := by have h := odf hg2; omega
  refine q3 6 18 19 true hg2 ?_
  refine q3 6 18 20 true hg2 ?_
  refine q3 6 18 21 true hg2 ?_
  refine q3 6 18 22 true hg2 ?_
  refine q3 6 18 23 true hg2 ?_
  refine q3 6 18 24 true hg2 ?_
  refine J.z (q10 hg2) ?_
  refine J.z q0 ?_
  refine q32 14 26 27 true ?_
  refine q32 14 26 28 true ?_
  refine q32 14 26 29 true ?_
  refine q32 14 26 30 true ?_
  refine q32 14 26 31 true ?_
  refine q32 14 26 32 true ?_
  refine J.z q30 ?_
  refine J.c0 (fun hc8 => ?_)
  refine Cj.xl (Cj.seq (Cj.seq ?_))
  have hn : ((s.drop k).takeWhile Ke.digit).length = n := tw_len hdg (fun x hx => absurd (List.getElem?_eq_some_iff.1 hx).1 (by rw [List.length_drop]; omega)) (by rw [List.length_drop]; omega)
  refine Cj.region (J.z q0 ?_)
  refine J.z q23 ?_
  refine J.cd (fun hc9 => ?_) (fun hc9 => ?_)
  ·
   have hc9p := ebq hc9
   have h4 : n = 4 := by have h := ebq hc9; omega
   have hyy := uy_some hyr (hn.trans h4)
   refine Cj.sr (J.z q0 ?_)
   refine J.z q0 ?_
   refine J.z q0 ?_
   refine J.z q7 ?_
   refine J.z (yl_sliceStr (p := k) (q := k + 4) rfl rfl tU9 ⟨_, rfl⟩ ⟨_, rfl⟩ (by omega) (by omega)) ?_
   refine J.z q1 ?_
   refine J.z q1 ?_
   refine J.ns (Cj.rs (Ej.blkRet (Ej.seqRet (Ej.loopRet (Ej.blkRet (Ej.seqRet (q22 ?_)))))))
   rw [hyy]
   exact ⟨rfl, rfl⟩
  have hc9p := nbf hc9
  have h4 : n ≠ 4 := by have h := nbf hc9; omega
  refine Cj.ks (Cj.region (J.z q0 ?_))
  refine J.z q0 ?_
  refine J.z q7 ?_
  refine J.z q1 ?_
  refine J.nb (Cj.region (J.z q0 ?_))
  refine J.z q7 ?_
  refine J.z q1 ?_
  refine J.nil (Ej.round (k + n + 1) ⟨by omega, uy_step hyr hn (by omega)⟩ (by omega) ⟨rfl, rfl, trivial⟩ rfl rfl)
 have hc1p := odf hc1
 refine Cj.xl (Cj.sr (J.z q1 ?_))
 refine J.z q1 ?_
 refine J.ns (Cj.ret (q22 ?_))
 rw [uy_none hyr (by omega)]
 exact ⟨rfl, rfl⟩
theorem rStarts_ok (s p : List UInt8) (hp : p.length ≤ 1000000) (I : Heap) : Pure Tryz.prog 116 [str s, str p] I (.bool (p.isPrefixOf s)) := by
 refine Ctr.toPure ?_
 refine Ctr.ob func116 ?_
 intro w0 hw0
 refine Cj.sr (J.z q1 ?_)
 refine J.nssr (J.z q0 ?_)
 refine J.z (q26 tU9) ?_
 refine J.z q0 ?_
 refine J.z (q26 tU9) ?_
 refine J.z q34 ?_
 refine J.z q0 ?_
 refine q16 10 (fun hg1 => ?_) (fun hg1 => ?_)
 ·
  have hg1p := odt hg1
  have hge : p.length ≤ s.length := by have h := odt hg1; omega
  refine q5 5 10 true hg1 (q2 q0 ?_)
  refine q5 5 10 true hg1 (q2 q0 ?_)
  refine q5 5 10 true hg1 (q2 (q26 tU9) ?_)
  refine J.opG 5 10 true _ rfl rfl rfl hg1 (op_yld (q54 (p := 0) (q := p.length) tU9) rfl rfl ?_)
  refine q5 5 10 true hg1 (q2 q0 ?_)
  refine q5 5 10 true hg1 (q2 q31 ?_)
  refine J.z (q11 hg1) ?_
  refine J.z q1 ?_
  refine J.ns (Cj.ret (q6 ?_))
  refine ⟨?_, rfl⟩
  rw [pre_eq hge]
 have hg1p := odf hg1
 have hge : ¬ p.length ≤ s.length := by have h := odf hg1; omega
 refine q3 5 10 11 true hg1 ?_
 refine q3 5 10 12 true hg1 ?_
 refine q3 5 10 13 true hg1 ?_
 refine q3 5 10 14 true hg1 ?_
 refine q3 5 10 15 true hg1 ?_
 refine q3 5 10 16 true hg1 ?_
 refine J.z (q10 hg1) ?_
 refine J.z q1 ?_
 refine J.ns (Cj.ret (q6 ?_))
 rw [pre_no hge]
 exact ⟨rfl, rfl⟩
theorem all_len (f : Ke.Fld) : (Ix.allText f).length ≤ textsLen f.subs + f.subs.length := by
  have := textX_len f []
  rwa [textX_all] at this
theorem rAllText_ok (f : Ke.Fld) (hn : f.subs.length ≤ 2000000) (htx : textsLen f.subs ≤ 3000000) (I : Heap) (hr : RowS subC I f.subs f.sv) : Pure Tryz.prog 117 [.agg (fldC f).toArray] I (str (Ix.allText f)) := by
 refine Ctr.toPure ?_
 obtain ⟨p2, c2, hsv, hc2, hp2⟩ := hr
 have hal := all_len f
 unfold Ix.allText at hal
 refine Ctr.ob func117 ?_
 intro w0 hw0
 refine Cj.sr (J.op rfl (q28 ?_))
 intro b1 hb1
 refine J.z q1 ?_
 refine J.nssr (J.z q1 ?_)
 refine J.nsss (Cj.region (J.z q1 ?_))
 refine J.ns (Cj.block (Cj.loop (ι := Nat) (fun j => j ≤ f.subs.length) (fun j => f.subs.length - j) (fun j => [(1, ptr b1 0), (3, str (Ke.join ((f.subs.map (·.text)).take j))), (4, i64 (j : Int))]) (fun j => _) (fun j => [(b1, cel 31 (fldC f))]) 0 (Nat.zero_le _) ⟨rfl, rfl, rfl, trivial⟩ rfl rfl ?_))
 intro j hj
 have hjp := join_part (f.subs.map (·.text)) j
 have hjp2 := join_part (f.subs.map (·.text)) (j + 1)
 refine Cj.seq (Cj.sr (J.z q0 ?_))
 refine J.z (q4 (off' := 3) tU31 tS29) ?_
 refine J.z (q18 tA29) ?_
 refine J.eqv 7 rfl (show _ = .slice p2 f.subs.length c2 from hsv) ?_
 refine J.z (q15 tU29) ?_
 refine J.z q17 ?_
 refine J.cd (fun hc2 => ?_) (fun hc2 => ?_)
 ·
  have hc2p := odt hc2
  have hlt : j < f.subs.length := by omega
  obtain ⟨sb, hsget⟩ : ∃ x, f.subs[j]? = some x := ⟨_, lgg hlt⟩
  have hget : (f.subs.map (·.text))[j]? = some sb.text := by rw [List.getElem?_map, hsget]; rfl
  obtain ⟨sbk, so, scs, sty, sfr, sp2, rfl, hsbk, hsd⟩ := hp2 (ne_nil_of hlt)
  have hjn := congrArg List.length (join_next hget)
  rw [List.length_append] at hjn
  refine Cj.ks (Cj.seq (Cj.block (Cj.seq (Cj.sr (J.z q0 ?_)))))
  refine J.z (yl_gtr rfl rfl rfl) ?_
  refine J.cd (fun hc3 => ?_) (fun hc3 => ?_)
  ·
   have hc3p := odt hc3
   have hj0 : 0 < j := by have h := odt hc3; omega
   refine Cj.region (J.z q0 ?_)
   refine J.z (yl_cat rfl rfl rfl (by rw [if_pos hj0, List.length_append] at hjn; simp only [List.length_cons, List.length_nil] at hjn ⊢; omega)) ?_
   refine J.z q1 ?_
   refine J.nsr (J.z q0 ?_)
   refine J.z (q4 (off' := 3) tU31 tS29) ?_
   refine J.z (q18 tA29) ?_
   refine J.eqv 18 rfl (show _ = .slice (some ⟨sbk, so, none⟩) f.subs.length c2 from hsv) ?_
   refine J.z q0 ?_
   refine J.z (q19 (off' := so + j * 2) tU29 tS65) ?_
   refine J.z (q4 (off' := so + j * 2 + 1) tU65 tS9) ?_
   refine J.z (yl_load rfl rfl tA9 (Blk.imm hsbk) (row_fcell subC_len hsd hsget 1 (by decide))) ?_
   refine J.z (yl_cat rfl rfl rfl (by first | (rw [if_pos hj0, List.length_append] at hjn; simp only [List.length_append, List.length_cons, List.length_nil] at hjn ⊢; omega) | (rw [if_neg hj0] at hjn; omega))) ?_
   refine J.z q1 ?_
   refine J.nb (Cj.region (J.z q0 ?_))
   refine J.z q7 ?_
   refine J.z q1 ?_
   refine J.nil (Ej.round (j + 1) (by omega) (by omega) ⟨rfl, by rw [join_next hget, if_pos hj0]; rfl, rfl, trivial⟩ rfl rfl)
  have hc3p := odf hc3
  have hj0 : ¬ 0 < j := by have h := odf hc3; omega
  refine Cj.ks (Cj.region (J.z q0 ?_))
  refine J.z (q4 (off' := 3) tU31 tS29) ?_
  refine J.z (q18 tA29) ?_
  refine J.eqv 18 rfl (show _ = .slice (some ⟨sbk, so, none⟩) f.subs.length c2 from hsv) ?_
  refine J.z q0 ?_
  refine J.z (q19 (off' := so + j * 2) tU29 tS65) ?_
  refine J.z (q4 (off' := so + j * 2 + 1) tU65 tS9) ?_
  refine J.z (yl_load rfl rfl tA9 (Blk.imm hsbk) (row_fcell subC_len hsd hsget 1 (by decide))) ?_
  refine J.z (yl_cat rfl rfl rfl (by first | (rw [if_pos hj0, List.length_append] at hjn; simp only [List.length_append, List.length_cons, List.length_nil] at hjn ⊢; omega) | (rw [if_neg hj0] at hjn; omega))) ?_
  refine J.z q1 ?_
  refine J.nb (Cj.region (J.z q0 ?_))
  refine J.z q7 ?_
  refine J.z q1 ?_
  refine J.nil (Ej.round (j + 1) (by omega) (by omega) ⟨rfl, by rw [join_next hget, if_neg hj0]; rfl, rfl, trivial⟩ rfl rfl)
 have hc2p := odf hc2
 have hfull : (f.subs.map (·.text)).take j = f.subs.map (·.text) := List.take_of_length_le (by rw [List.length_map]; omega)
 refine Cj.xl (Cj.sr (J.z q0 ?_))
 refine J.z q1 ?_
 refine J.ns (Cj.ret (Ej.bare ?_))
 refine q6 ?_
 rw [hfull]
 exact ⟨rfl, rfl⟩
def valC (x : List UInt8 × Nat) : List Value := [str x.1, i64 (x.2 : Int)]
theorem valC_len (x : List UInt8 × Nat) : (valC x).length = 2 := rfl
def psL (u : List UInt8 → List UInt8 × Bool) (c : UInt8) (ss : List Ke.Sub) : List (List UInt8 × Nat) := (ss.filterMap (pickU u c)).map fun s => (s, 0)
theorem psL_next {u : List UInt8 → List UInt8 × Bool} {c : UInt8} {ss : List Ke.Sub} {k : Nat} {s : Ke.Sub} (h : ss[k]? = some s) : psL u c (ss.take (k + 1)) = psL u c (ss.take k) ++ (if (u s.text).2 = true ∧ s.code = c then [((u s.text).1, 0)] else []) := by
  unfold psL
  rw [fm_next h, List.map_append]
  congr 1
  split <;> rfl
theorem psL_len (u : List UInt8 → List UInt8 × Bool) (c : UInt8) (ss : List Ke.Sub) : (psL u c ss).length ≤ ss.length := by
  unfold psL; rw [List.length_map]; exact List.length_filterMap_le _ _
theorem ps_end {f : Ke.Fld} {t : List UInt8} {u : List UInt8 → List UInt8 × Bool} {c : UInt8} {j : Nat} (h : j = 0 ∨ f.tag = t) (hj : f.subs.length ≤ j) : (if f.tag = t then psL u c f.subs else []) = psL u c (f.subs.take j) := by
  by_cases ht : f.tag = t
  · rw [if_pos ht, List.take_of_length_le hj]
  have h0 := h.resolve_right ht
  subst h0
  rw [if_neg ht]; rfl
theorem ps_no {f : Ke.Fld} {t : List UInt8} {u : List UInt8 → List UInt8 × Bool} {c : UInt8} {j : Nat} (h : j = 0 ∨ f.tag = t) (ht : f.tag ≠ t) : (if f.tag = t then psL u c f.subs else []) = psL u c (f.subs.take j) := by
  have h0 := h.resolve_right ht
  subst h0
  rw [if_neg ht]; rfl
theorem of_title {f : Ke.Fld} {n : List UInt8} (h : n = Ix.nTitle) : Ix.ofN f n = if f.tag = [50, 52, 53] ∨ f.tag = [50, 52, 54] then [(Ke.textOf f [97, 98], Ix.skipT f)] else [] := by subst h; rfl
theorem of_author {f : Ke.Fld} {n : List UInt8} (h : n = Ix.nAuthor) : Ix.ofN f n = if f.tag = [49, 48, 48] ∨ f.tag = [49, 49, 48] ∨ f.tag = [55, 48, 48] then [(Ke.textOf f [97], 0)] else [] := by subst h; rfl
theorem of_subject {f : Ke.Fld} {n : List UInt8} (h : n = Ix.nSubject) : Ix.ofN f n = if f.tag = [54, 48, 48] ∨ f.tag = [54, 53, 48] then [(Ke.textOf f [97, 120], 0)] else [] := by subst h; rfl
theorem of_isbn {f : Ke.Fld} {n : List UInt8} (h : n = Ix.nIsbn) : Ix.ofN f n = if f.tag = [48, 50, 48] then psL Ke.isbn 97 f.subs else [] := by subst h; rfl
theorem of_year {f : Ke.Fld} {n : List UInt8} (h : n = Ix.nYear) : Ix.ofN f n = if f.tag = [50, 54, 48] then psL uy 99 f.subs else [] := by
  subst h
  unfold psL
  rw [pick_yr]; rfl
theorem of_any {f : Ke.Fld} {n : List UInt8} (h : n = Ix.nAny) : Ix.ofN f n = if Ix.anyOk f then [(Ix.allText f, 0)] else [] := by subst h; rfl
theorem of_none {f : Ke.Fld} {n : List UInt8} (h1 : n ≠ Ix.nTitle) (h2 : n ≠ Ix.nAuthor) (h3 : n ≠ Ix.nSubject) (h4 : n ≠ Ix.nIsbn) (h5 : n ≠ Ix.nYear) (h6 : n ≠ Ix.nAny) : Ix.ofN f n = [] := by
  unfold Ix.ofN
  rw [if_neg h1, if_neg h2, if_neg h3, if_neg h4, if_neg h5, if_neg h6]
theorem ofN_len (f : Ke.Fld) (n : List UInt8) (h : f.subs.length ≤ 1000) : (Ix.ofN f n).length ≤ 1000 := by
  by_cases h1 : n = Ix.nTitle
  · rw [of_title h1]; split <;> simp
  by_cases h2 : n = Ix.nAuthor
  · rw [of_author h2]; split <;> simp
  by_cases h3 : n = Ix.nSubject
  · rw [of_subject h3]; split <;> simp
  by_cases h4 : n = Ix.nIsbn
  · rw [of_isbn h4]; split
    · exact nlt (psL_len _ _ _) h
    simp
  by_cases h5 : n = Ix.nYear
  · rw [of_year h5]; split
    · exact nlt (psL_len _ _ _) h
    simp
  by_cases h6 : n = Ix.nAny
  · rw [of_any h6]; split <;> simp
  rw [of_none h1 h2 h3 h4 h5 h6]; simp
theorem rOf_ok (f : Ke.Fld) (n : List UInt8) (hn2 : f.subs.length ≤ 2000000) (htx : textsLen f.subs ≤ 3000000) (I : Heap) (hr : RowS subC I f.subs f.sv) : Ctr Tryz.prog 85 [.agg (fldC f).toArray, str n] I [] (fun e I' H' => ∃ w, e = .returned w ∧ RowS valC I' (Ix.ofN f n) w ∧ H' = []) := by
 obtain ⟨p2, c2, hsv, hc2, hp2⟩ := id hr
 refine Ctr.ob func85 ?_
 intro w0 hw0
 refine Cj.sr (J.op rfl (q28 ?_))
 intro b1 hb1
 refine J.z q1 ?_
 refine J.nssr (J.z q1 ?_)
 refine J.nsss (Cj.region (J.z q0 ?_))
 refine J.ns (Cj.block (Cj.sr (J.z q31 ?_)))
 refine J.z q1 ?_
 refine J.cd (fun hc2 => ?_) (fun hc2 => ?_)
 ·
  have hc2p := ebq hc2
  have hn : n = Ix.nTitle := ebq hc2
  refine Cj.sr (J.z q1 ?_)
  refine J.nsss (Cj.region (J.z (q4 (off' := 0) tU31 tS9) ?_))
  refine J.z (q18 tA9) ?_
  refine J.z q31 ?_
  refine J.z q0 ?_
  refine q16 21 (fun hg3 => ?_) (fun hg3 => ?_)
  ·
   have hg3p := ebq hg3
   have h45 : f.tag = [50, 52, 53] := ebq hg3
   refine q5 3 21 true hg3 (q2 (q4 (off' := 1) tU31 tS9) ?_)
   refine q5 3 21 true hg3 (q2 (q18 tA9) ?_)
   refine q5 3 21 true hg3 (q2 (q26 tU9) ?_)
   refine q5 3 21 true hg3 (q2 (yl_gtr rfl rfl rfl) ?_)
   refine J.z (q11 hg3) ?_
   refine J.z q0 ?_
   refine q16 27 (fun hg4 => ?_) (fun hg4 => ?_)
   ·
    have hg4p := odt hg4
    have hl1 : 1 < f.ind.length := by have h := odt hg4; omega
    obtain ⟨c, hget⟩ : ∃ c, f.ind[1]? = some c := ⟨_, lgg hl1⟩
    have hcl := c.toNat_lt
    refine q5 9 27 true hg4 (q2 (q4 (off' := 1) tU31 tS9) ?_)
    refine q5 9 27 true hg4 (q2 (q18 tA9) ?_)
    refine J.opG 9 27 true _ rfl rfl rfl hg4 (op_yld (yl_index rfl rfl rfl tU9 (by decide) hget) rfl rfl ?_)
    refine q5 9 27 true hg4 (q2 q34 ?_)
    refine J.z (q11 hg4) ?_
    refine J.z q0 ?_
    refine q16 33 (fun hg5 => ?_) (fun hg5 => ?_)
    ·
     have hg5p := odt hg5
     have h48 : 48 ≤ c.toNat := by have h := odt hg5; omega
     refine q5 15 33 true hg5 (q2 (q4 (off' := 1) tU31 tS9) ?_)
     refine q5 15 33 true hg5 (q2 (q18 tA9) ?_)
     refine J.opG 15 33 true _ rfl rfl rfl hg5 (op_yld (yl_index rfl rfl rfl tU9 (by decide) hget) rfl rfl ?_)
     refine q5 15 33 true hg5 (q2 q38 ?_)
     refine J.z (q11 hg5) ?_
     refine J.cd (fun hc6 => ?_) (fun hc6 => ?_)
     ·
      have hc6p := odt hc6
      have h57 : c.toNat ≤ 57 := by have h := odt hc6; omega
      have hdg : Ke.digit c = true := by rw [Ix.digit_nat]; simp only [decide_eq_true_eq]; omega
      refine Cj.region (J.z (q4 (off' := 1) tU31 tS9) ?_)
      refine J.z (q18 tA9) ?_
      refine J.z (yl_index rfl rfl rfl tU9 (by decide) hget) ?_
      refine J.z (yl_sub rfl rfl rfl (w8 (by omega))) ?_
      refine J.z (yl_convInt rfl rfl tU5 tU3) ?_
      refine J.eqv 43 rfl (show _ = i64 ((c.toNat - 48 : Nat) : Int) from (congrArg i64 ((w64 (by omega)).trans (by omega)))) ?_
      refine J.z q1 ?_
      refine J.nss ?_
      have hsk : Ix.skipT f = c.toNat - 48 := (if_pos h45).trans ((skip_char hget).trans (if_pos hdg))
      refine Cj.region (J.z (q4 (off' := 0) tU31 tS9) ?_)
      refine J.z (q18 tA9) ?_
      refine J.z q31 ?_
      refine J.z q0 ?_
      refine q16 47 (fun hg7 => ?_) (fun hg7 => ?_)
      ·
       have hg7p := ebq hg7
       have htt : f.tag = [50, 52, 53] ∨ f.tag = [50, 52, 54] := .inl h45
       refine q3 3 47 48 false hg7 ?_
       refine q3 3 47 49 false hg7 ?_
       refine q3 3 47 50 false hg7 ?_
       refine J.z (q11 hg7) ?_
       refine J.c1 (fun hc8 => ?_)
       refine Cj.region (J.z q0 ?_)
       refine J.z (q33 tA31 tS31) ?_
       refine J.op rfl (op_pure rfl rfl rfl rfl rfl (rText_ok f [97, 98] (by decide) hn2 htx _ hr) ?_)
       refine J.z q0 ?_
       refine J.z (yl_buildS (pl := #[(0, 1), (1, 1)]) rfl rfl tZ104 rfl tU104 (fun w => by simp []) (LBld.part rfl rfl rfl (LSpl.c LSpl.z) (LBld.part rfl rfl rfl (LSpl.s (LSpl.c LSpl.z)) LBld.none))) ?_
       refine J.op rfl (q41 tU101 tS104 tZ104 ?_)
       intro b9 hb9
       refine J.op rfl (op_append (by' := 23) (n := 0) (g := none) (xs := []) [_, _] rfl rfl rfl rfl rfl tU101 (.inr ⟨_, tU101⟩) (by kernel_rfl) tS104 tZ104 rfl ⟨rfl, rfl⟩ rfl (Src.slice (Blk.at 0 rfl) rfl rfl rfl) (by omega) ?_)
       intro g10 hg10
       refine J.z q1 ?_
       refine J.nb (Cj.sr (J.z q0 ?_))
       refine J.z q1 ?_
       refine J.ns (Cj.ret (Ej.keep (Keeps.d (Keeps.d Keeps.r)) ?_))
       have hof : Ix.ofN f n = [(Ke.textOf f [97, 98], (c.toNat - 48))] := (of_title hn).trans (by rw [if_pos htt, hsk])
       rw [hof]
       refine Ej.perm (H' := gH 104 (List.flatMap valC ([(Ke.textOf f [97, 98], (c.toNat - 48))])) g10 ++ []) (.of_eq (List.append_nil _)) ?_
       refine Ej.keepR valC_len (by decide) hg10 rfl (fun I8 hle8 hw8 => ?_)
       refine q6 ?_
       exact ⟨_, rfl, hw8, rfl⟩
      have hg7p := nbf hg7
      exact absurd h45 (nbf hg7)
     have hc6p := odf hc6
     have hdg : ¬ Ke.digit c = true := by rw [Ix.digit_nat]; have h := odf hc6; simp only [decide_eq_true_eq]; omega
     refine Cj.ks (Cj.seq ?_)
     have hsk : Ix.skipT f = 0 := (if_pos h45).trans ((skip_char hget).trans (if_neg hdg))
     refine Cj.region (J.z (q4 (off' := 0) tU31 tS9) ?_)
     refine J.z (q18 tA9) ?_
     refine J.z q31 ?_
     refine J.z q0 ?_
     refine q16 47 (fun hg11 => ?_) (fun hg11 => ?_)
     ·
      have hg11p := ebq hg11
      have htt : f.tag = [50, 52, 53] ∨ f.tag = [50, 52, 54] := .inl h45
      refine q3 3 47 48 false hg11 ?_
      refine q3 3 47 49 false hg11 ?_
      refine q3 3 47 50 false hg11 ?_
      refine J.z (q11 hg11) ?_
      refine J.c1 (fun hc12 => ?_)
      refine Cj.region (J.z q0 ?_)
      refine J.z (q33 tA31 tS31) ?_
      refine J.op rfl (op_pure rfl rfl rfl rfl rfl (rText_ok f [97, 98] (by decide) hn2 htx _ hr) ?_)
      refine J.z q0 ?_
      refine J.z (yl_buildS (pl := #[(0, 1), (1, 1)]) rfl rfl tZ104 rfl tU104 (fun w => by simp []) (LBld.part rfl rfl rfl (LSpl.c LSpl.z) (LBld.part rfl rfl rfl (LSpl.s (LSpl.c LSpl.z)) LBld.none))) ?_
      refine J.op rfl (q41 tU101 tS104 tZ104 ?_)
      intro b13 hb13
      refine J.op rfl (op_append (by' := 23) (n := 0) (g := none) (xs := []) [_, _] rfl rfl rfl rfl rfl tU101 (.inr ⟨_, tU101⟩) (by kernel_rfl) tS104 tZ104 rfl ⟨rfl, rfl⟩ rfl (Src.slice (Blk.at 0 rfl) rfl rfl rfl) (by omega) ?_)
      intro g14 hg14
      refine J.z q1 ?_
      refine J.nb (Cj.sr (J.z q0 ?_))
      refine J.z q1 ?_
      refine J.ns (Cj.ret (Ej.keep (Keeps.d (Keeps.d Keeps.r)) ?_))
      have hof : Ix.ofN f n = [(Ke.textOf f [97, 98], 0)] := (of_title hn).trans (by rw [if_pos htt, hsk])
      rw [hof]
      refine Ej.perm (H' := gH 104 (List.flatMap valC ([(Ke.textOf f [97, 98], 0)])) g14 ++ []) (.of_eq (List.append_nil _)) ?_
      refine Ej.keepR valC_len (by decide) hg14 rfl (fun I8 hle8 hw8 => ?_)
      refine q6 ?_
      exact ⟨_, rfl, hw8, rfl⟩
     have hg11p := nbf hg11
     exact absurd h45 (nbf hg11)
    have hg5p := odf hg5
    have hdg : ¬ Ke.digit c = true := by rw [Ix.digit_nat]; have h := odf hg5; simp only [decide_eq_true_eq]; omega
    refine q3 15 33 34 true hg5 ?_
    refine q3 15 33 35 true hg5 ?_
    refine q3 15 33 36 true hg5 ?_
    refine q3 15 33 37 true hg5 ?_
    refine J.z (q10 hg5) ?_
    refine J.c0 (fun hc15 => ?_)
    refine Cj.ks (Cj.seq ?_)
    have hsk : Ix.skipT f = 0 := (if_pos h45).trans ((skip_char hget).trans (if_neg hdg))
    refine Cj.region (J.z (q4 (off' := 0) tU31 tS9) ?_)
    refine J.z (q18 tA9) ?_
    refine J.z q31 ?_
    refine J.z q0 ?_
    refine q16 47 (fun hg16 => ?_) (fun hg16 => ?_)
    ·
     have hg16p := ebq hg16
     have htt : f.tag = [50, 52, 53] ∨ f.tag = [50, 52, 54] := .inl h45
     refine q3 3 47 48 false hg16 ?_
     refine q3 3 47 49 false hg16 ?_
     refine q3 3 47 50 false hg16 ?_
     refine J.z (q11 hg16) ?_
     refine J.c1 (fun hc17 => ?_)
     refine Cj.region (J.z q0 ?_)
     refine J.z (q33 tA31 tS31) ?_
     refine J.op rfl (op_pure rfl rfl rfl rfl rfl (rText_ok f [97, 98] (by decide) hn2 htx _ hr) ?_)
     refine J.z q0 ?_
     refine J.z (yl_buildS (pl := #[(0, 1), (1, 1)]) rfl rfl tZ104 rfl tU104 (fun w => by simp []) (LBld.part rfl rfl rfl (LSpl.c LSpl.z) (LBld.part rfl rfl rfl (LSpl.s (LSpl.c LSpl.z)) LBld.none))) ?_
     refine J.op rfl (q41 tU101 tS104 tZ104 ?_)
     intro b18 hb18
     refine J.op rfl (op_append (by' := 23) (n := 0) (g := none) (xs := []) [_, _] rfl rfl rfl rfl rfl tU101 (.inr ⟨_, tU101⟩) (by kernel_rfl) tS104 tZ104 rfl ⟨rfl, rfl⟩ rfl (Src.slice (Blk.at 0 rfl) rfl rfl rfl) (by omega) ?_)
     intro g19 hg19
     refine J.z q1 ?_
     refine J.nb (Cj.sr (J.z q0 ?_))
     refine J.z q1 ?_
     refine J.ns (Cj.ret (Ej.keep (Keeps.d (Keeps.d Keeps.r)) ?_))
     have hof : Ix.ofN f n = [(Ke.textOf f [97, 98], 0)] := (of_title hn).trans (by rw [if_pos htt, hsk])
     rw [hof]
     refine Ej.perm (H' := gH 104 (List.flatMap valC ([(Ke.textOf f [97, 98], 0)])) g19 ++ []) (.of_eq (List.append_nil _)) ?_
     refine Ej.keepR valC_len (by decide) hg19 rfl (fun I8 hle8 hw8 => ?_)
     refine q6 ?_
     exact ⟨_, rfl, hw8, rfl⟩
    have hg16p := nbf hg16
    exact absurd h45 (nbf hg16)
   have hg4p := odf hg4
   have hl1 : ¬ 1 < f.ind.length := by have h := odf hg4; omega
   refine q3 9 27 28 true hg4 ?_
   refine q3 9 27 29 true hg4 ?_
   refine q3 9 27 30 true hg4 ?_
   refine q3 9 27 31 true hg4 ?_
   refine J.z (q10 hg4) ?_
   refine J.z q0 ?_
   refine q32 15 33 34 true ?_
   refine q32 15 33 35 true ?_
   refine q32 15 33 36 true ?_
   refine q32 15 33 37 true ?_
   refine J.z q30 ?_
   refine J.c0 (fun hc20 => ?_)
   refine Cj.ks (Cj.seq ?_)
   have hsk : Ix.skipT f = 0 := (if_pos h45).trans (skip_no hl1)
   refine Cj.region (J.z (q4 (off' := 0) tU31 tS9) ?_)
   refine J.z (q18 tA9) ?_
   refine J.z q31 ?_
   refine J.z q0 ?_
   refine q16 47 (fun hg21 => ?_) (fun hg21 => ?_)
   ·
    have hg21p := ebq hg21
    have htt : f.tag = [50, 52, 53] ∨ f.tag = [50, 52, 54] := .inl h45
    refine q3 3 47 48 false hg21 ?_
    refine q3 3 47 49 false hg21 ?_
    refine q3 3 47 50 false hg21 ?_
    refine J.z (q11 hg21) ?_
    refine J.c1 (fun hc22 => ?_)
    refine Cj.region (J.z q0 ?_)
    refine J.z (q33 tA31 tS31) ?_
    refine J.op rfl (op_pure rfl rfl rfl rfl rfl (rText_ok f [97, 98] (by decide) hn2 htx _ hr) ?_)
    refine J.z q0 ?_
    refine J.z (yl_buildS (pl := #[(0, 1), (1, 1)]) rfl rfl tZ104 rfl tU104 (fun w => by simp []) (LBld.part rfl rfl rfl (LSpl.c LSpl.z) (LBld.part rfl rfl rfl (LSpl.s (LSpl.c LSpl.z)) LBld.none))) ?_
    refine J.op rfl (q41 tU101 tS104 tZ104 ?_)
    intro b23 hb23
    refine J.op rfl (op_append (by' := 23) (n := 0) (g := none) (xs := []) [_, _] rfl rfl rfl rfl rfl tU101 (.inr ⟨_, tU101⟩) (by kernel_rfl) tS104 tZ104 rfl ⟨rfl, rfl⟩ rfl (Src.slice (Blk.at 0 rfl) rfl rfl rfl) (by omega) ?_)
    intro g24 hg24
    refine J.z q1 ?_
    refine J.nb (Cj.sr (J.z q0 ?_))
    refine J.z q1 ?_
    refine J.ns (Cj.ret (Ej.keep (Keeps.d (Keeps.d Keeps.r)) ?_))
    have hof : Ix.ofN f n = [(Ke.textOf f [97, 98], 0)] := (of_title hn).trans (by rw [if_pos htt, hsk])
    rw [hof]
    refine Ej.perm (H' := gH 104 (List.flatMap valC ([(Ke.textOf f [97, 98], 0)])) g24 ++ []) (.of_eq (List.append_nil _)) ?_
    refine Ej.keepR valC_len (by decide) hg24 rfl (fun I8 hle8 hw8 => ?_)
    refine q6 ?_
    exact ⟨_, rfl, hw8, rfl⟩
   have hg21p := nbf hg21
   exact absurd h45 (nbf hg21)
  have hg3p := nbf hg3
  have h45 : f.tag ≠ [50, 52, 53] := nbf hg3
  refine q3 3 21 22 true hg3 ?_
  refine q3 3 21 23 true hg3 ?_
  refine q3 3 21 24 true hg3 ?_
  refine q3 3 21 25 true hg3 ?_
  refine J.z (q10 hg3) ?_
  refine J.z q0 ?_
  refine q32 9 27 28 true ?_
  refine q32 9 27 29 true ?_
  refine q32 9 27 30 true ?_
  refine q32 9 27 31 true ?_
  refine J.z q30 ?_
  refine J.z q0 ?_
  refine q32 15 33 34 true ?_
  refine q32 15 33 35 true ?_
  refine q32 15 33 36 true ?_
  refine q32 15 33 37 true ?_
  refine J.z q30 ?_
  refine J.c0 (fun hc25 => ?_)
  refine Cj.ks (Cj.seq ?_)
  have hsk : Ix.skipT f = 0 := if_neg h45
  refine Cj.region (J.z (q4 (off' := 0) tU31 tS9) ?_)
  refine J.z (q18 tA9) ?_
  refine J.z q31 ?_
  refine J.z q0 ?_
  refine q16 47 (fun hg26 => ?_) (fun hg26 => ?_)
  ·
   have hg26p := ebq hg26
   exact absurd (ebq hg26) h45
  have hg26p := nbf hg26
  refine q5 3 47 false hg26 (q2 (q4 (off' := 0) tU31 tS9) ?_)
  refine q5 3 47 false hg26 (q2 (q18 tA9) ?_)
  refine q5 3 47 false hg26 (q2 q31 ?_)
  refine J.z (q10 hg26) ?_
  refine J.cd (fun hc27 => ?_) (fun hc27 => ?_)
  ·
   have hc27p := ebq hc27
   have htt : f.tag = [50, 52, 53] ∨ f.tag = [50, 52, 54] := .inr (ebq hc27)
   refine Cj.region (J.z q0 ?_)
   refine J.z (q33 tA31 tS31) ?_
   refine J.op rfl (op_pure rfl rfl rfl rfl rfl (rText_ok f [97, 98] (by decide) hn2 htx _ hr) ?_)
   refine J.z q0 ?_
   refine J.z (yl_buildS (pl := #[(0, 1), (1, 1)]) rfl rfl tZ104 rfl tU104 (fun w => by simp []) (LBld.part rfl rfl rfl (LSpl.c LSpl.z) (LBld.part rfl rfl rfl (LSpl.s (LSpl.c LSpl.z)) LBld.none))) ?_
   refine J.op rfl (q41 tU101 tS104 tZ104 ?_)
   intro b28 hb28
   refine J.op rfl (op_append (by' := 23) (n := 0) (g := none) (xs := []) [_, _] rfl rfl rfl rfl rfl tU101 (.inr ⟨_, tU101⟩) (by kernel_rfl) tS104 tZ104 rfl ⟨rfl, rfl⟩ rfl (Src.slice (Blk.at 0 rfl) rfl rfl rfl) (by omega) ?_)
   intro g29 hg29
   refine J.z q1 ?_
   refine J.nb (Cj.sr (J.z q0 ?_))
   refine J.z q1 ?_
   refine J.ns (Cj.ret (Ej.keep (Keeps.d (Keeps.d Keeps.r)) ?_))
   have hof : Ix.ofN f n = [(Ke.textOf f [97, 98], 0)] := (of_title hn).trans (by rw [if_pos htt, hsk])
   rw [hof]
   refine Ej.perm (H' := gH 104 (List.flatMap valC ([(Ke.textOf f [97, 98], 0)])) g29 ++ []) (.of_eq (List.append_nil _)) ?_
   refine Ej.keepR valC_len (by decide) hg29 rfl (fun I8 hle8 hw8 => ?_)
   refine q6 ?_
   exact ⟨_, rfl, hw8, rfl⟩
  have hc27p := nbf hc27
  have htt : ¬ (f.tag = [50, 52, 53] ∨ f.tag = [50, 52, 54]) := fun g => g.elim h45 (nbf hc27)
  refine Cj.kb (Cj.sr (J.z q0 ?_))
  refine J.z q1 ?_
  refine J.ns (Cj.ret ?_)
  have hof : Ix.ofN f n = [] := (of_title hn).trans (if_neg htt)
  rw [hof]
  refine Ej.bare ?_
  refine q6 ?_
  exact ⟨_, rfl, RowS.nil, rfl⟩
 have hc2p := nbf hc2
 have nn16 : n ≠ Ix.nTitle := nbf hc2
 refine Cj.sr (J.z q31 ?_)
 refine J.z q1 ?_
 refine J.cd (fun hc30 => ?_) (fun hc30 => ?_)
 ·
  have hc30p := ebq hc30
  have hn : n = Ix.nAuthor := ebq hc30
  refine Cj.sr (J.z (q4 (off' := 0) tU31 tS9) ?_)
  refine J.z (q18 tA9) ?_
  refine J.z q31 ?_
  refine J.z q0 ?_
  refine q16 64 (fun hg31 => ?_) (fun hg31 => ?_)
  ·
   have hg31p := ebq hg31
   have h100 : f.tag = [49, 48, 48] := ebq hg31
   have htt : f.tag = [49, 48, 48] ∨ f.tag = [49, 49, 48] ∨ f.tag = [55, 48, 48] := .inl h100
   refine q3 3 64 65 false hg31 ?_
   refine q3 3 64 66 false hg31 ?_
   refine q3 3 64 67 false hg31 ?_
   refine J.z (q11 hg31) ?_
   refine J.z q0 ?_
   refine q32 8 69 70 false ?_
   refine q32 8 69 71 false ?_
   refine q32 8 69 72 false ?_
   refine J.z q51 ?_
   refine J.c1 (fun hc32 => ?_)
   refine Cj.region (J.z q0 ?_)
   refine J.z (q33 tA31 tS31) ?_
   refine J.op rfl (op_pure rfl rfl rfl rfl rfl (rText_ok f [97] (by decide) hn2 htx _ hr) ?_)
   refine J.z (yl_buildS (pl := #[(0, 1), (1, 1)]) rfl rfl tZ104 rfl tU104 (fun w => by simp []) (LBld.part rfl rfl rfl (LSpl.c LSpl.z) LBld.none)) ?_
   refine J.op rfl (q41 tU101 tS104 tZ104 ?_)
   intro b33 hb33
   refine J.op rfl (op_append (by' := 23) (n := 0) (g := none) (xs := []) [_, _] rfl rfl rfl rfl rfl tU101 (.inr ⟨_, tU101⟩) (by kernel_rfl) tS104 tZ104 rfl ⟨rfl, rfl⟩ rfl (Src.slice (Blk.at 0 rfl) rfl rfl rfl) (by omega) ?_)
   intro g34 hg34
   refine J.z q1 ?_
   refine J.nb (Cj.sr (J.z q0 ?_))
   refine J.z q1 ?_
   refine J.ns (Cj.ret (Ej.keep (Keeps.d (Keeps.d Keeps.r)) ?_))
   have hof : Ix.ofN f n = [(Ke.textOf f [97], 0)] := (of_author hn).trans (if_pos htt)
   rw [hof]
   refine Ej.perm (H' := gH 104 (List.flatMap valC ([(Ke.textOf f [97], 0)])) g34 ++ []) (.of_eq (List.append_nil _)) ?_
   refine Ej.keepR valC_len (by decide) hg34 rfl (fun I8 hle8 hw8 => ?_)
   refine q6 ?_
   exact ⟨_, rfl, hw8, rfl⟩
  have hg31p := nbf hg31
  have h100 : f.tag ≠ [49, 48, 48] := nbf hg31
  refine q5 3 64 false hg31 (q2 (q4 (off' := 0) tU31 tS9) ?_)
  refine q5 3 64 false hg31 (q2 (q18 tA9) ?_)
  refine q5 3 64 false hg31 (q2 q31 ?_)
  refine J.z (q10 hg31) ?_
  refine J.z q0 ?_
  refine q16 69 (fun hg35 => ?_) (fun hg35 => ?_)
  ·
   have hg35p := ebq hg35
   have h110 : f.tag = [49, 49, 48] := ebq hg35
   have htt : f.tag = [49, 48, 48] ∨ f.tag = [49, 49, 48] ∨ f.tag = [55, 48, 48] := .inr (.inl h110)
   refine q3 8 69 70 false hg35 ?_
   refine q3 8 69 71 false hg35 ?_
   refine q3 8 69 72 false hg35 ?_
   refine J.z (q11 hg35) ?_
   refine J.c1 (fun hc36 => ?_)
   refine Cj.region (J.z q0 ?_)
   refine J.z (q33 tA31 tS31) ?_
   refine J.op rfl (op_pure rfl rfl rfl rfl rfl (rText_ok f [97] (by decide) hn2 htx _ hr) ?_)
   refine J.z (yl_buildS (pl := #[(0, 1), (1, 1)]) rfl rfl tZ104 rfl tU104 (fun w => by simp []) (LBld.part rfl rfl rfl (LSpl.c LSpl.z) LBld.none)) ?_
   refine J.op rfl (q41 tU101 tS104 tZ104 ?_)
   intro b37 hb37
   refine J.op rfl (op_append (by' := 23) (n := 0) (g := none) (xs := []) [_, _] rfl rfl rfl rfl rfl tU101 (.inr ⟨_, tU101⟩) (by kernel_rfl) tS104 tZ104 rfl ⟨rfl, rfl⟩ rfl (Src.slice (Blk.at 0 rfl) rfl rfl rfl) (by omega) ?_)
   intro g38 hg38
   refine J.z q1 ?_
   refine J.nb (Cj.sr (J.z q0 ?_))
   refine J.z q1 ?_
   refine J.ns (Cj.ret (Ej.keep (Keeps.d (Keeps.d Keeps.r)) ?_))
   have hof : Ix.ofN f n = [(Ke.textOf f [97], 0)] := (of_author hn).trans (if_pos htt)
   rw [hof]
   refine Ej.perm (H' := gH 104 (List.flatMap valC ([(Ke.textOf f [97], 0)])) g38 ++ []) (.of_eq (List.append_nil _)) ?_
   refine Ej.keepR valC_len (by decide) hg38 rfl (fun I8 hle8 hw8 => ?_)
   refine q6 ?_
   exact ⟨_, rfl, hw8, rfl⟩
  have hg35p := nbf hg35
  have h110 : f.tag ≠ [49, 49, 48] := nbf hg35
  refine q5 8 69 false hg35 (q2 (q4 (off' := 0) tU31 tS9) ?_)
  refine q5 8 69 false hg35 (q2 (q18 tA9) ?_)
  refine q5 8 69 false hg35 (q2 q31 ?_)
  refine J.z (q10 hg35) ?_
  refine J.cd (fun hc39 => ?_) (fun hc39 => ?_)
  ·
   have hc39p := ebq hc39
   have htt : f.tag = [49, 48, 48] ∨ f.tag = [49, 49, 48] ∨ f.tag = [55, 48, 48] := .inr (.inr (ebq hc39))
   refine Cj.region (J.z q0 ?_)
   refine J.z (q33 tA31 tS31) ?_
   refine J.op rfl (op_pure rfl rfl rfl rfl rfl (rText_ok f [97] (by decide) hn2 htx _ hr) ?_)
   refine J.z (yl_buildS (pl := #[(0, 1), (1, 1)]) rfl rfl tZ104 rfl tU104 (fun w => by simp []) (LBld.part rfl rfl rfl (LSpl.c LSpl.z) LBld.none)) ?_
   refine J.op rfl (q41 tU101 tS104 tZ104 ?_)
   intro b40 hb40
   refine J.op rfl (op_append (by' := 23) (n := 0) (g := none) (xs := []) [_, _] rfl rfl rfl rfl rfl tU101 (.inr ⟨_, tU101⟩) (by kernel_rfl) tS104 tZ104 rfl ⟨rfl, rfl⟩ rfl (Src.slice (Blk.at 0 rfl) rfl rfl rfl) (by omega) ?_)
   intro g41 hg41
   refine J.z q1 ?_
   refine J.nb (Cj.sr (J.z q0 ?_))
   refine J.z q1 ?_
   refine J.ns (Cj.ret (Ej.keep (Keeps.d (Keeps.d Keeps.r)) ?_))
   have hof : Ix.ofN f n = [(Ke.textOf f [97], 0)] := (of_author hn).trans (if_pos htt)
   rw [hof]
   refine Ej.perm (H' := gH 104 (List.flatMap valC ([(Ke.textOf f [97], 0)])) g41 ++ []) (.of_eq (List.append_nil _)) ?_
   refine Ej.keepR valC_len (by decide) hg41 rfl (fun I8 hle8 hw8 => ?_)
   refine q6 ?_
   exact ⟨_, rfl, hw8, rfl⟩
  have hc39p := nbf hc39
  have htt : ¬ (f.tag = [49, 48, 48] ∨ f.tag = [49, 49, 48] ∨ f.tag = [55, 48, 48]) := fun g => g.elim h100 fun g => g.elim h110 (nbf hc39)
  refine Cj.kb (Cj.sr (J.z q0 ?_))
  refine J.z q1 ?_
  refine J.ns (Cj.ret ?_)
  have hof : Ix.ofN f n = [] := (of_author hn).trans (if_neg htt)
  rw [hof]
  refine Ej.bare ?_
  refine q6 ?_
  exact ⟨_, rfl, RowS.nil, rfl⟩
 have hc30p := nbf hc30
 have nn59 : n ≠ Ix.nAuthor := nbf hc30
 refine Cj.sr (J.z q31 ?_)
 refine J.z q1 ?_
 refine J.cd (fun hc42 => ?_) (fun hc42 => ?_)
 ·
  have hc42p := ebq hc42
  have hn : n = Ix.nSubject := ebq hc42
  refine Cj.sr (J.z (q4 (off' := 0) tU31 tS9) ?_)
  refine J.z (q18 tA9) ?_
  refine J.z q31 ?_
  refine J.z q0 ?_
  refine q16 85 (fun hg43 => ?_) (fun hg43 => ?_)
  ·
   have hg43p := ebq hg43
   have h600 : f.tag = [54, 48, 48] := ebq hg43
   have htt : f.tag = [54, 48, 48] ∨ f.tag = [54, 53, 48] := .inl h600
   refine q3 3 85 86 false hg43 ?_
   refine q3 3 85 87 false hg43 ?_
   refine q3 3 85 88 false hg43 ?_
   refine J.z (q11 hg43) ?_
   refine J.c1 (fun hc44 => ?_)
   refine Cj.region (J.z q0 ?_)
   refine J.z (q33 tA31 tS31) ?_
   refine J.op rfl (op_pure rfl rfl rfl rfl rfl (rText_ok f [97, 120] (by decide) hn2 htx _ hr) ?_)
   refine J.z (yl_buildS (pl := #[(0, 1), (1, 1)]) rfl rfl tZ104 rfl tU104 (fun w => by simp []) (LBld.part rfl rfl rfl (LSpl.c LSpl.z) LBld.none)) ?_
   refine J.op rfl (q41 tU101 tS104 tZ104 ?_)
   intro b45 hb45
   refine J.op rfl (op_append (by' := 23) (n := 0) (g := none) (xs := []) [_, _] rfl rfl rfl rfl rfl tU101 (.inr ⟨_, tU101⟩) (by kernel_rfl) tS104 tZ104 rfl ⟨rfl, rfl⟩ rfl (Src.slice (Blk.at 0 rfl) rfl rfl rfl) (by omega) ?_)
   intro g46 hg46
   refine J.z q1 ?_
   refine J.nb (Cj.sr (J.z q0 ?_))
   refine J.z q1 ?_
   refine J.ns (Cj.ret (Ej.keep (Keeps.d (Keeps.d Keeps.r)) ?_))
   have hof : Ix.ofN f n = [(Ke.textOf f [97, 120], 0)] := (of_subject hn).trans (if_pos htt)
   rw [hof]
   refine Ej.perm (H' := gH 104 (List.flatMap valC ([(Ke.textOf f [97, 120], 0)])) g46 ++ []) (.of_eq (List.append_nil _)) ?_
   refine Ej.keepR valC_len (by decide) hg46 rfl (fun I8 hle8 hw8 => ?_)
   refine q6 ?_
   exact ⟨_, rfl, hw8, rfl⟩
  have hg43p := nbf hg43
  have h600 : f.tag ≠ [54, 48, 48] := nbf hg43
  refine q5 3 85 false hg43 (q2 (q4 (off' := 0) tU31 tS9) ?_)
  refine q5 3 85 false hg43 (q2 (q18 tA9) ?_)
  refine q5 3 85 false hg43 (q2 q31 ?_)
  refine J.z (q10 hg43) ?_
  refine J.cd (fun hc47 => ?_) (fun hc47 => ?_)
  ·
   have hc47p := ebq hc47
   have htt : f.tag = [54, 48, 48] ∨ f.tag = [54, 53, 48] := .inr (ebq hc47)
   refine Cj.region (J.z q0 ?_)
   refine J.z (q33 tA31 tS31) ?_
   refine J.op rfl (op_pure rfl rfl rfl rfl rfl (rText_ok f [97, 120] (by decide) hn2 htx _ hr) ?_)
   refine J.z (yl_buildS (pl := #[(0, 1), (1, 1)]) rfl rfl tZ104 rfl tU104 (fun w => by simp []) (LBld.part rfl rfl rfl (LSpl.c LSpl.z) LBld.none)) ?_
   refine J.op rfl (q41 tU101 tS104 tZ104 ?_)
   intro b48 hb48
   refine J.op rfl (op_append (by' := 23) (n := 0) (g := none) (xs := []) [_, _] rfl rfl rfl rfl rfl tU101 (.inr ⟨_, tU101⟩) (by kernel_rfl) tS104 tZ104 rfl ⟨rfl, rfl⟩ rfl (Src.slice (Blk.at 0 rfl) rfl rfl rfl) (by omega) ?_)
   intro g49 hg49
   refine J.z q1 ?_
   refine J.nb (Cj.sr (J.z q0 ?_))
   refine J.z q1 ?_
   refine J.ns (Cj.ret (Ej.keep (Keeps.d (Keeps.d Keeps.r)) ?_))
   have hof : Ix.ofN f n = [(Ke.textOf f [97, 120], 0)] := (of_subject hn).trans (if_pos htt)
   rw [hof]
   refine Ej.perm (H' := gH 104 (List.flatMap valC ([(Ke.textOf f [97, 120], 0)])) g49 ++ []) (.of_eq (List.append_nil _)) ?_
   refine Ej.keepR valC_len (by decide) hg49 rfl (fun I8 hle8 hw8 => ?_)
   refine q6 ?_
   exact ⟨_, rfl, hw8, rfl⟩
  have hc47p := nbf hc47
  have htt : ¬ (f.tag = [54, 48, 48] ∨ f.tag = [54, 53, 48]) := fun g => g.elim h600 (nbf hc47)
  refine Cj.kb (Cj.sr (J.z q0 ?_))
  refine J.z q1 ?_
  refine J.ns (Cj.ret ?_)
  have hof : Ix.ofN f n = [] := (of_subject hn).trans (if_neg htt)
  rw [hof]
  refine Ej.bare ?_
  refine q6 ?_
  exact ⟨_, rfl, RowS.nil, rfl⟩
 have hc42p := nbf hc42
 have nn80 : n ≠ Ix.nSubject := nbf hc42
 refine Cj.sr (J.z q31 ?_)
 refine J.z q1 ?_
 refine J.cd (fun hc50 => ?_) (fun hc50 => ?_)
 ·
  have hc50p := ebq hc50
  have hn : n = Ix.nIsbn := ebq hc50
  refine Cj.sr (J.z q1 ?_)
  refine J.ns (Cj.block (Cj.loop (ι := Nat × Gs) (fun y => y.1 ≤ f.subs.length ∧ (y.1 = 0 ∨ f.tag = [48, 50, 48]) ∧ gOk w0.heap.size 2 (psL Ke.isbn 97 (f.subs.take y.1)).length ((psL Ke.isbn 97 (f.subs.take y.1)).flatMap valC) y.2) (fun y => f.subs.length - y.1) (fun y => [(1, str n), (2, ptr b1 0), (5, gV (psL Ke.isbn 97 (f.subs.take y.1)).length y.2), (7, i64 (y.1 : Int))]) (fun y => _) (fun y => (b1, cel 31 (fldC f)) :: gH 104 ((psL Ke.isbn 97 (f.subs.take y.1)).flatMap valC) y.2) (0, none) ⟨Nat.zero_le _, .inl rfl, rfl, rfl⟩ ⟨rfl, rfl, rfl, rfl, trivial⟩ rfl rfl ?_))
  rintro ⟨j, g⟩ ⟨hj, hj0, hg⟩
  dsimp only at hj hj0 hg ⊢
  have hpl := psL_len Ke.isbn 97 (f.subs.take j)
  rw [List.length_take, Nat.min_eq_left hj] at hpl
  refine Cj.seq (Cj.sr (J.z q0 ?_))
  refine J.z (q4 (off' := 3) tU31 tS29) ?_
  refine J.z (q18 tA29) ?_
  refine J.eqv 100 rfl (show _ = .slice p2 f.subs.length c2 from hsv) ?_
  refine J.z (q15 tU29) ?_
  refine J.z q17 ?_
  refine J.z q0 ?_
  refine q16 103 (fun hg51 => ?_) (fun hg51 => ?_)
  ·
   have hg51p := odt hg51
   have hlt : j < f.subs.length := by omega
   obtain ⟨sb, hsget⟩ : ∃ x, f.subs[j]? = some x := ⟨_, lgg hlt⟩
   obtain ⟨sbk, so, scs, sty, sfr, sp2, rfl, hsbk, hsd⟩ := hp2 (ne_nil_of hlt)
   have hxl := text_mem (lmg hsget)
   have hnx := psL_next (u := Ke.isbn) (c := 97) hsget
   refine q5 5 103 true hg51 (q2 (q4 (off' := 0) tU31 tS9) ?_)
   refine q5 5 103 true hg51 (q2 (q18 tA9) ?_)
   refine q5 5 103 true hg51 (q2 q31 ?_)
   refine J.z (q11 hg51) ?_
   refine J.cd (fun hc52 => ?_) (fun hc52 => ?_)
   ·
    have hc52p := ebq hc52
    have htg : f.tag = [48, 50, 48] := ebq hc52
    refine Cj.ks (Cj.seq (Cj.block (Cj.sr (J.z (q4 (off' := 3) tU31 tS29) ?_))))
    refine J.z (q18 tA29) ?_
    refine J.eqv 112 rfl (show _ = .slice (some ⟨sbk, so, none⟩) f.subs.length c2 from hsv) ?_
    refine J.z q0 ?_
    refine J.z (q19 (off' := so + j * 2) tU29 tS65) ?_
    refine J.z (q4 (off' := so + j * 2 + 1) tU65 tS9) ?_
    refine J.z (yl_load rfl rfl tA9 (Blk.imm hsbk) (row_fcell subC_len hsd hsget 1 (by decide))) ?_
    refine J.op rfl (op_pure rfl rfl rfl rfl rfl (rIsbn_ok sb.text (by omega) _) ?_)
    refine J.z q0 ?_
    refine J.z q25 ?_
    refine J.z q25 ?_
    refine J.z q1 ?_
    refine J.z q1 ?_
    refine J.nssr (J.z q0 ?_)
    refine J.z q0 ?_
    refine q16 121 (fun hg53 => ?_) (fun hg53 => ?_)
    ·
     have hok : (Ke.isbn sb.text).2 = true := hg53
     refine q5 1 121 true hg53 (q2 (q4 (off' := 3) tU31 tS29) ?_)
     refine q5 1 121 true hg53 (q2 (q18 tA29) ?_)
     refine J.eqv 123 rfl (show _ = .slice (some ⟨sbk, so, none⟩) f.subs.length c2 from hsv) ?_
     refine q5 1 121 true hg53 (q2 q0 ?_)
     refine J.opG 1 121 true _ rfl rfl rfl hg53 (op_yld (q19 (off' := so + j * 2) tU29 tS65) rfl rfl ?_)
     refine q5 1 121 true hg53 (q2 (q4 tU65 tS5) ?_)
     refine J.opG 1 121 true _ rfl rfl rfl hg53 (op_yld (yl_load rfl rfl tA5 (Blk.imm hsbk) (row_fcell subC_len hsd hsget 0 (by decide))) rfl rfl ?_)
     refine q5 1 121 true hg53 (q2 q23 ?_)
     refine J.z (q11 hg53) ?_
     refine J.cd (fun hc54 => ?_) (fun hc54 => ?_)
     ·
      have hc54p := ebq hc54
      have hcd : sb.code = 97 := UInt8.toNat_inj.1 (by have h := ebq hc54; show sb.code.toNat = 97; omega)
      rw [if_pos ⟨hok, hcd⟩] at hnx
      refine Cj.region (J.z q0 ?_)
      refine J.z q0 ?_
      refine J.z (yl_buildS (pl := #[(0, 1), (1, 1)]) rfl rfl tZ104 rfl tU104 (fun w => by simp []) (LBld.part rfl rfl rfl (LSpl.c LSpl.z) LBld.none)) ?_
      refine J.op rfl (q41 tU101 tS104 tZ104 ?_)
      intro b55 hb55
      refine J.op rfl (op_append (by' := 23) [_, _] rfl rfl rfl rfl rfl tU101 (.inr ⟨_, tU101⟩) (by kernel_rfl) tS104 tZ104 rfl hg rfl (Src.slice (Blk.at 0 rfl) rfl rfl rfl) (by omega) ?_)
      intro g56 hg56
      refine J.z q1 ?_
      refine J.nb (Cj.region (J.z q0 ?_))
      refine J.z q7 ?_
      refine J.z q1 ?_
      refine J.nil (Ej.keep (Keeps.d (Keeps.k Keeps.r)) ?_)
      refine Ej.round (j + 1, g56) ⟨by dsimp only; omega, .inr htg, by dsimp only; rw [hnx, List.length_append, List.flatMap_append]; exact hg56⟩ (by dsimp only; omega) ⟨rfl, rfl, by dsimp only; rw [hnx, List.length_append]; rfl, rfl, trivial⟩ rfl (by dsimp only; rw [hnx, List.flatMap_append]; rfl)
     have hc54p := nbf hc54
     rw [if_neg (fun g => nbf hc54 (by rw [g.2]; rfl))] at hnx
     refine Cj.kb (Cj.region (J.z q0 ?_))
     refine J.z q7 ?_
     refine J.z q1 ?_
     refine J.nil (Ej.round (j + 1, g) ⟨by dsimp only; omega, .inr htg, by dsimp only; rw [hnx, List.append_nil]; exact hg⟩ (by dsimp only; omega) ⟨rfl, rfl, by dsimp only; rw [hnx, List.append_nil]; rfl, rfl, trivial⟩ rfl (by dsimp only; rw [hnx, List.append_nil]))
    rw [if_neg (fun g => Bool.noConfusion (g.1.symm.trans hg53))] at hnx
    refine q3 1 121 122 true hg53 ?_
    refine q3 1 121 123 true hg53 ?_
    refine q3 1 121 124 true hg53 ?_
    refine q3 1 121 125 true hg53 ?_
    refine q3 1 121 126 true hg53 ?_
    refine q3 1 121 127 true hg53 ?_
    refine q3 1 121 128 true hg53 ?_
    refine J.z (q10 hg53) ?_
    refine J.c0 (fun hc57 => ?_)
    refine Cj.kb (Cj.region (J.z q0 ?_))
    refine J.z q7 ?_
    refine J.z q1 ?_
    refine J.nil (Ej.round (j + 1, g) ⟨by dsimp only; omega, .inr htg, by dsimp only; rw [hnx, List.append_nil]; exact hg⟩ (by dsimp only; omega) ⟨rfl, rfl, by dsimp only; rw [hnx, List.append_nil]; rfl, rfl, trivial⟩ rfl (by dsimp only; rw [hnx, List.append_nil]))
   have hc52p := nbf hc52
   have htn : f.tag ≠ [48, 50, 48] := nbf hc52
   refine Cj.exit (Ej.seqExit (Ej.loopExit (Ej.blkExit (Ej.blkNormal (Ej.seq (Cj.sr (J.z q0 ?_)))))))
   refine J.z q1 ?_
   refine J.ns (Cj.ret (Ej.keep (Keeps.d Keeps.r) ?_))
   have hof : Ix.ofN f n = psL Ke.isbn 97 (f.subs.take j) := (of_isbn hn).trans (ps_no hj0 htn)
   rw [hof]
   refine Ej.perm (H' := gH 104 (List.flatMap valC (psL Ke.isbn 97 (f.subs.take j))) g ++ []) (.of_eq (List.append_nil _)) ?_
   refine Ej.keepR valC_len (by decide) hg rfl (fun I8 hle8 hw8 => ?_)
   refine q6 ?_
   exact ⟨_, rfl, hw8, rfl⟩
  have hg51p := odf hg51
  refine q3 5 103 104 true hg51 ?_
  refine q3 5 103 105 true hg51 ?_
  refine q3 5 103 106 true hg51 ?_
  refine J.z (q10 hg51) ?_
  refine J.c0 (fun hc58 => ?_)
  refine Cj.exit (Ej.seqExit (Ej.loopExit (Ej.blkExit (Ej.blkNormal (Ej.seq (Cj.sr (J.z q0 ?_)))))))
  refine J.z q1 ?_
  refine J.ns (Cj.ret (Ej.keep (Keeps.d Keeps.r) ?_))
  have hof : Ix.ofN f n = psL Ke.isbn 97 (f.subs.take j) := (of_isbn hn).trans (ps_end hj0 (by omega))
  rw [hof]
  refine Ej.perm (H' := gH 104 (List.flatMap valC (psL Ke.isbn 97 (f.subs.take j))) g ++ []) (.of_eq (List.append_nil _)) ?_
  refine Ej.keepR valC_len (by decide) hg rfl (fun I8 hle8 hw8 => ?_)
  refine q6 ?_
  exact ⟨_, rfl, hw8, rfl⟩
 have hc50p := nbf hc50
 have nn96 : n ≠ Ix.nIsbn := nbf hc50
 refine Cj.sr (J.z q31 ?_)
 refine J.z q1 ?_
 refine J.cd (fun hc59 => ?_) (fun hc59 => ?_)
 ·
  have hc59p := ebq hc59
  have hn : n = Ix.nYear := ebq hc59
  refine Cj.sr (J.z q1 ?_)
  refine J.ns (Cj.block (Cj.loop (ι := Nat × Gs) (fun y => y.1 ≤ f.subs.length ∧ (y.1 = 0 ∨ f.tag = [50, 54, 48]) ∧ gOk w0.heap.size 2 (psL uy 99 (f.subs.take y.1)).length ((psL uy 99 (f.subs.take y.1)).flatMap valC) y.2) (fun y => f.subs.length - y.1) (fun y => [(1, str n), (2, ptr b1 0), (5, gV (psL uy 99 (f.subs.take y.1)).length y.2), (10, i64 (y.1 : Int))]) (fun y => _) (fun y => (b1, cel 31 (fldC f)) :: gH 104 ((psL uy 99 (f.subs.take y.1)).flatMap valC) y.2) (0, none) ⟨Nat.zero_le _, .inl rfl, rfl, rfl⟩ ⟨rfl, rfl, rfl, rfl, trivial⟩ rfl rfl ?_))
  rintro ⟨j, g⟩ ⟨hj, hj0, hg⟩
  dsimp only at hj hj0 hg ⊢
  have hpl := psL_len uy 99 (f.subs.take j)
  rw [List.length_take, Nat.min_eq_left hj] at hpl
  refine Cj.seq (Cj.sr (J.z q0 ?_))
  refine J.z (q4 (off' := 3) tU31 tS29) ?_
  refine J.z (q18 tA29) ?_
  refine J.eqv 139 rfl (show _ = .slice p2 f.subs.length c2 from hsv) ?_
  refine J.z (q15 tU29) ?_
  refine J.z q17 ?_
  refine J.z q0 ?_
  refine q16 142 (fun hg60 => ?_) (fun hg60 => ?_)
  ·
   have hg60p := odt hg60
   have hlt : j < f.subs.length := by omega
   obtain ⟨sb, hsget⟩ : ∃ x, f.subs[j]? = some x := ⟨_, lgg hlt⟩
   obtain ⟨sbk, so, scs, sty, sfr, sp2, rfl, hsbk, hsd⟩ := hp2 (ne_nil_of hlt)
   have hxl := text_mem (lmg hsget)
   have hnx := psL_next (u := uy) (c := 99) hsget
   refine q5 5 142 true hg60 (q2 (q4 (off' := 0) tU31 tS9) ?_)
   refine q5 5 142 true hg60 (q2 (q18 tA9) ?_)
   refine q5 5 142 true hg60 (q2 q31 ?_)
   refine J.z (q11 hg60) ?_
   refine J.cd (fun hc61 => ?_) (fun hc61 => ?_)
   ·
    have hc61p := ebq hc61
    have htg : f.tag = [50, 54, 48] := ebq hc61
    refine Cj.ks (Cj.seq (Cj.block (Cj.sr (J.z (q4 (off' := 3) tU31 tS29) ?_))))
    refine J.z (q18 tA29) ?_
    refine J.eqv 151 rfl (show _ = .slice (some ⟨sbk, so, none⟩) f.subs.length c2 from hsv) ?_
    refine J.z q0 ?_
    refine J.z (q19 (off' := so + j * 2) tU29 tS65) ?_
    refine J.z (q4 (off' := so + j * 2 + 1) tU65 tS9) ?_
    refine J.z (yl_load rfl rfl tA9 (Blk.imm hsbk) (row_fcell subC_len hsd hsget 1 (by decide))) ?_
    refine J.op rfl (op_pure rfl rfl rfl rfl rfl (rYear_ok sb.text (by omega) _) ?_)
    refine J.z q0 ?_
    refine J.z q25 ?_
    refine J.z q25 ?_
    refine J.z q1 ?_
    refine J.z q1 ?_
    refine J.nssr (J.z q0 ?_)
    refine J.z q0 ?_
    refine q16 160 (fun hg62 => ?_) (fun hg62 => ?_)
    ·
     have hok : (uy sb.text).2 = true := hg62
     refine q5 1 160 true hg62 (q2 (q4 (off' := 3) tU31 tS29) ?_)
     refine q5 1 160 true hg62 (q2 (q18 tA29) ?_)
     refine J.eqv 162 rfl (show _ = .slice (some ⟨sbk, so, none⟩) f.subs.length c2 from hsv) ?_
     refine q5 1 160 true hg62 (q2 q0 ?_)
     refine J.opG 1 160 true _ rfl rfl rfl hg62 (op_yld (q19 (off' := so + j * 2) tU29 tS65) rfl rfl ?_)
     refine q5 1 160 true hg62 (q2 (q4 tU65 tS5) ?_)
     refine J.opG 1 160 true _ rfl rfl rfl hg62 (op_yld (yl_load rfl rfl tA5 (Blk.imm hsbk) (row_fcell subC_len hsd hsget 0 (by decide))) rfl rfl ?_)
     refine q5 1 160 true hg62 (q2 q23 ?_)
     refine J.z (q11 hg62) ?_
     refine J.cd (fun hc63 => ?_) (fun hc63 => ?_)
     ·
      have hc63p := ebq hc63
      have hcd : sb.code = 99 := UInt8.toNat_inj.1 (by have h := ebq hc63; show sb.code.toNat = 99; omega)
      rw [if_pos ⟨hok, hcd⟩] at hnx
      refine Cj.region (J.z q0 ?_)
      refine J.z q0 ?_
      refine J.z (yl_buildS (pl := #[(0, 1), (1, 1)]) rfl rfl tZ104 rfl tU104 (fun w => by simp []) (LBld.part rfl rfl rfl (LSpl.c LSpl.z) LBld.none)) ?_
      refine J.op rfl (q41 tU101 tS104 tZ104 ?_)
      intro b64 hb64
      refine J.op rfl (op_append (by' := 23) [_, _] rfl rfl rfl rfl rfl tU101 (.inr ⟨_, tU101⟩) (by kernel_rfl) tS104 tZ104 rfl hg rfl (Src.slice (Blk.at 0 rfl) rfl rfl rfl) (by omega) ?_)
      intro g65 hg65
      refine J.z q1 ?_
      refine J.nb (Cj.region (J.z q0 ?_))
      refine J.z q7 ?_
      refine J.z q1 ?_
      refine J.nil (Ej.keep (Keeps.d (Keeps.k Keeps.r)) ?_)
      refine Ej.round (j + 1, g65) ⟨by dsimp only; omega, .inr htg, by dsimp only; rw [hnx, List.length_append, List.flatMap_append]; exact hg65⟩ (by dsimp only; omega) ⟨rfl, rfl, by dsimp only; rw [hnx, List.length_append]; rfl, rfl, trivial⟩ rfl (by dsimp only; rw [hnx, List.flatMap_append]; rfl)
     have hc63p := nbf hc63
     rw [if_neg (fun g => nbf hc63 (by rw [g.2]; rfl))] at hnx
     refine Cj.kb (Cj.region (J.z q0 ?_))
     refine J.z q7 ?_
     refine J.z q1 ?_
     refine J.nil (Ej.round (j + 1, g) ⟨by dsimp only; omega, .inr htg, by dsimp only; rw [hnx, List.append_nil]; exact hg⟩ (by dsimp only; omega) ⟨rfl, rfl, by dsimp only; rw [hnx, List.append_nil]; rfl, rfl, trivial⟩ rfl (by dsimp only; rw [hnx, List.append_nil]))
    rw [if_neg (fun g => Bool.noConfusion (g.1.symm.trans hg62))] at hnx
    refine q3 1 160 161 true hg62 ?_
    refine q3 1 160 162 true hg62 ?_
    refine q3 1 160 163 true hg62 ?_
    refine q3 1 160 164 true hg62 ?_
    refine q3 1 160 165 true hg62 ?_
    refine q3 1 160 166 true hg62 ?_
    refine q3 1 160 167 true hg62 ?_
    refine J.z (q10 hg62) ?_
    refine J.c0 (fun hc66 => ?_)
    refine Cj.kb (Cj.region (J.z q0 ?_))
    refine J.z q7 ?_
    refine J.z q1 ?_
    refine J.nil (Ej.round (j + 1, g) ⟨by dsimp only; omega, .inr htg, by dsimp only; rw [hnx, List.append_nil]; exact hg⟩ (by dsimp only; omega) ⟨rfl, rfl, by dsimp only; rw [hnx, List.append_nil]; rfl, rfl, trivial⟩ rfl (by dsimp only; rw [hnx, List.append_nil]))
   have hc61p := nbf hc61
   have htn : f.tag ≠ [50, 54, 48] := nbf hc61
   refine Cj.exit (Ej.seqExit (Ej.loopExit (Ej.blkExit (Ej.blkNormal (Ej.seq (Cj.sr (J.z q0 ?_)))))))
   refine J.z q1 ?_
   refine J.ns (Cj.ret (Ej.keep (Keeps.d Keeps.r) ?_))
   have hof : Ix.ofN f n = psL uy 99 (f.subs.take j) := (of_year hn).trans (ps_no hj0 htn)
   rw [hof]
   refine Ej.perm (H' := gH 104 (List.flatMap valC (psL uy 99 (f.subs.take j))) g ++ []) (.of_eq (List.append_nil _)) ?_
   refine Ej.keepR valC_len (by decide) hg rfl (fun I8 hle8 hw8 => ?_)
   refine q6 ?_
   exact ⟨_, rfl, hw8, rfl⟩
  have hg60p := odf hg60
  refine q3 5 142 143 true hg60 ?_
  refine q3 5 142 144 true hg60 ?_
  refine q3 5 142 145 true hg60 ?_
  refine J.z (q10 hg60) ?_
  refine J.c0 (fun hc67 => ?_)
  refine Cj.exit (Ej.seqExit (Ej.loopExit (Ej.blkExit (Ej.blkNormal (Ej.seq (Cj.sr (J.z q0 ?_)))))))
  refine J.z q1 ?_
  refine J.ns (Cj.ret (Ej.keep (Keeps.d Keeps.r) ?_))
  have hof : Ix.ofN f n = psL uy 99 (f.subs.take j) := (of_year hn).trans (ps_end hj0 (by omega))
  rw [hof]
  refine Ej.perm (H' := gH 104 (List.flatMap valC (psL uy 99 (f.subs.take j))) g ++ []) (.of_eq (List.append_nil _)) ?_
  refine Ej.keepR valC_len (by decide) hg rfl (fun I8 hle8 hw8 => ?_)
  refine q6 ?_
  exact ⟨_, rfl, hw8, rfl⟩
 have hc59p := nbf hc59
 have nn135 : n ≠ Ix.nYear := nbf hc59
 refine Cj.sr (J.z q31 ?_)
 refine J.z q1 ?_
 refine J.cd (fun hc68 => ?_) (fun hc68 => ?_)
 ·
  have hc68p := ebq hc68
  have hn : n = Ix.nAny := ebq hc68
  refine Cj.sr (J.z (q4 (off' := 0) tU31 tS9) ?_)
  refine J.z (q18 tA9) ?_
  refine J.op rfl (op_pure rfl rfl rfl rfl rfl (rStarts_ok f.tag [48, 48] (by decide) _) ?_)
  refine J.z q1 ?_
  refine J.nssr (J.z (q4 (off' := 0) tU31 tS9) ?_)
  refine J.z (q18 tA9) ?_
  refine J.op rfl (op_pure rfl rfl rfl rfl rfl (rStarts_ok f.tag [57] (by decide) _) ?_)
  refine J.z q1 ?_
  refine J.nssr (J.z q0 ?_)
  refine J.z q50 ?_
  refine J.z q0 ?_
  refine q16 184 (fun hg69 => ?_) (fun hg69 => ?_)
  ·
   have h00 : ([48, 48] : List UInt8).isPrefixOf f.tag = false := by have h := hg69; simpa using h
   refine q5 2 184 true hg69 (q2 q0 ?_)
   refine q5 2 184 true hg69 (q2 q50 ?_)
   refine J.z (q11 hg69) ?_
   refine J.cd (fun hc70 => ?_) (fun hc70 => ?_)
   ·
    have hany : Ix.anyOk f = true := by have h := hc70; unfold Ix.anyOk; rw [h00, h]; rfl
    refine Cj.region (J.z q0 ?_)
    refine J.z (q33 tA31 tS31) ?_
    refine J.op rfl (op_pure rfl rfl rfl rfl rfl (rAllText_ok f hn2 htx _ hr) ?_)
    refine J.z (yl_buildS (pl := #[(0, 1), (1, 1)]) rfl rfl tZ104 rfl tU104 (fun w => by simp []) (LBld.part rfl rfl rfl (LSpl.c LSpl.z) LBld.none)) ?_
    refine J.op rfl (q41 tU101 tS104 tZ104 ?_)
    intro b71 hb71
    refine J.op rfl (op_append (by' := 23) (n := 0) (g := none) (xs := []) [_, _] rfl rfl rfl rfl rfl tU101 (.inr ⟨_, tU101⟩) (by kernel_rfl) tS104 tZ104 rfl ⟨rfl, rfl⟩ rfl (Src.slice (Blk.at 0 rfl) rfl rfl rfl) (by omega) ?_)
    intro g72 hg72
    refine J.z q1 ?_
    refine J.nb (Cj.sr (J.z q0 ?_))
    refine J.z q1 ?_
    refine J.ns (Cj.ret (Ej.keep (Keeps.d (Keeps.d Keeps.r)) ?_))
    have hof : Ix.ofN f n = [(Ix.allText f, 0)] := (of_any hn).trans (if_pos hany)
    rw [hof]
    refine Ej.perm (H' := gH 104 (List.flatMap valC ([(Ix.allText f, 0)])) g72 ++ []) (.of_eq (List.append_nil _)) ?_
    refine Ej.keepR valC_len (by decide) hg72 rfl (fun I8 hle8 hw8 => ?_)
    refine q6 ?_
    exact ⟨_, rfl, hw8, rfl⟩
   have hany : ¬ Ix.anyOk f = true := by have h := hc70; unfold Ix.anyOk; rw [h00, h]; simp
   refine Cj.kb (Cj.sr (J.z q0 ?_))
   refine J.z q1 ?_
   refine J.ns (Cj.ret ?_)
   have hof : Ix.ofN f n = [] := (of_any hn).trans (if_neg hany)
   rw [hof]
   refine Ej.bare ?_
   refine q6 ?_
   exact ⟨_, rfl, RowS.nil, rfl⟩
  have hany : ¬ Ix.anyOk f = true := by have h := hg69; unfold Ix.anyOk; simp only [Bool.not_eq_false'] at h; rw [h]; simp
  refine q3 2 184 185 true hg69 ?_
  refine q3 2 184 186 true hg69 ?_
  refine J.z (q10 hg69) ?_
  refine J.c0 (fun hc73 => ?_)
  refine Cj.kb (Cj.sr (J.z q0 ?_))
  refine J.z q1 ?_
  refine J.ns (Cj.ret ?_)
  have hof : Ix.ofN f n = [] := (of_any hn).trans (if_neg hany)
  rw [hof]
  refine Ej.bare ?_
  refine q6 ?_
  exact ⟨_, rfl, RowS.nil, rfl⟩
 have hc68p := nbf hc68
 have hn : n ≠ Ix.nAny := nbf hc68
 refine Cj.kb (Cj.sr (J.z q0 ?_))
 refine J.z q1 ?_
 refine J.ns (Cj.ret ?_)
 have hof : Ix.ofN f n = [] := of_none nn16 nn59 nn80 nn96 nn135 hn
 rw [hof]
 refine Ej.bare ?_
 refine q6 ?_
 exact ⟨_, rfl, RowS.nil, rfl⟩
theorem valsN_next {fs : List Ke.Fld} {j : Nat} {f : Ke.Fld} (n : List UInt8) (h : fs[j]? = some f) : Ix.valsN (fs.take (j + 1)) n = Ix.valsN (fs.take j) n ++ Ix.ofN f n := by
  obtain ⟨hlt, hg⟩ := List.getElem?_eq_some_iff.1 h
  rw [List.take_succ_eq_append_getElem hlt, hg]
  unfold Ix.valsN
  rw [List.flatMap_append]; simp
theorem valsN_len (n : List UInt8) : ∀ (fs : List Ke.Fld), (∀ f ∈ fs, f.subs.length ≤ 1000) → (Ix.valsN fs n).length ≤ fs.length * 1000
  | [], _ => by simp [Ix.valsN]
  | f :: r, h => by
    have h1 := valsN_len n r fun x hx => h x (.tail _ hx)
    have h2 := ofN_len f n (h f (.head _))
    unfold Ix.valsN at h1 ⊢
    rw [List.flatMap_cons, List.length_append, List.length_cons, Nat.add_mul]; omega
theorem rValues_ok (fs : List Ke.Fld) (v : Value) (rk rl : UInt8) (n : List UInt8) (hok : EOK fs) (I : Heap) (hr0 : RecS I fs v) : Ctr Tryz.prog 53 [recV rk rl v, str n] I [] (fun e I' H' => ∃ w, e = .returned w ∧ RowS valC I' (Ix.valsN fs n) w ∧ H' = []) := by
 have hfs := hok.1
 obtain ⟨p, c, rfl, hc, -⟩ := id hr0.1
 refine Ctr.ob func53 ?_
 intro w0 hw0
 refine Cj.sr (J.op rfl (q28 ?_))
 intro b1 hb1
 refine J.z q1 ?_
 refine J.nssr (J.z q1 ?_)
 refine J.nsss (Cj.region (J.z q1 ?_))
 refine J.ns (Cj.block (Cj.loop (ι := Nat × Heap × Gs) (fun y => y.1 ≤ fs.length ∧ Le I y.2.1 ∧ gOk w0.heap.size 2 (Ix.valsN (fs.take y.1) n).length ((Ix.valsN (fs.take y.1) n).flatMap valC) y.2.2) (fun y => fs.length - y.1) (fun y => [(1, str n), (2, ptr b1 0), (5, gV (Ix.valsN (fs.take y.1) n).length y.2.2), (6, i64 (y.1 : Int))]) (fun y => y.2.1) (fun y => (b1, cel 35 [u8 rk, u8 rl, .slice p fs.length c]) :: gH 104 ((Ix.valsN (fs.take y.1) n).flatMap valC) y.2.2) (0, _, none) ⟨Nat.zero_le _, Le.refl _, rfl, rfl⟩ ⟨rfl, rfl, rfl, rfl, trivial⟩ rfl rfl ?_))
 rintro ⟨j, J1, g⟩ ⟨hj, hIJ, hg⟩
 dsimp only at hj hIJ hg ⊢
 have hr := hr0.mono hIJ
 have hvl := valsN_len n (fs.take j) fun f hf => (hok.2 f (List.mem_of_mem_take hf)).1
 rw [List.length_take, Nat.min_eq_left hj] at hvl
 refine Cj.seq (Cj.sr (J.z q0 ?_))
 refine J.z (q4 (off' := 2) tU35 tS33) ?_
 refine J.z (q18 isAgg33) ?_
 refine J.z (q15 tU33) ?_
 refine J.z q17 ?_
 refine J.cd (fun hc2 => ?_) (fun hc2 => ?_)
 ·
  have hc2p := odt hc2
  refine Cj.ks (Cj.seq (Cj.block ?_))
  have hlt : j < fs.length := by omega
  obtain ⟨f, hget⟩ : ∃ f, fs[j]? = some f := ⟨_, lgg hlt⟩
  have hfk := hok.2 f (lmg hget)
  have hnx := valsN_next n hget
  have hofl := ofN_len f n hfk.1
  obtain ⟨⟨p1, c1, hpe, hc1, hp⟩, hsub⟩ := id hr
  cases hpe
  obtain ⟨fb, fo, fcs, fty, ffr, sp, rfl, hfb, hfd⟩ := hp (ne_nil_of hlt)
  have hsr := hsub f (lmg hget)
  obtain ⟨p2, c2, hsv, hc2, hp2⟩ := id hsr
  refine Cj.region (J.z q0 ?_)
  refine J.z (q4 (off' := 2) tU35 tS33) ?_
  refine J.z (q18 isAgg33) ?_
  refine J.z q0 ?_
  refine J.z (q19 (off' := fo + j * 4) tU33 tS31) ?_
  refine J.z (q43 tA31 tS31 (Blk.imm hfb) (row_from fldC_len hfd hget)) ?_
  refine J.z q0 ?_
  refine J.op rfl (q36 (H1 := []) rfl rfl rfl rfl rfl (rOf_ok f n (by omega) hfk.2.1 _ hsr) ?_)
  intro v3 I4 H5 hle6 hp7
  have hIJ := hIJ.mono hle6
  obtain ⟨vhof, h, hof, rfl⟩ := hp7; cases h
  refine J.op rfl (op_append (by' := 23) [_] rfl rfl rfl rfl rfl tU101 (.inr ⟨_, tU101⟩) (by kernel_rfl) tS104 tZ104 rfl hg rfl (Src.row valC_len hof (fun x _ => rfl)) (by omega) ?_)
  intro g8 hg8
  refine J.z q1 ?_
  refine J.nb (Cj.region (J.z q0 ?_))
  refine J.z q7 ?_
  refine J.z q1 ?_
  refine J.nil (Ej.round (j + 1, _, g8) ⟨by dsimp only; omega, hIJ, by dsimp only; rw [hnx, List.length_append, List.flatMap_append]; exact hg8⟩ (by dsimp only; omega) ⟨rfl, rfl, by dsimp only; rw [hnx, List.length_append]; rfl, rfl, trivial⟩ rfl (by dsimp only; rw [hnx, List.flatMap_append]; rfl))
 have hc2p := odf hc2
 refine Cj.xl (Cj.sr (J.z q0 ?_))
 refine J.z q1 ?_
 refine J.ns (Cj.ret (Ej.keep (Keeps.d Keeps.r) ?_))
 have hfull : fs.take j = fs := List.take_of_length_le (by omega)
 rw [hfull] at hg ⊢
 refine Ej.perm (H' := gH 104 ((Ix.valsN fs n).flatMap valC) g ++ []) (.of_eq (List.append_nil _)) ?_
 refine Ej.keepR valC_len (by decide) hg rfl (fun I8 hle8 hw8 => ?_)
 refine q6 ?_
 exact ⟨_, rfl, hw8, rfl⟩
abbrev lineA (x : List UInt8 × Int) : Array Value := #[str x.1, i64 x.2]
theorem eqLine : EqK Tryz.prog 57 lineA := EqK.textInt tU57 (by kernel_rfl) (by decide) (by decide) rfl rfl rfl rfl tU9 tU3 tA9 tA3
theorem take_eqR {α : Type} {a b : List α} {k : Nat} {x y : α} (h : a.take k = b.take k) (hx : a[k]? = some x) (hy : b[k]? = some y) (he : x = y) : a.take (k + 1) = b.take (k + 1) := by
  obtain ⟨h1, e1⟩ := List.getElem?_eq_some_iff.1 hx
  obtain ⟨h2, e2⟩ := List.getElem?_eq_some_iff.1 hy
  rw [List.take_succ_eq_append_getElem h1, List.take_succ_eq_append_getElem h2, h, e1, e2, he]
theorem put_at {l : List (List UInt8)} {s : List UInt8} {k : Nat} (hl : Ke.Inc l) (h1 : ∀ x ∈ l.take k, x < s) (h2 : ∀ x, l[k]? = some x → ¬ x < s ∧ x ≠ s) : l.take k ++ [s] ++ l.drop k = Ke.put l s := by
  have hd : ∀ y ∈ l.drop k, s < y := by
    rcases Nat.lt_or_ge k l.length with g | g
    · have h3 := h2 l[k] (lgg g)
      have h4 : s < l[k] := lt_of_ne h3.1 (Ne.symm h3.2)
      intro y hy
      rw [← List.getElem_cons_drop g] at hy
      rcases List.mem_cons.1 hy with e | e
      · rw [e]; exact h4
      refine List.lt_trans h4 ?_
      have h5 : (l.drop k).Pairwise (· < ·) := List.Pairwise.sublist (List.drop_sublist k l) hl
      rw [← List.getElem_cons_drop g] at h5
      exact (List.pairwise_cons.1 h5).1 y e
    intro y hy; rw [List.drop_eq_nil_of_le g] at hy; cases hy
  refine Ke.inc_eq ?_ (Ke.put_inc s hl) fun x => ?_
  · unfold Ke.Inc
    rw [List.pairwise_append, List.pairwise_append]
    refine ⟨⟨List.Pairwise.sublist (List.take_sublist k l) hl, List.pairwise_singleton _ _, fun a ha b hb => ?_⟩, List.Pairwise.sublist (List.drop_sublist k l) hl, fun a ha b hb => ?_⟩
    · rw [List.mem_singleton.1 hb]; exact h1 a ha
    rcases List.mem_append.1 ha with g | g
    · exact List.lt_trans (h1 a g) (hd b hb)
    rw [List.mem_singleton.1 g]; exact hd b hb
  rw [Ke.put_mem]
  have h6 : x ∈ l ↔ x ∈ l.take k ∨ x ∈ l.drop k := by rw [← List.mem_append, List.take_append_drop]
  rw [h6, List.mem_append, List.mem_append, List.mem_singleton]
  constructor
  · rintro ((g | g) | g)
    · exact .inr (.inl g)
    · exact .inl g
    exact .inr (.inr g)
  rintro (g | g | g)
  · exact .inl (.inr g)
  · exact .inl (.inl g)
  exact .inr g
theorem all_lt {l : List (List UInt8)} {s x : List UInt8} {k : Nat} (h : ∀ y ∈ l.take k, y < s) (hg : l[k]? = some x) (hx : x < s) : ∀ y ∈ l.take (k + 1), y < s := by
  obtain ⟨hlt, hg⟩ := List.getElem?_eq_some_iff.1 hg
  rw [List.take_succ_eq_append_getElem hlt, hg]
  intro y hy
  rcases List.mem_append.1 hy with g | g
  · exact h y g
  rw [List.mem_singleton.1 g]; exact hx
abbrev strC (s : List UInt8) : List Value := [str s]
theorem strC_len (s : List UInt8) : (strC s).length = 1 := rfl
theorem three_str (a b : List (List UInt8)) (s : List UInt8) : ((([] : List Value) ++ a.flatMap strC) ++ [str s]) ++ b.flatMap strC = (a ++ [s] ++ b).flatMap strC := by simp
theorem rRecs_ok (a b : List Ix.Rec) (va vb : Value) (hal : a.length ≤ 100000000000000) (I : Heap) (ha : RowS recC I a va) (hb : RowS recC I b vb) : Pure Tryz.prog 18 [va, vb] I (.bool (decide (a = b))) := by
 refine Ctr.toPure ?_
 obtain ⟨p1, c1, rfl, hc1, hp1⟩ := ha
 obtain ⟨p2, c2, rfl, hc2, hp2⟩ := hb
 refine Ctr.ob func18 ?_
 intro w0 hw0
 refine Cj.sr (J.z q1 ?_)
 refine J.nsss (Cj.region (J.z q0 ?_))
 refine J.z (q15 tU44) ?_
 refine J.z q0 ?_
 refine J.z (q15 tU44) ?_
 refine J.z q47 ?_
 refine J.cd (fun hc1 => ?_) (fun hc1 => ?_)
 ·
  have hc1p := bne_iff_ne.1 hc1
  have hln : a.length ≠ b.length := by have h := bne_iff_ne.1 hc1; omega
  refine Cj.sr (J.z q1 ?_)
  refine J.ns (Cj.rs (q6 ?_))
  rw [decide_eq_false (fun e => hln (by rw [e]))]
  exact ⟨rfl, rfl⟩
 have hc1p := bne_f hc1
 have hlen : a.length = b.length := by have h := bne_f hc1; omega
 refine Cj.ks (Cj.seq (Cj.sr (J.z q1 ?_)))
 refine J.ns (Cj.block (Cj.loop (ι := Nat) (fun j => j ≤ a.length ∧ a.take j = b.take j) (fun j => a.length - j) (fun j => [(0, .slice p1 a.length c1), (1, .slice p2 b.length c2), (5, i64 (j : Int))]) (fun j => _) (fun j => []) 0 ⟨Nat.zero_le _, rfl⟩ ⟨rfl, rfl, rfl, trivial⟩ rfl rfl ?_))
 rintro j ⟨hj, hall⟩
 refine Cj.seq (Cj.sr (J.z q0 ?_))
 refine J.z q0 ?_
 refine J.z (q15 tU44) ?_
 refine J.z q17 ?_
 refine J.cd (fun hc2 => ?_) (fun hc2 => ?_)
 ·
  have hc2p := odt hc2
  have hlt : j < a.length := by omega
  obtain ⟨x, hx⟩ : ∃ x, a[j]? = some x := ⟨_, lgg hlt⟩
  obtain ⟨y, hy⟩ : ∃ y, b[j]? = some y := ⟨_, lgg (by omega)⟩
  obtain ⟨fa, oa, acs, aty, afr, asp, rfl, hfa, had⟩ := hp1 (ne_nil_of hlt)
  obtain ⟨fb, ob, bcs, bty, bfr, bsp, rfl, hfb, hbd⟩ := hp2 (ne_nil_of (by omega : j < b.length))
  refine Cj.ks (Cj.seq (Cj.block (Cj.seq (Cj.drawSel [] [] 9 (by kernel_rfl) ?_))))
  refine JA.fix fx1 (fun fx3 => ?_)
  refine JA.tk 0 rfl fx3 q0 ?_
  refine JA.tk 1 rfl fx3 q0 ?_
  refine JA.tk 2 rfl fx3 (q19 (off' := oa + j * 2) tU44 tS26) ?_
  refine JA.tk 3 rfl fx3 (q43 tA26 tS26 (Blk.immC hfa) (row_from recC_len had hx)) ?_
  refine JA.tk 4 rfl fx3 q0 ?_
  refine JA.tk 5 rfl fx3 q0 ?_
  refine JA.tk 6 rfl fx3 (q19 (off' := ob + j * 2) tU44 tS26) ?_
  refine JA.tk 7 rfl fx3 (q43 tA26 tS26 (Blk.immC hfb) (row_from recC_len hbd hy)) ?_
  refine JA.tk 8 rfl fx3 (yl_neqK (kv := recA) (a := x) (b := y) rfl rfl rfl rfl rfl eqRec (by kernel_rfl)) ?_
  refine q14 ?_
  refine Ej.seq (Cj.cond rfl (fun hc4 => ?_) (fun hc4 => ?_))
  ·
   have hc4p := bne_iff_ne.1 hc4
   have hxy : x ≠ y := bne_iff_ne.1 hc4
   refine Cj.sr (J.z q1 ?_)
   refine J.ns (Cj.ret (Ej.blkRet (Ej.seqRet (Ej.loopRet (Ej.blkRet (Ej.seqRet (q6 ?_)))))))
   rw [decide_eq_false (fun e => hxy (by rw [e, hy] at hx; exact (Option.some.inj hx).symm))]
   exact ⟨rfl, rfl⟩
  have hc4p := bne_f hc4
  have hxy : x = y := bne_f hc4
  refine Cj.kb (Cj.region (J.z q0 ?_))
  refine J.z q7 ?_
  refine J.z q1 ?_
  refine J.nil (Ej.round (j + 1) ⟨by omega, take_eqR hall hx hy hxy⟩ (by omega) ⟨rfl, rfl, rfl, trivial⟩ rfl rfl)
 have hc2p := odf hc2
 refine Cj.xl (Cj.sr (J.z q1 ?_))
 refine J.ns (Cj.ret (q6 ?_))
 rw [List.take_of_length_le (by omega : a.length ≤ j), List.take_of_length_le (by omega : b.length ≤ j)] at hall
 rw [decide_eq_true hall]
 exact ⟨rfl, rfl⟩
theorem rLines_ok (a b : List (List UInt8 × Int)) (va vb : Value) (hal : a.length ≤ 100000000000000) (I : Heap) (ha : RowS lineC I a va) (hb : RowS lineC I b vb) : Pure Tryz.prog 25 [va, vb] I (.bool (decide (a = b))) := by
 refine Ctr.toPure ?_
 obtain ⟨p1, c1, rfl, hc1, hp1⟩ := ha
 obtain ⟨p2, c2, rfl, hc2, hp2⟩ := hb
 refine Ctr.ob func25 ?_
 intro w0 hw0
 refine Cj.sr (J.z q1 ?_)
 refine J.nsss (Cj.region (J.z q0 ?_))
 refine J.z (q15 tU47) ?_
 refine J.z q0 ?_
 refine J.z (q15 tU47) ?_
 refine J.z q47 ?_
 refine J.cd (fun hc1 => ?_) (fun hc1 => ?_)
 ·
  have hc1p := bne_iff_ne.1 hc1
  have hln : a.length ≠ b.length := by have h := bne_iff_ne.1 hc1; omega
  refine Cj.sr (J.z q1 ?_)
  refine J.ns (Cj.rs (q6 ?_))
  rw [decide_eq_false (fun e => hln (by rw [e]))]
  exact ⟨rfl, rfl⟩
 have hc1p := bne_f hc1
 have hlen : a.length = b.length := by have h := bne_f hc1; omega
 refine Cj.ks (Cj.seq (Cj.sr (J.z q1 ?_)))
 refine J.ns (Cj.block (Cj.loop (ι := Nat) (fun j => j ≤ a.length ∧ a.take j = b.take j) (fun j => a.length - j) (fun j => [(0, .slice p1 a.length c1), (1, .slice p2 b.length c2), (5, i64 (j : Int))]) (fun j => _) (fun j => []) 0 ⟨Nat.zero_le _, rfl⟩ ⟨rfl, rfl, rfl, trivial⟩ rfl rfl ?_))
 rintro j ⟨hj, hall⟩
 refine Cj.seq (Cj.sr (J.z q0 ?_))
 refine J.z q0 ?_
 refine J.z (q15 tU47) ?_
 refine J.z q17 ?_
 refine J.cd (fun hc2 => ?_) (fun hc2 => ?_)
 ·
  have hc2p := odt hc2
  have hlt : j < a.length := by omega
  obtain ⟨x, hx⟩ : ∃ x, a[j]? = some x := ⟨_, lgg hlt⟩
  obtain ⟨y, hy⟩ : ∃ y, b[j]? = some y := ⟨_, lgg (by omega)⟩
  obtain ⟨fa, oa, acs, aty, afr, asp, rfl, hfa, had⟩ := hp1 (ne_nil_of hlt)
  obtain ⟨fb, ob, bcs, bty, bfr, bsp, rfl, hfb, hbd⟩ := hp2 (ne_nil_of (by omega : j < b.length))
  refine Cj.ks (Cj.seq (Cj.block (Cj.seq (Cj.drawSel [] [] 9 (by kernel_rfl) ?_))))
  refine JA.fix fx1 (fun fx3 => ?_)
  refine JA.tk 0 rfl fx3 q0 ?_
  refine JA.tk 1 rfl fx3 q0 ?_
  refine JA.tk 2 rfl fx3 (q19 (off' := oa + j * 2) tU47 tS57) ?_
  refine JA.tk 3 rfl fx3 (q43 isAgg57 tS57 (Blk.immC hfa) (row_from lineC_len had hx)) ?_
  refine JA.tk 4 rfl fx3 q0 ?_
  refine JA.tk 5 rfl fx3 q0 ?_
  refine JA.tk 6 rfl fx3 (q19 (off' := ob + j * 2) tU47 tS57) ?_
  refine JA.tk 7 rfl fx3 (q43 isAgg57 tS57 (Blk.immC hfb) (row_from lineC_len hbd hy)) ?_
  refine JA.tk 8 rfl fx3 (yl_neqK (kv := lineA) (a := x) (b := y) rfl rfl rfl rfl rfl eqLine (by kernel_rfl)) ?_
  refine q14 ?_
  refine Ej.seq (Cj.cond rfl (fun hc4 => ?_) (fun hc4 => ?_))
  ·
   have hc4p := bne_iff_ne.1 hc4
   have hxy : x ≠ y := bne_iff_ne.1 hc4
   refine Cj.sr (J.z q1 ?_)
   refine J.ns (Cj.ret (Ej.blkRet (Ej.seqRet (Ej.loopRet (Ej.blkRet (Ej.seqRet (q6 ?_)))))))
   rw [decide_eq_false (fun e => hxy (by rw [e, hy] at hx; exact (Option.some.inj hx).symm))]
   exact ⟨rfl, rfl⟩
  have hc4p := bne_f hc4
  have hxy : x = y := bne_f hc4
  refine Cj.kb (Cj.region (J.z q0 ?_))
  refine J.z q7 ?_
  refine J.z q1 ?_
  refine J.nil (Ej.round (j + 1) ⟨by omega, take_eqR hall hx hy hxy⟩ (by omega) ⟨rfl, rfl, rfl, trivial⟩ rfl rfl)
 have hc2p := odf hc2
 refine Cj.xl (Cj.sr (J.z q1 ?_))
 refine J.ns (Cj.ret (q6 ?_))
 rw [List.take_of_length_le (by omega : a.length ≤ j), List.take_of_length_le (by omega : b.length ≤ j)] at hall
 rw [decide_eq_true hall]
 exact ⟨rfl, rfl⟩
theorem rWithin_ok (a b : List (List UInt8)) (va vb : Value) (I : Heap) (ha : StrP I a va) (hb : StrP I b vb) (hal : a.length ≤ 10000000000000) (hbl : b.length ≤ 10000000000000) : Pure Tryz.prog 54 [vb, va] I (.bool (Ix.within b a)) := by
 refine Ctr.toPure ?_
 obtain ⟨p1, c1, rfl, hc1, -⟩ := id ha
 obtain ⟨p2, c2, rfl, hc2, -⟩ := id hb
 refine Ctr.ob func54 ?_
 intro w0 hw0
 refine Cj.sr (J.z q1 ?_)
 refine J.nsss (Cj.region (J.z q1 ?_))
 refine J.ns (Cj.block (Cj.loop (ι := Nat) (fun k => k ≤ a.length + 1 ∧ (0 < k → 0 < b.length) ∧ Ix.within b (a.drop k) = Ix.within b a) (fun k => a.length + 1 - k) (fun k => [(0, .slice p2 b.length c2), (1, .slice p1 a.length c1), (5, i64 (k : Int))]) (fun k => _) (fun k => []) 0 ⟨Nat.zero_le _, fun h => absurd h (Nat.lt_irrefl 0), rfl⟩ ⟨rfl, rfl, rfl, trivial⟩ rfl rfl ?_))
 rintro k ⟨hk, hb0, hw⟩
 refine Cj.seq (Cj.sr (J.z q0 ?_))
 refine J.z q0 ?_
 refine J.z (q15 tU28) ?_
 refine J.z q7 ?_
 refine J.z q0 ?_
 refine J.z (q15 tU28) ?_
 refine J.z q38 ?_
 refine J.cd (fun hc13 => ?_) (fun hc13 => ?_)
 ·
  have hc13p := odt hc13
  have hkl : k + b.length ≤ a.length := by omega
  refine Cj.ks (Cj.seq (Cj.block (Cj.sr (J.z q0 ?_))))
  refine J.z q0 ?_
  refine J.z q0 ?_
  refine J.z q0 ?_
  refine J.z (q15 tU28) ?_
  refine J.z q7 ?_
  refine J.z (yl_slice2 (j := k) (k := (k + b.length)) rfl rfl rfl rfl tU28 tS9 rfl (by omega) (by omega)) ?_
  refine J.z q0 ?_
  refine J.op rfl (op_pure rfl rfl rfl rfl rfl (Same_ok _ b _ _ (by rw [List.length_take, List.length_drop]; omega) _ (strP_cut ha (Nat.le_add_right k b.length) hkl) hb) ?_)
  refine J.z q1 ?_
  refine J.nssr (J.z q0 ?_)
  refine J.cd (fun hc25 => ?_) (fun hc25 => ?_)
  ·
   have heq := odt hc25
   rw [Nat.add_sub_cancel_left] at heq
   refine Cj.sr (J.z q1 ?_)
   refine J.ns (Cj.ret (Ej.blkRet (Ej.seqRet (Ej.loopRet (Ej.blkRet (Ej.seqRet (q6 ?_)))))))
   rw [← hw, within_pre heq]
   exact ⟨rfl, rfl⟩
  have hne := odf hc25
  rw [Nat.add_sub_cancel_left] at hne
  refine Cj.kb (Cj.region (J.z q0 ?_))
  refine J.z q7 ?_
  refine J.z q1 ?_
  refine J.nil (Ej.round (k + 1) ⟨by omega, fun _ => List.length_pos_iff.2 (fun e => hne (by rw [e]; rfl)), by rw [← hw, within_step hkl hne]⟩ (by omega) ⟨rfl, rfl, rfl, trivial⟩ rfl rfl)
 have hc13p := odf hc13
 refine Cj.xl (Cj.sr (J.z q1 ?_))
 refine J.ns (Cj.ret (q6 ?_))
 rw [← hw, within_short (by rw [List.length_drop]; rcases Nat.eq_zero_or_pos k with h | h <;> (first | omega | (have := hb0 h; omega)))]
 exact ⟨rfl, rfl⟩
theorem rKeyOf_ok (n s : List UInt8) (hs : s.length ≤ 100000000) (I : Heap) : Pure Tryz.prog 32 [str n, str s] I (str (Ix.keyOf n s)) := by
 refine Ctr.toPure ?_
 have hil := isbn_len s
 refine Ctr.ob func32 ?_
 intro w0 hw0
 refine Cj.sr (J.z q1 ?_)
 refine J.nssr (J.z q0 ?_)
 refine J.op rfl (op_pure rfl rfl rfl rfl rfl (rIsbn_ok s hs _) ?_)
 refine J.z q0 ?_
 refine J.z q25 ?_
 refine J.z q25 ?_
 refine J.z q1 ?_
 refine J.z q1 ?_
 refine J.nsss (Cj.region (J.z q0 ?_))
 refine J.z q0 ?_
 refine q16 13 (fun hg1 => ?_) (fun hg1 => ?_)
 ·
  refine q5 1 13 true hg1 (q2 q0 ?_)
  refine q5 1 13 true hg1 (q2 q31 ?_)
  refine J.z (q11 hg1) ?_
  refine J.cd (fun hc2 => ?_) (fun hc2 => ?_)
  ·
   have hc2p := ebq hc2
   have hk : Ix.keyOf n s = Ke.sortKey (Ke.isbn s).1 0 := if_pos ⟨hg1, ebq hc2⟩
   refine Cj.sr (J.z q0 ?_)
   refine J.op rfl (op_pure rfl rfl rfl rfl rfl (rSort_ok (Ke.isbn s).1 0 (by omega) _) ?_)
   refine J.z q1 ?_
   refine J.ns (Cj.rs (q6 ?_))
   rw [hk]
   exact ⟨rfl, rfl⟩
  have hc2p := nbf hc2
  have hk : Ix.keyOf n s = Ke.sortKey s 0 := if_neg (fun g => nbf hc2 g.2)
  refine Cj.ks (Cj.sr (J.z q0 ?_))
  refine J.op rfl (op_pure rfl rfl rfl rfl rfl (rSort_ok s 0 hs _) ?_)
  refine J.z q1 ?_
  refine J.ns (Cj.ret (q6 ?_))
  rw [hk]
  exact ⟨rfl, rfl⟩
 have hk : Ix.keyOf n s = Ke.sortKey s 0 := if_neg (fun g => Bool.noConfusion (g.1.symm.trans hg1))
 refine q3 1 13 14 true hg1 ?_
 refine q3 1 13 15 true hg1 ?_
 refine J.z (q10 hg1) ?_
 refine J.c0 (fun hc3 => ?_)
 refine Cj.ks (Cj.sr (J.z q0 ?_))
 refine J.op rfl (op_pure rfl rfl rfl rfl rfl (rSort_ok s 0 hs _) ?_)
 refine J.z q1 ?_
 refine J.ns (Cj.ret (q6 ?_))
 rw [hk]
 exact ⟨rfl, rfl⟩
theorem xPut_ok (l : List (List UInt8)) (v : Value) (s : List UInt8) (hinc : Ke.Inc l) (hl : l.length ≤ 4300000000000) (I : Heap) (hv0 : StrP I l v) : Ctr Tryz.prog 62 [v, str s] I [] (fun e I' H' => ∃ w, e = .returned w ∧ StrP I' (Ke.put l s) w ∧ H' = []) := by
 have hrow := strC_row.1 hv0
 obtain ⟨p, c, rfl, hc, hp⟩ := id hv0
 refine Ctr.ob func62 ?_
 intro w0 hw0
 refine Cj.sr (J.z q1 ?_)
 refine J.nssr (J.z q1 ?_)
 refine J.nss (Cj.block (Cj.loop (ι := Nat) (fun k => k ≤ l.length ∧ ∀ x ∈ l.take k, x < s) (fun k => l.length - k) (fun k => [(0, .slice p l.length c), (1, str s), (5, i64 (k : Int))]) (fun k => _) (fun k => []) 0 ⟨Nat.zero_le _, fun x hx => by simp at hx⟩ ⟨rfl, rfl, rfl, trivial⟩ rfl rfl ?_))
 rintro k ⟨hk, hall⟩
 refine Cj.seq (Cj.sr (J.z q0 ?_))
 refine J.z q0 ?_
 refine J.z (q15 tU28) ?_
 refine J.z q17 ?_
 refine J.z q0 ?_
 refine q16 11 (fun hg1 => ?_) (fun hg1 => ?_)
 ·
  have hg1p := odt hg1
  have hlt : k < l.length := by omega
  obtain ⟨x, hget⟩ : ∃ x, l[k]? = some x := ⟨_, lgg hlt⟩
  obtain ⟨lb, lo, lcs, lty, lfr, sp, rfl, hlb, hld⟩ := hp (ne_nil_of hlt)
  refine q5 4 11 true hg1 (q2 q0 ?_)
  refine q5 4 11 true hg1 (q2 q0 ?_)
  refine J.opG 4 11 true _ rfl rfl rfl hg1 (op_yld (q19 (off' := lo + k) tU28 tS9) rfl rfl ?_)
  refine q5 4 11 true hg1 (q2 (q37 tA9 (Blk.imm hlb) (str_from hld hget)) ?_)
  refine q5 4 11 true hg1 (q2 q0 ?_)
  refine q5 4 11 true hg1 (q2 (yl_lssStr rfl rfl rfl) ?_)
  refine J.z (q11 hg1) ?_
  refine J.cd (fun hc2 => ?_) (fun hc2 => ?_)
  ·
   have hxs : x < s := odt hc2
   refine Cj.ks (Cj.block (Cj.region (J.z q0 ?_)))
   refine J.z q7 ?_
   refine J.z q1 ?_
   refine J.nil (Ej.blkNormal (Ej.round (k + 1) ⟨by omega, all_lt hall hget hxs⟩ (by omega) ⟨rfl, rfl, rfl, trivial⟩ rfl rfl))
  have hxs : ¬ x < s := odf hc2
  refine Cj.xl (Cj.seq (Cj.sr (J.z q0 ?_)))
  refine J.z q0 ?_
  refine J.z (q15 tU28) ?_
  refine J.z q17 ?_
  refine J.z q0 ?_
  refine q16 25 (fun hg3 => ?_) (fun hg3 => ?_)
  ·
   have hg3p := odt hg3
   refine q5 4 25 true hg3 (q2 q0 ?_)
   refine q5 4 25 true hg3 (q2 q0 ?_)
   refine J.opG 4 25 true _ rfl rfl rfl hg3 (op_yld (q19 (off' := lo + k) tU28 tS9) rfl rfl ?_)
   refine q5 4 25 true hg3 (q2 (q37 tA9 (Blk.imm hlb) (str_from hld hget)) ?_)
   refine q5 4 25 true hg3 (q2 q0 ?_)
   refine q5 4 25 true hg3 (q2 q31 ?_)
   refine J.z (q11 hg3) ?_
   refine J.cd (fun hc4 => ?_) (fun hc4 => ?_)
   ·
    have hc4p := ebq hc4
    have hxe : x = s := ebq hc4
    refine Cj.sr (J.z q0 ?_)
    refine J.z q1 ?_
    refine J.ns (Cj.rs (Ej.bare ?_))
    refine q6 ?_
    rw [show Ke.put l s = l from if_pos (hxe ▸ lmg hget)]
    exact ⟨_, rfl, hv0, rfl⟩
   have hc4p := nbf hc4
   have hxe : x ≠ s := nbf hc4
   refine Cj.ks (Cj.sr (J.z q1 ?_))
   refine J.nss ?_
   have htl : (l.take k).length = k := by rw [List.length_take]; omega
   have hdl : (l.drop k).length = l.length - k := List.length_drop
   refine Cj.region (J.z q0 ?_)
   refine J.z q0 ?_
   refine J.z q0 ?_
   refine J.z (yl_slice0 (k := k) rfl rfl rfl tU28 tS9 rfl (by omega)) ?_
   refine J.op rfl (op_append (by' := 15) (n := 0) (g := none) (xs := []) [] rfl rfl rfl rfl rfl tU28 (.inr ⟨_, tU28⟩) (by kernel_rfl) tS9 tZ9 rfl ⟨rfl, rfl⟩ rfl (Src.row strC_len (RowS.take hrow hk) (fun x _ => rfl)) (by omega) ?_)
   intro g5 hg5
   refine J.z q1 ?_
   refine J.nssr (J.z q0 ?_)
   refine J.z q0 ?_
   refine J.op rfl (q24 tU28 tS9 tZ9 ?_)
   intro b6 hb6
   refine J.op rfl (op_append (by' := 15) [_] rfl rfl rfl rfl rfl tU28 (.inr ⟨_, tU28⟩) (by kernel_rfl) tS9 tZ9 rfl hg5 rfl (Src.slice (Blk.at 0 rfl) rfl rfl rfl) (by omega) ?_)
   intro g7 hg7
   refine J.z q1 ?_
   refine J.nssr (J.z q0 ?_)
   refine J.z q0 ?_
   refine J.z q0 ?_
   refine J.z (yl_slice1 (j := k) rfl rfl rfl tU28 tS9 rfl (by omega) (by omega)) ?_
   refine J.op rfl (op_append (by' := 15) [_] rfl rfl rfl rfl rfl tU28 (.inr ⟨_, tU28⟩) (by kernel_rfl) tS9 tZ9 rfl hg7 rfl (Src.row strC_len (RowS.from strC_len hrow (j := k) hk) (fun x _ => rfl)) (by omega) ?_)
   intro g8 hg8
   refine J.z q1 ?_
   refine J.ns (Cj.ret (Ej.keep (Keeps.d Keeps.r) ?_))
   have hes := put_at hinc hall (fun y hy => by rw [hget] at hy; cases hy; exact ⟨hxs, hxe⟩)
   have hfl := (three_str (l.take k) (l.drop k) s).trans (congrArg (List.flatMap strC) hes)
   refine Ej.perm (H' := gH 9 ((Ke.put l s).flatMap strC) g8 ++ []) (.of_eq (by rw [← hfl, List.append_nil]; rfl)) ?_
   refine Ej.keepR strC_len (by decide) (by rw [← hfl]; exact hg8) (by rw [← hes]; simp only [List.length_append, List.length_singleton]; omega) (fun I8 hle8 hw8 => ?_)
   refine q6 ?_
   exact ⟨_, rfl, strC_row.2 hw8, rfl⟩
  have hg3p := odf hg3
  omega
 have hg1p := odf hg1
 refine q3 4 11 12 true hg1 ?_
 refine q3 4 11 13 true hg1 ?_
 refine q3 4 11 14 true hg1 ?_
 refine q3 4 11 15 true hg1 ?_
 refine q3 4 11 16 true hg1 ?_
 refine q3 4 11 17 true hg1 ?_
 refine J.z (q10 hg1) ?_
 refine J.c0 (fun hc9 => ?_)
 refine Cj.xl (Cj.seq (Cj.sr (J.z q0 ?_)))
 refine J.z q0 ?_
 refine J.z (q15 tU28) ?_
 refine J.z q17 ?_
 refine J.z q0 ?_
 refine q16 25 (fun hg10 => ?_) (fun hg10 => ?_)
 ·
  have hg10p := odt hg10
  have hlt : k < l.length := by omega
  obtain ⟨x, hget⟩ : ∃ x, l[k]? = some x := ⟨_, lgg hlt⟩
  obtain ⟨lb, lo, lcs, lty, lfr, sp, rfl, hlb, hld⟩ := hp (ne_nil_of hlt)
  omega
 have hg10p := odf hg10
 refine q3 4 25 26 true hg10 ?_
 refine q3 4 25 27 true hg10 ?_
 refine q3 4 25 28 true hg10 ?_
 refine q3 4 25 29 true hg10 ?_
 refine q3 4 25 30 true hg10 ?_
 refine q3 4 25 31 true hg10 ?_
 refine J.z (q10 hg10) ?_
 refine J.c0 (fun hc11 => ?_)
 refine Cj.ks (Cj.sr (J.z q1 ?_))
 refine J.nss ?_
 have htl : (l.take k).length = k := by rw [List.length_take]; omega
 have hdl : (l.drop k).length = l.length - k := List.length_drop
 refine Cj.region (J.z q0 ?_)
 refine J.z q0 ?_
 refine J.z q0 ?_
 refine J.z (yl_slice0 (k := k) rfl rfl rfl tU28 tS9 rfl (by omega)) ?_
 refine J.op rfl (op_append (by' := 15) (n := 0) (g := none) (xs := []) [] rfl rfl rfl rfl rfl tU28 (.inr ⟨_, tU28⟩) (by kernel_rfl) tS9 tZ9 rfl ⟨rfl, rfl⟩ rfl (Src.row strC_len (RowS.take hrow hk) (fun x _ => rfl)) (by omega) ?_)
 intro g12 hg12
 refine J.z q1 ?_
 refine J.nssr (J.z q0 ?_)
 refine J.z q0 ?_
 refine J.op rfl (q24 tU28 tS9 tZ9 ?_)
 intro b13 hb13
 refine J.op rfl (op_append (by' := 15) [_] rfl rfl rfl rfl rfl tU28 (.inr ⟨_, tU28⟩) (by kernel_rfl) tS9 tZ9 rfl hg12 rfl (Src.slice (Blk.at 0 rfl) rfl rfl rfl) (by omega) ?_)
 intro g14 hg14
 refine J.z q1 ?_
 refine J.nssr (J.z q0 ?_)
 refine J.z q0 ?_
 refine J.z q0 ?_
 refine J.z (yl_slice1 (j := k) rfl rfl rfl tU28 tS9 rfl (by omega) (by omega)) ?_
 refine J.op rfl (op_append (by' := 15) [_] rfl rfl rfl rfl rfl tU28 (.inr ⟨_, tU28⟩) (by kernel_rfl) tS9 tZ9 rfl hg14 rfl (Src.row strC_len (RowS.from strC_len hrow (j := k) hk) (fun x _ => rfl)) (by omega) ?_)
 intro g15 hg15
 refine J.z q1 ?_
 refine J.ns (Cj.ret (Ej.keep (Keeps.d Keeps.r) ?_))
 have hes := put_at hinc hall (fun y hy => absurd (List.getElem?_eq_some_iff.1 hy).1 (by omega))
 have hfl := (three_str (l.take k) (l.drop k) s).trans (congrArg (List.flatMap strC) hes)
 refine Ej.perm (H' := gH 9 ((Ke.put l s).flatMap strC) g15 ++ []) (.of_eq (by rw [← hfl, List.append_nil]; rfl)) ?_
 refine Ej.keepR strC_len (by decide) (by rw [← hfl]; exact hg15) (by rw [← hes]; simp only [List.length_append, List.length_singleton]; omega) (fun I8 hle8 hw8 => ?_)
 refine q6 ?_
 exact ⟨_, rfl, strC_row.2 hw8, rfl⟩
def RxS (I : Heap) (rb : Nat) (es : List Ent) (p : Option Addr) (c : Nat) : Prop := I rb = some (cel 73 [.slice p es.length c]) ∧ EntsS I es (.slice p es.length c)
theorem RxS.mono {I I' : Heap} {rb : Nat} {es : List Ent} {p : Option Addr} {c : Nat} (h : RxS I rb es p c) (hle : Le I I') : RxS I' rb es p c := ⟨hle _ _ h.1, h.2.mono hle⟩
structure RxP (I : Heap) (rb : Nat) (es : List Ent) : Prop where
  ex : ∃ p c, RxS I rb es p c
  len : es.length ≤ 1000
  eok : ∀ e ∈ es, EOK e.fs
  srt : Ix.Srt (es.map entL)
theorem RxP.mono {I I' : Heap} {rb : Nat} {es : List Ent} (h : RxP I rb es) (hle : Le I I') : RxP I' rb es := ⟨let ⟨p, c, g⟩ := h.ex; ⟨p, c, g.mono hle⟩, h.len, h.eok, h.srt⟩
theorem RxP.of {I : Heap} {rb : Nat} {es : List Ent} {w : Value} (h1 : I rb = some (cel 73 [w])) (h2 : EntsS I es w) (hl : es.length ≤ 1000) (he : ∀ e ∈ es, EOK e.fs) (hs : Ix.Srt (es.map entL)) : RxP I rb es := by
  obtain ⟨p, c, rfl, -⟩ := h2.len
  exact ⟨⟨p, c, h1, h2⟩, hl, he, hs⟩
theorem ent_record {cs sp : List Value} {o k : Nat} {es : List Ent} {x : Ent} (h : cs.drop o = es.flatMap entC ++ sp) (hx : es[k]? = some x) : (cs.drop (o + k * 5 + 2)).take 3 = [u8 x.k, u8 x.l, x.v] := by
  have h1 := row_from entC_len h hx
  rw [show (cs.drop (o + k * 5 + 2)).take 3 = ((cs.drop (o + k * 5)).take 5).drop 2 by rw [List.drop_take, List.drop_drop], h1]; rfl
def selT (P : Ent → Bool) (es : List Ent) : List Ix.Rec := (es.filter P).map (·.t)
theorem selT_next {P : Ent → Bool} {es : List Ent} {k : Nat} {x : Ent} (h : es[k]? = some x) : selT P (es.take (k + 1)) = selT P (es.take k) ++ if P x = true then [x.t] else [] := by
  obtain ⟨hlt, hg⟩ := List.getElem?_eq_some_iff.1 h
  unfold selT
  rw [List.take_succ_eq_append_getElem hlt, hg, List.filter_append, List.map_append]
  by_cases hc : P x = true
  · rw [List.filter_cons_of_pos hc, if_pos hc]; rfl
  rw [List.filter_cons_of_neg hc, if_neg hc]; rfl
theorem selT_len (P : Ent → Bool) (es : List Ent) : (selT P es).length ≤ es.length := by
  unfold selT; rw [List.length_map]; exact List.length_filter_le _ _
theorem any_next {α : Type} {p : α → Bool} {l : List α} {k : Nat} {x : α} (h : l[k]? = some x) : (l.take (k + 1)).any p = ((l.take k).any p || p x) := by
  obtain ⟨hlt, hg⟩ := List.getElem?_eq_some_iff.1 h
  rw [List.take_succ_eq_append_getElem hlt, hg, List.any_append]; simp
def wIn (w : Ke.Row) (x : List UInt8 × Nat) : Bool := Ix.within w (Ke.words x.1)
def kIn (k : List UInt8) (x : List UInt8 × Nat) : Bool := decide (Ke.sortKey x.1 x.2 = k)
def hasN (n : List UInt8) (w : Ke.Row) (e : Ent) : Bool := (Ix.valsN e.fs n).any (wIn w)
def hasKN (n k : List UInt8) (e : Ent) : Bool := (Ix.valsN e.fs n).any (kIn k)
theorem hasN_eq (n : List UInt8) (w : Ke.Row) (e : Ent) : Ix.hasW n w (Ix.vals e.fs) = hasN n w e := by
  unfold hasN Ix.hasW
  rw [← Ix.valsN_eq, List.any_map, List.any_filter]
  rfl
theorem hasKN_eq (n k : List UInt8) (e : Ent) : Ix.hasK n k (Ix.vals e.fs) = hasKN n k e := by
  unfold hasKN Ix.hasK
  rw [← Ix.valsN_eq, List.any_map, List.any_filter]
  rfl
theorem sel_eq (f : List Ix.V → Bool) (P : Ent → Bool) (h : ∀ e, f (Ix.vals e.fs) = P e) (es : List Ent) : ((es.map entL).filter fun e => f e.2).map (·.1) = selT P es := by
  unfold selT
  rw [List.filter_map, List.map_map]
  have : (fun e : Ix.Rec × List Ix.V => f e.2) ∘ entL = P := funext fun e => h e
  rw [this]; rfl
theorem phr_end {es : List Ent} {n : List UInt8} {w : Ke.Row} {k : Nat} (h0 : k = 0 ∨ w ≠ []) (hk : es.length ≤ k) : selT (hasN n w) (es.take k) = Ix.phrase (es.map entL) n w := by
  unfold Ix.phrase
  by_cases hw : w = []
  · have h1 := h0.resolve_right fun g => g hw
    subst h1
    rw [if_pos hw]; rfl
  rw [if_neg hw, sel_eq _ _ (fun e => hasN_eq n w e), List.take_of_length_le hk]
theorem phr_no {es : List Ent} {n : List UInt8} {w : Ke.Row} {k : Nat} (h0 : k = 0 ∨ w ≠ []) (hw : w = []) : selT (hasN n w) (es.take k) = Ix.phrase (es.map entL) n w := by
  have h1 := h0.resolve_right fun g => g hw
  subst h1
  unfold Ix.phrase
  rw [if_pos hw]; rfl
def keyN (n k : List UInt8) (e : Ent) : Bool := hasKN n k e && decide (k ≠ [])
theorem with_eq (es : List Ent) (n k : List UInt8) : selT (keyN n k) es = Ix.withK (es.map entL) n k := by
  unfold Ix.withK
  by_cases hk : k = []
  · rw [if_pos hk]
    unfold selT keyN
    rw [List.filter_eq_nil_iff.2 fun e _ => by simp [hk]]; rfl
  rw [if_neg hk]
  exact (sel_eq _ (keyN n k) (fun e => by unfold keyN; rw [hasKN_eq, decide_eq_true hk, Bool.and_true]) es).symm
theorem ofN_text {f : Ke.Fld} {n : List UInt8} {x : List UInt8 × Nat} (h : x ∈ Ix.ofN f n) : x.1.length ≤ textsLen f.subs + f.subs.length + 13 := by
  have ht : ∀ c : List UInt8, (Ke.textOf f c).length ≤ textsLen f.subs + f.subs.length := textOf_len f
  have hp : ∀ (u : List UInt8 → List UInt8 × Bool) (c : UInt8), (∀ s, (u s).2 = true → (u s).1.length ≤ 13) → x ∈ psL u c f.subs → x.1.length ≤ textsLen f.subs + f.subs.length + 13 := fun u c hu hx => by
    unfold psL at hx
    obtain ⟨y, hy, rfl⟩ := List.mem_map.1 hx
    obtain ⟨s, _, he⟩ := List.mem_filterMap.1 hy
    unfold pickU at he
    split at he
    · rename_i hc; cases he; have := hu _ hc.1; dsimp only; omega
    cases he
  by_cases h1 : n = Ix.nTitle
  · rw [of_title h1] at h; split at h
    · rw [List.mem_singleton.1 h]; have := ht [97, 98]; dsimp only; omega
    cases h
  by_cases h2 : n = Ix.nAuthor
  · rw [of_author h2] at h; split at h
    · rw [List.mem_singleton.1 h]; have := ht [97]; dsimp only; omega
    cases h
  by_cases h3 : n = Ix.nSubject
  · rw [of_subject h3] at h; split at h
    · rw [List.mem_singleton.1 h]; have := ht [97, 120]; dsimp only; omega
    cases h
  by_cases h4 : n = Ix.nIsbn
  · rw [of_isbn h4] at h; split at h
    · exact hp _ _ (fun s _ => isbn_len s) h
    cases h
  by_cases h5 : n = Ix.nYear
  · rw [of_year h5] at h; split at h
    · refine hp _ _ (fun s hs => ?_) h
      unfold uy at hs ⊢
      cases hy : Ix.yearOf s with
      | none => simp
      | some y => have := yearOf_len hy; dsimp only [Option.getD]; omega
    cases h
  by_cases h6 : n = Ix.nAny
  · rw [of_any h6] at h; split at h
    · rw [List.mem_singleton.1 h]; have := all_len f; dsimp only; omega
    cases h
  rw [of_none h1 h2 h3 h4 h5 h6] at h; cases h
theorem valsN_text {fs : List Ke.Fld} (hok : EOK fs) {n : List UInt8} {x : List UInt8 × Nat} (h : x ∈ Ix.valsN fs n) : x.1.length ≤ 3002000 := by
  unfold Ix.valsN at h
  obtain ⟨f, hf, hx⟩ := List.mem_flatMap.1 h
  have h1 := ofN_text hx
  have h2 := hok.2 f hf
  omega
theorem RowS.len {α : Type} {f : α → List Value} {I : Heap} {l : List α} {v : Value} (h : RowS f I l v) : ∃ p c, v = .slice p l.length c := let ⟨p, c, h1, _⟩ := h; ⟨p, c, h1⟩
theorem rPhrase_ok (rb : Nat) (es : List Ent) (n s : List UInt8) (hs : s.length ≤ 1000000000) (I : Heap) (hx : RxP I rb es) : Ctr Tryz.prog 22 [ptr rb 0, str n, str s] I [] (fun e I' H' => ∃ v, e = .returned v ∧ RowS recC I' (Ix.phrase (es.map entL) n (Ke.words s)) v ∧ H' = []) := by
 have hlen := hx.len
 have heok := hx.eok
 obtain ⟨p, c, hR⟩ := hx.ex
 have hrb := hR.1
 have hwl := (Ke.words_len s).1
 refine Ctr.ob func22 ?_
 intro w0 hw0
 refine Cj.sr (J.z q1 ?_)
 refine J.nssr (J.z q0 ?_)
 refine J.op rfl (q57 rfl rfl rfl rfl rfl (rWords_ok s hs _) ?_)
 intro v2 I3 H4 hle5 hn1 hp6
 have hR := hR.mono hle5
 obtain ⟨gw, hgw, h, rfl⟩ := hp6; cases h
 refine J.keepS (hgw.base hn1) (fun Iw hlew hw => ?_)
 have hR := hR.mono hlew
 obtain ⟨pw, cw, hwe⟩ := StrS_sl hw
 refine J.eqv 15 rfl hwe ?_
 rw [hwe] at hw
 replace hw := StrP.of hw
 refine J.z q1 ?_
 refine J.nssr (J.z q1 ?_)
 refine J.nsss (Cj.region (J.z q1 ?_))
 refine J.ns (Cj.block (Cj.loop (ι := Nat × Heap × Gs) (fun y => y.1 ≤ es.length ∧ (y.1 = 0 ∨ (Ke.words s) ≠ []) ∧ StrP y.2.1 (Ke.words s) (.slice pw (Ke.words s).length cw) ∧ RxS y.2.1 rb es p c ∧ gOk w0.heap.size 2 (selT (hasN n (Ke.words s)) (es.take y.1)).length ((selT (hasN n (Ke.words s)) (es.take y.1)).flatMap recC) y.2.2) (fun y => es.length - y.1) (fun y => [(0, ptr rb 0), (1, str n), (7, .slice pw (Ke.words s).length cw), (8, gV (selT (hasN n (Ke.words s)) (es.take y.1)).length y.2.2), (9, i64 (y.1 : Int))]) (fun y => y.2.1) (fun y => gH 26 ((selT (hasN n (Ke.words s)) (es.take y.1)).flatMap recC) y.2.2) (0, _, none) ⟨Nat.zero_le _, .inl rfl, hw, hR, rfl, rfl⟩ ⟨rfl, rfl, rfl, rfl, rfl, trivial⟩ rfl rfl ?_))
 rintro ⟨k, J1, g⟩ ⟨hk, hk0, hw, hR, hg⟩
 dsimp only at hk hk0 hw hR hg ⊢
 have hrb := hR.1
 have hsl := selT_len (hasN n (Ke.words s)) (es.take k)
 rw [List.length_take, Nat.min_eq_left hk] at hsl
 refine Cj.seq (Cj.sr (J.z q0 ?_))
 refine J.z q0 ?_
 refine J.z q8 ?_
 refine J.z (q4 (off' := 0) tU73 tS27) ?_
 refine J.z (q9 tA27 (Blk.imm hrb)) ?_
 refine J.z (q15 tU27) ?_
 refine J.z q17 ?_
 refine J.z q0 ?_
 refine q16 23 (fun hg7 => ?_) (fun hg7 => ?_)
 ·
  have hg7p := odt hg7
  refine q5 7 23 true hg7 (q2 q0 ?_)
  refine q5 7 23 true hg7 (q2 (q15 tU28) ?_)
  refine q5 7 23 true hg7 (q2 (yl_gtr rfl rfl rfl) ?_)
  refine J.z (q11 hg7) ?_
  refine J.cd (fun hc8 => ?_) (fun hc8 => ?_)
  ·
   have hc8p := odt hc8
   have hwne : (Ke.words s) ≠ [] := ne_nil_of (k := 0) (by omega)
   refine Cj.ks (Cj.seq (Cj.block (Cj.seq ?_)))
   have hlt : k < es.length := by omega
   obtain ⟨e0, hget⟩ : ∃ x, es[k]? = some x := ⟨_, lgg hlt⟩
   have hek := heok e0 (lmg hget)
   obtain ⟨p1, c1, hpe, hc1, hp⟩ := id hR.2.1
   cases hpe
   obtain ⟨eb, eo, ecs, ety, efr, esp, rfl, heb, hed⟩ := hp (ne_nil_of hlt)
   have hrec := hR.2.2 e0 (lmg hget)
   obtain ⟨vp0, vc0, hev, -, -⟩ := id hrec.1
   have hnx := selT_next (P := (hasN n (Ke.words s))) hget
   refine Cj.region (J.z q0 ?_)
   refine J.z q8 ?_
   refine J.z (q4 (off' := 0) tU73 tS27) ?_
   refine J.z (q9 tA27 (Blk.imm hrb)) ?_
   refine J.z q0 ?_
   refine J.z (q19 (off' := eo + k * 5) tU27 tS37) ?_
   refine J.z (q4 (off' := eo + k * 5 + 2) tU37 tS35) ?_
   refine J.z (q43 isAgg35 tS35 (Blk.imm heb) (ent_record hed hget)) ?_
   refine J.z q0 ?_
   refine J.op rfl (q36 (H1 := []) rfl rfl rfl rfl rfl (rValues_ok e0.fs e0.v e0.k e0.l n hek _ hrec) ?_)
   intro v9 I10 H11 hle12 hp13
   have hR := hR.mono hle12
   have hw := hw.mono hle12
   have heb := hle12 _ _ heb
   obtain ⟨vv, h, hvals, rfl⟩ := hp13; cases h
   obtain ⟨pv, cv, rfl⟩ := RowS.len hvals
   have hvl : (Ix.valsN e0.fs n).length ≤ 1000000 := by have h1 := valsN_len n e0.fs (fun f hf => (hek.2 f hf).1); have h2 := hek.1; omega
   refine J.z q1 ?_
   refine J.nssr (J.z q1 ?_)
   refine J.nsss (Cj.region (J.z q1 ?_))
   refine J.ns (Cj.block (Cj.keep Keeps.r ?_))
   refine Cj.loop (ι := Nat × Heap) (fun y => y.1 ≤ (Ix.valsN e0.fs n).length ∧ Le I10 y.2) (fun y => (Ix.valsN e0.fs n).length - y.1) (fun y => [(0, ptr rb 0), (1, str n), (7, .slice pw (Ke.words s).length cw), (8, gV (selT (hasN n (Ke.words s)) (es.take k)).length g), (9, i64 (k : Int)), (10, .slice pv (Ix.valsN e0.fs n).length cv), (11, .bool (((Ix.valsN e0.fs n).take y.1).any (wIn (Ke.words s)))), (12, i64 (y.1 : Int))]) (fun y => y.2) (fun y => gH 26 ((selT (hasN n (Ke.words s)) (es.take k)).flatMap recC) g) (0, _) ⟨Nat.zero_le _, Le.refl _⟩ ⟨rfl, rfl, rfl, rfl, rfl, rfl, rfl, rfl, trivial⟩ rfl rfl ?_
   rintro ⟨j, J2⟩ ⟨hj, hIJ⟩
   dsimp only at hj hIJ ⊢
   have hR := hR.mono hIJ
   have hrb := hR.1
   have hw := hw.mono hIJ
   have heb := hIJ _ _ heb
   have hvals := hvals.mono hIJ
   refine Cj.seq (Cj.sr (J.z q0 ?_))
   refine J.z q0 ?_
   refine J.z (q15 tU101) ?_
   refine J.z q17 ?_
   refine J.cd (fun hc14 => ?_) (fun hc14 => ?_)
   ·
    have hc14p := odt hc14
    have hjlt : j < (Ix.valsN e0.fs n).length := by omega
    obtain ⟨x, hvget⟩ : ∃ x, (Ix.valsN e0.fs n)[j]? = some x := ⟨_, lgg hjlt⟩
    have hxt := valsN_text hek (lmg hvget)
    obtain ⟨p2, c2, hpe2, hc2, hp2⟩ := id hvals
    cases hpe2
    obtain ⟨vb, vo, vcs, vty, vfr, vsp, rfl, hvb, hvd⟩ := hp2 (ne_nil_of hjlt)
    refine Cj.ks (Cj.seq (Cj.block (Cj.sr (J.z q0 ?_))))
    refine J.z q0 ?_
    refine J.z q0 ?_
    refine J.z (q19 (off' := vo + j * 2) tU101 tS104) ?_
    refine J.z (q4 tU104 tS9) ?_
    refine J.z (yl_load rfl rfl tA9 (Blk.imm hvb) (row_fcell valC_len hvd hvget 0 (by decide))) ?_
    refine J.op rfl (q57 rfl rfl rfl rfl rfl (rWords_ok x.1 (by omega) _) ?_)
    intro v16 I17 H18 hle19 hn15 hp20
    have hIJ := hIJ.mono hle19
    have hw := hw.mono hle19
    obtain ⟨gx, hgx, h, rfl⟩ := hp20; cases h
    refine J.keepS (hgx.base hn15) (fun Ix1 hlex hwx => ?_)
    have hIJ := hIJ.mono hlex
    have hw := hw.mono hlex
    replace hwx := StrP.of hwx
    refine J.op rfl (op_pure rfl rfl rfl rfl rfl (rWithin_ok (Ke.words x.1) (Ke.words s) _ _ _ hwx hw (by have := (Ke.words_len x.1).1; omega) (by omega)) ?_)
    refine J.z q1 ?_
    refine J.nsr (J.z q0 ?_)
    refine J.z q0 ?_
    refine q16 55 (fun hg21 => ?_) (fun hg21 => ?_)
    ·
     have hfd := hg21
     refine q3 1 55 56 false hg21 ?_
     refine J.z (q11 hg21) ?_
     refine J.z q1 ?_
     refine J.nb (Cj.region (J.z q0 ?_))
     refine J.z q7 ?_
     refine J.z q1 ?_
     refine J.nil (Ej.round (j + 1, _) ⟨by dsimp only; omega, hIJ⟩ (by dsimp only; omega) ⟨rfl, rfl, rfl, rfl, rfl, rfl, by dsimp only; rw [any_next hvget, hfd]; rfl, rfl, trivial⟩ rfl rfl)
    have hfd := hg21
    refine q5 1 55 false hg21 (q2 q0 ?_)
    refine J.z (q10 hg21) ?_
    refine J.z q1 ?_
    refine J.nb (Cj.region (J.z q0 ?_))
    refine J.z q7 ?_
    refine J.z q1 ?_
    refine J.nil (Ej.round (j + 1, _) ⟨by dsimp only; omega, hIJ⟩ (by dsimp only; omega) ⟨rfl, rfl, rfl, rfl, rfl, rfl, by dsimp only; rw [any_next hvget, hfd, Bool.false_or]; rfl, rfl, trivial⟩ rfl rfl)
   have hc14p := odf hc14
   refine Cj.xl (Cj.sr (J.z q0 ?_))
   refine J.cd (fun hc22 => ?_) (fun hc22 => ?_)
   ·
    have hh : (hasN n (Ke.words s)) e0 = true := by have h := hc22; rw [List.take_of_length_le (by omega)] at h; exact h
    rw [if_pos hh] at hnx
    refine Cj.region (J.z q0 ?_)
    refine J.z q0 ?_
    refine J.z q8 ?_
    refine J.z (q4 (off' := 0) tU73 tS27) ?_
    refine J.z (q9 tA27 (Blk.imm hrb)) ?_
    refine J.z q0 ?_
    refine J.z (q19 (off' := eo + k * 5) tU27 tS37) ?_
    refine J.z (q4 tU37 tS26) ?_
    refine J.z (q43 tA26 tS26 (Blk.imm heb) (ent_rec hed hget)) ?_
    refine J.op rfl (q41 tU44 tS26 tZ26 ?_)
    intro b23 hb23
    refine J.op rfl (op_append (by' := 15) [_] rfl rfl rfl rfl rfl tU44 (.inr ⟨_, tU44⟩) (by kernel_rfl) tS26 tZ26 rfl hg rfl (Src.slice (Blk.at 0 rfl) rfl rfl rfl) (by omega) ?_)
    intro g24 hg24
    refine J.z q1 ?_
    refine J.nb (Cj.region (J.z q0 ?_))
    refine J.z q7 ?_
    refine J.z q1 ?_
    refine J.nil (Ej.keep (Keeps.d Keeps.r) ?_)
    refine Ej.round (k + 1, _, g24) ⟨by dsimp only; omega, .inr hwne, hw, hR, by dsimp only; rw [hnx, List.length_append, List.flatMap_append]; exact hg24⟩ (by dsimp only; omega) ⟨rfl, rfl, rfl, by dsimp only; rw [hnx, List.length_append]; rfl, rfl, trivial⟩ rfl (by dsimp only; rw [hnx, List.flatMap_append]; rfl)
   have hh : (hasN n (Ke.words s)) e0 = false := by have h := hc22; rw [List.take_of_length_le (by omega)] at h; exact h
   rw [if_neg (fun g => Bool.noConfusion (g.symm.trans hh))] at hnx
   refine Cj.kb (Cj.region (J.z q0 ?_))
   refine J.z q7 ?_
   refine J.z q1 ?_
   refine J.nil (Ej.round (k + 1, _, g) ⟨by dsimp only; omega, .inr hwne, hw, hR, by dsimp only; rw [hnx, List.append_nil]; exact hg⟩ (by dsimp only; omega) ⟨rfl, rfl, rfl, by dsimp only; rw [hnx, List.append_nil]; rfl, rfl, trivial⟩ rfl (by dsimp only; rw [hnx, List.append_nil]))
  have hc8p := odf hc8
  refine Cj.xl (Cj.sr (J.z q0 ?_))
  refine J.z q1 ?_
  refine J.ns (Cj.ret ?_)
  have hph := phr_no hk0 (List.length_eq_zero_iff.1 (by omega)) (es := es) (n := n) (w := (Ke.words s)) (k := k)
  rw [hph] at hg ⊢
  refine Ej.perm (H' := gH 26 ((Ix.phrase (es.map entL) n (Ke.words s)).flatMap recC) g ++ []) (.of_eq (List.append_nil _)) ?_
  refine Ej.keepR recC_len (by decide) hg rfl (fun I8 hle8 hw8 => ?_)
  refine q6 ?_
  exact ⟨_, rfl, hw8, rfl⟩
 have hg7p := odf hg7
 refine q3 7 23 24 true hg7 ?_
 refine q3 7 23 25 true hg7 ?_
 refine q3 7 23 26 true hg7 ?_
 refine J.z (q10 hg7) ?_
 refine J.c0 (fun hc25 => ?_)
 refine Cj.xl (Cj.sr (J.z q0 ?_))
 refine J.z q1 ?_
 refine J.ns (Cj.ret ?_)
 have hph := phr_end hk0 (by omega) (es := es) (n := n) (w := (Ke.words s)) (k := k)
 rw [hph] at hg ⊢
 refine Ej.perm (H' := gH 26 ((Ix.phrase (es.map entL) n (Ke.words s)).flatMap recC) g ++ []) (.of_eq (List.append_nil _)) ?_
 refine Ej.keepR recC_len (by decide) hg rfl (fun I8 hle8 hw8 => ?_)
 refine q6 ?_
 exact ⟨_, rfl, hw8, rfl⟩
theorem rWord_ok (rb : Nat) (es : List Ent) (n s : List UInt8) (hs : s.length ≤ 1000000000) (I : Heap) (hx : RxP I rb es) : Ctr Tryz.prog 20 [ptr rb 0, str n, str s] I [] (fun e I' H' => ∃ v, e = .returned v ∧ RowS recC I' (Ix.word (es.map entL) n s) v ∧ H' = []) := by
 have hwl := (Ke.words_len s).1
 refine Ctr.ob func20 ?_
 intro w0 hw0
 refine Cj.sr (J.z q1 ?_)
 refine J.nsss (Cj.region (J.z q0 ?_))
 refine J.op rfl (q57 rfl rfl rfl rfl rfl (rWords_ok s hs _) ?_)
 intro v2 I3 H4 hle5 hn1 hp6
 have hx := hx.mono hle5
 obtain ⟨gw, hgw, h, rfl⟩ := hp6; cases h
 refine J.keepS (hgw.base hn1) (fun Iw hlew hw => ?_)
 have hx := hx.mono hlew
 obtain ⟨pw, cw, hwe⟩ := StrS_sl hw
 refine J.eqv 8 rfl hwe ?_
 rw [hwe] at hw
 replace hw := StrP.of hw
 refine J.z (q15 tU28) ?_
 refine J.z q47 ?_
 refine J.cd (fun hc7 => ?_) (fun hc7 => ?_)
 ·
  have hc7p := bne_iff_ne.1 hc7
  have hne : Ix.word (es.map entL) n s = [] := word_no (by have h := bne_iff_ne.1 hc7; omega)
  refine Cj.sr (J.z q1 ?_)
  refine J.ns (Cj.rs ?_)
  rw [hne]
  refine q6 ?_
  exact ⟨_, rfl, RowS.nil, rfl⟩
 have hc7p := bne_f hc7
 have hne : Ix.word (es.map entL) n s = Ix.phrase (es.map entL) n (Ke.words s) := if_pos (by have h := bne_f hc7; omega)
 refine Cj.ks (Cj.sr (J.z q0 ?_))
 refine J.z q0 ?_
 refine J.z q0 ?_
 refine J.op rfl (q36 (H1 := []) rfl rfl rfl rfl rfl (rPhrase_ok rb es n s hs _ hx) ?_)
 intro v8 I9 H10 hle11 hp12
 obtain ⟨vhph, h, hph, rfl⟩ := hp12; cases h
 refine J.z q1 ?_
 refine J.ns (Cj.ret ?_)
 rw [hne]
 refine q6 ?_
 exact ⟨_, rfl, hph, rfl⟩
theorem rWith_ok (rb : Nat) (es : List Ent) (n key : List UInt8) (I : Heap) (hx : RxP I rb es) : Ctr Tryz.prog 56 [ptr rb 0, str n, str key] I [] (fun e I' H' => ∃ v, e = .returned v ∧ RowS recC I' (Ix.withK (es.map entL) n key) v ∧ H' = []) := by
 have hlen := hx.len
 have heok := hx.eok
 obtain ⟨p, c, hR⟩ := hx.ex
 have hrb := hR.1
 refine Ctr.ob func56 ?_
 intro w0 hw0
 refine Cj.sr (J.z q1 ?_)
 refine J.nssr (J.z q1 ?_)
 refine J.nsss (Cj.region (J.z q1 ?_))
 refine J.ns (Cj.block (Cj.loop (ι := Nat × Heap × Gs) (fun y => y.1 ≤ es.length ∧ RxS y.2.1 rb es p c ∧ gOk w0.heap.size 2 (selT (keyN n key) (es.take y.1)).length ((selT (keyN n key) (es.take y.1)).flatMap recC) y.2.2) (fun y => es.length - y.1) (fun y => [(0, ptr rb 0), (1, str n), (2, str key), (7, gV (selT (keyN n key) (es.take y.1)).length y.2.2), (8, i64 (y.1 : Int))]) (fun y => y.2.1) (fun y => gH 26 ((selT (keyN n key) (es.take y.1)).flatMap recC) y.2.2) (0, _, none) ⟨Nat.zero_le _, hR, rfl, rfl⟩ ⟨rfl, rfl, rfl, rfl, rfl, trivial⟩ rfl rfl ?_))
 rintro ⟨k, J1, g⟩ ⟨hk, hR, hg⟩
 dsimp only at hk hR hg ⊢
 have hrb := hR.1
 have hsl := selT_len (keyN n key) (es.take k)
 rw [List.length_take, Nat.min_eq_left hk] at hsl
 refine Cj.seq (Cj.sr (J.z q0 ?_))
 refine J.z q0 ?_
 refine J.z q8 ?_
 refine J.z (q4 (off' := 0) tU73 tS27) ?_
 refine J.z (q9 tA27 (Blk.imm hrb)) ?_
 refine J.z (q15 tU27) ?_
 refine J.z q17 ?_
 refine J.cd (fun hc1 => ?_) (fun hc1 => ?_)
 ·
  have hc1p := odt hc1
  refine Cj.ks (Cj.seq (Cj.block (Cj.seq ?_)))
  have hlt : k < es.length := by omega
  obtain ⟨e0, hget⟩ : ∃ x, es[k]? = some x := ⟨_, lgg hlt⟩
  have hek := heok e0 (lmg hget)
  obtain ⟨p1, c1, hpe, hc1, hp⟩ := id hR.2.1
  cases hpe
  obtain ⟨eb, eo, ecs, ety, efr, esp, rfl, heb, hed⟩ := hp (ne_nil_of hlt)
  have hrec := hR.2.2 e0 (lmg hget)
  obtain ⟨vp0, vc0, hev, -, -⟩ := id hrec.1
  have hnx := selT_next (P := (keyN n key)) hget
  refine Cj.region (J.z q0 ?_)
  refine J.z q8 ?_
  refine J.z (q4 (off' := 0) tU73 tS27) ?_
  refine J.z (q9 tA27 (Blk.imm hrb)) ?_
  refine J.z q0 ?_
  refine J.z (q19 (off' := eo + k * 5) tU27 tS37) ?_
  refine J.z (q4 (off' := eo + k * 5 + 2) tU37 tS35) ?_
  refine J.z (q43 isAgg35 tS35 (Blk.imm heb) (ent_record hed hget)) ?_
  refine J.z q0 ?_
  refine J.op rfl (q36 (H1 := []) rfl rfl rfl rfl rfl (rValues_ok e0.fs e0.v e0.k e0.l n hek _ hrec) ?_)
  intro v2 I3 H4 hle5 hp6
  have hR := hR.mono hle5
  have hrb := hle5 _ _ hrb
  have heb := hle5 _ _ heb
  obtain ⟨vv, h, hvals, rfl⟩ := hp6; cases h
  obtain ⟨pv, cv, rfl⟩ := RowS.len hvals
  have hvl : (Ix.valsN e0.fs n).length ≤ 1000000 := by have h1 := valsN_len n e0.fs (fun f hf => (hek.2 f hf).1); have h2 := hek.1; omega
  refine J.z q1 ?_
  refine J.nssr (J.z q1 ?_)
  refine J.nsss (Cj.region (J.z q1 ?_))
  refine J.ns (Cj.block (Cj.keep Keeps.r ?_))
  refine Cj.loop (ι := Nat) (fun j => j ≤ (Ix.valsN e0.fs n).length) (fun j => (Ix.valsN e0.fs n).length - j) (fun j => [(0, ptr rb 0), (1, str n), (2, str key), (7, gV (selT (keyN n key) (es.take k)).length g), (8, i64 (k : Int)), (9, .slice pv (Ix.valsN e0.fs n).length cv), (10, .bool (((Ix.valsN e0.fs n).take j).any (kIn key))), (11, i64 (j : Int))]) (fun j => _) (fun j => gH 26 ((selT (keyN n key) (es.take k)).flatMap recC) g) 0 (Nat.zero_le _) ⟨rfl, rfl, rfl, rfl, rfl, rfl, rfl, rfl, trivial⟩ rfl rfl ?_
  intro j hj
  refine Cj.seq (Cj.sr (J.z q0 ?_))
  refine J.z q0 ?_
  refine J.z (q15 tU101) ?_
  refine J.z q17 ?_
  refine J.cd (fun hc7 => ?_) (fun hc7 => ?_)
  ·
   have hc7p := odt hc7
   have hjlt : j < (Ix.valsN e0.fs n).length := by omega
   obtain ⟨x, hvget⟩ : ∃ x, (Ix.valsN e0.fs n)[j]? = some x := ⟨_, lgg hjlt⟩
   have hxt := valsN_text hek (lmg hvget)
   obtain ⟨p2, c2, hpe2, hc2, hp2⟩ := id hvals
   cases hpe2
   obtain ⟨vb, vo, vcs, vty, vfr, vsp, rfl, hvb, hvd⟩ := hp2 (ne_nil_of hjlt)
   refine Cj.ks (Cj.seq (Cj.block (Cj.seq (Cj.drawSel [] [] 13 (by kernel_rfl) ?_))))
   have hrb_10 := hrb
   have heb_10 := heb
   have hvb_10 := hvb
   refine JA.fix fx1 (fun fx8 => ?_)
   refine JA.tk 0 rfl fx8 q0 ?_
   refine JA.tk 1 rfl fx8 q0 ?_
   refine JA.tk 2 rfl fx8 (q19 (off' := vo + j * 2) tU101 tS104) ?_
   refine JA.tk 3 rfl fx8 (q4 tU104 tS9) ?_
   refine JA.tk 4 rfl fx8 (yl_load rfl rfl tA9 (Blk.immC hvb_10) (row_fcell valC_len hvd hvget 0 (by decide))) ?_
   refine JA.tk 5 rfl fx8 q0 ?_
   refine JA.tk 6 rfl fx8 q0 ?_
   refine JA.tk 7 rfl fx8 (q19 (off' := vo + j * 2) tU101 tS104) ?_
   refine JA.tk 8 rfl fx8 (q4 (off' := vo + j * 2 + 1) tU104 tS3) ?_
   refine JA.tk 9 rfl fx8 (yl_load rfl rfl tA3 (Blk.immC hvb_10) (row_fcell valC_len hvd hvget 1 (by decide))) ?_
   refine JA.tk 11 rfl fx8 q0 ?_
   refine q13 10 rfl (op_pure rfl rfl rfl rfl rfl (rSort_ok x.1 _ (by omega) _) ?_)
   refine ⟨fx0, ?_⟩
   refine JA.fix fx1 (fun fx9 => ?_)
   refine JA.tk 12 rfl fx9 q31 ?_
   refine q14 ?_
   refine Ej.seq (Cj.cond rfl (fun hc10 => ?_) (fun hc10 => ?_))
   ·
    have hc10p := ebq hc10
    have hks : kIn key x = true := decide_eq_true (ebq hc10)
    refine Cj.region (J.z q1 ?_)
    refine J.nb (Cj.region (J.z q0 ?_))
    refine J.z q7 ?_
    refine J.z q1 ?_
    refine J.nil (Ej.round (j + 1) (by omega) (by omega) ⟨rfl, rfl, rfl, rfl, rfl, rfl, by rw [any_next hvget, hks, Bool.or_true]; rfl, rfl, trivial⟩ rfl rfl)
   have hc10p := nbf hc10
   have hks : kIn key x = false := decide_eq_false (nbf hc10)
   refine Cj.kb (Cj.region (J.z q0 ?_))
   refine J.z q7 ?_
   refine J.z q1 ?_
   refine J.nil (Ej.round (j + 1) (by omega) (by omega) ⟨rfl, rfl, rfl, rfl, rfl, rfl, by rw [any_next hvget, hks, Bool.or_false]; rfl, rfl, trivial⟩ rfl rfl)
  have hc7p := odf hc7
  refine Cj.xl (Cj.sr (J.z q0 ?_))
  refine J.z q0 ?_
  refine q16 51 (fun hg11 => ?_) (fun hg11 => ?_)
  ·
   have hfd : hasKN n key e0 = true := by have h := hg11; rw [List.take_of_length_le (by omega)] at h; exact h
   refine q5 1 51 true hg11 (q2 q0 ?_)
   refine q5 1 51 true hg11 (q2 (yl_neqStr rfl rfl rfl) ?_)
   refine J.z (q11 hg11) ?_
   refine J.cd (fun hc12 => ?_) (fun hc12 => ?_)
   ·
    have hc12p := bne_iff_ne.1 hc12
    have hh : (keyN n key) e0 = true := by unfold keyN; rw [hfd, decide_eq_true (bne_iff_ne.1 hc12)]; rfl
    rw [if_pos hh] at hnx
    refine Cj.region (J.z q0 ?_)
    refine J.z q0 ?_
    refine J.z q8 ?_
    refine J.z (q4 (off' := 0) tU73 tS27) ?_
    refine J.z (q9 tA27 (Blk.imm hrb)) ?_
    refine J.z q0 ?_
    refine J.z (q19 (off' := eo + k * 5) tU27 tS37) ?_
    refine J.z (q4 tU37 tS26) ?_
    refine J.z (q43 tA26 tS26 (Blk.imm heb) (ent_rec hed hget)) ?_
    refine J.op rfl (q41 tU44 tS26 tZ26 ?_)
    intro b13 hb13
    refine J.op rfl (op_append (by' := 15) [_] rfl rfl rfl rfl rfl tU44 (.inr ⟨_, tU44⟩) (by kernel_rfl) tS26 tZ26 rfl hg rfl (Src.slice (Blk.at 0 rfl) rfl rfl rfl) (by omega) ?_)
    intro g14 hg14
    refine J.z q1 ?_
    refine J.nb (Cj.region (J.z q0 ?_))
    refine J.z q7 ?_
    refine J.z q1 ?_
    refine J.nil (Ej.keep (Keeps.d Keeps.r) ?_)
    refine Ej.round (k + 1, _, g14) ⟨by dsimp only; omega, hR, by dsimp only; rw [hnx, List.length_append, List.flatMap_append]; exact hg14⟩ (by dsimp only; omega) ⟨rfl, rfl, rfl, by dsimp only; rw [hnx, List.length_append]; rfl, rfl, trivial⟩ rfl (by dsimp only; rw [hnx, List.flatMap_append]; rfl)
   have hc12p := bne_f hc12
   have hh : (keyN n key) e0 = false := by unfold keyN; rw [decide_eq_false (fun g => g (bne_f hc12)), Bool.and_false]
   rw [if_neg (fun g => Bool.noConfusion (g.symm.trans hh))] at hnx
   refine Cj.kb (Cj.region (J.z q0 ?_))
   refine J.z q7 ?_
   refine J.z q1 ?_
   refine J.nil (Ej.round (k + 1, _, g) ⟨by dsimp only; omega, hR, by dsimp only; rw [hnx, List.append_nil]; exact hg⟩ (by dsimp only; omega) ⟨rfl, rfl, rfl, by dsimp only; rw [hnx, List.append_nil]; rfl, rfl, trivial⟩ rfl (by dsimp only; rw [hnx, List.append_nil]))
  have hfd : hasKN n key e0 = false := by have h := hg11; rw [List.take_of_length_le (by omega)] at h; exact h
  have hh : (keyN n key) e0 = false := by unfold keyN; rw [hfd]; rfl
  rw [if_neg (fun g => Bool.noConfusion (g.symm.trans hh))] at hnx
  refine q3 1 51 52 true hg11 ?_
  refine q3 1 51 53 true hg11 ?_
  refine J.z (q10 hg11) ?_
  refine J.c0 (fun hc15 => ?_)
  refine Cj.kb (Cj.region (J.z q0 ?_))
  refine J.z q7 ?_
  refine J.z q1 ?_
  refine J.nil (Ej.round (k + 1, _, g) ⟨by dsimp only; omega, hR, by dsimp only; rw [hnx, List.append_nil]; exact hg⟩ (by dsimp only; omega) ⟨rfl, rfl, rfl, by dsimp only; rw [hnx, List.append_nil]; rfl, rfl, trivial⟩ rfl (by dsimp only; rw [hnx, List.append_nil]))
 have hc1p := odf hc1
 refine Cj.xl (Cj.sr (J.z q0 ?_))
 refine J.z q1 ?_
 refine J.ns (Cj.ret ?_)
 have hph := with_eq es n key
 rw [List.take_of_length_le (by omega : es.length ≤ k), hph] at hg ⊢
 refine Ej.perm (H' := gH 26 ((Ix.withK (es.map entL) n key).flatMap recC) g ++ []) (.of_eq (List.append_nil _)) ?_
 refine Ej.keepR recC_len (by decide) hg rfl (fun I8 hle8 hw8 => ?_)
 refine q6 ?_
 exact ⟨_, rfl, hw8, rfl⟩
theorem rKey_ok (rb : Nat) (es : List Ent) (n s : List UInt8) (hs : s.length ≤ 100000000) (I : Heap) (hx : RxP I rb es) : Ctr Tryz.prog 24 [ptr rb 0, str n, str s] I [] (fun e I' H' => ∃ v, e = .returned v ∧ RowS recC I' (Ix.withK (es.map entL) n (Ix.keyOf n s)) v ∧ H' = []) := by
 refine Ctr.ob func24 ?_
 intro w0 hw0
 refine Cj.sr (J.z q1 ?_)
 refine J.nssr (J.z q0 ?_)
 refine J.z q0 ?_
 refine J.z q0 ?_
 refine J.z q0 ?_
 refine J.op rfl (op_pure rfl rfl rfl rfl rfl (rKeyOf_ok n s hs _) ?_)
 refine J.op rfl (q36 (H1 := []) rfl rfl rfl rfl rfl (rWith_ok rb es n (Ix.keyOf n s) _ hx) ?_)
 intro v1 I2 H3 hle4 hp5
 obtain ⟨vhph, h, hph, rfl⟩ := hp5; cases h
 refine J.z q1 ?_
 refine J.ns (Cj.ret (q6 ?_))
 exact ⟨_, rfl, hph, rfl⟩
def kOf (b : List UInt8) (x : List UInt8 × Nat) : List (List UInt8) := if Ke.sortKey x.1 x.2 ≠ [] ∧ ¬ Ke.sortKey x.1 x.2 < b then [Ke.sortKey x.1 x.2] else []
def ksP (n b : List UInt8) (es : List Ent) : List (List UInt8) := es.flatMap fun e => (Ix.valsN e.fs n).flatMap (kOf b)
theorem kOf_all (b : List UInt8) : ∀ xs : List (List UInt8 × Nat), xs.flatMap (kOf b) = ((xs.map fun x => Ke.sortKey x.1 x.2).filter fun k => decide (k ≠ [])).filter fun k => decide (¬ k < b)
  | [] => rfl
  | x :: r => by
    rw [List.flatMap_cons, kOf_all b r, List.map_cons, List.filter_cons]
    unfold kOf
    by_cases h1 : Ke.sortKey x.1 x.2 = []
    · rw [if_neg (fun g => g.1 h1), if_neg (by simp [h1])]; rfl
    rw [if_pos (decide_eq_true h1), List.filter_cons]
    by_cases h2 : Ke.sortKey x.1 x.2 < b
    · rw [if_neg (fun g => g.2 h2), if_neg (fun g => absurd h2 (odt g))]; rfl
    rw [if_pos ⟨h1, h2⟩, if_pos (decide_eq_true h2)]; rfl
theorem ksP_eq (n b : List UInt8) : ∀ es : List Ent, ksP n b es = ((es.map entL).flatMap fun e => Ix.keysOf n e.2).filter fun k => decide (¬ k < b)
  | [] => rfl
  | e :: r => by
    have ih := ksP_eq n b r
    unfold ksP at ih ⊢
    rw [List.flatMap_cons, ih, List.map_cons, List.flatMap_cons, List.filter_append, kOf_all]
    congr 2
    unfold Ix.keysOf
    rw [← Ix.valsN_eq, List.map_map]; rfl
theorem ks_all (n b : List UInt8) (es : List Ent) : (ksP n b es).foldl Ke.put [] = Ix.keysAll (es.map entL) n b := by rw [ksP_eq]; rfl
theorem flat_next {α β : Type} (f : α → List β) {l : List α} {k : Nat} {x : α} (h : l[k]? = some x) : (l.take (k + 1)).flatMap f = (l.take k).flatMap f ++ f x := by
  obtain ⟨hlt, h⟩ := List.getElem?_eq_some_iff.1 h
  rw [List.take_succ_eq_append_getElem hlt, h, List.flatMap_append]; simp
theorem kOf_len (b : List UInt8) : ∀ xs : List (List UInt8 × Nat), (xs.flatMap (kOf b)).length ≤ xs.length
  | [] => Nat.le_refl _
  | x :: r => by
    have := kOf_len b r
    have h1 : (kOf b x).length ≤ 1 := by unfold kOf; split <;> simp
    rw [List.flatMap_cons, List.length_append, List.length_cons]; omega
theorem ksP_len (n b : List UInt8) : ∀ es : List Ent, (∀ e ∈ es, EOK e.fs) → (ksP n b es).length ≤ es.length * 1000000
  | [], _ => by simp [ksP]
  | e :: r, h => by
    have h1 := ksP_len n b r fun x hx => h x (.tail _ hx)
    have he := h e (.head _)
    have h2 := kOf_len b (Ix.valsN e.fs n)
    have h3 := valsN_len n e.fs fun f hf => (he.2 f hf).1
    have h4 := he.1
    unfold ksP at h1 ⊢
    rw [List.flatMap_cons, List.length_append, List.length_cons, Nat.add_mul]
    omega
theorem puts_incA (xs : List (List UInt8)) : Ke.Inc (xs.foldl Ke.put []) := Ke.puts_inc xs List.Pairwise.nil
theorem take_most {α : Type} {l : List α} {i : Nat} {most : Int} (h0 : (i : Int) ≤ most ∨ i = 0) (hi : i ≤ l.length) (h : l.length ≤ i ∨ most ≤ (i : Int)) : l.take i = l.take most.toNat := by
  rcases h with h | h
  · rw [List.take_of_length_le h]
    rcases h0 with g | g
    · rw [List.take_of_length_le (by omega)]
    subst g
    have : l = [] := List.length_eq_zero_iff.1 (by omega)
    subst this; simp
  rcases h0 with g | g
  · rw [show most.toNat = i by omega]
  rw [show most.toNat = i by omega]
def lnK (L : Ix.Ix) (n k : List UInt8) : List UInt8 × Nat := (k, (Ix.withK L n k).length)
def lnR (L : Ix.Ix) (n : List UInt8) (ks : List (List UInt8)) : List (List UInt8 × Int) := (ks.map (lnK L n)).map lineI
theorem lnR_next (L : Ix.Ix) (n : List UInt8) {ks : List (List UInt8)} {i : Nat} {k : List UInt8} (h : ks[i]? = some k) : lnR L n (ks.take (i + 1)) = lnR L n (ks.take i) ++ [lineI (lnK L n k)] := by
  unfold lnR
  rw [map_next _ h, List.map_append]; rfl
theorem lnR_len (L : Ix.Ix) (n : List UInt8) (ks : List (List UInt8)) : (lnR L n ks).length = ks.length := by unfold lnR; rw [List.length_map, List.length_map]
theorem withK_len (es : List Ent) (n k : List UInt8) : (Ix.withK (es.map entL) n k).length ≤ es.length := by
  rw [← with_eq]; exact selT_len _ _
theorem ge_str {a b : List UInt8} (h : (!decide (a < b)) = true) : ¬ a < b := by simpa using h
theorem nge_str {a b : List UInt8} (h : (!decide (a < b)) = false) : a < b := by simpa using h
theorem rScan_ok (rb : Nat) (es : List Ent) (n s : List UInt8) (hs : s.length ≤ 100000000) (most : Int) (I : Heap) (hx : RxP I rb es) : Ctr Tryz.prog 27 [ptr rb 0, str n, str s, i64 most] I [] (fun e I' H' => ∃ v, e = .returned v ∧ RowS lineC I' ((Ix.scan (es.map entL) n s most).map lineI) v ∧ H' = []) := by
 have hlen := hx.len
 have heok := hx.eok
 obtain ⟨p, c, hR⟩ := hx.ex
 have hrb := hR.1
 refine Ctr.ob func27 ?_
 intro w0 hw0
 refine Cj.sr (J.z q1 ?_)
 refine J.nssr (J.z q0 ?_)
 refine J.z q0 ?_
 refine J.op rfl (op_pure rfl rfl rfl rfl rfl (rKeyOf_ok n s hs _) ?_)
 refine J.z q1 ?_
 refine J.nssr (J.z q1 ?_)
 refine J.nsss (Cj.region (J.z q1 ?_))
 refine J.ns (Cj.block (Cj.loop (ι := Nat × Heap × Value) (fun y => y.1 ≤ es.length ∧ RxS y.2.1 rb es p c ∧ StrP y.2.1 ((ksP n (Ix.keyOf n s) (es.take y.1)).foldl Ke.put []) y.2.2) (fun y => es.length - y.1) (fun y => [(0, ptr rb 0), (1, str n), (3, i64 most), (9, str (Ix.keyOf n s)), (10, y.2.2), (11, i64 (y.1 : Int))]) (fun y => y.2.1) (fun y => []) (0, _, _) ⟨Nat.zero_le _, hR, ⟨none, 0, rfl, Nat.le_refl _, fun h => absurd rfl h⟩⟩ ⟨rfl, rfl, rfl, rfl, rfl, rfl, trivial⟩ rfl rfl ?_))
 rintro ⟨k, J1, w⟩ ⟨hk, hR, hv⟩
 dsimp only at hk hR hv ⊢
 have hrb := hR.1
 have hkl := ksP_len n (Ix.keyOf n s) (es.take k) (fun e he => heok e (List.mem_of_mem_take he))
 rw [List.length_take, Nat.min_eq_left hk] at hkl
 refine Cj.seq (Cj.sr (J.z q0 ?_))
 refine J.z q0 ?_
 refine J.z q8 ?_
 refine J.z (q4 (off' := 0) tU73 tS27) ?_
 refine J.z (q9 tA27 (Blk.imm hrb)) ?_
 refine J.z (q15 tU27) ?_
 refine J.z q17 ?_
 refine J.cd (fun hc1 => ?_) (fun hc1 => ?_)
 ·
  have hc1p := odt hc1
  refine Cj.ks (Cj.seq (Cj.block (Cj.seq ?_)))
  have hlt : k < es.length := by omega
  obtain ⟨e0, hget⟩ : ∃ x, es[k]? = some x := ⟨_, lgg hlt⟩
  have hek := heok e0 (lmg hget)
  obtain ⟨p1, c1, hpe, hc1, hp⟩ := id hR.2.1
  cases hpe
  obtain ⟨eb, eo, ecs, ety, efr, esp, rfl, heb, hed⟩ := hp (ne_nil_of hlt)
  have hrec := hR.2.2 e0 (lmg hget)
  obtain ⟨vp0, vc0, hev, -, -⟩ := id hrec.1
  have hnx : ksP n (Ix.keyOf n s) (es.take (k + 1)) = ksP n (Ix.keyOf n s) (es.take k) ++ (Ix.valsN e0.fs n).flatMap (kOf (Ix.keyOf n s)) := flat_next _ hget
  refine Cj.region (J.z q0 ?_)
  refine J.z q8 ?_
  refine J.z (q4 (off' := 0) tU73 tS27) ?_
  refine J.z (q9 tA27 (Blk.imm hrb)) ?_
  refine J.z q0 ?_
  refine J.z (q19 (off' := eo + k * 5) tU27 tS37) ?_
  refine J.z (q4 (off' := eo + k * 5 + 2) tU37 tS35) ?_
  refine J.z (q43 isAgg35 tS35 (Blk.imm heb) (ent_record hed hget)) ?_
  refine J.z q0 ?_
  refine J.op rfl (q36 (H1 := []) rfl rfl rfl rfl rfl (rValues_ok e0.fs e0.v e0.k e0.l n hek _ hrec) ?_)
  intro v2 I3 H4 hle5 hp6
  have hR := hR.mono hle5
  have hv := hv.mono hle5
  have heb := hle5 _ _ heb
  obtain ⟨vv, h, hvals, rfl⟩ := hp6; cases h
  obtain ⟨pv, cv, rfl⟩ := RowS.len hvals
  have hvl : (Ix.valsN e0.fs n).length ≤ 1000000 := by have h1 := valsN_len n e0.fs (fun f hf => (hek.2 f hf).1); have h2 := hek.1; omega
  refine J.z q1 ?_
  refine J.nssr (J.z q1 ?_)
  refine J.ns (Cj.block (Cj.loop (ι := Nat × Heap × Value) (fun y => y.1 ≤ (Ix.valsN e0.fs n).length ∧ Le I3 y.2.1 ∧ StrP y.2.1 ((ksP n (Ix.keyOf n s) (es.take k) ++ ((Ix.valsN e0.fs n).take y.1).flatMap (kOf (Ix.keyOf n s))).foldl Ke.put []) y.2.2) (fun y => (Ix.valsN e0.fs n).length - y.1) (fun y => [(0, ptr rb 0), (1, str n), (3, i64 most), (9, str (Ix.keyOf n s)), (10, y.2.2), (11, i64 (k : Int)), (12, .slice pv (Ix.valsN e0.fs n).length cv), (13, i64 (y.1 : Int))]) (fun y => y.2.1) (fun y => []) (0, _, _) ⟨Nat.zero_le _, Le.refl _, by dsimp only; rw [List.take_zero, List.flatMap_nil, List.append_nil]; exact hv⟩ ⟨rfl, rfl, rfl, rfl, rfl, rfl, rfl, rfl, trivial⟩ rfl rfl ?_))
  rintro ⟨j, J2, w2⟩ ⟨hj, hIJ, hv⟩
  dsimp only at hj hIJ hv ⊢
  have hR := hR.mono hIJ
  have hrb := hR.1
  have hvals := hvals.mono hIJ
  have hrl := puts_len (ksP n (Ix.keyOf n s) (es.take k) ++ ((Ix.valsN e0.fs n).take j).flatMap (kOf (Ix.keyOf n s))) []
  have hr2 := kOf_len (Ix.keyOf n s) ((Ix.valsN e0.fs n).take j)
  rw [List.length_take, Nat.min_eq_left hj] at hr2
  rw [List.length_append, List.length_nil] at hrl
  refine Cj.seq (Cj.sr (J.z q0 ?_))
  refine J.z q0 ?_
  refine J.z (q15 tU101) ?_
  refine J.z q17 ?_
  refine J.cd (fun hc7 => ?_) (fun hc7 => ?_)
  ·
   have hc7p := odt hc7
   have hjlt : j < (Ix.valsN e0.fs n).length := by omega
   obtain ⟨x, hvget⟩ : ∃ x, (Ix.valsN e0.fs n)[j]? = some x := ⟨_, lgg hjlt⟩
   have hxt := valsN_text hek (lmg hvget)
   have hvn := flat_next (kOf (Ix.keyOf n s)) hvget
   obtain ⟨p2, c2, hpe2, hc2, hp2⟩ := id hvals
   cases hpe2
   obtain ⟨vb, vo, vcs, vty, vfr, vsp, rfl, hvb, hvd⟩ := hp2 (ne_nil_of hjlt)
   refine Cj.ks (Cj.seq (Cj.block (Cj.seq (Cj.drawSel [] [] 12 (by kernel_rfl) ?_))))
   have hrb_10 := hrb
   have heb_10 := heb
   have hvb_10 := hvb
   refine JA.fix fx1 (fun fx8 => ?_)
   refine JA.tk 0 rfl fx8 q0 ?_
   refine JA.tk 1 rfl fx8 q0 ?_
   refine JA.tk 2 rfl fx8 (q19 (off' := vo + j * 2) tU101 tS104) ?_
   refine JA.tk 3 rfl fx8 (q4 tU104 tS9) ?_
   refine JA.tk 4 rfl fx8 (yl_load rfl rfl tA9 (Blk.immC hvb_10) (row_fcell valC_len hvd hvget 0 (by decide))) ?_
   refine JA.tk 5 rfl fx8 q0 ?_
   refine JA.tk 6 rfl fx8 q0 ?_
   refine JA.tk 7 rfl fx8 (q19 (off' := vo + j * 2) tU101 tS104) ?_
   refine JA.tk 8 rfl fx8 (q4 (off' := vo + j * 2 + 1) tU104 tS3) ?_
   refine JA.tk 9 rfl fx8 (yl_load rfl rfl tA3 (Blk.immC hvb_10) (row_fcell valC_len hvd hvget 1 (by decide))) ?_
   refine q13 10 rfl (op_pure rfl rfl rfl rfl rfl (rSort_ok x.1 _ (by omega) _) ?_)
   refine ⟨fx0, ?_⟩
   refine JA.fix fx1 (fun fx9 => ?_)
   refine JA.tk 11 rfl fx9 q1 ?_
   refine q14 ?_
   refine Ej.seq (Cj.sr (J.z q0 ?_))
   refine J.z (yl_neqStr rfl rfl rfl) ?_
   refine J.z q0 ?_
   refine q16 58 (fun hg10 => ?_) (fun hg10 => ?_)
   ·
    have hg10p := bne_iff_ne.1 hg10
    have hk1 : Ke.sortKey x.1 x.2 ≠ [] := bne_iff_ne.1 hg10
    refine q5 2 58 true hg10 (q2 q0 ?_)
    refine q5 2 58 true hg10 (q2 q0 ?_)
    refine q5 2 58 true hg10 (q2 (yl_geqStr rfl rfl rfl) ?_)
    refine J.z (q11 hg10) ?_
    refine J.cd (fun hc11 => ?_) (fun hc11 => ?_)
    ·
     have hko : kOf (Ix.keyOf n s) x = [Ke.sortKey x.1 x.2] := if_pos ⟨hk1, ge_str hc11⟩
     refine Cj.region (J.z q0 ?_)
     refine J.z q0 ?_
     refine J.op rfl (q36 (H1 := []) rfl rfl rfl rfl rfl (xPut_ok _ _ (Ke.sortKey x.1 x.2) (puts_incA _) (by omega) _ hv) ?_)
     intro v12 I13 H14 hle15 hp16
     have hIJ := hIJ.mono hle15
     obtain ⟨wv, h, hv2, rfl⟩ := hp16; cases h
     replace hv := hv2
     refine J.z q1 ?_
     refine J.nb (Cj.region (J.z q0 ?_))
     refine J.z q7 ?_
     refine J.z q1 ?_
     refine J.nil (Ej.round (j + 1, _, _) ⟨by dsimp only; omega, hIJ, by dsimp only; rw [hvn, hko, ← List.append_assoc, puts_one]; exact hv⟩ (by dsimp only; omega) ⟨rfl, rfl, rfl, rfl, rfl, rfl, rfl, rfl, trivial⟩ rfl rfl)
    have hko : kOf (Ix.keyOf n s) x = [] := if_neg (fun g => g.2 (nge_str hc11))
    refine Cj.kb (Cj.region (J.z q0 ?_))
    refine J.z q7 ?_
    refine J.z q1 ?_
    refine J.nil (Ej.round (j + 1, _, _) ⟨by dsimp only; omega, hIJ, by dsimp only; rw [hvn, hko, List.append_nil]; exact hv⟩ (by dsimp only; omega) ⟨rfl, rfl, rfl, rfl, rfl, rfl, rfl, rfl, trivial⟩ rfl rfl)
   have hg10p := bne_f hg10
   have hko : kOf (Ix.keyOf n s) x = [] := if_neg (fun g => g.1 (bne_f hg10))
   refine q3 2 58 59 true hg10 ?_
   refine q3 2 58 60 true hg10 ?_
   refine q3 2 58 61 true hg10 ?_
   refine J.z (q10 hg10) ?_
   refine J.c0 (fun hc17 => ?_)
   refine Cj.kb (Cj.region (J.z q0 ?_))
   refine J.z q7 ?_
   refine J.z q1 ?_
   refine J.nil (Ej.round (j + 1, _, _) ⟨by dsimp only; omega, hIJ, by dsimp only; rw [hvn, hko, List.append_nil]; exact hv⟩ (by dsimp only; omega) ⟨rfl, rfl, rfl, rfl, rfl, rfl, rfl, rfl, trivial⟩ rfl rfl)
  have hc7p := odf hc7
  refine Cj.exit (Ej.seqExit (Ej.loopExit (Ej.blkExit (Ej.blkNormal (Ej.seq (Cj.region (J.z q0 ?_)))))))
  refine J.z q7 ?_
  refine J.z q1 ?_
  refine J.nil (Ej.round (k + 1, _, _) ⟨by dsimp only; omega, hR, by dsimp only; rw [hnx]; rw [List.take_of_length_le (show (Ix.valsN e0.fs n).length ≤ j by omega)] at hv; exact hv⟩ (by dsimp only; omega) ⟨rfl, rfl, rfl, rfl, rfl, rfl, trivial⟩ rfl rfl)
 have hc1p := odf hc1
 refine Cj.xl (Cj.seq ?_)
 have hfull : es.take k = es := List.take_of_length_le (by omega)
 rw [hfull] at hv hkl
 have hkpl := puts_len (ksP n (Ix.keyOf n s) es) []
 rw [List.length_nil] at hkpl
 obtain ⟨ks, hks⟩ : ∃ ks, ks = (ksP n (Ix.keyOf n s) es).foldl Ke.put [] := ⟨_, rfl⟩
 rw [← hks] at hv hkpl
 obtain ⟨pk, ck, rfl⟩ := StrP.len hv
 have hkall : ks = Ix.keysAll (es.map entL) n (Ix.keyOf n s) := hks.trans (ks_all n (Ix.keyOf n s) es)
 have hx1 : RxP J1 rb es := ⟨⟨p, c, hR⟩, hlen, heok, hx.srt⟩
 refine Cj.region (J.z q1 ?_)
 refine J.nsss (Cj.region (J.z q1 ?_))
 refine J.ns (Cj.block (Cj.loop (ι := Nat × Heap × Gs) (fun y => y.1 ≤ ks.length ∧ ((y.1 : Int) ≤ most ∨ y.1 = 0) ∧ Le J1 y.2.1 ∧ gOk w0.heap.size 2 (lnR (es.map entL) n (ks.take y.1)).length ((lnR (es.map entL) n (ks.take y.1)).flatMap lineC) y.2.2) (fun y => ks.length - y.1) (fun y => [(0, ptr rb 0), (1, str n), (3, i64 most), (10, .slice pk ks.length ck), (15, gV (lnR (es.map entL) n (ks.take y.1)).length y.2.2), (16, i64 (y.1 : Int))]) (fun y => y.2.1) (fun y => gH 57 ((lnR (es.map entL) n (ks.take y.1)).flatMap lineC) y.2.2) (0, _, none) ⟨Nat.zero_le _, .inr rfl, Le.refl _, rfl, rfl⟩ ⟨rfl, rfl, rfl, rfl, rfl, rfl, trivial⟩ rfl rfl ?_))
 rintro ⟨i, J3, g⟩ ⟨hi, hi0, hIJ, hg⟩
 dsimp only at hi hi0 hIJ hg ⊢
 have hx := hx1.mono hIJ
 have hv := hv.mono hIJ
 have hll := lnR_len (es.map entL) n (ks.take i)
 rw [List.length_take, Nat.min_eq_left hi] at hll
 refine Cj.seq (Cj.sr (J.z q0 ?_))
 refine J.z q0 ?_
 refine J.z (q15 tU28) ?_
 refine J.z q17 ?_
 refine J.z q0 ?_
 refine q16 70 (fun hg18 => ?_) (fun hg18 => ?_)
 ·
  have hg18p := odt hg18
  have hilt : i < ks.length := by omega
  obtain ⟨x, hkget⟩ : ∃ x, ks[i]? = some x := ⟨_, lgg hilt⟩
  have hnl := lnR_next (es.map entL) n hkget
  have hwl := withK_len es n x
  obtain ⟨p3, c3, hpe3, hc3, hp3⟩ := id hv
  cases hpe3
  obtain ⟨kb, ko, kcs, kty, kfr, ksp, rfl, hkb, hkd⟩ := hp3 (ne_nil_of hilt)
  refine q5 4 70 true hg18 (q2 q0 ?_)
  refine q5 4 70 true hg18 (q2 q0 ?_)
  refine q5 4 70 true hg18 (q2 q17 ?_)
  refine J.z (q11 hg18) ?_
  refine J.cd (fun hc19 => ?_) (fun hc19 => ?_)
  ·
   have hc19p := odt hc19
   refine Cj.ks (Cj.seq (Cj.block (Cj.drawSel [] [] 17 (by kernel_rfl) ?_)))
   have hrb_17 := hrb
   have hkb_17 := hkb
   refine JA.fix fx1 (fun fx20 => ?_)
   refine JA.tk 0 rfl fx20 q0 ?_
   refine JA.tk 1 rfl fx20 q0 ?_
   refine JA.tk 2 rfl fx20 q0 ?_
   refine JA.tk 3 rfl fx20 (q19 (off' := ko + i) tU28 tS9) ?_
   refine JA.tk 4 rfl fx20 (q37 tA9 (Blk.immC hkb_17) (str_from hkd hkget)) ?_
   refine JA.tk 5 rfl fx20 q0 ?_
   refine JA.tk 6 rfl fx20 q0 ?_
   refine JA.tk 7 rfl fx20 q0 ?_
   refine JA.tk 8 rfl fx20 q0 ?_
   refine JA.tk 9 rfl fx20 (q19 (off' := ko + i) tU28 tS9) ?_
   refine JA.tk 10 rfl fx20 (q37 tA9 (Blk.immC hkb_17) (str_from hkd hkget)) ?_
   refine q13 11 rfl (q36 (H1 := []) rfl rfl rfl rfl rfl (rWith_ok rb es n x _ hx) ?_)
   intro v21 I22 H23 hle24 hp25
   have hIJ := hIJ.mono hle24
   obtain ⟨vv, h, hph, rfl⟩ := hp25; cases h
   obtain ⟨pw, cw, rfl⟩ := RowS.len hph
   refine ⟨⟨(Le.trans (Le.refl _) hle24), HSub.n, CSub.n⟩, ?_⟩
   refine JA.fix ⟨HSub.n, CSub.n, (Le.trans (Le.refl _) hle24)⟩ (fun fx26 => ?_)
   refine JA.tk 12 rfl fx26 (q15 tU44) ?_
   refine JA.tk 13 rfl fx26 (yl_buildS (pl := #[(0, 1), (1, 1)]) rfl rfl tZ57 rfl tU57 (fun w => by simp []) (LBld.part rfl rfl rfl (LSpl.c LSpl.z) (LBld.part rfl rfl rfl (LSpl.s (LSpl.c LSpl.z)) LBld.none))) ?_
   refine q13 14 rfl (q41 tU47 tS57 tZ57 ?_)
   intro b27 hb27
   refine ⟨⟨(Le.trans (Le.refl _) hle24), HSub.n, CSub.n⟩, ?_⟩
   refine q13 15 rfl (op_append (by' := 23) [_] rfl rfl rfl rfl rfl tU47 (.inr ⟨_, tU47⟩) (by kernel_rfl) tS57 tZ57 rfl hg rfl (Src.slice (Blk.at 0 rfl) rfl rfl rfl) (by omega) ?_)
   intro g28 hg28
   refine ⟨⟨(Le.trans (Le.refl _) hle24), HSub.n, CSub.n⟩, ?_⟩
   refine JA.fix ⟨HSub.n, CSub.n, (Le.trans (Le.refl _) hle24)⟩ (fun fx29 => ?_)
   refine JA.tk 16 rfl fx29 q1 ?_
   refine q14 ?_
   refine Ej.blkNormal (Ej.seq (Cj.region (J.z q0 ?_)))
   refine J.z q7 ?_
   refine J.z q1 ?_
   refine J.nil (Ej.keep (Keeps.d Keeps.r) ?_)
   refine Ej.round (i + 1, _, g28) ⟨by dsimp only; omega, .inl (by dsimp only; omega), hIJ, by dsimp only; rw [hnl, List.length_append, List.flatMap_append]; exact hg28⟩ (by dsimp only; omega) ⟨rfl, rfl, rfl, rfl, by dsimp only; rw [hnl, List.length_append]; rfl, rfl, trivial⟩ rfl (by dsimp only; rw [hnl, List.flatMap_append]; rfl)
  have hc19p := odf hc19
  refine Cj.xl (Cj.sr (J.z q0 ?_))
  refine J.z q1 ?_
  refine J.ns (Cj.ret ?_)
  have htk := take_most hi0 hi (.inr (by omega))
  have hsc : lnR (es.map entL) n (ks.take i) = (Ix.scan (es.map entL) n s most).map lineI := by rw [htk, hkall]; rfl
  rw [hsc] at hg ⊢
  refine Ej.perm (H' := gH 57 (((Ix.scan (es.map entL) n s most).map lineI).flatMap lineC) g ++ []) (.of_eq (List.append_nil _)) ?_
  refine Ej.keepR lineC_len (by decide) hg rfl (fun I8 hle8 hw8 => ?_)
  refine q6 ?_
  exact ⟨_, rfl, hw8, rfl⟩
 have hg18p := odf hg18
 refine q3 4 70 71 true hg18 ?_
 refine q3 4 70 72 true hg18 ?_
 refine q3 4 70 73 true hg18 ?_
 refine J.z (q10 hg18) ?_
 refine J.c0 (fun hc30 => ?_)
 refine Cj.xl (Cj.sr (J.z q0 ?_))
 refine J.z q1 ?_
 refine J.ns (Cj.ret ?_)
 have htk := take_most hi0 hi (.inl (by omega))
 have hsc : lnR (es.map entL) n (ks.take i) = (Ix.scan (es.map entL) n s most).map lineI := by rw [htk, hkall]; rfl
 rw [hsc] at hg ⊢
 refine Ej.perm (H' := gH 57 (((Ix.scan (es.map entL) n s most).map lineI).flatMap lineC) g ++ []) (.of_eq (List.append_nil _)) ?_
 refine Ej.keepR lineC_len (by decide) hg rfl (fun I8 hle8 hw8 => ?_)
 refine q6 ?_
 exact ⟨_, rfl, hw8, rfl⟩
end Go.Proofs.YtjcdfnbomkoheaaGreatDoor
end
section
namespace Ke
def nrm1 (f : Fld) : Fld := { f with sv := .slice none 0 0 }
def nrm (fs : List Fld) : List Fld := fs.map nrm1
end Ke
end
section
namespace Go.Sx
open Go
theorem Ready.dom {I : Heap} {H : HL} {w : World} (h : Ready I H w) {b : Nat} (hb : w.heap.size ≤ b) : I b = none := by
  cases hI : I b with
  | none => rfl
  | some o =>
    have := h.1 b o hI
    rw [Array.getElem?_eq_none hb] at this; cases this
section
variable {cx : Cx} {Q : Qt} {e : Env} {I : Heap} {H : HL}
end
section
variable {cx : Cx} {Q : Qt} {e : Env} {I : Heap} {H : HL}
end
def RowN {α : Type} (N : Nat → Prop) (T : TypeId) (f : α → List Value) (I : Heap) (l : List α) (v : Value) : Prop :=
  ∃ p c, v = .slice p l.length c ∧ l.length ≤ c ∧ (l ≠ [] → ∃ b sp, p = some ⟨b, 0, none⟩ ∧ N b ∧ I b = some (cel T (l.flatMap f ++ sp)))
section
variable {α : Type} {N M : Nat → Prop} {T : TypeId} {f : α → List Value} {I I' : Heap} {l : List α} {v : Value}
theorem RowN.mono (h : RowN N T f I l v) (hle : Le I I') : RowN N T f I' l v :=
  let ⟨p, c, h1, h2, h3⟩ := h; ⟨p, c, h1, h2, fun hn => let ⟨b, sp, h4, h5, h6⟩ := h3 hn; ⟨b, sp, h4, h5, hle _ _ h6⟩⟩
theorem RowN.imp (h : RowN N T f I l v) (hm : ∀ b, N b → M b) : RowN M T f I l v :=
  let ⟨p, c, h1, h2, h3⟩ := h; ⟨p, c, h1, h2, fun hn => let ⟨b, sp, h4, h5, h6⟩ := h3 hn; ⟨b, sp, h4, hm b h5, h6⟩⟩
theorem RowN.rowT (h : RowN N T f I l v) : RowT T f I l v :=
  let ⟨p, c, h1, h2, h3⟩ := h; ⟨p, c, h1, h2, fun hn => let ⟨b, sp, h4, _, h6⟩ := h3 hn; ⟨b, sp, h4, h6⟩⟩
theorem RowN.row (h : RowN N T f I l v) : RowS f I l v := h.rowT.row
theorem RowN.nil : RowN N T f I ([] : List α) (.slice none 0 0) := ⟨none, 0, rfl, Nat.le_refl _, fun h => absurd rfl h⟩
end
section
variable {cx : Cx} {Q : Qt} {e : Env} {I : Heap} {R : HL} {T : TypeId} {α : Type} {l : List α} {f : α → List Value} {sz n base : Nat} {g : Gs}
theorem gN_cases {X : Heap → HL → Prop} (hf : ∀ x, (f x).length = sz) (hpos : 0 < sz) (hg : gOk base sz n (l.flatMap f) g) (hn : n = l.length) (hp : ∀ b o, base ≤ b → (∀ I', Le I I' → I' b = some o → X I' R) → X I ((b, o) :: R)) (k : ∀ I', Le I I' → RowN (base ≤ ·) T f I' l (gV n g) → X I' R) : X I (gH T (l.flatMap f) g ++ R) := by
  subst hn
  cases g with
  | none =>
    obtain ⟨h1, h2⟩ := hg
    have : l = [] := List.length_eq_zero_iff.1 h1
    subst this
    exact k I (Le.refl _) RowN.nil
  | some q =>
    obtain ⟨b, c, sp⟩ := q
    obtain ⟨h1, h2, h3⟩ := hg
    have hc : l.length ≤ c := by
      rw [flat_len hf] at h3
      exact Nat.le_of_mul_le_mul_right (by omega : l.length * sz ≤ c * sz) hpos
    exact hp b _ h1 fun I' hle hb => k I' hle ⟨_, c, rfl, hc, fun _ => ⟨b, sp, rfl, h1, hb⟩⟩
theorem Cj.keepN {c : Code} (hf : ∀ x, (f x).length = sz) (hpos : 0 < sz) (hg : gOk cx.w0.heap.size sz n (l.flatMap f) g) (hn : n = l.length) (k : ∀ I', Le I I' → RowN (cx.w0.heap.size ≤ ·) T f I' l (gV n g) → Cj cx Q c e I' R) : Cj cx Q c e I (gH T (l.flatMap f) g ++ R) :=
  gN_cases (X := fun I H => Cj cx Q c e I H) hf hpos hg hn (fun _ _ hb k => Cj.persist hb k) k
theorem Ej.keepN {x : Exit} (hf : ∀ x, (f x).length = sz) (hpos : 0 < sz) (hg : gOk cx.w0.heap.size sz n (l.flatMap f) g) (hn : n = l.length) (k : ∀ I', Le I I' → RowN (cx.w0.heap.size ≤ ·) T f I' l (gV n g) → Ej cx Q x e I' R) : Ej cx Q x e I (gH T (l.flatMap f) g ++ R) :=
  gN_cases (X := fun I H => Ej cx Q x e I H) hf hpos hg hn (fun _ _ hb k => Ej.persist hb k) k
end
section
variable {cx : Cx} {Q : Qt} {e : Env} {I I1 : Heap} {H A : HL} {Z : CL} {z : Nat} {l : List Oper} {fuel : Nat} {listed : Array Bool}
end
section
variable {cx : Cx} {Q : Qt} {e : Env} {I I1 : Heap} {R H1 A : HL} {Z : CL} {z : Nat} {ops : List Oper} {fuel : Nat} {listed : Array Bool} {T : TypeId} {α : Type} {l : List α} {f : α → List Value} {v : Value} {sz n : Nat} {g : Gs}
end
end Go.Sx
end
section
namespace Go.Proofs.YtjcdfnbomkoheaaGreatDoor
open _root_.Go.Proofs.Tryz
open Go Go.Sx
def In64 (a : Int) : Prop := -9223372036854775808 ≤ a ∧ a ≤ 9223372036854775807
theorem td_rng {a : Int} (h : In64 a) (m : Int) (hm : 2 ≤ m) : -4611686018427387904 ≤ a.tdiv m ∧ a.tdiv m ≤ 4611686018427387904 := by
  unfold In64 at h
  have h1 : (a.tdiv m).natAbs = a.natAbs / m.natAbs := Int.natAbs_tdiv a m
  have h2 : a.natAbs / m.natAbs ≤ a.natAbs / 2 := Nat.div_le_div_left (by omega) (by decide)
  omega
theorem mul_small {j : Nat} {m : Int} (hj : j ≤ 3) (h0 : 0 ≤ m) (h1 : m ≤ 2) : 0 ≤ (j : Int) * (1 + m) ∧ (j : Int) * (1 + m) ≤ 9 := by
  match j, hj with
  | 0, _ => simp
  | 1, _ => simp; omega
  | 2, _ => simp; omega
  | 3, _ => simp; omega
abbrev fourC (q : Ix.Four) : List Value := [i64 q.x0, i64 q.x1, i64 q.x2, i64 q.x3]
theorem fourC_len (q : Ix.Four) : (fourC q).length = 4 := rfl
structure FourOk (q : Ix.Four) : Prop where
  h0 : In64 q.x0
  h1 : In64 q.x1
  h2 : In64 q.x2
  h3 : In64 q.x3
theorem get_str {l : List (List UInt8)} {n : Int} (h0 : 0 ≤ n) (h1 : n < (l.length : Int)) : (l.map str)[n.toNat]? = some (str (l.getD n.toNat [])) := by
  have h2 : n.toNat < l.length := by omega
  rw [List.getElem?_map, lgg h2, List.getD_eq_getElem?_getD, lgg h2]; rfl
theorem get_code {l : List UInt8} {n : Int} (h0 : 0 ≤ n) (h1 : n < (l.length : Int)) : l[n.toNat]? = some (l.getD n.toNat 0) := by
  have h2 : n.toNat < l.length := by omega
  rw [lgg h2, List.getD_eq_getElem?_getD, lgg h2]; rfl
theorem nrm_add (fs : List Ke.Fld) (f : Ke.Fld) : Ke.nrm (fs ++ [f]) = Ke.nrm fs ++ [Ke.nrm1 f] := by unfold Ke.nrm; rw [List.map_append]; rfl
theorem nrm_len (fs : List Ke.Fld) : (Ke.nrm fs).length = fs.length := List.length_map _
theorem vals_nrm (fs : List Ke.Fld) : Ix.vals (Ke.nrm fs) = Ix.vals fs := by
  unfold Ix.vals Ke.nrm
  rw [List.flatMap_map]; rfl
def subsN (q : Ix.Four) (n : Nat) : List Ke.Sub := (List.range n).map fun j => Ix.subN q j
theorem subsN_next (q : Ix.Four) (n : Nat) : subsN q (n + 1) = subsN q n ++ [Ix.subN q n] := by unfold subsN; rw [List.range_succ, List.map_append]; rfl
theorem subsN_len (q : Ix.Four) (n : Nat) : (subsN q n).length = n := by unfold subsN; rw [List.length_map, List.length_range]
theorem fld_c {q : Ix.Four} (h : Ix.isC (Ix.tagN q.x0)) : Ix.fldN q = ⟨Ix.tagN q.x0, [], Ix.textN q.x3, .slice none 0 0, []⟩ := if_pos h
theorem fld_d {q : Ix.Four} (h : ¬ Ix.isC (Ix.tagN q.x0)) : Ix.fldN q = ⟨Ix.tagN q.x0, Ix.indsL.getD (q.x1 % 8).toNat [], [], .slice none 0 0, subsN q (1 + (q.x2 % 3).toNat)⟩ := if_neg h
theorem tagN_len (n : Int) : (Ix.tagN n).length ≤ 3 := by
  unfold Ix.tagN
  generalize (n % 20).toNat = k
  rcases Nat.lt_or_ge k 20 with h | h
  · have : ∀ k, k < 20 → (Ix.tagsL.getD k []).length ≤ 3 := by decide
    exact this k h
  rw [List.getD_eq_getElem?_getD, List.getElem?_eq_none (by simpa [Ix.tagsL] using h)]; simp
theorem indN_len (n : Nat) : (Ix.indsL.getD n []).length ≤ 2 := by
  rcases Nat.lt_or_ge n 8 with h | h
  · have : ∀ k, k < 8 → (Ix.indsL.getD k []).length ≤ 2 := by decide
    exact this n h
  rw [List.getD_eq_getElem?_getD, List.getElem?_eq_none (by simpa [Ix.indsL] using h)]; simp
theorem fldN_small (q : Ix.Four) : (Ix.fldN q).subs.length ≤ 3 ∧ textsLen (Ix.fldN q).subs ≤ 51 ∧ (Ix.fldN q).ind.length ≤ 2 := by
  by_cases h : Ix.isC (Ix.tagN q.x0)
  · rw [fld_c h]; exact ⟨by simp, by simp [textsLen], by simp⟩
  rw [fld_d h]
  refine ⟨by dsimp only; rw [subsN_len]; omega, ?_, indN_len _⟩
  dsimp only
  have hn : ∀ n, textsLen (subsN q n) ≤ n * 17 := by
    intro n
    induction n with
    | zero => simp [textsLen, subsN]
    | succ n ih =>
      rw [subsN_next]
      unfold textsLen at ih ⊢
      rw [List.map_append, List.sum_append]
      have h1 : (Ix.subN q n).text.length ≤ 17 := Ix.textN_len _
      simp only [List.map_cons, List.map_nil, List.sum_cons, List.sum_nil]; omega
  have := hn (1 + (q.x2 % 3).toNat)
  omega
theorem made_eok {l : List Ix.Four} {fs : List Ke.Fld} (h : Ke.nrm fs = Ix.madeR l) : EOK fs := by
  have hl : fs.length ≤ 20 := by
    rw [← nrm_len, h]
    unfold Ix.madeR
    rw [List.length_map, List.length_take]; omega
  refine ⟨by omega, fun f hf => ?_⟩
  have h1 : Ke.nrm1 f ∈ Ix.madeR l := by rw [← h]; exact List.mem_map_of_mem hf
  obtain ⟨q, _, he⟩ := List.mem_map.1 h1
  have h2 := fldN_small q
  rw [he] at h2
  exact ⟨by have : f.subs.length ≤ 3 := h2.1; omega, by have : textsLen f.subs ≤ 51 := h2.2.1; omega, by have : f.ind.length ≤ 2 := h2.2.2; omega⟩
theorem perm_front {α : Type} (A S Z : List α) : (S ++ (A ++ Z)).Perm (A ++ (S ++ Z)) := by
  rw [← List.append_assoc, ← List.append_assoc]
  exact List.Perm.append_right Z List.perm_append_comm
def RecN (N : Nat → Prop) (I : Heap) (fs : List Ke.Fld) (v : Value) : Prop := RowN N 31 fldC I fs v ∧ ∀ f ∈ fs, RowN N 65 subC I f.subs f.sv
theorem RecN.imp {N M : Nat → Prop} {I : Heap} {fs : List Ke.Fld} {v : Value} (h : RecN N I fs v) (hm : ∀ b, N b → M b) : RecN M I fs v := ⟨h.1.imp hm, fun f hf => (h.2 f hf).imp hm⟩
theorem RecN.rec {N : Nat → Prop} {I : Heap} {fs : List Ke.Fld} {v : Value} (h : RecN N I fs v) : RecS I fs v := ⟨h.1.row, fun f hf => (h.2 f hf).row⟩
def SubsN (N : Nat → Prop) (I : Heap) (fs : List Ke.Fld) : Prop := ∀ f ∈ fs, RowN N 65 subC I f.subs f.sv
theorem SubsN.mono {N : Nat → Prop} {I I' : Heap} {fs : List Ke.Fld} (h : SubsN N I fs) (hle : Le I I') : SubsN N I' fs := fun f hf => (h f hf).mono hle
theorem SubsN.nil {N : Nat → Prop} {I : Heap} : SubsN N I [] := fun _ h => by cases h
theorem SubsN.add {N : Nat → Prop} {I : Heap} {fs : List Ke.Fld} {f : Ke.Fld} (h : SubsN N I fs) (h1 : RowN N 65 subC I f.subs f.sv) : SubsN N I (fs ++ [f]) := fun x hx => by
  rcases List.mem_append.1 hx with g | g
  · exact h x g
  rw [List.mem_singleton.1 g]; exact h1
theorem nMod_ok (n : Int) (m : Int) (hm : 0 < m) (hm2 : m ≤ 1000000000) (I : Heap) : Pure Tryz.prog 67 [i64 n, i64 m] I (i64 (n % m)) := by
 have h1 := Int.tmod_lt_of_pos n hm
 have h2 := Int.lt_tmod_of_pos n hm
 refine Ctr.ob func67 ?_
 intro w0 hw0
 refine Cj.sr (J.z q1 ?_)
 refine J.nssr (J.z q0 ?_)
 refine J.z q0 ?_
 refine J.z (yl_rem rfl rfl rfl (by omega)) ?_
 refine J.z q0 ?_
 refine J.z q7 ?_
 refine J.z q0 ?_
 refine J.z (yl_rem rfl rfl rfl (by omega)) ?_
 refine J.eqv 11 rfl (show _ = i64 (n % m) from (congrArg i64 (mod_eq n hm))) ?_
 refine J.z q1 ?_
 refine J.ns (Cj.ret (q6 ?_))
 exact ⟨rfl, rfl, rfl⟩
theorem nTag_ok (n : Int) (I : Heap) : Pure Tryz.prog 100 [i64 n] I (str (Ix.tagN n)) := by
 refine Ctr.toPure ?_
 refine Ctr.ob func100 ?_
 intro w0 hw0
 refine Cj.sr (J.z q1 ?_)
 refine J.nssr (J.op rfl (op_buildSlice rfl rfl rfl tU28 tS9 tZ9 rfl rfl rfl rfl (LCat.one rfl (LCat.one rfl (LCat.one rfl (LCat.one rfl (LCat.one rfl (LCat.one rfl (LCat.one rfl (LCat.one rfl (LCat.one rfl (LCat.one rfl (LCat.one rfl (LCat.one rfl (LCat.one rfl (LCat.one rfl (LCat.one rfl (LCat.one rfl (LCat.one rfl (LCat.one rfl (LCat.one rfl (LCat.one rfl LCat.none)))))))))))))))))))) ?_))
 intro b1 hb1
 refine J.z q1 ?_
 refine J.nssr (J.z q0 ?_)
 refine J.z q0 ?_
 refine J.z q0 ?_
 refine J.z (q15 tU28) ?_
 refine J.op rfl (op_pure rfl rfl rfl rfl rfl (nMod_ok n 20 (by decide) (by decide) _) ?_)
 refine J.z (yl_indexAddr (off' := (n % 20).toNat) rfl rfl rfl tU28 tS9 (by omega) (by omega) (by omega)) ?_
 refine J.z (yl_load rfl rfl tA9 (Blk.at 0 rfl) (get_str (l := Ix.tagsL) (by omega) (by simp [Ix.tagsL]; omega))) ?_
 refine J.z q1 ?_
 refine J.ns (Cj.ret (Ej.bare ?_))
 refine q6 ?_
 exact ⟨rfl, rfl⟩
theorem nText_ok (n : Int) (I : Heap) : Pure Tryz.prog 34 [i64 n] I (str (Ix.textN n)) := by
 refine Ctr.toPure ?_
 refine Ctr.ob func34 ?_
 intro w0 hw0
 refine Cj.sr (J.z q1 ?_)
 refine J.nssr (J.op rfl (op_buildSlice rfl rfl rfl tU28 tS9 tZ9 rfl rfl rfl rfl (LCat.one rfl (LCat.one rfl (LCat.one rfl (LCat.one rfl (LCat.one rfl (LCat.one rfl (LCat.one rfl (LCat.one rfl (LCat.one rfl (LCat.one rfl (LCat.one rfl (LCat.one rfl (LCat.one rfl (LCat.one rfl (LCat.one rfl (LCat.one rfl (LCat.one rfl (LCat.one rfl (LCat.one rfl (LCat.one rfl LCat.none)))))))))))))))))))) ?_))
 intro b1 hb1
 refine J.z q1 ?_
 refine J.nssr (J.z q0 ?_)
 refine J.z q0 ?_
 refine J.z q0 ?_
 refine J.z (q15 tU28) ?_
 refine J.op rfl (op_pure rfl rfl rfl rfl rfl (nMod_ok n 20 (by decide) (by decide) _) ?_)
 refine J.z (yl_indexAddr (off' := (n % 20).toNat) rfl rfl rfl tU28 tS9 (by omega) (by omega) (by omega)) ?_
 refine J.z (yl_load rfl rfl tA9 (Blk.at 0 rfl) (get_str (l := Ix.textsL) (by omega) (by simp [Ix.textsL]; omega))) ?_
 refine J.z q1 ?_
 refine J.ns (Cj.ret (Ej.bare ?_))
 refine q6 ?_
 exact ⟨rfl, rfl⟩
theorem made_take {α : Type} {l : List α} {k : Nat} (hk : k ≤ l.length) (h : k ≤ 20 ∧ (l.length ≤ k ∨ 20 ≤ k)) : l.take k = l.take 20 := by
  rcases h.2 with g | g
  · rw [List.take_of_length_le g, List.take_of_length_le (by omega)]
  rw [show k = 20 by omega]
theorem nMadeN_ok (l : List Ix.Four) (v : Value) (hok : ∀ q ∈ l, FourOk q) (I : Heap) (hv0 : RowS fourC I l v) : Ctr Tryz.prog 71 [v] I [] (fun e I' H' => ∃ fs w, e = .returned (recV 97 109 w) ∧ RecN (I · = none) I' fs w ∧ Ke.nrm fs = Ix.madeR l ∧ H' = []) := by
 obtain ⟨p, c, rfl, hc, -⟩ := id hv0
 refine Ctr.ob func71 ?_
 intro w0 hw0
 refine Cj.sr (J.op rfl (q46 zeroValue35 ?_))
 intro b1 hb1
 refine J.nssr (J.z (yl_buildS (pl := #[(0, 1), (1, 1), (2, 1)]) rfl rfl zeroValue35 rfl tU35 (fun w => by simp []) (LBld.part rfl rfl rfl (LSpl.c LSpl.z) (LBld.part rfl rfl rfl (LSpl.s (LSpl.c LSpl.z)) LBld.none))) ?_)
 refine J.op rfl (q46 zeroValue35 ?_)
 intro b2 hb2
 refine J.op rfl (q21 0 tS35 (LSpl.c (LSpl.c (LSpl.c LSpl.z))) LSet.z ?_)
 refine J.nsss (Cj.region (J.z q1 ?_))
 refine J.ns (Cj.block (Cj.loop (ι := Nat × Heap × List Ke.Fld × Gs) (fun y => y.1 ≤ l.length ∧ y.1 ≤ 20 ∧ Le I y.2.1 ∧ SubsN (w0.heap.size ≤ ·) y.2.1 y.2.2.1 ∧ Ke.nrm y.2.2.1 = (l.take y.1).map Ix.fldN ∧ y.2.2.1.length = y.1 ∧ gOk w0.heap.size 4 y.2.2.1.length (y.2.2.1.flatMap fldC) y.2.2.2) (fun y => 20 - y.1) (fun y => [(0, .slice p l.length c), (2, ptr b1 0), (3, ptr b2 0), (4, i64 (y.1 : Int))]) (fun y => y.2.1) (fun y => (b2, cel 35 [u8 97, u8 109, gV y.2.2.1.length y.2.2.2]) :: (b1, cel 35 [u8 0, u8 0, .slice none 0 0]) :: gH 31 (y.2.2.1.flatMap fldC) y.2.2.2) (0, _, [], none) ⟨Nat.zero_le _, Nat.zero_le _, Le.refl _, SubsN.nil, rfl, rfl, rfl, rfl⟩ ⟨rfl, rfl, rfl, rfl, trivial⟩ rfl rfl ?_))
 rintro ⟨k, Jh, fs, g⟩ ⟨hk, hk20, hIJ, hS, hN, hfl, hg⟩
 dsimp only at hk hk20 hIJ hS hN hfl hg ⊢
 have hv := hv0.mono hIJ
 refine Cj.seq (Cj.sr (J.z q0 ?_))
 refine J.z q0 ?_
 refine J.z (q15 tU78) ?_
 refine J.z q17 ?_
 refine J.z q0 ?_
 refine q16 14 (fun hg3 => ?_) (fun hg3 => ?_)
 ·
  have hg3p := odt hg3
  refine q5 4 14 true hg3 (q2 q0 ?_)
  refine q5 4 14 true hg3 (q2 q17 ?_)
  refine J.z (q11 hg3) ?_
  refine J.cd (fun hc4 => ?_) (fun hc4 => ?_)
  ·
   have hc4p := odt hc4
   refine Cj.ks (Cj.seq (Cj.block (Cj.seq ?_)))
   have hlt : k < l.length := by omega
   have hlt2 : k < 20 := by omega
   obtain ⟨q, hget⟩ : ∃ x, l[k]? = some x := ⟨_, lgg hlt⟩
   have hq := hok q (lmg hget)
   obtain ⟨p1, c1, hpe, hc1, hp⟩ := id hv
   cases hpe
   obtain ⟨lb, lo, lcs, lty, lfr, sp, rfl, hlb, hld⟩ := hp (ne_nil_of hlt)
   have htl := tagN_len q.x0
   refine Cj.region (J.z q0 ?_)
   refine J.z q0 ?_
   refine J.z (q19 (off' := lo + k * 4) tU78 sizeOf143) ?_
   refine J.z (q43 isAgg143 sizeOf143 (Blk.imm hlb) (row_from fourC_len hld hget)) ?_
   refine J.op rfl (q46 zeroValue143 ?_)
   intro b5 hb5
   refine J.op rfl (q21 0 sizeOf143 (LSpl.c (LSpl.c (LSpl.c (LSpl.c LSpl.z)))) LSet.z ?_)
   refine J.nssr (J.z (q35 (off' := 0) tU143 tS3) ?_)
   refine J.z (q18 tA3) ?_
   refine J.op rfl (op_pure rfl rfl rfl rfl rfl (nTag_ok q.x0 _) ?_)
   refine J.z (yl_buildS (pl := #[(0, 1), (1, 1), (2, 1), (3, 1)]) rfl rfl tZ31 rfl tU31 (fun w => by simp []) (LBld.part rfl rfl rfl (LSpl.c LSpl.z) LBld.none)) ?_
   refine J.op rfl (q46 tZ31 ?_)
   intro b6 hb6
   refine J.op rfl (q21 0 tS31 (LSpl.c (LSpl.c (LSpl.c (LSpl.c LSpl.z)))) LSet.z ?_)
   refine J.nsss (Cj.region (J.z (q4 (off' := 0) tU31 tS9) ?_))
   refine J.z (q18 tA9) ?_
   refine J.z (q26 tU9) ?_
   refine J.z (yl_gtr rfl rfl rfl) ?_
   refine J.z q0 ?_
   refine q16 32 (fun hg7 => ?_) (fun hg7 => ?_)
   ·
    have hg7p := odt hg7
    refine q5 4 32 true hg7 (q2 (q4 (off' := 0) tU31 tS9) ?_)
    refine q5 4 32 true hg7 (q2 (q18 tA9) ?_)
    refine J.opG 4 32 true _ rfl rfl rfl hg7 (op_yld (q54 (p := 0) (q := 2) tU9) rfl rfl ?_)
    refine q5 4 32 true hg7 (q2 q31 ?_)
    refine J.z (q11 hg7) ?_
    refine J.cd (fun hc8 => ?_) (fun hc8 => ?_)
    ·
     have hc8p := ebq hc8
     have hC : Ix.isC (Ix.tagN q.x0) := ⟨by omega, by have h := ebq hc8; rw [List.drop_zero] at h; exact h⟩
     refine Cj.sr (J.z (q35 (off' := 3) tU143 tS3) ?_)
     refine J.z (q9 tA3 (Blk.at 1 rfl)) ?_
     refine J.op rfl (op_pure rfl rfl rfl rfl rfl (nText_ok q.x3 _) ?_)
     refine J.z (q4 (off' := 2) tU31 tS9) ?_
     refine J.op rfl (q21 0 tS9 (LSpl.s (LSpl.s (LSpl.c LSpl.z))) LSet.z ?_)
     refine J.nssr (J.z (q4 (off' := 2) tU35 tS33) ?_)
     refine J.z (q9 isAgg33 (Blk.at 2 rfl)) ?_
     refine J.z (q33 tA31 tS31) ?_
     refine J.op rfl (q41 tU33 tS31 tZ31 ?_)
     intro b9 hb9
     refine J.op rfl (op_append (by' := 71) [_, _, _, _, _] rfl rfl rfl rfl rfl tU33 (.inr ⟨_, tU33⟩) (by kernel_rfl) tS31 tZ31 rfl hg rfl (Src.slice (Blk.at 0 rfl) rfl rfl rfl) (by omega) ?_)
     intro g10 hg10
     refine J.z (q4 (off' := 2) tU35 tS33) ?_
     refine J.op rfl (op_store 3 rfl rfl rfl rfl (gV_cells _ _) (gV_one _ _) tS33 rfl rfl (LSpl.s (LSpl.s (LSpl.c LSpl.z))) (LSet.s (LSet.s (LSet.s LSet.z))) ?_)
     refine J.ns (Cj.exit (Ej.seqExit (Ej.blkExit (Ej.seq (Cj.region (J.z q0 ?_))))))
     refine J.z q7 ?_
     refine J.z q1 ?_
     refine J.nil (Ej.keep (Keeps.d (Keeps.d (Keeps.d (Keeps.k (Keeps.k Keeps.r))))) ?_)
     refine Ej.round (k + 1, _, fs ++ [⟨Ix.tagN q.x0, [], Ix.textN q.x3, .slice none 0 0, []⟩], g10) ⟨by dsimp only; omega, by dsimp only; omega, hIJ, SubsN.add hS RowN.nil, by dsimp only; rw [nrm_add, map_next _ hget, hN, fld_c hC]; rfl, by dsimp only; rw [List.length_append, hfl]; rfl, by dsimp only; rw [flat_one, List.length_append]; exact hg10⟩ (by dsimp only; omega) ⟨rfl, rfl, rfl, rfl, trivial⟩ rfl (by dsimp only; rw [flat_one, List.length_append]; rfl)
    have hc8p := nbf hc8
    have hC : ¬ Ix.isC (Ix.tagN q.x0) := fun g => nbf hc8 (by rw [List.drop_zero]; exact g.2)
    refine Cj.ks (Cj.sr (J.op rfl (op_buildSlice rfl rfl rfl tU28 tS9 tZ9 rfl rfl rfl rfl (LCat.one rfl (LCat.one rfl (LCat.one rfl (LCat.one rfl (LCat.one rfl (LCat.one rfl (LCat.one rfl (LCat.one rfl LCat.none)))))))) ?_)))
    intro b11 hb11
    refine J.z (q35 (off' := 1) tU143 tS3) ?_
    refine J.z (q9 tA3 (Blk.at 2 rfl)) ?_
    refine J.op rfl (op_pure rfl rfl rfl rfl rfl (nMod_ok q.x1 8 (by decide) (by decide) _) ?_)
    refine J.z (yl_indexAddr (off' := (q.x1 % 8).toNat) rfl rfl rfl tU28 tS9 (by omega) (by omega) (by omega)) ?_
    refine J.z (yl_load rfl rfl tA9 (Blk.at 0 rfl) (get_str (l := Ix.indsL) (by omega) (by simp [Ix.indsL]; omega))) ?_
    refine J.z (q4 (off' := 1) tU31 tS9) ?_
    refine J.op rfl (q21 1 tS9 (LSpl.s (LSpl.c LSpl.z)) (LSet.s LSet.z) ?_)
    refine J.nss ?_
    obtain ⟨nn, hnn⟩ : ∃ nn : Nat, nn = 1 + (q.x2 % 3).toNat := ⟨_, rfl⟩
    have hn3 : nn ≤ 3 := by omega
    refine Cj.region (J.z (q35 (off' := 2) tU143 tS3) ?_)
    refine J.z (q9 tA3 (Blk.at 2 rfl)) ?_
    refine J.op rfl (op_pure rfl rfl rfl rfl rfl (nMod_ok q.x2 3 (by decide) (by decide) _) ?_)
    refine J.z q7 ?_
    refine J.eqv 58 rfl (show _ = i64 (nn : Int) from (congrArg i64 (by omega))) ?_
    refine J.z q1 ?_
    refine J.nsss (Cj.keep (Keeps.d Keeps.r) ?_)
    refine Cj.region (J.z q1 ?_)
    refine J.ns (Cj.block (Cj.keep (Keeps.k (Keeps.k (Keeps.k (Keeps.k Keeps.r)))) ?_))
    refine Cj.loop (ι := Nat × Gs) (fun y => y.1 ≤ nn ∧ gOk w0.heap.size 2 (subsN q y.1).length ((subsN q y.1).flatMap subC) y.2) (fun y => nn - y.1) (fun y => [(0, .slice (some ⟨lb, lo, none⟩) l.length c), (2, ptr b1 0), (3, ptr b2 0), (4, i64 (k : Int)), (5, ptr b5 0), (6, ptr b6 0), (7, i64 (nn : Int)), (8, i64 (y.1 : Int))]) (fun y => _) (fun y => (b6, cel 31 [str (Ix.tagN q.x0), str (Ix.indsL.getD (q.x1 % 8).toNat []), str [], gV (subsN q y.1).length y.2]) :: (b5, cel 143 (fourC q)) :: (b2, cel 35 [u8 97, u8 109, gV fs.length g]) :: (b1, cel 35 [u8 0, u8 0, .slice none 0 0]) :: (gH 65 ((subsN q y.1).flatMap subC) y.2 ++ gH 31 (fs.flatMap fldC) g)) (0, none) ⟨Nat.zero_le _, rfl, rfl⟩ ⟨rfl, rfl, rfl, rfl, rfl, rfl, rfl, rfl, trivial⟩ rfl rfl ?_
    rintro ⟨j, g2⟩ ⟨hj, hgs⟩
    dsimp only at hj hgs ⊢
    have hsl := subsN_len q j
    refine Cj.seq (Cj.sr (J.z q0 ?_))
    refine J.z q0 ?_
    refine J.z q17 ?_
    refine J.cd (fun hc12 => ?_) (fun hc12 => ?_)
    ·
     have hc12p := odt hc12
     refine Cj.ks (Cj.seq (Cj.block (Cj.drawSel [0, 1, 2, 3] [] 24 (by kernel_rfl) ?_)))
     have hlb_15 := hlb
     refine JA.fix ⟨(HSub.c 0 rfl (HSub.c 1 rfl (HSub.c 2 rfl (HSub.c 3 rfl HSub.n)))), CSub.n, (Le.refl _)⟩ (fun fx13 => ?_)
     refine JA.tk 0 rfl fx13 (q4 (off' := 3) tU31 tS29) ?_
     refine JA.tk 1 rfl fx13 (q9 tA29 (Blk.atC 0 rfl)) ?_
     refine JA.tk 2 rfl fx13 (q35 (off' := 2) tU143 tS3) ?_
     refine JA.tk 3 rfl fx13 (q9 tA3 (Blk.atC 1 rfl)) ?_
     refine JA.tk 4 rfl fx13 (yl_quo rfl rfl rfl (by decide) (w64 (by have h := td_rng hq.h2 3 (by decide); omega))) ?_
     refine JA.tk 5 rfl fx13 q0 ?_
     refine JA.tk 6 rfl fx13 (q35 (off' := 1) tU143 tS3) ?_
     refine JA.tk 7 rfl fx13 (q9 tA3 (Blk.atC 1 rfl)) ?_
     refine JA.tk 14 rfl fx13 (q35 (off' := 3) tU143 tS3) ?_
     refine JA.tk 15 rfl fx13 (q9 tA3 (Blk.atC 1 rfl)) ?_
     refine JA.tk 16 rfl fx13 q0 ?_
     refine JA.tk 17 rfl fx13 (yl_mul rfl rfl rfl (w64 (by omega))) ?_
     refine JA.tk 18 rfl fx13 (yl_addW rfl rfl rfl) ?_
     refine q13 8 rfl (op_pure rfl rfl rfl rfl rfl (nMod_ok q.x1 3 (by decide) (by decide) _) ?_)
     refine ⟨⟨(Le.refl _), (HSub.c 0 rfl (HSub.c 1 rfl (HSub.c 2 rfl (HSub.c 3 rfl HSub.n)))), CSub.n⟩, ?_⟩
     refine JA.fix ⟨(HSub.c 0 rfl (HSub.c 1 rfl (HSub.c 2 rfl (HSub.c 3 rfl HSub.n)))), CSub.n, (Le.refl _)⟩ (fun fx14 => ?_)
     refine JA.tk 9 rfl fx14 q7 ?_
     refine JA.tk 10 rfl fx14 (yl_mul rfl rfl rfl (w64 (by have h := mul_small (j := j) (m := q.x1 % 3) (by omega) (by omega) (by omega); omega))) ?_
     refine JA.tk 11 rfl fx14 (yl_add rfl rfl rfl (w64 (by have h := td_rng hq.h2 3 (by decide); have h2 := mul_small (j := j) (m := q.x1 % 3) (by omega) (by omega) (by omega); omega))) ?_
     refine q13 12 rfl (op_pure rfl rfl rfl rfl rfl (nMod_ok (q.x2.tdiv 3 + (j : Int) * (1 + q.x1 % 3)) 8 (by decide) (by decide) _) ?_)
     refine ⟨⟨(Le.refl _), (HSub.c 0 rfl (HSub.c 1 rfl (HSub.c 2 rfl (HSub.c 3 rfl HSub.n)))), CSub.n⟩, ?_⟩
     refine JA.fix ⟨(HSub.c 0 rfl (HSub.c 1 rfl (HSub.c 2 rfl (HSub.c 3 rfl HSub.n)))), CSub.n, (Le.refl _)⟩ (fun fx15 => ?_)
     refine JA.tk 13 rfl fx15 (yl_index rfl rfl rfl tU9 (by omega) (get_code (l := Ix.codesL) (by omega) (by simp [Ix.codesL]; omega))) ?_
     refine q13 19 rfl (op_pure rfl rfl rfl rfl rfl (nText_ok _ _) ?_)
     refine ⟨⟨(Le.refl _), (HSub.c 0 rfl (HSub.c 1 rfl (HSub.c 2 rfl (HSub.c 3 rfl HSub.n)))), CSub.n⟩, ?_⟩
     refine JA.fix ⟨(HSub.c 0 rfl (HSub.c 1 rfl (HSub.c 2 rfl (HSub.c 3 rfl HSub.n)))), CSub.n, (Le.refl _)⟩ (fun fx16 => ?_)
     refine JA.tk 20 rfl fx16 (yl_buildS (pl := #[(0, 1), (1, 1)]) rfl rfl tZ65 rfl tU65 (fun w => by simp []) (LBld.part rfl rfl rfl (LSpl.c LSpl.z) (LBld.part rfl rfl rfl (LSpl.s (LSpl.c LSpl.z)) LBld.none))) ?_
     refine q13 21 rfl (q41 tU29 tS65 tZ65 ?_)
     intro b17 hb17
     refine ⟨⟨(Le.refl _), (HSub.c 1 rfl (HSub.c 2 rfl (HSub.c 3 rfl (HSub.c 4 rfl HSub.n)))), CSub.n⟩, ?_⟩
     refine JA.perm (H' := [_, _, _, _, _] ++ (gH _ _ _ ++ gH _ _ _)) (perm_swap [_, _, _, _, _] _ _) ?_
     refine q13 22 rfl (op_append (by' := 23) ([_, _, _, _, _] ++ gH _ _ _) rfl rfl rfl rfl rfl tU29 (.inr ⟨_, tU29⟩) (by kernel_rfl) tS65 tZ65 rfl hgs rfl (Src.slice (Blk.at 0 rfl) rfl rfl rfl) (by omega) ?_)
     intro g18 hg18
     refine ⟨⟨(Le.refl _), (HSub.c 1 rfl (HSub.c 2 rfl (HSub.c 3 rfl (HSub.c 4 rfl HSub.n)))), CSub.n⟩, ?_⟩
     refine JA.fix ⟨(HSub.c 1 rfl (HSub.c 2 rfl (HSub.c 3 rfl (HSub.c 4 rfl HSub.n)))), CSub.n, (Le.refl _)⟩ (fun fx19 => ?_)
     refine JA.tk 23 rfl fx19 (q4 (off' := 3) tU31 tS29) ?_
     refine JA.last 24 (by kernel_rfl) rfl rfl rfl (op_store 1 rfl rfl rfl rfl (gV_cells _ _) (gV_one _ _) tS29 rfl rfl (LSpl.s (LSpl.s (LSpl.s (LSpl.c LSpl.z)))) (LSet.s LSet.z) ?_)
     refine q14 ?_
     refine Ej.blkNormal (Ej.seq (Cj.region (J.z q0 ?_)))
     refine J.z q7 ?_
     refine J.z q1 ?_
     refine J.nil (Ej.perm (perm_swap [_, _, _, _, _] (gH _ _ _) (gH _ _ _)) ?_)
     refine Ej.keep (Keeps.d (Keeps.k (Keeps.k (Keeps.k (Keeps.k Keeps.r))))) ?_
     refine Ej.round (j + 1, g18) ⟨by dsimp only; omega, by dsimp only; rw [subsN_next, List.length_append, List.flatMap_append]; exact hg18⟩ (by dsimp only; omega) ⟨rfl, rfl, rfl, rfl, rfl, rfl, rfl, rfl, trivial⟩ rfl (by dsimp only; rw [subsN_next, List.length_append, List.flatMap_append]; rfl)
    have hc12p := odf hc12
    refine Cj.xl ?_
    have hjn : j = nn := by omega
    subst hjn
    refine Cj.perm (perm_front [_, _, _, _] (gH _ _ _) (gH _ _ _)) ?_
    refine Cj.keepN subC_len (by decide) hgs rfl (fun I8 hle8 hss => ?_)
    have hIJ := hIJ.mono hle8
    have hS := hS.mono hle8
    refine Cj.region (J.z (q4 (off' := 2) tU35 tS33) ?_)
    refine J.z (q9 isAgg33 (Blk.at 2 rfl)) ?_
    refine J.z (q33 tA31 tS31) ?_
    refine J.op rfl (q41 tU33 tS31 tZ31 ?_)
    intro b20 hb20
    refine J.op rfl (op_append (by' := 71) [_, _, _, _, _] rfl rfl rfl rfl rfl tU33 (.inr ⟨_, tU33⟩) (by kernel_rfl) tS31 tZ31 rfl hg rfl (Src.slice (Blk.at 0 rfl) rfl rfl (by show [str (Ix.tagN q.x0), str (Ix.indsL.getD (q.x1 % 8).toNat []), str [], gV _ _].all Value.oneCell' = true; simp only [List.all_cons, List.all_nil, gV_one', Bool.and_true]; rfl)) (by omega) ?_)
    intro g21 hg21
    refine J.z (q4 (off' := 2) tU35 tS33) ?_
    refine J.op rfl (op_store 3 rfl rfl rfl rfl (gV_cells _ _) (gV_one _ _) tS33 rfl rfl (LSpl.s (LSpl.s (LSpl.c LSpl.z))) (LSet.s (LSet.s (LSet.s LSet.z))) ?_)
    refine J.nb (Cj.region (J.z q0 ?_))
    refine J.z q7 ?_
    refine J.z q1 ?_
    refine J.nil (Ej.keep (Keeps.d (Keeps.d (Keeps.d (Keeps.k (Keeps.k Keeps.r))))) ?_)
    refine Ej.round (k + 1, _, fs ++ [⟨Ix.tagN q.x0, Ix.indsL.getD (q.x1 % 8).toNat [], [], gV (subsN q j).length g2, subsN q j⟩], g21) ⟨by dsimp only; omega, by dsimp only; omega, hIJ, SubsN.add hS hss, by dsimp only; rw [nrm_add, map_next _ hget, hN, fld_d hC, ← hnn]; rfl, by dsimp only; rw [List.length_append, hfl]; rfl, by dsimp only; rw [flat_one, List.length_append]; exact hg21⟩ (by dsimp only; omega) ⟨rfl, rfl, rfl, rfl, trivial⟩ rfl (by dsimp only; rw [flat_one, List.length_append]; rfl)
   have hg7p := odf hg7
   have hC : ¬ Ix.isC (Ix.tagN q.x0) := fun g => by have h := odf hg7; have := g.1; omega
   refine q3 4 32 33 true hg7 ?_
   refine q3 4 32 34 true hg7 ?_
   refine q3 4 32 35 true hg7 ?_
   refine q3 4 32 36 true hg7 ?_
   refine J.z (q10 hg7) ?_
   refine J.c0 (fun hc22 => ?_)
   refine Cj.ks (Cj.sr (J.op rfl (op_buildSlice rfl rfl rfl tU28 tS9 tZ9 rfl rfl rfl rfl (LCat.one rfl (LCat.one rfl (LCat.one rfl (LCat.one rfl (LCat.one rfl (LCat.one rfl (LCat.one rfl (LCat.one rfl LCat.none)))))))) ?_)))
   intro b23 hb23
   refine J.z (q35 (off' := 1) tU143 tS3) ?_
   refine J.z (q9 tA3 (Blk.at 2 rfl)) ?_
   refine J.op rfl (op_pure rfl rfl rfl rfl rfl (nMod_ok q.x1 8 (by decide) (by decide) _) ?_)
   refine J.z (yl_indexAddr (off' := (q.x1 % 8).toNat) rfl rfl rfl tU28 tS9 (by omega) (by omega) (by omega)) ?_
   refine J.z (yl_load rfl rfl tA9 (Blk.at 0 rfl) (get_str (l := Ix.indsL) (by omega) (by simp [Ix.indsL]; omega))) ?_
   refine J.z (q4 (off' := 1) tU31 tS9) ?_
   refine J.op rfl (q21 1 tS9 (LSpl.s (LSpl.c LSpl.z)) (LSet.s LSet.z) ?_)
   refine J.nss ?_
   obtain ⟨nn, hnn⟩ : ∃ nn : Nat, nn = 1 + (q.x2 % 3).toNat := ⟨_, rfl⟩
   have hn3 : nn ≤ 3 := by omega
   refine Cj.region (J.z (q35 (off' := 2) tU143 tS3) ?_)
   refine J.z (q9 tA3 (Blk.at 2 rfl)) ?_
   refine J.op rfl (op_pure rfl rfl rfl rfl rfl (nMod_ok q.x2 3 (by decide) (by decide) _) ?_)
   refine J.z q7 ?_
   refine J.eqv 58 rfl (show _ = i64 (nn : Int) from (congrArg i64 (by omega))) ?_
   refine J.z q1 ?_
   refine J.nsss (Cj.keep (Keeps.d Keeps.r) ?_)
   refine Cj.region (J.z q1 ?_)
   refine J.ns (Cj.block (Cj.keep (Keeps.k (Keeps.k (Keeps.k (Keeps.k Keeps.r)))) ?_))
   refine Cj.loop (ι := Nat × Gs) (fun y => y.1 ≤ nn ∧ gOk w0.heap.size 2 (subsN q y.1).length ((subsN q y.1).flatMap subC) y.2) (fun y => nn - y.1) (fun y => [(0, .slice (some ⟨lb, lo, none⟩) l.length c), (2, ptr b1 0), (3, ptr b2 0), (4, i64 (k : Int)), (5, ptr b5 0), (6, ptr b6 0), (7, i64 (nn : Int)), (8, i64 (y.1 : Int))]) (fun y => _) (fun y => (b6, cel 31 [str (Ix.tagN q.x0), str (Ix.indsL.getD (q.x1 % 8).toNat []), str [], gV (subsN q y.1).length y.2]) :: (b5, cel 143 (fourC q)) :: (b2, cel 35 [u8 97, u8 109, gV fs.length g]) :: (b1, cel 35 [u8 0, u8 0, .slice none 0 0]) :: (gH 65 ((subsN q y.1).flatMap subC) y.2 ++ gH 31 (fs.flatMap fldC) g)) (0, none) ⟨Nat.zero_le _, rfl, rfl⟩ ⟨rfl, rfl, rfl, rfl, rfl, rfl, rfl, rfl, trivial⟩ rfl rfl ?_
   rintro ⟨j, g2⟩ ⟨hj, hgs⟩
   dsimp only at hj hgs ⊢
   have hsl := subsN_len q j
   refine Cj.seq (Cj.sr (J.z q0 ?_))
   refine J.z q0 ?_
   refine J.z q17 ?_
   refine J.cd (fun hc24 => ?_) (fun hc24 => ?_)
   ·
    have hc24p := odt hc24
    refine Cj.ks (Cj.seq (Cj.block (Cj.drawSel [0, 1, 2, 3] [] 24 (by kernel_rfl) ?_)))
    have hlb_15 := hlb
    refine JA.fix ⟨(HSub.c 0 rfl (HSub.c 1 rfl (HSub.c 2 rfl (HSub.c 3 rfl HSub.n)))), CSub.n, (Le.refl _)⟩ (fun fx25 => ?_)
    refine JA.tk 0 rfl fx25 (q4 (off' := 3) tU31 tS29) ?_
    refine JA.tk 1 rfl fx25 (q9 tA29 (Blk.atC 0 rfl)) ?_
    refine JA.tk 2 rfl fx25 (q35 (off' := 2) tU143 tS3) ?_
    refine JA.tk 3 rfl fx25 (q9 tA3 (Blk.atC 1 rfl)) ?_
    refine JA.tk 4 rfl fx25 (yl_quo rfl rfl rfl (by decide) (w64 (by have h := td_rng hq.h2 3 (by decide); omega))) ?_
    refine JA.tk 5 rfl fx25 q0 ?_
    refine JA.tk 6 rfl fx25 (q35 (off' := 1) tU143 tS3) ?_
    refine JA.tk 7 rfl fx25 (q9 tA3 (Blk.atC 1 rfl)) ?_
    refine JA.tk 14 rfl fx25 (q35 (off' := 3) tU143 tS3) ?_
    refine JA.tk 15 rfl fx25 (q9 tA3 (Blk.atC 1 rfl)) ?_
    refine JA.tk 16 rfl fx25 q0 ?_
    refine JA.tk 17 rfl fx25 (yl_mul rfl rfl rfl (w64 (by omega))) ?_
    refine JA.tk 18 rfl fx25 (yl_addW rfl rfl rfl) ?_
    refine q13 8 rfl (op_pure rfl rfl rfl rfl rfl (nMod_ok q.x1 3 (by decide) (by decide) _) ?_)
    refine ⟨⟨(Le.refl _), (HSub.c 0 rfl (HSub.c 1 rfl (HSub.c 2 rfl (HSub.c 3 rfl HSub.n)))), CSub.n⟩, ?_⟩
    refine JA.fix ⟨(HSub.c 0 rfl (HSub.c 1 rfl (HSub.c 2 rfl (HSub.c 3 rfl HSub.n)))), CSub.n, (Le.refl _)⟩ (fun fx26 => ?_)
    refine JA.tk 9 rfl fx26 q7 ?_
    refine JA.tk 10 rfl fx26 (yl_mul rfl rfl rfl (w64 (by have h := mul_small (j := j) (m := q.x1 % 3) (by omega) (by omega) (by omega); omega))) ?_
    refine JA.tk 11 rfl fx26 (yl_add rfl rfl rfl (w64 (by have h := td_rng hq.h2 3 (by decide); have h2 := mul_small (j := j) (m := q.x1 % 3) (by omega) (by omega) (by omega); omega))) ?_
    refine q13 12 rfl (op_pure rfl rfl rfl rfl rfl (nMod_ok (q.x2.tdiv 3 + (j : Int) * (1 + q.x1 % 3)) 8 (by decide) (by decide) _) ?_)
    refine ⟨⟨(Le.refl _), (HSub.c 0 rfl (HSub.c 1 rfl (HSub.c 2 rfl (HSub.c 3 rfl HSub.n)))), CSub.n⟩, ?_⟩
    refine JA.fix ⟨(HSub.c 0 rfl (HSub.c 1 rfl (HSub.c 2 rfl (HSub.c 3 rfl HSub.n)))), CSub.n, (Le.refl _)⟩ (fun fx27 => ?_)
    refine JA.tk 13 rfl fx27 (yl_index rfl rfl rfl tU9 (by omega) (get_code (l := Ix.codesL) (by omega) (by simp [Ix.codesL]; omega))) ?_
    refine q13 19 rfl (op_pure rfl rfl rfl rfl rfl (nText_ok _ _) ?_)
    refine ⟨⟨(Le.refl _), (HSub.c 0 rfl (HSub.c 1 rfl (HSub.c 2 rfl (HSub.c 3 rfl HSub.n)))), CSub.n⟩, ?_⟩
    refine JA.fix ⟨(HSub.c 0 rfl (HSub.c 1 rfl (HSub.c 2 rfl (HSub.c 3 rfl HSub.n)))), CSub.n, (Le.refl _)⟩ (fun fx28 => ?_)
    refine JA.tk 20 rfl fx28 (yl_buildS (pl := #[(0, 1), (1, 1)]) rfl rfl tZ65 rfl tU65 (fun w => by simp []) (LBld.part rfl rfl rfl (LSpl.c LSpl.z) (LBld.part rfl rfl rfl (LSpl.s (LSpl.c LSpl.z)) LBld.none))) ?_
    refine q13 21 rfl (q41 tU29 tS65 tZ65 ?_)
    intro b29 hb29
    refine ⟨⟨(Le.refl _), (HSub.c 1 rfl (HSub.c 2 rfl (HSub.c 3 rfl (HSub.c 4 rfl HSub.n)))), CSub.n⟩, ?_⟩
    refine JA.perm (H' := [_, _, _, _, _] ++ (gH _ _ _ ++ gH _ _ _)) (perm_swap [_, _, _, _, _] _ _) ?_
    refine q13 22 rfl (op_append (by' := 23) ([_, _, _, _, _] ++ gH _ _ _) rfl rfl rfl rfl rfl tU29 (.inr ⟨_, tU29⟩) (by kernel_rfl) tS65 tZ65 rfl hgs rfl (Src.slice (Blk.at 0 rfl) rfl rfl rfl) (by omega) ?_)
    intro g30 hg30
    refine ⟨⟨(Le.refl _), (HSub.c 1 rfl (HSub.c 2 rfl (HSub.c 3 rfl (HSub.c 4 rfl HSub.n)))), CSub.n⟩, ?_⟩
    refine JA.fix ⟨(HSub.c 1 rfl (HSub.c 2 rfl (HSub.c 3 rfl (HSub.c 4 rfl HSub.n)))), CSub.n, (Le.refl _)⟩ (fun fx31 => ?_)
    refine JA.tk 23 rfl fx31 (q4 (off' := 3) tU31 tS29) ?_
    refine JA.last 24 (by kernel_rfl) rfl rfl rfl (op_store 1 rfl rfl rfl rfl (gV_cells _ _) (gV_one _ _) tS29 rfl rfl (LSpl.s (LSpl.s (LSpl.s (LSpl.c LSpl.z)))) (LSet.s LSet.z) ?_)
    refine q14 ?_
    refine Ej.blkNormal (Ej.seq (Cj.region (J.z q0 ?_)))
    refine J.z q7 ?_
    refine J.z q1 ?_
    refine J.nil (Ej.perm (perm_swap [_, _, _, _, _] (gH _ _ _) (gH _ _ _)) ?_)
    refine Ej.keep (Keeps.d (Keeps.k (Keeps.k (Keeps.k (Keeps.k Keeps.r))))) ?_
    refine Ej.round (j + 1, g30) ⟨by dsimp only; omega, by dsimp only; rw [subsN_next, List.length_append, List.flatMap_append]; exact hg30⟩ (by dsimp only; omega) ⟨rfl, rfl, rfl, rfl, rfl, rfl, rfl, rfl, trivial⟩ rfl (by dsimp only; rw [subsN_next, List.length_append, List.flatMap_append]; rfl)
   have hc24p := odf hc24
   refine Cj.xl ?_
   have hjn : j = nn := by omega
   subst hjn
   refine Cj.perm (perm_front [_, _, _, _] (gH _ _ _) (gH _ _ _)) ?_
   refine Cj.keepN subC_len (by decide) hgs rfl (fun I8 hle8 hss => ?_)
   have hIJ := hIJ.mono hle8
   have hS := hS.mono hle8
   refine Cj.region (J.z (q4 (off' := 2) tU35 tS33) ?_)
   refine J.z (q9 isAgg33 (Blk.at 2 rfl)) ?_
   refine J.z (q33 tA31 tS31) ?_
   refine J.op rfl (q41 tU33 tS31 tZ31 ?_)
   intro b32 hb32
   refine J.op rfl (op_append (by' := 71) [_, _, _, _, _] rfl rfl rfl rfl rfl tU33 (.inr ⟨_, tU33⟩) (by kernel_rfl) tS31 tZ31 rfl hg rfl (Src.slice (Blk.at 0 rfl) rfl rfl (by show [str (Ix.tagN q.x0), str (Ix.indsL.getD (q.x1 % 8).toNat []), str [], gV _ _].all Value.oneCell' = true; simp only [List.all_cons, List.all_nil, gV_one', Bool.and_true]; rfl)) (by omega) ?_)
   intro g33 hg33
   refine J.z (q4 (off' := 2) tU35 tS33) ?_
   refine J.op rfl (op_store 3 rfl rfl rfl rfl (gV_cells _ _) (gV_one _ _) tS33 rfl rfl (LSpl.s (LSpl.s (LSpl.c LSpl.z))) (LSet.s (LSet.s (LSet.s LSet.z))) ?_)
   refine J.nb (Cj.region (J.z q0 ?_))
   refine J.z q7 ?_
   refine J.z q1 ?_
   refine J.nil (Ej.keep (Keeps.d (Keeps.d (Keeps.d (Keeps.k (Keeps.k Keeps.r))))) ?_)
   refine Ej.round (k + 1, _, fs ++ [⟨Ix.tagN q.x0, Ix.indsL.getD (q.x1 % 8).toNat [], [], gV (subsN q j).length g2, subsN q j⟩], g33) ⟨by dsimp only; omega, by dsimp only; omega, hIJ, SubsN.add hS hss, by dsimp only; rw [nrm_add, map_next _ hget, hN, fld_d hC, ← hnn]; rfl, by dsimp only; rw [List.length_append, hfl]; rfl, by dsimp only; rw [flat_one, List.length_append]; exact hg33⟩ (by dsimp only; omega) ⟨rfl, rfl, rfl, rfl, trivial⟩ rfl (by dsimp only; rw [flat_one, List.length_append]; rfl)
  have hc4p := odf hc4
  refine Cj.xl (Cj.sr (J.z (q33 isAgg35 tS35) ?_))
  refine J.op rfl (op_store 1 rfl rfl rfl rfl rfl (by show [u8 97, u8 109, gV _ _].all Value.oneCell' = true; simp only [List.all_cons, List.all_nil, gV_one', Bool.and_true]; rfl) tS35 rfl rfl (LSpl.c (LSpl.c (LSpl.c LSpl.z))) (LSet.s LSet.z) ?_)
  refine J.ns (Cj.ret ?_)
  have hmade : Ke.nrm fs = Ix.madeR l := by rw [hN]; unfold Ix.madeR; rw [made_take hk (by omega)]
  refine Ej.perm (H' := gH _ _ _ ++ [_, _]) List.perm_append_comm ?_
  refine Ej.keepN fldC_len (by decide) hg rfl (fun I9 hle9 hfs => ?_)
  refine Ej.retC (Keeps.d (Keeps.d Keeps.n)) rfl rfl rfl (Blk.at 1 rfl) isAgg35 tS35 rfl ?_
  exact ⟨fs, _, rfl, RecN.imp ⟨hfs, fun f hf => ((hS f hf).mono hle9)⟩ (fun b hb => hw0.dom hb), hmade, rfl⟩
 have hg3p := odf hg3
 refine q3 4 14 15 true hg3 ?_
 refine q3 4 14 16 true hg3 ?_
 refine J.z (q10 hg3) ?_
 refine J.c0 (fun hc34 => ?_)
 refine Cj.xl (Cj.sr (J.z (q33 isAgg35 tS35) ?_))
 refine J.op rfl (op_store 1 rfl rfl rfl rfl rfl (by show [u8 97, u8 109, gV _ _].all Value.oneCell' = true; simp only [List.all_cons, List.all_nil, gV_one', Bool.and_true]; rfl) tS35 rfl rfl (LSpl.c (LSpl.c (LSpl.c LSpl.z))) (LSet.s LSet.z) ?_)
 refine J.ns (Cj.ret ?_)
 have hmade : Ke.nrm fs = Ix.madeR l := by rw [hN]; unfold Ix.madeR; rw [made_take hk (by omega)]
 refine Ej.perm (H' := gH _ _ _ ++ [_, _]) List.perm_append_comm ?_
 refine Ej.keepN fldC_len (by decide) hg rfl (fun I9 hle9 hfs => ?_)
 refine Ej.retC (Keeps.d (Keeps.d Keeps.n)) rfl rfl rfl (Blk.at 1 rfl) isAgg35 tS35 rfl ?_
 exact ⟨fs, _, rfl, RecN.imp ⟨hfs, fun f hf => ((hS f hf).mono hle9)⟩ (fun b hb => hw0.dom hb), hmade, rfl⟩
structure Act where
  a : Ix.ActL
  v : Value
def actC (x : Act) : List Value := [.bool x.a.drop, i64 x.a.src, i64 x.a.num, x.v]
theorem actC_len (x : Act) : (actC x).length = 4 := rfl
def ActsS (I : Heap) (xs : List Act) (v : Value) : Prop := RowS actC I xs v ∧ ∀ x ∈ xs, RowS fourC I x.a.fs x.v
theorem ActsS.mono {I I' : Heap} {xs : List Act} {v : Value} (h : ActsS I xs v) (hle : Le I I') : ActsS I' xs v := ⟨h.1.mono hle, fun x hx => (h.2 x hx).mono hle⟩
def ActsOk (xs : List Act) : Prop := ∀ x ∈ xs, ∀ q ∈ x.a.fs, FourOk q
abbrev acts (xs : List Act) : List Ix.ActL := xs.map (·.a)
theorem take_min {α : Type} (l : List α) : l.take (min l.length 8) = l.take 8 := by
  rcases Nat.le_total l.length 8 with h | h
  · rw [Nat.min_eq_left h, List.take_of_length_le h, List.take_of_length_le (Nat.le_refl _)]
  rw [Nat.min_eq_right h]
structure IsEnt (I : Heap) (a : Ix.ActL) (e : Ent) : Prop where
  t : e.t = a.title
  r : RecS I e.fs e.v
  n : Ke.nrm e.fs = a.record
theorem IsEnt.mono {I I' : Heap} {a : Ix.ActL} {e : Ent} (h : IsEnt I a e) (hle : Le I I') : IsEnt I' a e := ⟨h.t, h.r.mono hle, h.n⟩
structure IsEntN (N : Nat → Prop) (I : Heap) (a : Ix.ActL) (e : Ent) : Prop where
  t : e.t = a.title
  r : RecN N I e.fs e.v
  n : Ke.nrm e.fs = a.record
theorem IsEntN.ent {N : Nat → Prop} {I : Heap} {a : Ix.ActL} {e : Ent} (h : IsEntN N I a e) : IsEnt I a e := ⟨h.t, h.r.rec, h.n⟩
theorem IsEnt.vals {I : Heap} {a : Ix.ActL} {e : Ent} (h : IsEnt I a e) : Ix.vals e.fs = a.vs := by rw [← vals_nrm, h.n]; rfl
theorem IsEnt.eok {I : Heap} {a : Ix.ActL} {e : Ent} (h : IsEnt I a e) : EOK e.fs := made_eok h.n
theorem EntryN_ok (x : Act) (hok : ∀ q ∈ x.a.fs, FourOk q) (I : Heap) (hv : RowS fourC I x.a.fs x.v) : Ctr Tryz.prog 41 [.agg (actC x).toArray] I [] (fun ev I' H' => ∃ e, ev = .returned (.agg (entC e).toArray) ∧ IsEntN (I · = none) I' x.a e ∧ H' = []) := by
 obtain ⟨p, c, hxv⟩ := RowS.len hv
 have hcap : x.a.fs.length ≤ c := by obtain ⟨p1, c1, h1, h2, _⟩ := hv; rw [hxv] at h1; cases h1; exact h2
 have hrow : RowS fourC I (x.a.fs.take 8) (.slice p (min x.a.fs.length 8) c) := by rw [← take_min]; rw [hxv] at hv; exact hv.take (Nat.min_le_left _ _)
 refine Ctr.ob func41 ?_
 intro w0 hw0
 refine Cj.sr (J.op rfl (q28 ?_))
 intro b1 hb1
 refine J.op rfl (q46 tZ37 ?_)
 intro b2 hb2
 refine J.nss (Cj.drawSel [0, 1] [] 14 (by kernel_rfl) ?_)
 refine JA.fix ⟨(HSub.c 0 rfl (HSub.c 1 rfl HSub.n)), CSub.n, (Le.refl _)⟩ (fun fx3 => ?_)
 refine JA.tk 0 rfl fx3 (q4 (off' := 1) tU80 tS3) ?_
 refine JA.tk 1 rfl fx3 (q9 tA3 (Blk.atC 1 rfl)) ?_
 refine JA.tk 2 rfl fx3 (q4 (off' := 2) tU80 tS3) ?_
 refine JA.tk 3 rfl fx3 (q9 tA3 (Blk.atC 1 rfl)) ?_
 refine JA.tk 4 rfl fx3 (yl_buildS (pl := #[(0, 1), (1, 1)]) rfl rfl tZ26 rfl tU26 (fun w => by simp []) (LBld.part rfl rfl rfl (LSpl.c LSpl.z) (LBld.part rfl rfl rfl (LSpl.s (LSpl.c LSpl.z)) LBld.none))) ?_
 refine JA.tk 5 rfl fx3 (q4 (off' := 3) tU80 sizeOf78) ?_
 refine JA.tk 6 rfl fx3 (q9 isAgg78 (Blk.atC 1 rfl)) ?_
 refine JA.eqv 9 rfl (show _ = .slice p x.a.fs.length c from hxv) ?_
 refine JA.tk 7 rfl fx3 (q4 (off' := 3) tU80 sizeOf78) ?_
 refine JA.tk 8 rfl fx3 (q9 isAgg78 (Blk.atC 1 rfl)) ?_
 refine JA.eqv 11 rfl (show _ = .slice p x.a.fs.length c from hxv) ?_
 refine JA.tk 9 rfl fx3 (q15 tU78) ?_
 refine JA.tk 10 rfl fx3 (yl_min2 rfl rfl rfl) ?_
 refine JA.tk 11 rfl fx3 (yl_slice0 (k := (min x.a.fs.length 8)) rfl rfl rfl tU78 sizeOf143 (by split <;> omega) (by omega)) ?_
 refine q13 12 rfl (op_call (H1 := []) rfl rfl rfl rfl rfl (nMadeN_ok (x.a.fs.take 8) _ (fun q hq => hok q (List.mem_of_mem_take hq)) _ hrow) ?_ (fun _ _ _ _ ⟨_, _, h, _⟩ => nomatch h) (fun _ _ ⟨_, _, h, _⟩ => nomatch h))
 intro v4 I5 H6 hle7 hp8
 obtain ⟨fs, w, h, hrec, hmade, rfl⟩ := hp8; cases h
 obtain ⟨wp, wc, rfl⟩ := RowS.len hrec.1.row
 refine ⟨⟨(Le.trans (Le.refl _) hle7), (HSub.c 0 rfl (HSub.c 1 rfl HSub.n)), CSub.n⟩, ?_⟩
 refine JA.fix ⟨(HSub.c 0 rfl (HSub.c 1 rfl HSub.n)), CSub.n, (Le.trans (Le.refl _) hle7)⟩ (fun fx9 => ?_)
 refine JA.tk 13 rfl fx9 (yl_buildS (pl := #[(0, 2), (2, 3)]) rfl rfl tZ37 rfl tU37 (fun w => by simp []) (LBld.part rfl rfl rfl (LSpl.c (LSpl.c LSpl.z)) (LBld.part rfl rfl rfl (LSpl.s (LSpl.s (LSpl.c (LSpl.c (LSpl.c LSpl.z))))) LBld.none))) ?_
 refine JA.last 14 (by kernel_rfl) rfl rfl rfl (q21 0 tS37 (LSpl.c (LSpl.c (LSpl.c (LSpl.c (LSpl.c LSpl.z))))) LSet.z ?_)
 refine q14 ?_
 refine Ej.seq (Cj.ret (Ej.retC (Keeps.d (Keeps.d Keeps.n)) rfl rfl rfl (Blk.at 0 rfl) isAgg37 tS37 rfl ?_))
 exact ⟨⟨x.a.title, 97, 109, _, fs⟩, rfl, ⟨rfl, hrec, hmade⟩, rfl⟩
theorem Entry_ok (x : Act) (hok : ∀ q ∈ x.a.fs, FourOk q) (I : Heap) (hv : RowS fourC I x.a.fs x.v) : Ctr Tryz.prog 41 [.agg (actC x).toArray] I [] (fun ev I' H' => ∃ e, ev = .returned (.agg (entC e).toArray) ∧ IsEnt I' x.a e ∧ H' = []) :=
  (EntryN_ok x hok I hv).mono fun _ _ _ _ ⟨e, h1, h2, h3⟩ => ⟨e, h1, h2.ent, h3⟩
theorem acts_take (xs : List Act) (k : Nat) : acts (xs.take k) = (acts xs).take k := List.map_take
theorem rPlay_ok (xs : List Act) (v : Value) (hok : ActsOk xs) (I : Heap) (hA0 : ActsS I xs v) : Ctr Tryz.prog 36 [v] I [] (fun ev I' H' => ∃ rb es w, ev = .returned (ptr rb 0) ∧ EntsS I' es w ∧ es.map entL = Ix.play (acts xs) ∧ (∀ e ∈ es, EOK e.fs) ∧ es.length ≤ 20 ∧ H' = [(rb, cel 73 [w])]) := by
 obtain ⟨p, c, rfl⟩ := RowS.len hA0.1
 refine Ctr.ob func36 ?_
 intro w0 hw0
 refine Cj.sr (J.z q1 ?_)
 refine J.nssr (J.z (yl_buildS (pl := #[(0, 1)]) rfl rfl zeroValue73 rfl tU73 (fun w => by simp []) LBld.none) ?_)
 refine J.op rfl (q28 ?_)
 intro b1 hb1
 refine J.z q1 ?_
 refine J.nsss (Cj.region (J.z q1 ?_))
 refine J.ns (Cj.block (Cj.loop (ι := Nat × Heap × List Ent × Value) (fun y => y.1 ≤ xs.length ∧ y.1 ≤ 20 ∧ Le I y.2.1 ∧ EntsS y.2.1 y.2.2.1 y.2.2.2 ∧ y.2.2.1.map entL = (acts (xs.take y.1)).foldl Ix.act [] ∧ (∀ e ∈ y.2.2.1, EOK e.fs) ∧ y.2.2.1.length ≤ y.1) (fun y => 20 - y.1) (fun y => [(0, .slice p xs.length c), (3, ptr b1 0), (4, i64 (y.1 : Int))]) (fun y => y.2.1) (fun y => [(b1, cel 73 [y.2.2.2])]) (0, _, [], _) ⟨Nat.zero_le _, Nat.zero_le _, Le.refl _, EntsS.nil, rfl, fun e he => (by cases he), Nat.zero_le _⟩ ⟨rfl, rfl, rfl, trivial⟩ rfl rfl ?_))
 rintro ⟨k, Jh, es, w⟩ ⟨hk, hk20, hIJ, hE, hL, hek, hel⟩
 dsimp only at hk hk20 hIJ hE hL hek hel ⊢
 have hA := hA0.mono hIJ
 refine Cj.seq (Cj.sr (J.z q0 ?_))
 refine J.z q0 ?_
 refine J.z (q15 tU51) ?_
 refine J.z q17 ?_
 refine J.z q0 ?_
 refine q16 11 (fun hg2 => ?_) (fun hg2 => ?_)
 ·
  have hg2p := odt hg2
  refine q5 4 11 true hg2 (q2 q0 ?_)
  refine q5 4 11 true hg2 (q2 q17 ?_)
  refine J.z (q11 hg2) ?_
  refine J.cd (fun hc3 => ?_) (fun hc3 => ?_)
  ·
   have hc3p := odt hc3
   refine Cj.ks (Cj.seq (Cj.block (Cj.seq ?_)))
   have hIJ9 := hIJ
   have hlt : k < xs.length := by omega
   have hlt2 : k < 20 := by omega
   obtain ⟨x, hget⟩ : ∃ x, xs[k]? = some x := ⟨_, lgg hlt⟩
   have hxm := lmg hget
   obtain ⟨p1, c1, hpe, hc1, hp⟩ := id hA.1
   cases hpe
   obtain ⟨ab, ao, acs, aty, afr, asp, rfl, hab, had⟩ := hp (ne_nil_of hlt)
   have hfv := hA.2 x hxm
   obtain ⟨vp, vc, hxv⟩ := RowS.len hfv
   have hnx : acts (xs.take (k + 1)) = acts (xs.take k) ++ [x.a] := map_next _ hget
   refine Cj.region (J.z q0 ?_)
   refine J.z q0 ?_
   refine J.z (q19 (off' := ao + k * 4) tU51 tS80) ?_
   refine J.z (q4 tU80 tS4) ?_
   refine J.z (yl_load rfl rfl tA4 (Blk.imm hab) (row_fcell actC_len had hget 0 (by decide))) ?_
   refine J.cd (fun hc4 => ?_) (fun hc4 => ?_)
   ·
    have hdr : x.a.drop = true := hc4
    refine Cj.region (J.z q0 ?_)
    refine J.z q0 ?_
    refine J.z q0 ?_
    refine J.z (q19 (off' := ao + k * 4) tU51 tS80) ?_
    refine J.z (q43 isAgg80 tS80 (Blk.imm hab) (row_from actC_len had hget)) ?_
    refine J.op rfl (q36 (H1 := []) rfl rfl rfl rfl rfl (Entry_ok x (hok x hxm) _ hfv) ?_)
    intro v5 I6 H7 hle8 hp9
    have hIJ := hIJ.mono hle8
    have hE := hE.mono hle8
    obtain ⟨e0, h, he0, rfl⟩ := hp9; cases h
    refine J.z (yl_fieldR (v := kvR e0.t) rfl rfl (fun _ => by kernel_rfl)) ?_
    refine J.pull Pull.z ?_
    refine J.op rfl (q36 (H1 := [_]) rfl rfl rfl rfl rfl (rDrop_ok b1 w es e0.t (by omega) _ hE) ?_)
    intro v10 I11 H12 hle13 hp14
    have hIJ := hIJ.mono hle13
    have he0 := he0.mono hle13
    obtain ⟨w1, h, hE1, rfl⟩ := hp14; cases h
    refine J.nb (Cj.region (J.z q0 ?_))
    refine J.z q7 ?_
    refine J.z q1 ?_
    refine J.nil (Ej.round (k + 1, _, edrop es e0.t, _) ⟨by dsimp only; omega, by dsimp only; omega, hIJ, hE1, by dsimp only; rw [hnx, List.foldl_append, edrop_drop _ _ (hL ▸ Ix.acts_srt _ List.Pairwise.nil), hL, he0.t]; exact (if_pos (show x.a.drop = true from hdr)).symm, fun e he => hek e (edrop_mem he), by dsimp only; have := edrop_len es e0.t; omega⟩ (by dsimp only; omega) ⟨rfl, rfl, rfl, trivial⟩ rfl rfl)
   have hdr : x.a.drop = false := hc4
   refine Cj.region (J.z q0 ?_)
   refine J.z q0 ?_
   refine J.z q0 ?_
   refine J.z (q19 (off' := ao + k * 4) tU51 tS80) ?_
   refine J.z (q43 isAgg80 tS80 (Blk.imm hab) (row_from actC_len had hget)) ?_
   refine J.op rfl (q36 (H1 := []) rfl rfl rfl rfl rfl (Entry_ok x (hok x hxm) _ hfv) ?_)
   intro v15 I16 H17 hle18 hp19
   have hIJ := hIJ.mono hle18
   have hE := hE.mono hle18
   obtain ⟨e0, h, he0, rfl⟩ := hp19; cases h
   refine J.pull Pull.z ?_
   refine J.op rfl (q36 (H1 := [_]) rfl rfl rfl rfl rfl (rPut_ok b1 w es e0 (by omega) _ hE he0.r) ?_)
   intro v20 I21 H22 hle23 hp24
   have hIJ := hIJ.mono hle23
   have he0 := he0.mono hle23
   obtain ⟨w1, h, hE1, rfl⟩ := hp24; cases h
   refine J.nb (Cj.region (J.z q0 ?_))
   refine J.z q7 ?_
   refine J.z q1 ?_
   refine J.nil (Ej.round (k + 1, _, eput es e0, _) ⟨by dsimp only; omega, by dsimp only; omega, hIJ, hE1, by dsimp only; rw [hnx, List.foldl_append, eput_put e0 es, hL, he0.t, he0.vals]; exact (if_neg (fun g => Bool.noConfusion (g.symm.trans hdr))).symm, fun e he => (eput_mem he).elim (fun g => by rw [g]; exact he0.eok) (hek e), by dsimp only; have := eput_len es e0; omega⟩ (by dsimp only; omega) ⟨rfl, rfl, rfl, trivial⟩ rfl rfl)
  have hc3p := odf hc3
  refine Cj.xl (Cj.sr (J.z q0 ?_))
  refine J.z q1 ?_
  refine J.ns (Cj.ret ?_)
  have htk : (acts (xs.take k)).foldl Ix.act [] = Ix.play (acts xs) := by rw [made_take hk (by omega), acts_take]; rfl
  refine q6 ?_
  exact ⟨_, es, _, rfl, hE, hL.trans htk, hek, by omega, rfl⟩
 have hg2p := odf hg2
 refine q3 4 11 12 true hg2 ?_
 refine q3 4 11 13 true hg2 ?_
 refine J.z (q10 hg2) ?_
 refine J.c0 (fun hc25 => ?_)
 refine Cj.xl (Cj.sr (J.z q0 ?_))
 refine J.z q1 ?_
 refine J.ns (Cj.ret ?_)
 have htk : (acts (xs.take k)).foldl Ix.act [] = Ix.play (acts xs) := by rw [made_take hk (by omega), acts_take]; rfl
 refine q6 ?_
 exact ⟨_, es, _, rfl, hE, hL.trans htk, hek, by omega, rfl⟩
end Go.Proofs.YtjcdfnbomkoheaaGreatDoor
end
