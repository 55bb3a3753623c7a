/-
  Own texts on the laws of the seat, joined: the logic, and contracts of functions. Conditions: none.
-/
import Derived.Test.YtjcdfnbomkoheaaGreatDoorNmR
import Derived.Test.YtjcdfnbomkoheaaGreatDoorPR14
import Derived.Test.YtjcdfnbomkoheaaGreatDoorPR12
set_option maxRecDepth 100000
set_option maxHeartbeats 4000000
section
namespace Go.Proofs.YtjcdfnbomkoheaaGreatDoor
open _root_.Go.Proofs.Tryz
open Go Go.Sx
theorem StrP.len {I : Heap} {l : List (List UInt8)} {v : Value} (h : StrP I l v) : ∃ p c, v = .slice p l.length c := let ⟨p, c, h, _⟩ := h; ⟨p, c, h⟩
theorem pg_next {s x : List UInt8} {d : Bool} {l : List (List UInt8)} : Ke.pg s d (x :: l) = (if s < x ∧ d = false then [s, x] else [x]) ++ Ke.pg s (d || decide (s < x)) l := by
  rw [Ke.pg]
  by_cases h : s < x
  · cases d
    · rw [if_pos ⟨h, rfl⟩, if_pos ⟨h, rfl⟩]; simp [h]
    rw [if_neg (by simp), if_neg (by simp)]; rfl
  rw [if_neg (fun g => h g.1), if_neg (fun g => h g.1)]; simp [h]
theorem pg_len (s : List UInt8) : ∀ (l : List (List UInt8)) (d : Bool), (Ke.pg s d l).length ≤ l.length + 1
  | [], true => Nat.zero_le _
  | [], false => Nat.le_refl _
  | x :: l, d => by
    have := pg_len s l (d || decide (s < x))
    rw [pg_next, List.length_append, List.length_cons]
    by_cases h : s < x ∧ d = false
    · rw [if_pos h]
      obtain ⟨h1, rfl⟩ := h
      have h2 : Ke.pg s (false || decide (s < x)) l = l := by rw [decide_eq_true h1]; exact Ke.pg_true s l
      rw [h2]; simp; omega
    rw [if_neg h]; simp; omega
theorem put_len (l : List (List UInt8)) (s : List UInt8) : (Ke.put l s).length ≤ l.length + 1 := by
  unfold Ke.put
  split
  · omega
  exact pg_len s l false
theorem puts_len : ∀ (xs l : List (List UInt8)), (xs.foldl Ke.put l).length ≤ l.length + xs.length
  | [], l => Nat.le_refl _
  | x :: xs, l => by
    have h1 := puts_len xs (Ke.put l x)
    have h2 := put_len l x
    simp only [List.foldl_cons, List.length_cons]; omega
theorem puts_one (xs : List (List UInt8)) (x : List UInt8) : (xs ++ [x]).foldl Ke.put [] = Ke.put (xs.foldl Ke.put []) x := by rw [List.foldl_append]; rfl
theorem rText_ok (f : Ke.Fld) (codes : List UInt8) (hcl : codes.length ≤ 1000) (hn : f.subs.length ≤ 2000000) (htx : textsLen f.subs ≤ 3000000) (I : Heap) (hr : RowS subC I f.subs f.sv) : Pure Tryz.prog 114 [.agg (fldC f).toArray, str codes] I (str (Ke.textOf f codes)) := by
 refine Ctr.toPure ?_
 obtain ⟨p2, c2, hsv, hc2, hp2⟩ := hr
 refine Ctr.ob func114 ?_
 intro w0 hw0
 refine Cj.sr (J.op rfl (q26 ?_))
 intro b1 hb1
 refine J.z q1 ?_
 refine J.nssr (J.z q1 ?_)
 refine J.nsss (Cj.region (J.z q1 ?_))
 refine J.ns (Cj.block (Cj.loop (ι := Nat × Gs) (fun j => j.1 ≤ f.subs.length ∧ gOk w0.heap.size 1 (tx codes (f.subs.take j.1)).length ((tx codes (f.subs.take j.1)).map str) j.2) (fun j => f.subs.length - j.1) (fun j => [(1, str codes), (2, ptr b1 0), (5, gV (tx codes (f.subs.take j.1)).length j.2), (6, i64 (j.1 : Int))]) (fun j => _) (fun j => (b1, cel 31 (fldC f)) :: gH 9 ((tx codes (f.subs.take j.1)).map str) j.2) (0, none) ⟨Nat.zero_le _, rfl, rfl⟩ ⟨rfl, rfl, rfl, rfl, trivial⟩ rfl rfl ?_))
 rintro ⟨j, g⟩ ⟨hj, hg⟩
 dsimp only at hj hg ⊢
 have htl := tx_len codes (f.subs.take j)
 rw [List.length_take, Nat.min_eq_left hj] at htl
 refine Cj.seq (Cj.sr (J.z q0 ?_))
 refine J.z (q5 (off' := 3) tU31 tS29) ?_
 refine J.z (q18 tA29) ?_
 refine J.eqv 10 rfl (show _ = .slice p2 f.subs.length c2 from hsv) ?_
 refine J.z (q14 tU29) ?_
 refine J.z q16 ?_
 refine J.cd (fun hc2 => ?_) (fun hc2 => ?_)
 ·
  have hc2p := odt hc2
  refine Cj.ks (Cj.seq (Cj.block (Cj.seq ?_)))
  have hlt : j < f.subs.length := by omega
  obtain ⟨sb, hsget⟩ : ∃ x, f.subs[j]? = some x := ⟨_, lgg hlt⟩
  obtain ⟨sbk, so, scs, sty, sfr, sp2, rfl, hsbk, hsd⟩ := hp2 (ne_nil_of hlt)
  have hnx := tx_next (codes := codes) hsget
  refine Cj.region (J.z q0 ?_)
  refine J.z (q5 (off' := 3) tU31 tS29) ?_
  refine J.z (q18 tA29) ?_
  refine J.eqv 17 rfl (show _ = .slice (some ⟨sbk, so, none⟩) f.subs.length c2 from hsv) ?_
  refine J.z q0 ?_
  refine J.z (q20 (off' := so + j * 2) tU29 tS65) ?_
  refine J.z (q5 tU65 tS5) ?_
  refine J.z (yl_load rfl rfl tA5 (Blk.imm hsbk) (row_fcell subC_len hsd hsget 0 (by decide))) ?_
  refine J.op rfl (op_pure rfl rfl rfl rfl rfl (has_ok codes sb.code (by omega) _) ?_)
  refine J.z q1 ?_
  refine J.nssr (J.z q0 ?_)
  refine J.cd (fun hc3 => ?_) (fun hc3 => ?_)
  ·
   rw [if_pos hc3] at hnx
   refine Cj.region (J.z q0 ?_)
   refine J.z (q5 (off' := 3) tU31 tS29) ?_
   refine J.z (q18 tA29) ?_
   refine J.eqv 26 rfl (show _ = .slice (some ⟨sbk, so, none⟩) f.subs.length c2 from hsv) ?_
   refine J.z q0 ?_
   refine J.z (q20 (off' := so + j * 2) tU29 tS65) ?_
   refine J.z (q5 (off' := so + j * 2 + 1) tU65 tS9) ?_
   refine J.z (yl_load rfl rfl tA9 (Blk.imm hsbk) (row_fcell subC_len hsd hsget 1 (by decide))) ?_
   refine J.op rfl (q23 tU28 tS9 tZ9 ?_)
   intro b4 hb4
   refine J.op rfl (op_append (by' := 15) [_, _] rfl rfl rfl rfl rfl tU28 (.inr ⟨_, tU28⟩) (by kernel_rfl) tS9 tZ9 rfl hg rfl (Src.slice (Blk.at 0 rfl) rfl rfl rfl) (by omega) ?_)
   intro g5 hg5
   refine J.z q1 ?_
   refine J.nb (Cj.region (J.z q0 ?_))
   refine J.z q7 ?_
   refine J.z q1 ?_
   refine J.nil (Ej.keep (Keeps.d (Keeps.k Keeps.r)) ?_)
   refine Ej.round (j + 1, g5) ⟨by dsimp only; omega, by dsimp only; rw [hnx, List.map_append, List.length_append]; exact hg5⟩ (by dsimp only; omega) ⟨rfl, rfl, by dsimp only; rw [hnx, List.length_append]; rfl, rfl, trivial⟩ rfl (by dsimp only; rw [hnx, List.map_append]; rfl)
  rw [if_neg (fun e => Bool.noConfusion (e.symm.trans hc3))] at hnx
  refine Cj.kb (Cj.region (J.z q0 ?_))
  refine J.z q7 ?_
  refine J.z q1 ?_
  refine J.nil (Ej.round (j + 1, g) ⟨by dsimp only; omega, by dsimp only; rw [hnx, List.append_nil]; exact hg⟩ (by dsimp only; omega) ⟨rfl, rfl, by dsimp only; rw [hnx, List.append_nil]; rfl, rfl, trivial⟩ rfl (by dsimp only; rw [hnx, List.append_nil]))
 have hc2p := odf hc2
 refine Cj.xl (Cj.seq ?_)
 have hfull : f.subs.take j = f.subs := List.take_of_length_le (by omega)
 rw [hfull] at hg ⊢
 have htl2 := textOf_len f codes
 refine Cj.perm (H' := gH _ _ _ ++ [_]) List.perm_append_comm ?_
 refine Cj.keepS hg (fun I8 hle8 hv => ?_)
 refine Cj.region (J.z q0 ?_)
 refine J.op rfl (op_pure rfl rfl rfl rfl rfl (rJoin_ok (tx codes f.subs) _ (by have := tx_len codes f.subs; omega) (by have e : Ke.join (tx codes f.subs) = Ke.textOf f codes := rfl; rw [e]; omega) _ (StrP.of hv)) ?_)
 refine J.z q1 ?_
 refine J.ns (Cj.ret (Ej.bare ?_))
 refine q6 ?_
 exact ⟨rfl, rfl⟩
theorem tw_len {α : Type} {p : α → Bool} : ∀ {l : List α} {k : Nat}, (∀ x ∈ l.take k, p x = true) → (∀ x, l[k]? = some x → p x = false) → k ≤ l.length → (l.takeWhile p).length = k
  | [], k, _, _, hk => by have : k = 0 := by simpa using hk
                          subst this; rfl
  | x :: r, 0, _, h2, _ => by rw [List.takeWhile_cons, if_neg (by rw [h2 x rfl]; decide)]; rfl
  | x :: r, k + 1, h1, h2, hk => by
    rw [List.takeWhile_cons, if_pos (h1 x (by rw [List.take_succ_cons]; exact .head _)), List.length_cons, tw_len (k := k) (fun y hy => h1 y (by rw [List.take_succ_cons]; exact .tail _ hy)) (fun y hy => h2 y (by rw [List.getElem?_cons_succ]; exact hy)) (by simpa using hk)]
theorem all_nextD {α : Type} {p : α → Bool} {l : List α} {k : Nat} {x : α} (h : ∀ y ∈ l.take k, p y = true) (hg : l[k]? = some x) (hx : p x = true) : ∀ y ∈ l.take (k + 1), p y = true := by
  obtain ⟨hlt, hg⟩ := List.getElem?_eq_some_iff.1 hg
  rw [List.take_succ_eq_append_getElem hlt, hg]
  intro y hy
  rcases List.mem_append.1 hy with g | g
  · exact h y g
  rw [List.mem_singleton.1 g]; exact hx
theorem uy_some {s : List UInt8} {k : Nat} (h : Ix.yearOf s = Ix.yearOf (s.drop k)) (h4 : ((s.drop k).takeWhile Ke.digit).length = 4) : uy s = ((s.take (k + 4)).drop k, true) := by
  unfold uy
  rw [h, Ix.year_step, if_pos h4, List.drop_take]
  simp
theorem uy_none {s : List UInt8} {k : Nat} (h : Ix.yearOf s = Ix.yearOf (s.drop k)) (hk : s.length ≤ k) : uy s = ([], false) := by
  unfold uy
  rw [h, List.drop_eq_nil_of_le hk, Ix.year_nil]; rfl
theorem uy_step {s : List UInt8} {k n : Nat} (h : Ix.yearOf s = Ix.yearOf (s.drop k)) (hn : ((s.drop k).takeWhile Ke.digit).length = n) (h4 : n ≠ 4) : Ix.yearOf s = Ix.yearOf (s.drop (k + n + 1)) := by
  rw [h, Ix.year_step, if_neg (by omega), hn, List.drop_drop, Nat.add_assoc]
theorem rYear_ok (s : List UInt8) (hs : s.length ≤ 1000000000) (I : Heap) : Pure Tryz.prog 115 [str s] I (.tuple #[str (uy s).1, .bool (uy s).2]) := by
 refine Ctr.toPure ?_
 refine Ctr.ob func115 ?_
 intro w0 hw0
 refine Cj.sr (J.z q1 ?_)
 refine J.z q1 ?_
 refine J.nsss (Cj.region (J.z q1 ?_))
 refine J.ns (Cj.block (Cj.loop (ι := Nat) (fun k => k ≤ s.length + 1 ∧ Ix.yearOf s = Ix.yearOf (s.drop k)) (fun k => s.length + 1 - k) (fun k => [(0, str s), (4, i64 (k : Int))]) (fun k => _) (fun k => []) 0 ⟨Nat.zero_le _, rfl⟩ ⟨rfl, rfl, trivial⟩ rfl rfl ?_))
 rintro k ⟨hk, hyr⟩
 refine Cj.seq (Cj.sr (J.z q0 ?_))
 refine J.z q0 ?_
 refine J.z (q28 tU9) ?_
 refine J.z q16 ?_
 refine J.cd (fun hc1 => ?_) (fun hc1 => ?_)
 ·
  have hc1p := odt hc1
  refine Cj.ks (Cj.seq (Cj.block (Cj.sr (J.z q1 ?_))))
  refine J.nss (Cj.block (Cj.loop (ι := Nat) (fun n => k + n ≤ s.length ∧ ∀ x ∈ (s.drop k).take n, Ke.digit x = true) (fun n => s.length - k - n) (fun n => [(0, str s), (4, i64 (k : Int)), (5, i64 (n : Int))]) (fun n => _) (fun n => []) 0 ⟨by omega, fun x hx => by simp at hx⟩ ⟨rfl, rfl, rfl, trivial⟩ rfl rfl ?_))
  rintro n ⟨hkn, hdg⟩
  refine Cj.seq (Cj.sr (J.z q0 ?_))
  refine J.z q0 ?_
  refine J.z q7 ?_
  refine J.z q0 ?_
  refine J.z (q28 tU9) ?_
  refine J.z q16 ?_
  refine J.z q0 ?_
  refine q15 18 (fun hg2 => ?_) (fun hg2 => ?_)
  ·
   have hg2p := odt hg2
   have hlt2 : k + n < s.length := by have h := odt hg2; omega
   obtain ⟨c, hget⟩ : ∃ c, s[k + n]? = some c := ⟨_, lgg hlt2⟩
   refine q3 6 18 true hg2 (q2 q0 ?_)
   refine q3 6 18 true hg2 (q2 q0 ?_)
   refine q3 6 18 true hg2 (q2 q0 ?_)
   refine J.opG 6 18 true _ rfl rfl rfl hg2 (op_yld q7 rfl rfl ?_)
   refine J.eqv 22 rfl (show _ = i64 ((k + n : Nat) : Int) from rfl) ?_
   refine J.opG 6 18 true _ rfl rfl rfl hg2 (op_yld (q41 tU9 hget) rfl rfl ?_)
   refine q3 6 18 true hg2 (q2 q34 ?_)
   refine J.z (q11 hg2) ?_
   refine J.z q0 ?_
   refine q15 26 (fun hg3 => ?_) (fun hg3 => ?_)
   ·
    have hg3p := odt hg3
    have h48 : 48 ≤ c.toNat := by have h := odt hg3; omega
    refine q3 14 26 true hg3 (q2 q0 ?_)
    refine q3 14 26 true hg3 (q2 q0 ?_)
    refine q3 14 26 true hg3 (q2 q0 ?_)
    refine J.opG 14 26 true _ rfl rfl rfl hg3 (op_yld q7 rfl rfl ?_)
    refine J.eqv 30 rfl (show _ = i64 ((k + n : Nat) : Int) from rfl) ?_
    refine J.opG 14 26 true _ rfl rfl rfl hg3 (op_yld (q41 tU9 hget) rfl rfl ?_)
    refine q3 14 26 true hg3 (q2 q36 ?_)
    refine J.z (q11 hg3) ?_
    refine J.cd (fun hc4 => ?_) (fun hc4 => ?_)
    ·
     have hc4p := odt hc4
     have hdig : Ke.digit c = true := by rw [Ix.digit_nat]; have h := odt hc4; simp only [decide_eq_true_eq]; omega
     refine Cj.ks (Cj.block (Cj.region (J.z q0 ?_)))
     refine J.z q7 ?_
     refine J.z q1 ?_
     refine J.nil (Ej.blkNormal (Ej.round (n + 1) ⟨by omega, all_nextD hdg (by rw [List.getElem?_drop]; exact hget) hdig⟩ (by omega) ⟨rfl, rfl, rfl, trivial⟩ rfl rfl))
    have hc4p := odf hc4
    have hndig : ¬ Ke.digit c = true := by rw [Ix.digit_nat]; have h := odf hc4; simp only [decide_eq_true_eq]; omega
    refine Cj.xl (Cj.seq (Cj.seq ?_))
    have hn : ((s.drop k).takeWhile Ke.digit).length = n := tw_len hdg (fun x hx => by rw [List.getElem?_drop, hget] at hx; cases hx; exact Bool.eq_false_iff.2 hndig) (by rw [List.length_drop]; omega)
    refine Cj.region (J.z q0 ?_)
    refine J.z q22 ?_
    refine J.cd (fun hc5 => ?_) (fun hc5 => ?_)
    ·
     have hc5p := ebq hc5
     have h4 : n = 4 := by have h := ebq hc5; omega
     have hyy := uy_some hyr (hn.trans h4)
     refine Cj.sr (J.z q0 ?_)
     refine J.z q0 ?_
     refine J.z q0 ?_
     refine J.z q7 ?_
     refine J.z (yl_sliceStr (p := k) (q := k + 4) rfl rfl tU9 ⟨_, rfl⟩ ⟨_, rfl⟩ (by omega) (by omega)) ?_
     refine J.z q1 ?_
     refine J.z q1 ?_
     refine J.ns (Cj.rs (Ej.blkRet (Ej.seqRet (Ej.loopRet (Ej.blkRet (Ej.seqRet (q21 ?_)))))))
     rw [hyy]
     exact ⟨rfl, rfl⟩
    have hc5p := nbf hc5
    have h4 : n ≠ 4 := by have h := nbf hc5; omega
    refine Cj.ks (Cj.region (J.z q0 ?_))
    refine J.z q0 ?_
    refine J.z q7 ?_
    refine J.z q1 ?_
    refine J.nb (Cj.region (J.z q0 ?_))
    refine J.z q7 ?_
    refine J.z q1 ?_
    refine J.nil (Ej.round (k + n + 1) ⟨by omega, uy_step hyr hn (by omega)⟩ (by omega) ⟨rfl, rfl, trivial⟩ rfl rfl)
   have hg3p := odf hg3
   have hndig : ¬ Ke.digit c = true := by rw [Ix.digit_nat]; have h := odf hg3; simp only [decide_eq_true_eq]; omega
   refine q4 14 26 27 true hg3 ?_
   refine q4 14 26 28 true hg3 ?_
   refine q4 14 26 29 true hg3 ?_
   refine q4 14 26 30 true hg3 ?_
   refine q4 14 26 31 true hg3 ?_
   refine q4 14 26 32 true hg3 ?_
   refine J.z (q9 hg3) ?_
   refine J.c0 (fun hc6 => ?_)
   refine Cj.xl (Cj.seq (Cj.seq ?_))
   have hn : ((s.drop k).takeWhile Ke.digit).length = n := tw_len hdg (fun x hx => by rw [List.getElem?_drop, hget] at hx; cases hx; exact Bool.eq_false_iff.2 hndig) (by rw [List.length_drop]; omega)
   refine Cj.region (J.z q0 ?_)
   refine J.z q22 ?_
   refine J.cd (fun hc7 => ?_) (fun hc7 => ?_)
   ·
    have hc7p := ebq hc7
    have h4 : n = 4 := by have h := ebq hc7; omega
    have hyy := uy_some hyr (hn.trans h4)
    refine Cj.sr (J.z q0 ?_)
    refine J.z q0 ?_
    refine J.z q0 ?_
    refine J.z q7 ?_
    refine J.z (yl_sliceStr (p := k) (q := k + 4) rfl rfl tU9 ⟨_, rfl⟩ ⟨_, rfl⟩ (by omega) (by omega)) ?_
    refine J.z q1 ?_
    refine J.z q1 ?_
    refine J.ns (Cj.rs (Ej.blkRet (Ej.seqRet (Ej.loopRet (Ej.blkRet (Ej.seqRet (q21 ?_)))))))
    rw [hyy]
    exact ⟨rfl, rfl⟩
   have hc7p := nbf hc7
   have h4 : n ≠ 4 := by have h := nbf hc7; omega
   refine Cj.ks (Cj.region (J.z q0 ?_))
   refine J.z q0 ?_
   refine J.z q7 ?_
   refine J.z q1 ?_
   refine J.nb (Cj.region (J.z q0 ?_))
   refine J.z q7 ?_
   refine J.z q1 ?_
   refine J.nil (Ej.round (k + n + 1) ⟨by omega, uy_step hyr hn (by omega)⟩ (by omega) ⟨rfl, rfl, trivial⟩ rfl rfl)
  have hg2p := odf hg2
  have hge2 : ¬ k + n < s.length := by have h := odf hg2; omega
  refine q4 6 18 19 true hg2 ?_
  refine q4 6 18 20 true hg2 ?_
  refine q4 6 18 21 true hg2 ?_
  refine q4 6 18 22 true hg2 ?_
  refine q4 6 18 23 true hg2 ?_
  refine q4 6 18 24 true hg2 ?_
  refine J.z (q9 hg2) ?_
  refine J.z q0 ?_
  refine q33 14 26 27 true ?_
  refine q33 14 26 28 true ?_
  refine q33 14 26 29 true ?_
  refine q33 14 26 30 true ?_
  refine q33 14 26 31 true ?_
  refine q33 14 26 32 true ?_
  refine J.z q30 ?_
  refine J.c0 (fun hc8 => ?_)
  refine Cj.xl (Cj.seq (Cj.seq ?_))
  have hn : ((s.drop k).takeWhile Ke.digit).length = n := tw_len hdg (fun x hx => absurd (List.getElem?_eq_some_iff.1 hx).1 (by rw [List.length_drop]; omega)) (by rw [List.length_drop]; omega)
  refine Cj.region (J.z q0 ?_)
  refine J.z q22 ?_
  refine J.cd (fun hc9 => ?_) (fun hc9 => ?_)
  ·
   have hc9p := ebq hc9
   have h4 : n = 4 := by have h := ebq hc9; omega
   have hyy := uy_some hyr (hn.trans h4)
   refine Cj.sr (J.z q0 ?_)
   refine J.z q0 ?_
   refine J.z q0 ?_
   refine J.z q7 ?_
   refine J.z (yl_sliceStr (p := k) (q := k + 4) rfl rfl tU9 ⟨_, rfl⟩ ⟨_, rfl⟩ (by omega) (by omega)) ?_
   refine J.z q1 ?_
   refine J.z q1 ?_
   refine J.ns (Cj.rs (Ej.blkRet (Ej.seqRet (Ej.loopRet (Ej.blkRet (Ej.seqRet (q21 ?_)))))))
   rw [hyy]
   exact ⟨rfl, rfl⟩
  have hc9p := nbf hc9
  have h4 : n ≠ 4 := by have h := nbf hc9; omega
  refine Cj.ks (Cj.region (J.z q0 ?_))
  refine J.z q0 ?_
  refine J.z q7 ?_
  refine J.z q1 ?_
  refine J.nb (Cj.region (J.z q0 ?_))
  refine J.z q7 ?_
  refine J.z q1 ?_
  refine J.nil (Ej.round (k + n + 1) ⟨by omega, uy_step hyr hn (by omega)⟩ (by omega) ⟨rfl, rfl, trivial⟩ rfl rfl)
 have hc1p := odf hc1
 refine Cj.xl (Cj.sr (J.z q1 ?_))
 refine J.z q1 ?_
 refine J.ns (Cj.ret (q21 ?_))
 rw [uy_none hyr (by omega)]
 exact ⟨rfl, rfl⟩
theorem rStarts_ok (s p : List UInt8) (hp : p.length ≤ 1000000) (I : Heap) : Pure Tryz.prog 116 [str s, str p] I (.bool (p.isPrefixOf s)) := by
 refine Ctr.toPure ?_
 refine Ctr.ob func116 ?_
 intro w0 hw0
 refine Cj.sr (J.z q1 ?_)
 refine J.nssr (J.z q0 ?_)
 refine J.z (q28 tU9) ?_
 refine J.z q0 ?_
 refine J.z (q28 tU9) ?_
 refine J.z q34 ?_
 refine J.z q0 ?_
 refine q15 10 (fun hg1 => ?_) (fun hg1 => ?_)
 ·
  have hg1p := odt hg1
  have hge : p.length ≤ s.length := by have h := odt hg1; omega
  refine q3 5 10 true hg1 (q2 q0 ?_)
  refine q3 5 10 true hg1 (q2 q0 ?_)
  refine q3 5 10 true hg1 (q2 (q28 tU9) ?_)
  refine J.opG 5 10 true _ rfl rfl rfl hg1 (op_yld (q49 (p := 0) (q := p.length) tU9) rfl rfl ?_)
  refine q3 5 10 true hg1 (q2 q0 ?_)
  refine q3 5 10 true hg1 (q2 q31 ?_)
  refine J.z (q11 hg1) ?_
  refine J.z q1 ?_
  refine J.ns (Cj.ret (q6 ?_))
  refine ⟨?_, rfl⟩
  rw [pre_eq hge]
 have hg1p := odf hg1
 have hge : ¬ p.length ≤ s.length := by have h := odf hg1; omega
 refine q4 5 10 11 true hg1 ?_
 refine q4 5 10 12 true hg1 ?_
 refine q4 5 10 13 true hg1 ?_
 refine q4 5 10 14 true hg1 ?_
 refine q4 5 10 15 true hg1 ?_
 refine q4 5 10 16 true hg1 ?_
 refine J.z (q9 hg1) ?_
 refine J.z q1 ?_
 refine J.ns (Cj.ret (q6 ?_))
 rw [pre_no hge]
 exact ⟨rfl, rfl⟩
theorem all_len (f : Ke.Fld) : (Ix.allText f).length ≤ textsLen f.subs + f.subs.length := by
  have := textX_len f []
  rwa [textX_all] at this
theorem rAllText_ok (f : Ke.Fld) (hn : f.subs.length ≤ 2000000) (htx : textsLen f.subs ≤ 3000000) (I : Heap) (hr : RowS subC I f.subs f.sv) : Pure Tryz.prog 117 [.agg (fldC f).toArray] I (str (Ix.allText f)) := by
 refine Ctr.toPure ?_
 obtain ⟨p2, c2, hsv, hc2, hp2⟩ := hr
 have hal := all_len f
 unfold Ix.allText at hal
 refine Ctr.ob func117 ?_
 intro w0 hw0
 refine Cj.sr (J.op rfl (q26 ?_))
 intro b1 hb1
 refine J.z q1 ?_
 refine J.nssr (J.z q1 ?_)
 refine J.nsss (Cj.region (J.z q1 ?_))
 refine J.ns (Cj.block (Cj.loop (ι := Nat) (fun j => j ≤ f.subs.length) (fun j => f.subs.length - j) (fun j => [(1, ptr b1 0), (3, str (Ke.join ((f.subs.map (·.text)).take j))), (4, i64 (j : Int))]) (fun j => _) (fun j => [(b1, cel 31 (fldC f))]) 0 (Nat.zero_le _) ⟨rfl, rfl, rfl, trivial⟩ rfl rfl ?_))
 intro j hj
 have hjp := join_part (f.subs.map (·.text)) j
 have hjp2 := join_part (f.subs.map (·.text)) (j + 1)
 refine Cj.seq (Cj.sr (J.z q0 ?_))
 refine J.z (q5 (off' := 3) tU31 tS29) ?_
 refine J.z (q18 tA29) ?_
 refine J.eqv 7 rfl (show _ = .slice p2 f.subs.length c2 from hsv) ?_
 refine J.z (q14 tU29) ?_
 refine J.z q16 ?_
 refine J.cd (fun hc2 => ?_) (fun hc2 => ?_)
 ·
  have hc2p := odt hc2
  have hlt : j < f.subs.length := by omega
  obtain ⟨sb, hsget⟩ : ∃ x, f.subs[j]? = some x := ⟨_, lgg hlt⟩
  have hget : (f.subs.map (·.text))[j]? = some sb.text := by rw [List.getElem?_map, hsget]; rfl
  obtain ⟨sbk, so, scs, sty, sfr, sp2, rfl, hsbk, hsd⟩ := hp2 (ne_nil_of hlt)
  have hjn := congrArg List.length (join_next hget)
  rw [List.length_append] at hjn
  refine Cj.ks (Cj.seq (Cj.block (Cj.seq (Cj.sr (J.z q0 ?_)))))
  refine J.z (yl_gtr rfl rfl rfl) ?_
  refine J.cd (fun hc3 => ?_) (fun hc3 => ?_)
  ·
   have hc3p := odt hc3
   have hj0 : 0 < j := by have h := odt hc3; omega
   refine Cj.region (J.z q0 ?_)
   refine J.z (yl_cat rfl rfl rfl (by rw [if_pos hj0, List.length_append] at hjn; simp only [List.length_cons, List.length_nil] at hjn ⊢; omega)) ?_
   refine J.z q1 ?_
   refine J.nsr (J.z q0 ?_)
   refine J.z (q5 (off' := 3) tU31 tS29) ?_
   refine J.z (q18 tA29) ?_
   refine J.eqv 18 rfl (show _ = .slice (some ⟨sbk, so, none⟩) f.subs.length c2 from hsv) ?_
   refine J.z q0 ?_
   refine J.z (q20 (off' := so + j * 2) tU29 tS65) ?_
   refine J.z (q5 (off' := so + j * 2 + 1) tU65 tS9) ?_
   refine J.z (yl_load rfl rfl tA9 (Blk.imm hsbk) (row_fcell subC_len hsd hsget 1 (by decide))) ?_
   refine J.z (yl_cat rfl rfl rfl (by first | (rw [if_pos hj0, List.length_append] at hjn; simp only [List.length_append, List.length_cons, List.length_nil] at hjn ⊢; omega) | (rw [if_neg hj0] at hjn; omega))) ?_
   refine J.z q1 ?_
   refine J.nb (Cj.region (J.z q0 ?_))
   refine J.z q7 ?_
   refine J.z q1 ?_
   refine J.nil (Ej.round (j + 1) (by omega) (by omega) ⟨rfl, by rw [join_next hget, if_pos hj0]; rfl, rfl, trivial⟩ rfl rfl)
  have hc3p := odf hc3
  have hj0 : ¬ 0 < j := by have h := odf hc3; omega
  refine Cj.ks (Cj.region (J.z q0 ?_))
  refine J.z (q5 (off' := 3) tU31 tS29) ?_
  refine J.z (q18 tA29) ?_
  refine J.eqv 18 rfl (show _ = .slice (some ⟨sbk, so, none⟩) f.subs.length c2 from hsv) ?_
  refine J.z q0 ?_
  refine J.z (q20 (off' := so + j * 2) tU29 tS65) ?_
  refine J.z (q5 (off' := so + j * 2 + 1) tU65 tS9) ?_
  refine J.z (yl_load rfl rfl tA9 (Blk.imm hsbk) (row_fcell subC_len hsd hsget 1 (by decide))) ?_
  refine J.z (yl_cat rfl rfl rfl (by first | (rw [if_pos hj0, List.length_append] at hjn; simp only [List.length_append, List.length_cons, List.length_nil] at hjn ⊢; omega) | (rw [if_neg hj0] at hjn; omega))) ?_
  refine J.z q1 ?_
  refine J.nb (Cj.region (J.z q0 ?_))
  refine J.z q7 ?_
  refine J.z q1 ?_
  refine J.nil (Ej.round (j + 1) (by omega) (by omega) ⟨rfl, by rw [join_next hget, if_neg hj0]; rfl, rfl, trivial⟩ rfl rfl)
 have hc2p := odf hc2
 have hfull : (f.subs.map (·.text)).take j = f.subs.map (·.text) := List.take_of_length_le (by rw [List.length_map]; omega)
 refine Cj.xl (Cj.sr (J.z q0 ?_))
 refine J.z q1 ?_
 refine J.ns (Cj.ret (Ej.bare ?_))
 refine q6 ?_
 rw [hfull]
 exact ⟨rfl, rfl⟩
def valC (x : List UInt8 × Nat) : List Value := [str x.1, i64 (x.2 : Int)]
theorem valC_len (x : List UInt8 × Nat) : (valC x).length = 2 := rfl
def psL (u : List UInt8 → List UInt8 × Bool) (c : UInt8) (ss : List Ke.Sub) : List (List UInt8 × Nat) := (ss.filterMap (pickU u c)).map fun s => (s, 0)
theorem psL_next {u : List UInt8 → List UInt8 × Bool} {c : UInt8} {ss : List Ke.Sub} {k : Nat} {s : Ke.Sub} (h : ss[k]? = some s) : psL u c (ss.take (k + 1)) = psL u c (ss.take k) ++ (if (u s.text).2 = true ∧ s.code = c then [((u s.text).1, 0)] else []) := by
  unfold psL
  rw [fm_next h, List.map_append]
  congr 1
  split <;> rfl
theorem psL_len (u : List UInt8 → List UInt8 × Bool) (c : UInt8) (ss : List Ke.Sub) : (psL u c ss).length ≤ ss.length := by
  unfold psL; rw [List.length_map]; exact List.length_filterMap_le _ _
theorem ps_end {f : Ke.Fld} {t : List UInt8} {u : List UInt8 → List UInt8 × Bool} {c : UInt8} {j : Nat} (h : j = 0 ∨ f.tag = t) (hj : f.subs.length ≤ j) : (if f.tag = t then psL u c f.subs else []) = psL u c (f.subs.take j) := by
  by_cases ht : f.tag = t
  · rw [if_pos ht, List.take_of_length_le hj]
  have h0 := h.resolve_right ht
  subst h0
  rw [if_neg ht]; rfl
theorem ps_no {f : Ke.Fld} {t : List UInt8} {u : List UInt8 → List UInt8 × Bool} {c : UInt8} {j : Nat} (h : j = 0 ∨ f.tag = t) (ht : f.tag ≠ t) : (if f.tag = t then psL u c f.subs else []) = psL u c (f.subs.take j) := by
  have h0 := h.resolve_right ht
  subst h0
  rw [if_neg ht]; rfl
theorem of_title {f : Ke.Fld} {n : List UInt8} (h : n = Ix.nTitle) : Ix.ofN f n = if f.tag = [50, 52, 53] ∨ f.tag = [50, 52, 54] then [(Ke.textOf f [97, 98], Ix.skipT f)] else [] := by subst h; rfl
theorem of_author {f : Ke.Fld} {n : List UInt8} (h : n = Ix.nAuthor) : Ix.ofN f n = if f.tag = [49, 48, 48] ∨ f.tag = [49, 49, 48] ∨ f.tag = [55, 48, 48] then [(Ke.textOf f [97], 0)] else [] := by subst h; rfl
theorem of_subject {f : Ke.Fld} {n : List UInt8} (h : n = Ix.nSubject) : Ix.ofN f n = if f.tag = [54, 48, 48] ∨ f.tag = [54, 53, 48] then [(Ke.textOf f [97, 120], 0)] else [] := by subst h; rfl
theorem of_isbn {f : Ke.Fld} {n : List UInt8} (h : n = Ix.nIsbn) : Ix.ofN f n = if f.tag = [48, 50, 48] then psL Ke.isbn 97 f.subs else [] := by subst h; rfl
theorem of_year {f : Ke.Fld} {n : List UInt8} (h : n = Ix.nYear) : Ix.ofN f n = if f.tag = [50, 54, 48] then psL uy 99 f.subs else [] := by
  subst h
  unfold psL
  rw [pick_yr]; rfl
theorem of_any {f : Ke.Fld} {n : List UInt8} (h : n = Ix.nAny) : Ix.ofN f n = if Ix.anyOk f then [(Ix.allText f, 0)] else [] := by subst h; rfl
theorem of_none {f : Ke.Fld} {n : List UInt8} (h1 : n ≠ Ix.nTitle) (h2 : n ≠ Ix.nAuthor) (h3 : n ≠ Ix.nSubject) (h4 : n ≠ Ix.nIsbn) (h5 : n ≠ Ix.nYear) (h6 : n ≠ Ix.nAny) : Ix.ofN f n = [] := by
  unfold Ix.ofN
  rw [if_neg h1, if_neg h2, if_neg h3, if_neg h4, if_neg h5, if_neg h6]
theorem ofN_len (f : Ke.Fld) (n : List UInt8) (h : f.subs.length ≤ 1000) : (Ix.ofN f n).length ≤ 1000 := by
  by_cases h1 : n = Ix.nTitle
  · rw [of_title h1]; split <;> simp
  by_cases h2 : n = Ix.nAuthor
  · rw [of_author h2]; split <;> simp
  by_cases h3 : n = Ix.nSubject
  · rw [of_subject h3]; split <;> simp
  by_cases h4 : n = Ix.nIsbn
  · rw [of_isbn h4]; split
    · exact nlt (psL_len _ _ _) h
    simp
  by_cases h5 : n = Ix.nYear
  · rw [of_year h5]; split
    · exact nlt (psL_len _ _ _) h
    simp
  by_cases h6 : n = Ix.nAny
  · rw [of_any h6]; split <;> simp
  rw [of_none h1 h2 h3 h4 h5 h6]; simp
theorem rOf_ok (f : Ke.Fld) (n : List UInt8) (hn2 : f.subs.length ≤ 2000000) (htx : textsLen f.subs ≤ 3000000) (I : Heap) (hr : RowS subC I f.subs f.sv) : Ctr Tryz.prog 85 [.agg (fldC f).toArray, str n] I [] (fun e I' H' => ∃ w, e = .returned w ∧ RowS valC I' (Ix.ofN f n) w ∧ H' = []) := by
 obtain ⟨p2, c2, hsv, hc2, hp2⟩ := id hr
 refine Ctr.ob func85 ?_
 intro w0 hw0
 refine Cj.sr (J.op rfl (q26 ?_))
 intro b1 hb1
 refine J.z q1 ?_
 refine J.nssr (J.z q1 ?_)
 refine J.nsss (Cj.region (J.z q0 ?_))
 refine J.ns (Cj.block (Cj.sr (J.z q31 ?_)))
 refine J.z q1 ?_
 refine J.cd (fun hc2 => ?_) (fun hc2 => ?_)
 ·
  have hc2p := ebq hc2
  have hn : n = Ix.nTitle := ebq hc2
  refine Cj.sr (J.z q1 ?_)
  refine J.nsss (Cj.region (J.z (q5 (off' := 0) tU31 tS9) ?_))
  refine J.z (q18 tA9) ?_
  refine J.z q31 ?_
  refine J.z q0 ?_
  refine q15 21 (fun hg3 => ?_) (fun hg3 => ?_)
  ·
   have hg3p := ebq hg3
   have h45 : f.tag = [50, 52, 53] := ebq hg3
   refine q3 3 21 true hg3 (q2 (q5 (off' := 1) tU31 tS9) ?_)
   refine q3 3 21 true hg3 (q2 (q18 tA9) ?_)
   refine q3 3 21 true hg3 (q2 (q28 tU9) ?_)
   refine q3 3 21 true hg3 (q2 (yl_gtr rfl rfl rfl) ?_)
   refine J.z (q11 hg3) ?_
   refine J.z q0 ?_
   refine q15 27 (fun hg4 => ?_) (fun hg4 => ?_)
   ·
    have hg4p := odt hg4
    have hl1 : 1 < f.ind.length := by have h := odt hg4; omega
    obtain ⟨c, hget⟩ : ∃ c, f.ind[1]? = some c := ⟨_, lgg hl1⟩
    have hcl := c.toNat_lt
    refine q3 9 27 true hg4 (q2 (q5 (off' := 1) tU31 tS9) ?_)
    refine q3 9 27 true hg4 (q2 (q18 tA9) ?_)
    refine J.opG 9 27 true _ rfl rfl rfl hg4 (op_yld (yl_index rfl rfl rfl tU9 (by decide) hget) rfl rfl ?_)
    refine q3 9 27 true hg4 (q2 q34 ?_)
    refine J.z (q11 hg4) ?_
    refine J.z q0 ?_
    refine q15 33 (fun hg5 => ?_) (fun hg5 => ?_)
    ·
     have hg5p := odt hg5
     have h48 : 48 ≤ c.toNat := by have h := odt hg5; omega
     refine q3 15 33 true hg5 (q2 (q5 (off' := 1) tU31 tS9) ?_)
     refine q3 15 33 true hg5 (q2 (q18 tA9) ?_)
     refine J.opG 15 33 true _ rfl rfl rfl hg5 (op_yld (yl_index rfl rfl rfl tU9 (by decide) hget) rfl rfl ?_)
     refine q3 15 33 true hg5 (q2 q36 ?_)
     refine J.z (q11 hg5) ?_
     refine J.cd (fun hc6 => ?_) (fun hc6 => ?_)
     ·
      have hc6p := odt hc6
      have h57 : c.toNat ≤ 57 := by have h := odt hc6; omega
      have hdg : Ke.digit c = true := by rw [Ix.digit_nat]; simp only [decide_eq_true_eq]; omega
      refine Cj.region (J.z (q5 (off' := 1) tU31 tS9) ?_)
      refine J.z (q18 tA9) ?_
      refine J.z (yl_index rfl rfl rfl tU9 (by decide) hget) ?_
      refine J.z (yl_sub rfl rfl rfl (w8 (by omega))) ?_
      refine J.z (yl_convInt rfl rfl tU5 tU3) ?_
      refine J.eqv 43 rfl (show _ = i64 ((c.toNat - 48 : Nat) : Int) from (congrArg i64 ((w64 (by omega)).trans (by omega)))) ?_
      refine J.z q1 ?_
      refine J.nss ?_
      have hsk : Ix.skipT f = c.toNat - 48 := (if_pos h45).trans ((skip_char hget).trans (if_pos hdg))
      refine Cj.region (J.z (q5 (off' := 0) tU31 tS9) ?_)
      refine J.z (q18 tA9) ?_
      refine J.z q31 ?_
      refine J.z q0 ?_
      refine q15 47 (fun hg7 => ?_) (fun hg7 => ?_)
      ·
       have hg7p := ebq hg7
       have htt : f.tag = [50, 52, 53] ∨ f.tag = [50, 52, 54] := .inl h45
       refine q4 3 47 48 false hg7 ?_
       refine q4 3 47 49 false hg7 ?_
       refine q4 3 47 50 false hg7 ?_
       refine J.z (q11 hg7) ?_
       refine J.c1 (fun hc8 => ?_)
       refine Cj.region (J.z q0 ?_)
       refine J.z (q35 tA31 tS31) ?_
       refine J.op rfl (op_pure rfl rfl rfl rfl rfl (rText_ok f [97, 98] (by decide) hn2 htx _ hr) ?_)
       refine J.z q0 ?_
       refine J.z (yl_buildS (pl := #[(0, 1), (1, 1)]) rfl rfl tZ104 rfl tU104 (fun w => by simp []) (LBld.part rfl rfl rfl (LSpl.c LSpl.z) (LBld.part rfl rfl rfl (LSpl.s (LSpl.c LSpl.z)) LBld.none))) ?_
       refine J.op rfl (q44 tU101 tS104 tZ104 ?_)
       intro b9 hb9
       refine J.op rfl (op_append (by' := 23) (n := 0) (g := none) (xs := []) [_, _] rfl rfl rfl rfl rfl tU101 (.inr ⟨_, tU101⟩) (by kernel_rfl) tS104 tZ104 rfl ⟨rfl, rfl⟩ rfl (Src.slice (Blk.at 0 rfl) rfl rfl rfl) (by omega) ?_)
       intro g10 hg10
       refine J.z q1 ?_
       refine J.nb (Cj.sr (J.z q0 ?_))
       refine J.z q1 ?_
       refine J.ns (Cj.ret (Ej.keep (Keeps.d (Keeps.d Keeps.r)) ?_))
       have hof : Ix.ofN f n = [(Ke.textOf f [97, 98], (c.toNat - 48))] := (of_title hn).trans (by rw [if_pos htt, hsk])
       rw [hof]
       refine Ej.perm (H' := gH 104 (List.flatMap valC ([(Ke.textOf f [97, 98], (c.toNat - 48))])) g10 ++ []) (.of_eq (List.append_nil _)) ?_
       refine Ej.keepR valC_len (by decide) hg10 rfl (fun I8 hle8 hw8 => ?_)
       refine q6 ?_
       exact ⟨_, rfl, hw8, rfl⟩
      have hg7p := nbf hg7
      exact absurd h45 (nbf hg7)
     have hc6p := odf hc6
     have hdg : ¬ Ke.digit c = true := by rw [Ix.digit_nat]; have h := odf hc6; simp only [decide_eq_true_eq]; omega
     refine Cj.ks (Cj.seq ?_)
     have hsk : Ix.skipT f = 0 := (if_pos h45).trans ((skip_char hget).trans (if_neg hdg))
     refine Cj.region (J.z (q5 (off' := 0) tU31 tS9) ?_)
     refine J.z (q18 tA9) ?_
     refine J.z q31 ?_
     refine J.z q0 ?_
     refine q15 47 (fun hg11 => ?_) (fun hg11 => ?_)
     ·
      have hg11p := ebq hg11
      have htt : f.tag = [50, 52, 53] ∨ f.tag = [50, 52, 54] := .inl h45
      refine q4 3 47 48 false hg11 ?_
      refine q4 3 47 49 false hg11 ?_
      refine q4 3 47 50 false hg11 ?_
      refine J.z (q11 hg11) ?_
      refine J.c1 (fun hc12 => ?_)
      refine Cj.region (J.z q0 ?_)
      refine J.z (q35 tA31 tS31) ?_
      refine J.op rfl (op_pure rfl rfl rfl rfl rfl (rText_ok f [97, 98] (by decide) hn2 htx _ hr) ?_)
      refine J.z q0 ?_
      refine J.z (yl_buildS (pl := #[(0, 1), (1, 1)]) rfl rfl tZ104 rfl tU104 (fun w => by simp []) (LBld.part rfl rfl rfl (LSpl.c LSpl.z) (LBld.part rfl rfl rfl (LSpl.s (LSpl.c LSpl.z)) LBld.none))) ?_
      refine J.op rfl (q44 tU101 tS104 tZ104 ?_)
      intro b13 hb13
      refine J.op rfl (op_append (by' := 23) (n := 0) (g := none) (xs := []) [_, _] rfl rfl rfl rfl rfl tU101 (.inr ⟨_, tU101⟩) (by kernel_rfl) tS104 tZ104 rfl ⟨rfl, rfl⟩ rfl (Src.slice (Blk.at 0 rfl) rfl rfl rfl) (by omega) ?_)
      intro g14 hg14
      refine J.z q1 ?_
      refine J.nb (Cj.sr (J.z q0 ?_))
      refine J.z q1 ?_
      refine J.ns (Cj.ret (Ej.keep (Keeps.d (Keeps.d Keeps.r)) ?_))
      have hof : Ix.ofN f n = [(Ke.textOf f [97, 98], 0)] := (of_title hn).trans (by rw [if_pos htt, hsk])
      rw [hof]
      refine Ej.perm (H' := gH 104 (List.flatMap valC ([(Ke.textOf f [97, 98], 0)])) g14 ++ []) (.of_eq (List.append_nil _)) ?_
      refine Ej.keepR valC_len (by decide) hg14 rfl (fun I8 hle8 hw8 => ?_)
      refine q6 ?_
      exact ⟨_, rfl, hw8, rfl⟩
     have hg11p := nbf hg11
     exact absurd h45 (nbf hg11)
    have hg5p := odf hg5
    have hdg : ¬ Ke.digit c = true := by rw [Ix.digit_nat]; have h := odf hg5; simp only [decide_eq_true_eq]; omega
    refine q4 15 33 34 true hg5 ?_
    refine q4 15 33 35 true hg5 ?_
    refine q4 15 33 36 true hg5 ?_
    refine q4 15 33 37 true hg5 ?_
    refine J.z (q9 hg5) ?_
    refine J.c0 (fun hc15 => ?_)
    refine Cj.ks (Cj.seq ?_)
    have hsk : Ix.skipT f = 0 := (if_pos h45).trans ((skip_char hget).trans (if_neg hdg))
    refine Cj.region (J.z (q5 (off' := 0) tU31 tS9) ?_)
    refine J.z (q18 tA9) ?_
    refine J.z q31 ?_
    refine J.z q0 ?_
    refine q15 47 (fun hg16 => ?_) (fun hg16 => ?_)
    ·
     have hg16p := ebq hg16
     have htt : f.tag = [50, 52, 53] ∨ f.tag = [50, 52, 54] := .inl h45
     refine q4 3 47 48 false hg16 ?_
     refine q4 3 47 49 false hg16 ?_
     refine q4 3 47 50 false hg16 ?_
     refine J.z (q11 hg16) ?_
     refine J.c1 (fun hc17 => ?_)
     refine Cj.region (J.z q0 ?_)
     refine J.z (q35 tA31 tS31) ?_
     refine J.op rfl (op_pure rfl rfl rfl rfl rfl (rText_ok f [97, 98] (by decide) hn2 htx _ hr) ?_)
     refine J.z q0 ?_
     refine J.z (yl_buildS (pl := #[(0, 1), (1, 1)]) rfl rfl tZ104 rfl tU104 (fun w => by simp []) (LBld.part rfl rfl rfl (LSpl.c LSpl.z) (LBld.part rfl rfl rfl (LSpl.s (LSpl.c LSpl.z)) LBld.none))) ?_
     refine J.op rfl (q44 tU101 tS104 tZ104 ?_)
     intro b18 hb18
     refine J.op rfl (op_append (by' := 23) (n := 0) (g := none) (xs := []) [_, _] rfl rfl rfl rfl rfl tU101 (.inr ⟨_, tU101⟩) (by kernel_rfl) tS104 tZ104 rfl ⟨rfl, rfl⟩ rfl (Src.slice (Blk.at 0 rfl) rfl rfl rfl) (by omega) ?_)
     intro g19 hg19
     refine J.z q1 ?_
     refine J.nb (Cj.sr (J.z q0 ?_))
     refine J.z q1 ?_
     refine J.ns (Cj.ret (Ej.keep (Keeps.d (Keeps.d Keeps.r)) ?_))
     have hof : Ix.ofN f n = [(Ke.textOf f [97, 98], 0)] := (of_title hn).trans (by rw [if_pos htt, hsk])
     rw [hof]
     refine Ej.perm (H' := gH 104 (List.flatMap valC ([(Ke.textOf f [97, 98], 0)])) g19 ++ []) (.of_eq (List.append_nil _)) ?_
     refine Ej.keepR valC_len (by decide) hg19 rfl (fun I8 hle8 hw8 => ?_)
     refine q6 ?_
     exact ⟨_, rfl, hw8, rfl⟩
    have hg16p := nbf hg16
    exact absurd h45 (nbf hg16)
   have hg4p := odf hg4
   have hl1 : ¬ 1 < f.ind.length := by have h := odf hg4; omega
   refine q4 9 27 28 true hg4 ?_
   refine q4 9 27 29 true hg4 ?_
   refine q4 9 27 30 true hg4 ?_
   refine q4 9 27 31 true hg4 ?_
   refine J.z (q9 hg4) ?_
   refine J.z q0 ?_
   refine q33 15 33 34 true ?_
   refine q33 15 33 35 true ?_
   refine q33 15 33 36 true ?_
   refine q33 15 33 37 true ?_
   refine J.z q30 ?_
   refine J.c0 (fun hc20 => ?_)
   refine Cj.ks (Cj.seq ?_)
   have hsk : Ix.skipT f = 0 := (if_pos h45).trans (skip_no hl1)
   refine Cj.region (J.z (q5 (off' := 0) tU31 tS9) ?_)
   refine J.z (q18 tA9) ?_
   refine J.z q31 ?_
   refine J.z q0 ?_
   refine q15 47 (fun hg21 => ?_) (fun hg21 => ?_)
   ·
    have hg21p := ebq hg21
    have htt : f.tag = [50, 52, 53] ∨ f.tag = [50, 52, 54] := .inl h45
    refine q4 3 47 48 false hg21 ?_
    refine q4 3 47 49 false hg21 ?_
    refine q4 3 47 50 false hg21 ?_
    refine J.z (q11 hg21) ?_
    refine J.c1 (fun hc22 => ?_)
    refine Cj.region (J.z q0 ?_)
    refine J.z (q35 tA31 tS31) ?_
    refine J.op rfl (op_pure rfl rfl rfl rfl rfl (rText_ok f [97, 98] (by decide) hn2 htx _ hr) ?_)
    refine J.z q0 ?_
    refine J.z (yl_buildS (pl := #[(0, 1), (1, 1)]) rfl rfl tZ104 rfl tU104 (fun w => by simp []) (LBld.part rfl rfl rfl (LSpl.c LSpl.z) (LBld.part rfl rfl rfl (LSpl.s (LSpl.c LSpl.z)) LBld.none))) ?_
    refine J.op rfl (q44 tU101 tS104 tZ104 ?_)
    intro b23 hb23
    refine J.op rfl (op_append (by' := 23) (n := 0) (g := none) (xs := []) [_, _] rfl rfl rfl rfl rfl tU101 (.inr ⟨_, tU101⟩) (by kernel_rfl) tS104 tZ104 rfl ⟨rfl, rfl⟩ rfl (Src.slice (Blk.at 0 rfl) rfl rfl rfl) (by omega) ?_)
    intro g24 hg24
    refine J.z q1 ?_
    refine J.nb (Cj.sr (J.z q0 ?_))
    refine J.z q1 ?_
    refine J.ns (Cj.ret (Ej.keep (Keeps.d (Keeps.d Keeps.r)) ?_))
    have hof : Ix.ofN f n = [(Ke.textOf f [97, 98], 0)] := (of_title hn).trans (by rw [if_pos htt, hsk])
    rw [hof]
    refine Ej.perm (H' := gH 104 (List.flatMap valC ([(Ke.textOf f [97, 98], 0)])) g24 ++ []) (.of_eq (List.append_nil _)) ?_
    refine Ej.keepR valC_len (by decide) hg24 rfl (fun I8 hle8 hw8 => ?_)
    refine q6 ?_
    exact ⟨_, rfl, hw8, rfl⟩
   have hg21p := nbf hg21
   exact absurd h45 (nbf hg21)
  have hg3p := nbf hg3
  have h45 : f.tag ≠ [50, 52, 53] := nbf hg3
  refine q4 3 21 22 true hg3 ?_
  refine q4 3 21 23 true hg3 ?_
  refine q4 3 21 24 true hg3 ?_
  refine q4 3 21 25 true hg3 ?_
  refine J.z (q9 hg3) ?_
  refine J.z q0 ?_
  refine q33 9 27 28 true ?_
  refine q33 9 27 29 true ?_
  refine q33 9 27 30 true ?_
  refine q33 9 27 31 true ?_
  refine J.z q30 ?_
  refine J.z q0 ?_
  refine q33 15 33 34 true ?_
  refine q33 15 33 35 true ?_
  refine q33 15 33 36 true ?_
  refine q33 15 33 37 true ?_
  refine J.z q30 ?_
  refine J.c0 (fun hc25 => ?_)
  refine Cj.ks (Cj.seq ?_)
  have hsk : Ix.skipT f = 0 := if_neg h45
  refine Cj.region (J.z (q5 (off' := 0) tU31 tS9) ?_)
  refine J.z (q18 tA9) ?_
  refine J.z q31 ?_
  refine J.z q0 ?_
  refine q15 47 (fun hg26 => ?_) (fun hg26 => ?_)
  ·
   have hg26p := ebq hg26
   exact absurd (ebq hg26) h45
  have hg26p := nbf hg26
  refine q3 3 47 false hg26 (q2 (q5 (off' := 0) tU31 tS9) ?_)
  refine q3 3 47 false hg26 (q2 (q18 tA9) ?_)
  refine q3 3 47 false hg26 (q2 q31 ?_)
  refine J.z (q9 hg26) ?_
  refine J.cd (fun hc27 => ?_) (fun hc27 => ?_)
  ·
   have hc27p := ebq hc27
   have htt : f.tag = [50, 52, 53] ∨ f.tag = [50, 52, 54] := .inr (ebq hc27)
   refine Cj.region (J.z q0 ?_)
   refine J.z (q35 tA31 tS31) ?_
   refine J.op rfl (op_pure rfl rfl rfl rfl rfl (rText_ok f [97, 98] (by decide) hn2 htx _ hr) ?_)
   refine J.z q0 ?_
   refine J.z (yl_buildS (pl := #[(0, 1), (1, 1)]) rfl rfl tZ104 rfl tU104 (fun w => by simp []) (LBld.part rfl rfl rfl (LSpl.c LSpl.z) (LBld.part rfl rfl rfl (LSpl.s (LSpl.c LSpl.z)) LBld.none))) ?_
   refine J.op rfl (q44 tU101 tS104 tZ104 ?_)
   intro b28 hb28
   refine J.op rfl (op_append (by' := 23) (n := 0) (g := none) (xs := []) [_, _] rfl rfl rfl rfl rfl tU101 (.inr ⟨_, tU101⟩) (by kernel_rfl) tS104 tZ104 rfl ⟨rfl, rfl⟩ rfl (Src.slice (Blk.at 0 rfl) rfl rfl rfl) (by omega) ?_)
   intro g29 hg29
   refine J.z q1 ?_
   refine J.nb (Cj.sr (J.z q0 ?_))
   refine J.z q1 ?_
   refine J.ns (Cj.ret (Ej.keep (Keeps.d (Keeps.d Keeps.r)) ?_))
   have hof : Ix.ofN f n = [(Ke.textOf f [97, 98], 0)] := (of_title hn).trans (by rw [if_pos htt, hsk])
   rw [hof]
   refine Ej.perm (H' := gH 104 (List.flatMap valC ([(Ke.textOf f [97, 98], 0)])) g29 ++ []) (.of_eq (List.append_nil _)) ?_
   refine Ej.keepR valC_len (by decide) hg29 rfl (fun I8 hle8 hw8 => ?_)
   refine q6 ?_
   exact ⟨_, rfl, hw8, rfl⟩
  have hc27p := nbf hc27
  have htt : ¬ (f.tag = [50, 52, 53] ∨ f.tag = [50, 52, 54]) := fun g => g.elim h45 (nbf hc27)
  refine Cj.kb (Cj.sr (J.z q0 ?_))
  refine J.z q1 ?_
  refine J.ns (Cj.ret ?_)
  have hof : Ix.ofN f n = [] := (of_title hn).trans (if_neg htt)
  rw [hof]
  refine Ej.bare ?_
  refine q6 ?_
  exact ⟨_, rfl, RowS.nil, rfl⟩
 have hc2p := nbf hc2
 have nn16 : n ≠ Ix.nTitle := nbf hc2
 refine Cj.sr (J.z q31 ?_)
 refine J.z q1 ?_
 refine J.cd (fun hc30 => ?_) (fun hc30 => ?_)
 ·
  have hc30p := ebq hc30
  have hn : n = Ix.nAuthor := ebq hc30
  refine Cj.sr (J.z (q5 (off' := 0) tU31 tS9) ?_)
  refine J.z (q18 tA9) ?_
  refine J.z q31 ?_
  refine J.z q0 ?_
  refine q15 64 (fun hg31 => ?_) (fun hg31 => ?_)
  ·
   have hg31p := ebq hg31
   have h100 : f.tag = [49, 48, 48] := ebq hg31
   have htt : f.tag = [49, 48, 48] ∨ f.tag = [49, 49, 48] ∨ f.tag = [55, 48, 48] := .inl h100
   refine q4 3 64 65 false hg31 ?_
   refine q4 3 64 66 false hg31 ?_
   refine q4 3 64 67 false hg31 ?_
   refine J.z (q11 hg31) ?_
   refine J.z q0 ?_
   refine q33 8 69 70 false ?_
   refine q33 8 69 71 false ?_
   refine q33 8 69 72 false ?_
   refine J.z (yl_pick1 rfl rfl rfl rfl) ?_
   refine J.c1 (fun hc32 => ?_)
   refine Cj.region (J.z q0 ?_)
   refine J.z (q35 tA31 tS31) ?_
   refine J.op rfl (op_pure rfl rfl rfl rfl rfl (rText_ok f [97] (by decide) hn2 htx _ hr) ?_)
   refine J.z (yl_buildS (pl := #[(0, 1), (1, 1)]) rfl rfl tZ104 rfl tU104 (fun w => by simp []) (LBld.part rfl rfl rfl (LSpl.c LSpl.z) LBld.none)) ?_
   refine J.op rfl (q44 tU101 tS104 tZ104 ?_)
   intro b33 hb33
   refine J.op rfl (op_append (by' := 23) (n := 0) (g := none) (xs := []) [_, _] rfl rfl rfl rfl rfl tU101 (.inr ⟨_, tU101⟩) (by kernel_rfl) tS104 tZ104 rfl ⟨rfl, rfl⟩ rfl (Src.slice (Blk.at 0 rfl) rfl rfl rfl) (by omega) ?_)
   intro g34 hg34
   refine J.z q1 ?_
   refine J.nb (Cj.sr (J.z q0 ?_))
   refine J.z q1 ?_
   refine J.ns (Cj.ret (Ej.keep (Keeps.d (Keeps.d Keeps.r)) ?_))
   have hof : Ix.ofN f n = [(Ke.textOf f [97], 0)] := (of_author hn).trans (if_pos htt)
   rw [hof]
   refine Ej.perm (H' := gH 104 (List.flatMap valC ([(Ke.textOf f [97], 0)])) g34 ++ []) (.of_eq (List.append_nil _)) ?_
   refine Ej.keepR valC_len (by decide) hg34 rfl (fun I8 hle8 hw8 => ?_)
   refine q6 ?_
   exact ⟨_, rfl, hw8, rfl⟩
  have hg31p := nbf hg31
  have h100 : f.tag ≠ [49, 48, 48] := nbf hg31
  refine q3 3 64 false hg31 (q2 (q5 (off' := 0) tU31 tS9) ?_)
  refine q3 3 64 false hg31 (q2 (q18 tA9) ?_)
  refine q3 3 64 false hg31 (q2 q31 ?_)
  refine J.z (q9 hg31) ?_
  refine J.z q0 ?_
  refine q15 69 (fun hg35 => ?_) (fun hg35 => ?_)
  ·
   have hg35p := ebq hg35
   have h110 : f.tag = [49, 49, 48] := ebq hg35
   have htt : f.tag = [49, 48, 48] ∨ f.tag = [49, 49, 48] ∨ f.tag = [55, 48, 48] := .inr (.inl h110)
   refine q4 8 69 70 false hg35 ?_
   refine q4 8 69 71 false hg35 ?_
   refine q4 8 69 72 false hg35 ?_
   refine J.z (q11 hg35) ?_
   refine J.c1 (fun hc36 => ?_)
   refine Cj.region (J.z q0 ?_)
   refine J.z (q35 tA31 tS31) ?_
   refine J.op rfl (op_pure rfl rfl rfl rfl rfl (rText_ok f [97] (by decide) hn2 htx _ hr) ?_)
   refine J.z (yl_buildS (pl := #[(0, 1), (1, 1)]) rfl rfl tZ104 rfl tU104 (fun w => by simp []) (LBld.part rfl rfl rfl (LSpl.c LSpl.z) LBld.none)) ?_
   refine J.op rfl (q44 tU101 tS104 tZ104 ?_)
   intro b37 hb37
   refine J.op rfl (op_append (by' := 23) (n := 0) (g := none) (xs := []) [_, _] rfl rfl rfl rfl rfl tU101 (.inr ⟨_, tU101⟩) (by kernel_rfl) tS104 tZ104 rfl ⟨rfl, rfl⟩ rfl (Src.slice (Blk.at 0 rfl) rfl rfl rfl) (by omega) ?_)
   intro g38 hg38
   refine J.z q1 ?_
   refine J.nb (Cj.sr (J.z q0 ?_))
   refine J.z q1 ?_
   refine J.ns (Cj.ret (Ej.keep (Keeps.d (Keeps.d Keeps.r)) ?_))
   have hof : Ix.ofN f n = [(Ke.textOf f [97], 0)] := (of_author hn).trans (if_pos htt)
   rw [hof]
   refine Ej.perm (H' := gH 104 (List.flatMap valC ([(Ke.textOf f [97], 0)])) g38 ++ []) (.of_eq (List.append_nil _)) ?_
   refine Ej.keepR valC_len (by decide) hg38 rfl (fun I8 hle8 hw8 => ?_)
   refine q6 ?_
   exact ⟨_, rfl, hw8, rfl⟩
  have hg35p := nbf hg35
  have h110 : f.tag ≠ [49, 49, 48] := nbf hg35
  refine q3 8 69 false hg35 (q2 (q5 (off' := 0) tU31 tS9) ?_)
  refine q3 8 69 false hg35 (q2 (q18 tA9) ?_)
  refine q3 8 69 false hg35 (q2 q31 ?_)
  refine J.z (q9 hg35) ?_
  refine J.cd (fun hc39 => ?_) (fun hc39 => ?_)
  ·
   have hc39p := ebq hc39
   have htt : f.tag = [49, 48, 48] ∨ f.tag = [49, 49, 48] ∨ f.tag = [55, 48, 48] := .inr (.inr (ebq hc39))
   refine Cj.region (J.z q0 ?_)
   refine J.z (q35 tA31 tS31) ?_
   refine J.op rfl (op_pure rfl rfl rfl rfl rfl (rText_ok f [97] (by decide) hn2 htx _ hr) ?_)
   refine J.z (yl_buildS (pl := #[(0, 1), (1, 1)]) rfl rfl tZ104 rfl tU104 (fun w => by simp []) (LBld.part rfl rfl rfl (LSpl.c LSpl.z) LBld.none)) ?_
   refine J.op rfl (q44 tU101 tS104 tZ104 ?_)
   intro b40 hb40
   refine J.op rfl (op_append (by' := 23) (n := 0) (g := none) (xs := []) [_, _] rfl rfl rfl rfl rfl tU101 (.inr ⟨_, tU101⟩) (by kernel_rfl) tS104 tZ104 rfl ⟨rfl, rfl⟩ rfl (Src.slice (Blk.at 0 rfl) rfl rfl rfl) (by omega) ?_)
   intro g41 hg41
   refine J.z q1 ?_
   refine J.nb (Cj.sr (J.z q0 ?_))
   refine J.z q1 ?_
   refine J.ns (Cj.ret (Ej.keep (Keeps.d (Keeps.d Keeps.r)) ?_))
   have hof : Ix.ofN f n = [(Ke.textOf f [97], 0)] := (of_author hn).trans (if_pos htt)
   rw [hof]
   refine Ej.perm (H' := gH 104 (List.flatMap valC ([(Ke.textOf f [97], 0)])) g41 ++ []) (.of_eq (List.append_nil _)) ?_
   refine Ej.keepR valC_len (by decide) hg41 rfl (fun I8 hle8 hw8 => ?_)
   refine q6 ?_
   exact ⟨_, rfl, hw8, rfl⟩
  have hc39p := nbf hc39
  have htt : ¬ (f.tag = [49, 48, 48] ∨ f.tag = [49, 49, 48] ∨ f.tag = [55, 48, 48]) := fun g => g.elim h100 fun g => g.elim h110 (nbf hc39)
  refine Cj.kb (Cj.sr (J.z q0 ?_))
  refine J.z q1 ?_
  refine J.ns (Cj.ret ?_)
  have hof : Ix.ofN f n = [] := (of_author hn).trans (if_neg htt)
  rw [hof]
  refine Ej.bare ?_
  refine q6 ?_
  exact ⟨_, rfl, RowS.nil, rfl⟩
 have hc30p := nbf hc30
 have nn59 : n ≠ Ix.nAuthor := nbf hc30
 refine Cj.sr (J.z q31 ?_)
 refine J.z q1 ?_
 refine J.cd (fun hc42 => ?_) (fun hc42 => ?_)
 ·
  have hc42p := ebq hc42
  have hn : n = Ix.nSubject := ebq hc42
  refine Cj.sr (J.z (q5 (off' := 0) tU31 tS9) ?_)
  refine J.z (q18 tA9) ?_
  refine J.z q31 ?_
  refine J.z q0 ?_
  refine q15 85 (fun hg43 => ?_) (fun hg43 => ?_)
  ·
   have hg43p := ebq hg43
   have h600 : f.tag = [54, 48, 48] := ebq hg43
   have htt : f.tag = [54, 48, 48] ∨ f.tag = [54, 53, 48] := .inl h600
   refine q4 3 85 86 false hg43 ?_
   refine q4 3 85 87 false hg43 ?_
   refine q4 3 85 88 false hg43 ?_
   refine J.z (q11 hg43) ?_
   refine J.c1 (fun hc44 => ?_)
   refine Cj.region (J.z q0 ?_)
   refine J.z (q35 tA31 tS31) ?_
   refine J.op rfl (op_pure rfl rfl rfl rfl rfl (rText_ok f [97, 120] (by decide) hn2 htx _ hr) ?_)
   refine J.z (yl_buildS (pl := #[(0, 1), (1, 1)]) rfl rfl tZ104 rfl tU104 (fun w => by simp []) (LBld.part rfl rfl rfl (LSpl.c LSpl.z) LBld.none)) ?_
   refine J.op rfl (q44 tU101 tS104 tZ104 ?_)
   intro b45 hb45
   refine J.op rfl (op_append (by' := 23) (n := 0) (g := none) (xs := []) [_, _] rfl rfl rfl rfl rfl tU101 (.inr ⟨_, tU101⟩) (by kernel_rfl) tS104 tZ104 rfl ⟨rfl, rfl⟩ rfl (Src.slice (Blk.at 0 rfl) rfl rfl rfl) (by omega) ?_)
   intro g46 hg46
   refine J.z q1 ?_
   refine J.nb (Cj.sr (J.z q0 ?_))
   refine J.z q1 ?_
   refine J.ns (Cj.ret (Ej.keep (Keeps.d (Keeps.d Keeps.r)) ?_))
   have hof : Ix.ofN f n = [(Ke.textOf f [97, 120], 0)] := (of_subject hn).trans (if_pos htt)
   rw [hof]
   refine Ej.perm (H' := gH 104 (List.flatMap valC ([(Ke.textOf f [97, 120], 0)])) g46 ++ []) (.of_eq (List.append_nil _)) ?_
   refine Ej.keepR valC_len (by decide) hg46 rfl (fun I8 hle8 hw8 => ?_)
   refine q6 ?_
   exact ⟨_, rfl, hw8, rfl⟩
  have hg43p := nbf hg43
  have h600 : f.tag ≠ [54, 48, 48] := nbf hg43
  refine q3 3 85 false hg43 (q2 (q5 (off' := 0) tU31 tS9) ?_)
  refine q3 3 85 false hg43 (q2 (q18 tA9) ?_)
  refine q3 3 85 false hg43 (q2 q31 ?_)
  refine J.z (q9 hg43) ?_
  refine J.cd (fun hc47 => ?_) (fun hc47 => ?_)
  ·
   have hc47p := ebq hc47
   have htt : f.tag = [54, 48, 48] ∨ f.tag = [54, 53, 48] := .inr (ebq hc47)
   refine Cj.region (J.z q0 ?_)
   refine J.z (q35 tA31 tS31) ?_
   refine J.op rfl (op_pure rfl rfl rfl rfl rfl (rText_ok f [97, 120] (by decide) hn2 htx _ hr) ?_)
   refine J.z (yl_buildS (pl := #[(0, 1), (1, 1)]) rfl rfl tZ104 rfl tU104 (fun w => by simp []) (LBld.part rfl rfl rfl (LSpl.c LSpl.z) LBld.none)) ?_
   refine J.op rfl (q44 tU101 tS104 tZ104 ?_)
   intro b48 hb48
   refine J.op rfl (op_append (by' := 23) (n := 0) (g := none) (xs := []) [_, _] rfl rfl rfl rfl rfl tU101 (.inr ⟨_, tU101⟩) (by kernel_rfl) tS104 tZ104 rfl ⟨rfl, rfl⟩ rfl (Src.slice (Blk.at 0 rfl) rfl rfl rfl) (by omega) ?_)
   intro g49 hg49
   refine J.z q1 ?_
   refine J.nb (Cj.sr (J.z q0 ?_))
   refine J.z q1 ?_
   refine J.ns (Cj.ret (Ej.keep (Keeps.d (Keeps.d Keeps.r)) ?_))
   have hof : Ix.ofN f n = [(Ke.textOf f [97, 120], 0)] := (of_subject hn).trans (if_pos htt)
   rw [hof]
   refine Ej.perm (H' := gH 104 (List.flatMap valC ([(Ke.textOf f [97, 120], 0)])) g49 ++ []) (.of_eq (List.append_nil _)) ?_
   refine Ej.keepR valC_len (by decide) hg49 rfl (fun I8 hle8 hw8 => ?_)
   refine q6 ?_
   exact ⟨_, rfl, hw8, rfl⟩
  have hc47p := nbf hc47
  have htt : ¬ (f.tag = [54, 48, 48] ∨ f.tag = [54, 53, 48]) := fun g => g.elim h600 (nbf hc47)
  refine Cj.kb (Cj.sr (J.z q0 ?_))
  refine J.z q1 ?_
  refine J.ns (Cj.ret ?_)
  have hof : Ix.ofN f n = [] := (of_subject hn).trans (if_neg htt)
  rw [hof]
  refine Ej.bare ?_
  refine q6 ?_
  exact ⟨_, rfl, RowS.nil, rfl⟩
 have hc42p := nbf hc42
 have nn80 : n ≠ Ix.nSubject := nbf hc42
 refine Cj.sr (J.z q31 ?_)
 refine J.z q1 ?_
 refine J.cd (fun hc50 => ?_) (fun hc50 => ?_)
 ·
  have hc50p := ebq hc50
  have hn : n = Ix.nIsbn := ebq hc50
  refine Cj.sr (J.z q1 ?_)
  refine J.ns (Cj.block (Cj.loop (ι := Nat × Gs) (fun y => y.1 ≤ f.subs.length ∧ (y.1 = 0 ∨ f.tag = [48, 50, 48]) ∧ gOk w0.heap.size 2 (psL Ke.isbn 97 (f.subs.take y.1)).length ((psL Ke.isbn 97 (f.subs.take y.1)).flatMap valC) y.2) (fun y => f.subs.length - y.1) (fun y => [(1, str n), (2, ptr b1 0), (5, gV (psL Ke.isbn 97 (f.subs.take y.1)).length y.2), (7, i64 (y.1 : Int))]) (fun y => _) (fun y => (b1, cel 31 (fldC f)) :: gH 104 ((psL Ke.isbn 97 (f.subs.take y.1)).flatMap valC) y.2) (0, none) ⟨Nat.zero_le _, .inl rfl, rfl, rfl⟩ ⟨rfl, rfl, rfl, rfl, trivial⟩ rfl rfl ?_))
  rintro ⟨j, g⟩ ⟨hj, hj0, hg⟩
  dsimp only at hj hj0 hg ⊢
  have hpl := psL_len Ke.isbn 97 (f.subs.take j)
  rw [List.length_take, Nat.min_eq_left hj] at hpl
  refine Cj.seq (Cj.sr (J.z q0 ?_))
  refine J.z (q5 (off' := 3) tU31 tS29) ?_
  refine J.z (q18 tA29) ?_
  refine J.eqv 100 rfl (show _ = .slice p2 f.subs.length c2 from hsv) ?_
  refine J.z (q14 tU29) ?_
  refine J.z q16 ?_
  refine J.z q0 ?_
  refine q15 103 (fun hg51 => ?_) (fun hg51 => ?_)
  ·
   have hg51p := odt hg51
   have hlt : j < f.subs.length := by omega
   obtain ⟨sb, hsget⟩ : ∃ x, f.subs[j]? = some x := ⟨_, lgg hlt⟩
   obtain ⟨sbk, so, scs, sty, sfr, sp2, rfl, hsbk, hsd⟩ := hp2 (ne_nil_of hlt)
   have hxl := text_mem (lmg hsget)
   have hnx := psL_next (u := Ke.isbn) (c := 97) hsget
   refine q3 5 103 true hg51 (q2 (q5 (off' := 0) tU31 tS9) ?_)
   refine q3 5 103 true hg51 (q2 (q18 tA9) ?_)
   refine q3 5 103 true hg51 (q2 q31 ?_)
   refine J.z (q11 hg51) ?_
   refine J.cd (fun hc52 => ?_) (fun hc52 => ?_)
   ·
    have hc52p := ebq hc52
    have htg : f.tag = [48, 50, 48] := ebq hc52
    refine Cj.ks (Cj.seq (Cj.block (Cj.sr (J.z (q5 (off' := 3) tU31 tS29) ?_))))
    refine J.z (q18 tA29) ?_
    refine J.eqv 112 rfl (show _ = .slice (some ⟨sbk, so, none⟩) f.subs.length c2 from hsv) ?_
    refine J.z q0 ?_
    refine J.z (q20 (off' := so + j * 2) tU29 tS65) ?_
    refine J.z (q5 (off' := so + j * 2 + 1) tU65 tS9) ?_
    refine J.z (yl_load rfl rfl tA9 (Blk.imm hsbk) (row_fcell subC_len hsd hsget 1 (by decide))) ?_
    refine J.op rfl (op_pure rfl rfl rfl rfl rfl (rIsbn_ok sb.text (by omega) _) ?_)
    refine J.z q0 ?_
    refine J.z q25 ?_
    refine J.z q25 ?_
    refine J.z q1 ?_
    refine J.z q1 ?_
    refine J.nssr (J.z q0 ?_)
    refine J.z q0 ?_
    refine q15 121 (fun hg53 => ?_) (fun hg53 => ?_)
    ·
     have hok : (Ke.isbn sb.text).2 = true := hg53
     refine q3 1 121 true hg53 (q2 (q5 (off' := 3) tU31 tS29) ?_)
     refine q3 1 121 true hg53 (q2 (q18 tA29) ?_)
     refine J.eqv 123 rfl (show _ = .slice (some ⟨sbk, so, none⟩) f.subs.length c2 from hsv) ?_
     refine q3 1 121 true hg53 (q2 q0 ?_)
     refine J.opG 1 121 true _ rfl rfl rfl hg53 (op_yld (q20 (off' := so + j * 2) tU29 tS65) rfl rfl ?_)
     refine q3 1 121 true hg53 (q2 (q5 tU65 tS5) ?_)
     refine J.opG 1 121 true _ rfl rfl rfl hg53 (op_yld (yl_load rfl rfl tA5 (Blk.imm hsbk) (row_fcell subC_len hsd hsget 0 (by decide))) rfl rfl ?_)
     refine q3 1 121 true hg53 (q2 q22 ?_)
     refine J.z (q11 hg53) ?_
     refine J.cd (fun hc54 => ?_) (fun hc54 => ?_)
     ·
      have hc54p := ebq hc54
      have hcd : sb.code = 97 := UInt8.toNat_inj.1 (by have h := ebq hc54; show sb.code.toNat = 97; omega)
      rw [if_pos ⟨hok, hcd⟩] at hnx
      refine Cj.region (J.z q0 ?_)
      refine J.z q0 ?_
      refine J.z (yl_buildS (pl := #[(0, 1), (1, 1)]) rfl rfl tZ104 rfl tU104 (fun w => by simp []) (LBld.part rfl rfl rfl (LSpl.c LSpl.z) LBld.none)) ?_
      refine J.op rfl (q44 tU101 tS104 tZ104 ?_)
      intro b55 hb55
      refine J.op rfl (op_append (by' := 23) [_, _] rfl rfl rfl rfl rfl tU101 (.inr ⟨_, tU101⟩) (by kernel_rfl) tS104 tZ104 rfl hg rfl (Src.slice (Blk.at 0 rfl) rfl rfl rfl) (by omega) ?_)
      intro g56 hg56
      refine J.z q1 ?_
      refine J.nb (Cj.region (J.z q0 ?_))
      refine J.z q7 ?_
      refine J.z q1 ?_
      refine J.nil (Ej.keep (Keeps.d (Keeps.k Keeps.r)) ?_)
      refine Ej.round (j + 1, g56) ⟨by dsimp only; omega, .inr htg, by dsimp only; rw [hnx, List.length_append, List.flatMap_append]; exact hg56⟩ (by dsimp only; omega) ⟨rfl, rfl, by dsimp only; rw [hnx, List.length_append]; rfl, rfl, trivial⟩ rfl (by dsimp only; rw [hnx, List.flatMap_append]; rfl)
     have hc54p := nbf hc54
     rw [if_neg (fun g => nbf hc54 (by rw [g.2]; rfl))] at hnx
     refine Cj.kb (Cj.region (J.z q0 ?_))
     refine J.z q7 ?_
     refine J.z q1 ?_
     refine J.nil (Ej.round (j + 1, g) ⟨by dsimp only; omega, .inr htg, by dsimp only; rw [hnx, List.append_nil]; exact hg⟩ (by dsimp only; omega) ⟨rfl, rfl, by dsimp only; rw [hnx, List.append_nil]; rfl, rfl, trivial⟩ rfl (by dsimp only; rw [hnx, List.append_nil]))
    rw [if_neg (fun g => Bool.noConfusion (g.1.symm.trans hg53))] at hnx
    refine q4 1 121 122 true hg53 ?_
    refine q4 1 121 123 true hg53 ?_
    refine q4 1 121 124 true hg53 ?_
    refine q4 1 121 125 true hg53 ?_
    refine q4 1 121 126 true hg53 ?_
    refine q4 1 121 127 true hg53 ?_
    refine q4 1 121 128 true hg53 ?_
    refine J.z (q9 hg53) ?_
    refine J.c0 (fun hc57 => ?_)
    refine Cj.kb (Cj.region (J.z q0 ?_))
    refine J.z q7 ?_
    refine J.z q1 ?_
    refine J.nil (Ej.round (j + 1, g) ⟨by dsimp only; omega, .inr htg, by dsimp only; rw [hnx, List.append_nil]; exact hg⟩ (by dsimp only; omega) ⟨rfl, rfl, by dsimp only; rw [hnx, List.append_nil]; rfl, rfl, trivial⟩ rfl (by dsimp only; rw [hnx, List.append_nil]))
   have hc52p := nbf hc52
   have htn : f.tag ≠ [48, 50, 48] := nbf hc52
   refine Cj.exit (Ej.seqExit (Ej.loopExit (Ej.blkExit (Ej.blkNormal (Ej.seq (Cj.sr (J.z q0 ?_)))))))
   refine J.z q1 ?_
   refine J.ns (Cj.ret (Ej.keep (Keeps.d Keeps.r) ?_))
   have hof : Ix.ofN f n = psL Ke.isbn 97 (f.subs.take j) := (of_isbn hn).trans (ps_no hj0 htn)
   rw [hof]
   refine Ej.perm (H' := gH 104 (List.flatMap valC (psL Ke.isbn 97 (f.subs.take j))) g ++ []) (.of_eq (List.append_nil _)) ?_
   refine Ej.keepR valC_len (by decide) hg rfl (fun I8 hle8 hw8 => ?_)
   refine q6 ?_
   exact ⟨_, rfl, hw8, rfl⟩
  have hg51p := odf hg51
  refine q4 5 103 104 true hg51 ?_
  refine q4 5 103 105 true hg51 ?_
  refine q4 5 103 106 true hg51 ?_
  refine J.z (q9 hg51) ?_
  refine J.c0 (fun hc58 => ?_)
  refine Cj.exit (Ej.seqExit (Ej.loopExit (Ej.blkExit (Ej.blkNormal (Ej.seq (Cj.sr (J.z q0 ?_)))))))
  refine J.z q1 ?_
  refine J.ns (Cj.ret (Ej.keep (Keeps.d Keeps.r) ?_))
  have hof : Ix.ofN f n = psL Ke.isbn 97 (f.subs.take j) := (of_isbn hn).trans (ps_end hj0 (by omega))
  rw [hof]
  refine Ej.perm (H' := gH 104 (List.flatMap valC (psL Ke.isbn 97 (f.subs.take j))) g ++ []) (.of_eq (List.append_nil _)) ?_
  refine Ej.keepR valC_len (by decide) hg rfl (fun I8 hle8 hw8 => ?_)
  refine q6 ?_
  exact ⟨_, rfl, hw8, rfl⟩
 have hc50p := nbf hc50
 have nn96 : n ≠ Ix.nIsbn := nbf hc50
 refine Cj.sr (J.z q31 ?_)
 refine J.z q1 ?_
 refine J.cd (fun hc59 => ?_) (fun hc59 => ?_)
 ·
  have hc59p := ebq hc59
  have hn : n = Ix.nYear := ebq hc59
  refine Cj.sr (J.z q1 ?_)
  refine J.ns (Cj.block (Cj.loop (ι := Nat × Gs) (fun y => y.1 ≤ f.subs.length ∧ (y.1 = 0 ∨ f.tag = [50, 54, 48]) ∧ gOk w0.heap.size 2 (psL uy 99 (f.subs.take y.1)).length ((psL uy 99 (f.subs.take y.1)).flatMap valC) y.2) (fun y => f.subs.length - y.1) (fun y => [(1, str n), (2, ptr b1 0), (5, gV (psL uy 99 (f.subs.take y.1)).length y.2), (10, i64 (y.1 : Int))]) (fun y => _) (fun y => (b1, cel 31 (fldC f)) :: gH 104 ((psL uy 99 (f.subs.take y.1)).flatMap valC) y.2) (0, none) ⟨Nat.zero_le _, .inl rfl, rfl, rfl⟩ ⟨rfl, rfl, rfl, rfl, trivial⟩ rfl rfl ?_))
  rintro ⟨j, g⟩ ⟨hj, hj0, hg⟩
  dsimp only at hj hj0 hg ⊢
  have hpl := psL_len uy 99 (f.subs.take j)
  rw [List.length_take, Nat.min_eq_left hj] at hpl
  refine Cj.seq (Cj.sr (J.z q0 ?_))
  refine J.z (q5 (off' := 3) tU31 tS29) ?_
  refine J.z (q18 tA29) ?_
  refine J.eqv 139 rfl (show _ = .slice p2 f.subs.length c2 from hsv) ?_
  refine J.z (q14 tU29) ?_
  refine J.z q16 ?_
  refine J.z q0 ?_
  refine q15 142 (fun hg60 => ?_) (fun hg60 => ?_)
  ·
   have hg60p := odt hg60
   have hlt : j < f.subs.length := by omega
   obtain ⟨sb, hsget⟩ : ∃ x, f.subs[j]? = some x := ⟨_, lgg hlt⟩
   obtain ⟨sbk, so, scs, sty, sfr, sp2, rfl, hsbk, hsd⟩ := hp2 (ne_nil_of hlt)
   have hxl := text_mem (lmg hsget)
   have hnx := psL_next (u := uy) (c := 99) hsget
   refine q3 5 142 true hg60 (q2 (q5 (off' := 0) tU31 tS9) ?_)
   refine q3 5 142 true hg60 (q2 (q18 tA9) ?_)
   refine q3 5 142 true hg60 (q2 q31 ?_)
   refine J.z (q11 hg60) ?_
   refine J.cd (fun hc61 => ?_) (fun hc61 => ?_)
   ·
    have hc61p := ebq hc61
    have htg : f.tag = [50, 54, 48] := ebq hc61
    refine Cj.ks (Cj.seq (Cj.block (Cj.sr (J.z (q5 (off' := 3) tU31 tS29) ?_))))
    refine J.z (q18 tA29) ?_
    refine J.eqv 151 rfl (show _ = .slice (some ⟨sbk, so, none⟩) f.subs.length c2 from hsv) ?_
    refine J.z q0 ?_
    refine J.z (q20 (off' := so + j * 2) tU29 tS65) ?_
    refine J.z (q5 (off' := so + j * 2 + 1) tU65 tS9) ?_
    refine J.z (yl_load rfl rfl tA9 (Blk.imm hsbk) (row_fcell subC_len hsd hsget 1 (by decide))) ?_
    refine J.op rfl (op_pure rfl rfl rfl rfl rfl (rYear_ok sb.text (by omega) _) ?_)
    refine J.z q0 ?_
    refine J.z q25 ?_
    refine J.z q25 ?_
    refine J.z q1 ?_
    refine J.z q1 ?_
    refine J.nssr (J.z q0 ?_)
    refine J.z q0 ?_
    refine q15 160 (fun hg62 => ?_) (fun hg62 => ?_)
    ·
     have hok : (uy sb.text).2 = true := hg62
     refine q3 1 160 true hg62 (q2 (q5 (off' := 3) tU31 tS29) ?_)
     refine q3 1 160 true hg62 (q2 (q18 tA29) ?_)
     refine J.eqv 162 rfl (show _ = .slice (some ⟨sbk, so, none⟩) f.subs.length c2 from hsv) ?_
     refine q3 1 160 true hg62 (q2 q0 ?_)
     refine J.opG 1 160 true _ rfl rfl rfl hg62 (op_yld (q20 (off' := so + j * 2) tU29 tS65) rfl rfl ?_)
     refine q3 1 160 true hg62 (q2 (q5 tU65 tS5) ?_)
     refine J.opG 1 160 true _ rfl rfl rfl hg62 (op_yld (yl_load rfl rfl tA5 (Blk.imm hsbk) (row_fcell subC_len hsd hsget 0 (by decide))) rfl rfl ?_)
     refine q3 1 160 true hg62 (q2 q22 ?_)
     refine J.z (q11 hg62) ?_
     refine J.cd (fun hc63 => ?_) (fun hc63 => ?_)
     ·
      have hc63p := ebq hc63
      have hcd : sb.code = 99 := UInt8.toNat_inj.1 (by have h := ebq hc63; show sb.code.toNat = 99; omega)
      rw [if_pos ⟨hok, hcd⟩] at hnx
      refine Cj.region (J.z q0 ?_)
      refine J.z q0 ?_
      refine J.z (yl_buildS (pl := #[(0, 1), (1, 1)]) rfl rfl tZ104 rfl tU104 (fun w => by simp []) (LBld.part rfl rfl rfl (LSpl.c LSpl.z) LBld.none)) ?_
      refine J.op rfl (q44 tU101 tS104 tZ104 ?_)
      intro b64 hb64
      refine J.op rfl (op_append (by' := 23) [_, _] rfl rfl rfl rfl rfl tU101 (.inr ⟨_, tU101⟩) (by kernel_rfl) tS104 tZ104 rfl hg rfl (Src.slice (Blk.at 0 rfl) rfl rfl rfl) (by omega) ?_)
      intro g65 hg65
      refine J.z q1 ?_
      refine J.nb (Cj.region (J.z q0 ?_))
      refine J.z q7 ?_
      refine J.z q1 ?_
      refine J.nil (Ej.keep (Keeps.d (Keeps.k Keeps.r)) ?_)
      refine Ej.round (j + 1, g65) ⟨by dsimp only; omega, .inr htg, by dsimp only; rw [hnx, List.length_append, List.flatMap_append]; exact hg65⟩ (by dsimp only; omega) ⟨rfl, rfl, by dsimp only; rw [hnx, List.length_append]; rfl, rfl, trivial⟩ rfl (by dsimp only; rw [hnx, List.flatMap_append]; rfl)
     have hc63p := nbf hc63
     rw [if_neg (fun g => nbf hc63 (by rw [g.2]; rfl))] at hnx
     refine Cj.kb (Cj.region (J.z q0 ?_))
     refine J.z q7 ?_
     refine J.z q1 ?_
     refine J.nil (Ej.round (j + 1, g) ⟨by dsimp only; omega, .inr htg, by dsimp only; rw [hnx, List.append_nil]; exact hg⟩ (by dsimp only; omega) ⟨rfl, rfl, by dsimp only; rw [hnx, List.append_nil]; rfl, rfl, trivial⟩ rfl (by dsimp only; rw [hnx, List.append_nil]))
    rw [if_neg (fun g => Bool.noConfusion (g.1.symm.trans hg62))] at hnx
    refine q4 1 160 161 true hg62 ?_
    refine q4 1 160 162 true hg62 ?_
    refine q4 1 160 163 true hg62 ?_
    refine q4 1 160 164 true hg62 ?_
    refine q4 1 160 165 true hg62 ?_
    refine q4 1 160 166 true hg62 ?_
    refine q4 1 160 167 true hg62 ?_
    refine J.z (q9 hg62) ?_
    refine J.c0 (fun hc66 => ?_)
    refine Cj.kb (Cj.region (J.z q0 ?_))
    refine J.z q7 ?_
    refine J.z q1 ?_
    refine J.nil (Ej.round (j + 1, g) ⟨by dsimp only; omega, .inr htg, by dsimp only; rw [hnx, List.append_nil]; exact hg⟩ (by dsimp only; omega) ⟨rfl, rfl, by dsimp only; rw [hnx, List.append_nil]; rfl, rfl, trivial⟩ rfl (by dsimp only; rw [hnx, List.append_nil]))
   have hc61p := nbf hc61
   have htn : f.tag ≠ [50, 54, 48] := nbf hc61
   refine Cj.exit (Ej.seqExit (Ej.loopExit (Ej.blkExit (Ej.blkNormal (Ej.seq (Cj.sr (J.z q0 ?_)))))))
   refine J.z q1 ?_
   refine J.ns (Cj.ret (Ej.keep (Keeps.d Keeps.r) ?_))
   have hof : Ix.ofN f n = psL uy 99 (f.subs.take j) := (of_year hn).trans (ps_no hj0 htn)
   rw [hof]
   refine Ej.perm (H' := gH 104 (List.flatMap valC (psL uy 99 (f.subs.take j))) g ++ []) (.of_eq (List.append_nil _)) ?_
   refine Ej.keepR valC_len (by decide) hg rfl (fun I8 hle8 hw8 => ?_)
   refine q6 ?_
   exact ⟨_, rfl, hw8, rfl⟩
  have hg60p := odf hg60
  refine q4 5 142 143 true hg60 ?_
  refine q4 5 142 144 true hg60 ?_
  refine q4 5 142 145 true hg60 ?_
  refine J.z (q9 hg60) ?_
  refine J.c0 (fun hc67 => ?_)
  refine Cj.exit (Ej.seqExit (Ej.loopExit (Ej.blkExit (Ej.blkNormal (Ej.seq (Cj.sr (J.z q0 ?_)))))))
  refine J.z q1 ?_
  refine J.ns (Cj.ret (Ej.keep (Keeps.d Keeps.r) ?_))
  have hof : Ix.ofN f n = psL uy 99 (f.subs.take j) := (of_year hn).trans (ps_end hj0 (by omega))
  rw [hof]
  refine Ej.perm (H' := gH 104 (List.flatMap valC (psL uy 99 (f.subs.take j))) g ++ []) (.of_eq (List.append_nil _)) ?_
  refine Ej.keepR valC_len (by decide) hg rfl (fun I8 hle8 hw8 => ?_)
  refine q6 ?_
  exact ⟨_, rfl, hw8, rfl⟩
 have hc59p := nbf hc59
 have nn135 : n ≠ Ix.nYear := nbf hc59
 refine Cj.sr (J.z q31 ?_)
 refine J.z q1 ?_
 refine J.cd (fun hc68 => ?_) (fun hc68 => ?_)
 ·
  have hc68p := ebq hc68
  have hn : n = Ix.nAny := ebq hc68
  refine Cj.sr (J.z (q5 (off' := 0) tU31 tS9) ?_)
  refine J.z (q18 tA9) ?_
  refine J.op rfl (op_pure rfl rfl rfl rfl rfl (rStarts_ok f.tag [48, 48] (by decide) _) ?_)
  refine J.z q1 ?_
  refine J.nssr (J.z (q5 (off' := 0) tU31 tS9) ?_)
  refine J.z (q18 tA9) ?_
  refine J.op rfl (op_pure rfl rfl rfl rfl rfl (rStarts_ok f.tag [57] (by decide) _) ?_)
  refine J.z q1 ?_
  refine J.nssr (J.z q0 ?_)
  refine J.z q42 ?_
  refine J.z q0 ?_
  refine q15 184 (fun hg69 => ?_) (fun hg69 => ?_)
  ·
   have h00 : ([48, 48] : List UInt8).isPrefixOf f.tag = false := by have h := hg69; simpa using h
   refine q3 2 184 true hg69 (q2 q0 ?_)
   refine q3 2 184 true hg69 (q2 q42 ?_)
   refine J.z (q11 hg69) ?_
   refine J.cd (fun hc70 => ?_) (fun hc70 => ?_)
   ·
    have hany : Ix.anyOk f = true := by have h := hc70; unfold Ix.anyOk; rw [h00, h]; rfl
    refine Cj.region (J.z q0 ?_)
    refine J.z (q35 tA31 tS31) ?_
    refine J.op rfl (op_pure rfl rfl rfl rfl rfl (rAllText_ok f hn2 htx _ hr) ?_)
    refine J.z (yl_buildS (pl := #[(0, 1), (1, 1)]) rfl rfl tZ104 rfl tU104 (fun w => by simp []) (LBld.part rfl rfl rfl (LSpl.c LSpl.z) LBld.none)) ?_
    refine J.op rfl (q44 tU101 tS104 tZ104 ?_)
    intro b71 hb71
    refine J.op rfl (op_append (by' := 23) (n := 0) (g := none) (xs := []) [_, _] rfl rfl rfl rfl rfl tU101 (.inr ⟨_, tU101⟩) (by kernel_rfl) tS104 tZ104 rfl ⟨rfl, rfl⟩ rfl (Src.slice (Blk.at 0 rfl) rfl rfl rfl) (by omega) ?_)
    intro g72 hg72
    refine J.z q1 ?_
    refine J.nb (Cj.sr (J.z q0 ?_))
    refine J.z q1 ?_
    refine J.ns (Cj.ret (Ej.keep (Keeps.d (Keeps.d Keeps.r)) ?_))
    have hof : Ix.ofN f n = [(Ix.allText f, 0)] := (of_any hn).trans (if_pos hany)
    rw [hof]
    refine Ej.perm (H' := gH 104 (List.flatMap valC ([(Ix.allText f, 0)])) g72 ++ []) (.of_eq (List.append_nil _)) ?_
    refine Ej.keepR valC_len (by decide) hg72 rfl (fun I8 hle8 hw8 => ?_)
    refine q6 ?_
    exact ⟨_, rfl, hw8, rfl⟩
   have hany : ¬ Ix.anyOk f = true := by have h := hc70; unfold Ix.anyOk; rw [h00, h]; simp
   refine Cj.kb (Cj.sr (J.z q0 ?_))
   refine J.z q1 ?_
   refine J.ns (Cj.ret ?_)
   have hof : Ix.ofN f n = [] := (of_any hn).trans (if_neg hany)
   rw [hof]
   refine Ej.bare ?_
   refine q6 ?_
   exact ⟨_, rfl, RowS.nil, rfl⟩
  have hany : ¬ Ix.anyOk f = true := by have h := hg69; unfold Ix.anyOk; simp only [Bool.not_eq_false'] at h; rw [h]; simp
  refine q4 2 184 185 true hg69 ?_
  refine q4 2 184 186 true hg69 ?_
  refine J.z (q9 hg69) ?_
  refine J.c0 (fun hc73 => ?_)
  refine Cj.kb (Cj.sr (J.z q0 ?_))
  refine J.z q1 ?_
  refine J.ns (Cj.ret ?_)
  have hof : Ix.ofN f n = [] := (of_any hn).trans (if_neg hany)
  rw [hof]
  refine Ej.bare ?_
  refine q6 ?_
  exact ⟨_, rfl, RowS.nil, rfl⟩
 have hc68p := nbf hc68
 have hn : n ≠ Ix.nAny := nbf hc68
 refine Cj.kb (Cj.sr (J.z q0 ?_))
 refine J.z q1 ?_
 refine J.ns (Cj.ret ?_)
 have hof : Ix.ofN f n = [] := of_none nn16 nn59 nn80 nn96 nn135 hn
 rw [hof]
 refine Ej.bare ?_
 refine q6 ?_
 exact ⟨_, rfl, RowS.nil, rfl⟩
theorem valsN_next {fs : List Ke.Fld} {j : Nat} {f : Ke.Fld} (n : List UInt8) (h : fs[j]? = some f) : Ix.valsN (fs.take (j + 1)) n = Ix.valsN (fs.take j) n ++ Ix.ofN f n := by
  obtain ⟨hlt, hg⟩ := List.getElem?_eq_some_iff.1 h
  rw [List.take_succ_eq_append_getElem hlt, hg]
  unfold Ix.valsN
  rw [List.flatMap_append]; simp
theorem valsN_len (n : List UInt8) : ∀ (fs : List Ke.Fld), (∀ f ∈ fs, f.subs.length ≤ 1000) → (Ix.valsN fs n).length ≤ fs.length * 1000
  | [], _ => by simp [Ix.valsN]
  | f :: r, h => by
    have h1 := valsN_len n r fun x hx => h x (.tail _ hx)
    have h2 := ofN_len f n (h f (.head _))
    unfold Ix.valsN at h1 ⊢
    rw [List.flatMap_cons, List.length_append, List.length_cons, Nat.add_mul]; omega
theorem rValues_ok (fs : List Ke.Fld) (v : Value) (rk rl : UInt8) (n : List UInt8) (hok : EOK fs) (I : Heap) (hr0 : RecS I fs v) : Ctr Tryz.prog 53 [recV rk rl v, str n] I [] (fun e I' H' => ∃ w, e = .returned w ∧ RowS valC I' (Ix.valsN fs n) w ∧ H' = []) := by
 have hfs := hok.1
 obtain ⟨p, c, rfl, hc, -⟩ := id hr0.1
 refine Ctr.ob func53 ?_
 intro w0 hw0
 refine Cj.sr (J.op rfl (q26 ?_))
 intro b1 hb1
 refine J.z q1 ?_
 refine J.nssr (J.z q1 ?_)
 refine J.nsss (Cj.region (J.z q1 ?_))
 refine J.ns (Cj.block (Cj.loop (ι := Nat × Heap × Gs) (fun y => y.1 ≤ fs.length ∧ Le I y.2.1 ∧ gOk w0.heap.size 2 (Ix.valsN (fs.take y.1) n).length ((Ix.valsN (fs.take y.1) n).flatMap valC) y.2.2) (fun y => fs.length - y.1) (fun y => [(1, str n), (2, ptr b1 0), (5, gV (Ix.valsN (fs.take y.1) n).length y.2.2), (6, i64 (y.1 : Int))]) (fun y => y.2.1) (fun y => (b1, cel 35 [u8 rk, u8 rl, .slice p fs.length c]) :: gH 104 ((Ix.valsN (fs.take y.1) n).flatMap valC) y.2.2) (0, _, none) ⟨Nat.zero_le _, Le.refl _, rfl, rfl⟩ ⟨rfl, rfl, rfl, rfl, trivial⟩ rfl rfl ?_))
 rintro ⟨j, J1, g⟩ ⟨hj, hIJ, hg⟩
 dsimp only at hj hIJ hg ⊢
 have hr := hr0.mono hIJ
 have hvl := valsN_len n (fs.take j) fun f hf => (hok.2 f (List.mem_of_mem_take hf)).1
 rw [List.length_take, Nat.min_eq_left hj] at hvl
 refine Cj.seq (Cj.sr (J.z q0 ?_))
 refine J.z (q5 (off' := 2) tU35 sizeOf33) ?_
 refine J.z (q18 isAgg33) ?_
 refine J.z (q14 tU33) ?_
 refine J.z q16 ?_
 refine J.cd (fun hc2 => ?_) (fun hc2 => ?_)
 ·
  have hc2p := odt hc2
  refine Cj.ks (Cj.seq (Cj.block ?_))
  have hlt : j < fs.length := by omega
  obtain ⟨f, hget⟩ : ∃ f, fs[j]? = some f := ⟨_, lgg hlt⟩
  have hfk := hok.2 f (lmg hget)
  have hnx := valsN_next n hget
  have hofl := ofN_len f n hfk.1
  obtain ⟨⟨p1, c1, hpe, hc1, hp⟩, hsub⟩ := id hr
  cases hpe
  obtain ⟨fb, fo, fcs, fty, ffr, sp, rfl, hfb, hfd⟩ := hp (ne_nil_of hlt)
  have hsr := hsub f (lmg hget)
  obtain ⟨p2, c2, hsv, hc2, hp2⟩ := id hsr
  refine Cj.region (J.z q0 ?_)
  refine J.z (q5 (off' := 2) tU35 sizeOf33) ?_
  refine J.z (q18 isAgg33) ?_
  refine J.z q0 ?_
  refine J.z (q20 (off' := fo + j * 4) tU33 tS31) ?_
  refine J.z (yl_loadAgg rfl rfl tA31 tS31 (Blk.imm hfb) (row_from fldC_len hfd hget) rfl) ?_
  refine J.z q0 ?_
  refine J.op rfl (q37 (H1 := []) rfl rfl rfl rfl rfl (rOf_ok f n (by omega) hfk.2.1 _ hsr) ?_)
  intro v3 I4 H5 hle6 hp7
  have hIJ := hIJ.mono hle6
  obtain ⟨vhof, h, hof, rfl⟩ := hp7; cases h
  refine J.op rfl (op_append (by' := 23) [_] rfl rfl rfl rfl rfl tU101 (.inr ⟨_, tU101⟩) (by kernel_rfl) tS104 tZ104 rfl hg rfl (Src.row valC_len hof (fun x _ => rfl)) (by omega) ?_)
  intro g8 hg8
  refine J.z q1 ?_
  refine J.nb (Cj.region (J.z q0 ?_))
  refine J.z q7 ?_
  refine J.z q1 ?_
  refine J.nil (Ej.round (j + 1, _, g8) ⟨by dsimp only; omega, hIJ, by dsimp only; rw [hnx, List.length_append, List.flatMap_append]; exact hg8⟩ (by dsimp only; omega) ⟨rfl, rfl, by dsimp only; rw [hnx, List.length_append]; rfl, rfl, trivial⟩ rfl (by dsimp only; rw [hnx, List.flatMap_append]; rfl))
 have hc2p := odf hc2
 refine Cj.xl (Cj.sr (J.z q0 ?_))
 refine J.z q1 ?_
 refine J.ns (Cj.ret (Ej.keep (Keeps.d Keeps.r) ?_))
 have hfull : fs.take j = fs := List.take_of_length_le (by omega)
 rw [hfull] at hg ⊢
 refine Ej.perm (H' := gH 104 ((Ix.valsN fs n).flatMap valC) g ++ []) (.of_eq (List.append_nil _)) ?_
 refine Ej.keepR valC_len (by decide) hg rfl (fun I8 hle8 hw8 => ?_)
 refine q6 ?_
 exact ⟨_, rfl, hw8, rfl⟩
end Go.Proofs.YtjcdfnbomkoheaaGreatDoor
end
