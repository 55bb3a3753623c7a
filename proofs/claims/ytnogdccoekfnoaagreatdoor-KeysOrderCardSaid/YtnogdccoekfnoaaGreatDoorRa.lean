/-
  The reference's Same, Join, digits, number, has, Check and ten. Own text, printed by a program. Conditions: none.
-/
import Derived.Test.YtnogdccoekfnoaaGreatDoorAl
namespace Go.Proofs.YtnogdccoekfnoaaGreatDoor
open Go Go.Sx
/-- A slice of texts whose cells stand for good, or an empty one. -/
def StrP (I : Heap) (l : List (List UInt8)) (v : Value) : Prop := ∃ p c, v = .slice p l.length c ∧ l.length ≤ c ∧ (l ≠ [] → ∃ b o cs t fr sp, p = some ⟨b, o, none⟩ ∧ I b = some (.cells (List.toArray cs) t fr) ∧ cs.drop o = l.map str ++ sp)
theorem str_from {cs sp : List Value} {o : Nat} {l : List (List UInt8)} (h : cs.drop o = l.map str ++ sp) {k : Nat} {x : List UInt8} (hx : l[k]? = some x) : cs[o + k]? = some (str x) := by
  rw [← List.getElem?_drop, h]; exact str_get hx
theorem StrP.of {I : Heap} {l : List (List UInt8)} {v : Value} (h : StrS 9 I l v) : StrP I l v := by
  rcases h with ⟨rfl, rfl⟩ | ⟨b, c, sp, rfl, hc, hb⟩
  · exact ⟨none, 0, rfl, Nat.le_refl _, fun h => absurd rfl h⟩
  · exact ⟨_, c, rfl, hc, fun _ => ⟨b, 0, _, _, _, sp, rfl, hb, rfl⟩⟩
theorem StrP.mono {I I' : Heap} {l : List (List UInt8)} {v : Value} (h : StrP I l v) (hle : Le I I') : StrP I' l v :=
  let ⟨p, c, h1, h2, h3⟩ := h; ⟨p, c, h1, h2, fun hn => let ⟨b, o, cs, t, fr, sp, h4, h5, h6⟩ := h3 hn; ⟨b, o, cs, t, fr, sp, h4, hle _ _ h5, h6⟩⟩
theorem take_same {α : Type} {a b : List α} {k : Nat} {x : α} (h : a.take k = b.take k) (h1 : a[k]? = some x) (h2 : b[k]? = some x) : a.take (k + 1) = b.take (k + 1) := by
  obtain ⟨l1, g1⟩ := List.getElem?_eq_some_iff.1 h1
  obtain ⟨l2, g2⟩ := List.getElem?_eq_some_iff.1 h2
  rw [List.take_succ_eq_append_getElem l1, List.take_succ_eq_append_getElem l2, h, g1, g2]
theorem join_next {l : List (List UInt8)} {k : Nat} {x : List UInt8} (h : l[k]? = some x) : Ke.join (l.take (k + 1)) = (if 0 < k then Ke.join (l.take k) ++ [32] else Ke.join (l.take k)) ++ x := by
  have key : ∀ (a : List (List UInt8)) (x : List UInt8), Ke.join (a ++ [x]) = (if 0 < a.length then Ke.join a ++ [32] else Ke.join a) ++ x := by
    intro a x
    induction a with
    | nil => rfl
    | cons b r ih =>
      cases r with
      | nil => simp [Ke.join]
      | cons c t =>
        have h1 : Ke.join (b :: c :: t ++ [x]) = b ++ [32] ++ Ke.join (c :: t ++ [x]) := rfl
        rw [h1, ih, if_pos (by simp), if_pos (by simp)]
        simp [Ke.join]
  obtain ⟨hlt, hg⟩ := List.getElem?_eq_some_iff.1 h
  rw [List.take_succ_eq_append_getElem hlt, hg, key, List.length_take, Nat.min_eq_left (by omega)]
theorem join_part (l : List (List UInt8)) (k : Nat) : (Ke.join (l.take k)).length ≤ (Ke.join l).length := by
  have key : ∀ a b : List (List UInt8), (Ke.join a).length ≤ (Ke.join (a ++ b)).length := by
    intro a b
    induction a with
    | nil => exact Nat.zero_le _
    | cons x r ih =>
      cases r with
      | nil =>
        cases b with
        | nil => exact Nat.le_refl _
        | cons y t => simp only [Ke.join, List.cons_append, List.nil_append, List.length_append]; omega
      | cons y t =>
        simp only [Ke.join, List.cons_append, List.length_append] at ih ⊢; omega
  have := key (l.take k) (l.drop k)
  rwa [List.take_append_drop] at this
theorem all_at {s : List UInt8} {k : Nat} {c : UInt8} (h : (s.take k).all Ke.digit = true) (hg : s[k]? = some c) (hd : Ke.digit c = true) : (s.take (k + 1)).all Ke.digit = true := by
  obtain ⟨hlt, hg⟩ := List.getElem?_eq_some_iff.1 hg
  rw [List.take_succ_eq_append_getElem hlt, hg, List.all_append, h]; simp [hd]
theorem not_all {s : List UInt8} {k : Nat} {c : UInt8} (hg : s[k]? = some c) (hd : ¬ Ke.digit c = true) : Ke.digits s = false := by
  rcases h : Ke.digits s with _ | _
  · rfl
  · exact absurd (List.all_eq_true.1 h c (List.mem_of_getElem? hg)) hd
theorem has_next {s : List UInt8} {k : Nat} {c d : UInt8} (h : c ∉ s.take k) (hg : s[k]? = some d) (hd : d ≠ c) : c ∉ s.take (k + 1) := by
  obtain ⟨hlt, hg⟩ := List.getElem?_eq_some_iff.1 hg
  rw [List.take_succ_eq_append_getElem hlt, hg]
  simp only [List.mem_append, List.mem_singleton]
  rintro (e | e)
  · exact h e
  · exact hd e.symm
theorem strip_cons0 {r : List UInt8} (h : r ≠ []) : Ke.strip (48 :: r) = Ke.strip r := by
  cases r with
  | nil => exact absurd rfl h
  | cons a t =>
    unfold Ke.strip
    have h1 : (48 :: a :: t).length - 1 = (a :: t).length - 1 + 1 := rfl
    rw [h1, List.drop_succ_cons]
    rfl
theorem strip_done {x : List UInt8} (h : x.length ≤ 1 ∨ ∃ c r, x = c :: r ∧ c ≠ 48) : Ke.strip x = x := by
  rcases h with h | ⟨c, r, rfl, hc⟩
  · match x, h with
    | [], _ => rfl
    | [a], _ => rfl
  · cases r with
    | nil => rfl
    | cons a t =>
      have h1 : (c :: a :: t).dropLast = c :: (a :: t).dropLast := rfl
      have h2 : (c :: a :: t).length - 1 = (a :: t).length - 1 + 1 := rfl
      unfold Ke.strip
      rw [h1, List.dropWhile_cons_of_neg (by simpa using hc), h2, List.drop_succ_cons, List.cons_append]
      congr 1
      rw [List.dropLast_eq_take, List.take_append_drop]
theorem head_of0 {l : List UInt8} {x : UInt8} (h : l[0]? = some x) : l = x :: l.tail := by
  cases l with
  | nil => simp at h
  | cons a r => simp at h; subst h; rfl

set_option maxRecDepth 20000 in
theorem Same_ok (a b : List (List UInt8)) (va vb : Value) (ha0 : a.length ≤ 100000000000000) (I : Heap) (ha : StrP I a va) (hb : StrP I b vb) : Pure Tryz.prog 17 [va, vb] I (.bool (decide (a = b))) := by
 obtain ⟨p, c, rfl, hc, hp⟩ := ha
 obtain ⟨q, d, rfl, hd, hq⟩ := hb
 refine Ctr.of_body Tryz.func17 rfl (by decide) (Nat.le_of_ble_eq_true rfl) ?_
 intro w0 hw0
 refine Cj.seq (Cj.region (J.z (yl_assign rfl rfl) ?_))
 refine J.nil (Ej.seq (Cj.seq (Cj.seq (Cj.region (J.z (yl_move rfl rfl) ?_)))))
 refine J.z (yl_lenSlice rfl rfl Tryz.underlying27) ?_
 refine J.z (yl_move rfl rfl) ?_
 refine J.z (yl_lenSlice rfl rfl Tryz.underlying27) ?_
 refine J.z (yl_neq rfl rfl rfl) ?_
 refine J.nil (Ej.seq (Cj.cond rfl (fun hc1 => ?_) (fun hc1 => ?_)))
 ·
  have hc1p := bne_iff_ne.1 hc1
  have hne : a.length ≠ b.length := fun e => (bne_iff_ne.1 hc1) (by rw [e])
  refine Cj.seq (Cj.region (J.z (yl_assign rfl rfl) ?_))
  refine J.nil (Ej.seq (Cj.ret (Ej.seqRet (Ej.ret1 rfl rfl rfl ?_))))
  have he : decide (a = b) = false := decide_eq_false (fun e => hne (by rw [e]))
  rw [he]
  exact ⟨rfl, rfl, rfl⟩
 ·
  have hc1p := bne_f hc1
  have hle0 : a.length = b.length := by have h := hc1; simp at h; omega
  refine Cj.skip (Ej.seq (Cj.seq (Cj.seq (Cj.region (J.z (yl_assign rfl rfl) ?_)))))
  refine J.nil (Ej.seq (Cj.block (Cj.loop (ι := Nat) (fun j => j ≤ a.length ∧ a.take j = b.take j) (fun j => a.length - j) (fun j => [(0, .slice p a.length c), (1, .slice q b.length d), (5, i64 (j : Int))]) (fun j => I) (fun j => []) 0 ⟨Nat.zero_le _, rfl⟩ ⟨rfl, rfl, rfl, trivial⟩ rfl rfl ?_)))
  rintro j ⟨hj, hsm⟩
  refine Cj.seq (Cj.seq (Cj.region (J.z (yl_move rfl rfl) ?_)))
  refine J.z (yl_move rfl rfl) ?_
  refine J.z (yl_lenSlice rfl rfl Tryz.underlying27) ?_
  refine J.z (yl_lss rfl rfl rfl) ?_
  refine J.nil (Ej.seq (Cj.cond rfl (fun hc2 => ?_) (fun hc2 => ?_)))
  ·
   have hc2p := of_decide_eq_true hc2
   have hlt : j < a.length := by omega
   obtain ⟨x, hgx⟩ : ∃ x, a[j]? = some x := ⟨_, List.getElem?_eq_getElem hlt⟩
   obtain ⟨y, hgy⟩ : ∃ y, b[j]? = some y := ⟨_, List.getElem?_eq_getElem (by omega)⟩
   obtain ⟨ab, ao, acs, aty, afr, spa, rfl, hab, had⟩ := hp (ne_nil_of hlt)
   obtain ⟨bb, bo, bcs, bty, bfr, spb, rfl, hbb, hbd⟩ := hq (ne_nil_of (k := j) (by omega))
   refine Cj.skip (Ej.seq (Cj.seq (Cj.block (Cj.seq (Cj.drawSel [] [] 9 (by kernel_rfl) ?_)))))
   refine JA.fix ⟨HSub.n, CSub.n, (Le.refl _)⟩ (fun fx3 => ?_)
   refine JA.tk 0 rfl fx3 (yl_move rfl rfl) ?_
   refine JA.tk 1 rfl fx3 (yl_move rfl rfl) ?_
   refine JA.tk 2 rfl fx3 (yl_indexAddr (off' := ao + j) rfl rfl rfl Tryz.underlying27 Tryz.sizeOf9 (by omega) (by omega) (by simp)) ?_
   refine JA.tk 3 rfl fx3 (yl_load rfl rfl Tryz.isAgg9 (Blk.immC hab) (str_from had hgx)) ?_
   refine JA.tk 4 rfl fx3 (yl_move rfl rfl) ?_
   refine JA.tk 5 rfl fx3 (yl_move rfl rfl) ?_
   refine JA.tk 6 rfl fx3 (yl_indexAddr (off' := bo + j) rfl rfl rfl Tryz.underlying27 Tryz.sizeOf9 (by omega) (by omega) (by simp)) ?_
   refine JA.tk 7 rfl fx3 (yl_load rfl rfl Tryz.isAgg9 (Blk.immC hbb) (str_from hbd hgy)) ?_
   refine JA.tk 8 rfl fx3 (yl_neqStr rfl rfl rfl) ?_
   refine JA.done (by kernel_rfl) ?_
   refine Ej.seq (Cj.cond rfl (fun hc4 => ?_) (fun hc4 => ?_))
   ·
    have hc4p := bne_iff_ne.1 hc4
    have hxn : x ≠ y := bne_iff_ne.1 hc4
    refine Cj.seq (Cj.region (J.z (yl_assign rfl rfl) ?_))
    refine J.nil (Ej.seq (Cj.ret (Ej.blkRet (Ej.seqRet (Ej.loopRet (Ej.blkRet (Ej.seqRet (Ej.ret1 rfl rfl rfl ?_))))))))
    have he : decide (a = b) = false := decide_eq_false (fun e => by subst e; rw [hgx] at hgy; exact hxn (Option.some.inj hgy))
    rw [he]
    exact ⟨rfl, rfl, rfl⟩
   ·
    have hc4p := bne_f hc4
    have hxy : y = x := by have h := hc4; simp at h; exact h.symm
    refine Cj.skip (Ej.blkNormal (Ej.seq (Cj.region (J.z (yl_move rfl rfl) ?_))))
    refine J.z (yl_add rfl rfl rfl (w64 (by omega))) ?_
    refine J.z (yl_assign rfl rfl) ?_
    refine J.nil (Ej.round (j + 1) ⟨by omega, take_same hsm hgx (hxy ▸ hgy)⟩ (by omega) ⟨rfl, rfl, rfl, trivial⟩ rfl rfl)
  ·
   have hc2p := of_decide_eq_false hc2
   refine Cj.exit (Ej.seqExit (Ej.loopExit (Ej.blkExit (Ej.seq (Cj.seq (Cj.region (J.z (yl_assign rfl rfl) ?_)))))))
   refine J.nil (Ej.seq (Cj.ret (Ej.ret1 rfl rfl rfl ?_)))
   have he : decide (a = b) = true := decide_eq_true (by rw [List.take_of_length_le (by omega), List.take_of_length_le (by omega)] at hsm; exact hsm)
   rw [he]
   exact ⟨rfl, rfl, rfl⟩

set_option maxRecDepth 20000 in
theorem rJoin_ok (l : List (List UInt8)) (v : Value) (hl : l.length ≤ 100000000000000) (hs : (Ke.join l).length ≤ 1000000000000) (I : Heap) (hv : StrP I l v) : Pure Tryz.prog 20 [v] I (str (Ke.join l)) := by
 obtain ⟨p, c, rfl, hc, hp⟩ := hv
 refine Ctr.of_body Tryz.func20 rfl (by decide) (Nat.le_of_ble_eq_true rfl) ?_
 intro w0 hw0
 refine Cj.seq (Cj.region (J.z (yl_assign rfl rfl) ?_))
 refine J.nil (Ej.seq (Cj.seq (Cj.region (J.z (yl_assign rfl rfl) ?_))))
 refine J.nil (Ej.seq (Cj.seq (Cj.seq (Cj.region (J.z (yl_assign rfl rfl) ?_)))))
 refine J.nil (Ej.seq (Cj.block (Cj.loop (ι := Nat) (fun j => j ≤ l.length) (fun j => l.length - j) (fun j => [(0, .slice p l.length c), (3, str (Ke.join (l.take j))), (4, i64 (j : Int))]) (fun j => I) (fun j => []) 0 (Nat.zero_le _) ⟨rfl, rfl, rfl, trivial⟩ rfl rfl ?_)))
 intro j hj
 have hjp := join_part l j
 have hjp2 := join_part l (j + 1)
 refine Cj.seq (Cj.seq (Cj.region (J.z (yl_move rfl rfl) ?_)))
 refine J.z (yl_move rfl rfl) ?_
 refine J.z (yl_lenSlice rfl rfl Tryz.underlying27) ?_
 refine J.z (yl_lss rfl rfl rfl) ?_
 refine J.nil (Ej.seq (Cj.cond rfl (fun hc1 => ?_) (fun hc1 => ?_)))
 ·
  have hc1p := of_decide_eq_true hc1
  have hlt : j < l.length := by omega
  obtain ⟨x, hget⟩ : ∃ x, l[j]? = some x := ⟨_, List.getElem?_eq_getElem hlt⟩
  obtain ⟨lb, lo, lcs, lty, lfr, sp, rfl, hlb, hld⟩ := hp (ne_nil_of hlt)
  have hjn := congrArg List.length (join_next hget)
  rw [List.length_append] at hjn
  refine Cj.skip (Ej.seq (Cj.seq (Cj.block (Cj.seq (Cj.seq (Cj.region (J.z (yl_move rfl rfl) ?_)))))))
  refine J.z (yl_gtr rfl rfl rfl) ?_
  refine J.nil (Ej.seq (Cj.cond rfl (fun hc2 => ?_) (fun hc2 => ?_)))
  ·
   have hc2p := of_decide_eq_true hc2
   have hj0 : 0 < j := by have h := of_decide_eq_true hc2; omega
   refine Cj.region (J.z (yl_move rfl rfl) ?_)
   refine J.z (yl_cat rfl rfl rfl (by rw [if_pos hj0, List.length_append] at hjn; simp only [List.length_cons, List.length_nil] at hjn ⊢; omega)) ?_
   refine J.z (yl_assign rfl rfl) ?_
   refine J.nil (Ej.seq (Cj.region (J.z (yl_move rfl rfl) ?_)))
   refine J.z (yl_move rfl rfl) ?_
   refine J.z (yl_move rfl rfl) ?_
   refine J.z (yl_indexAddr (off' := lo + j) rfl rfl rfl Tryz.underlying27 Tryz.sizeOf9 (by omega) (by omega) (by simp)) ?_
   refine J.z (yl_load rfl rfl Tryz.isAgg9 (Blk.imm hlb) (str_from hld hget)) ?_
   refine J.z (yl_cat rfl rfl rfl (by first | (rw [if_pos hj0, List.length_append] at hjn; simp only [List.length_append, List.length_cons, List.length_nil] at hjn ⊢; omega) | (rw [if_neg hj0] at hjn; omega))) ?_
   refine J.z (yl_assign rfl rfl) ?_
   refine J.nil (Ej.blkNormal (Ej.seq (Cj.region (J.z (yl_move rfl rfl) ?_))))
   refine J.z (yl_add rfl rfl rfl (w64 (by omega))) ?_
   refine J.z (yl_assign rfl rfl) ?_
   refine J.nil (Ej.round (j + 1) (by omega) (by omega) ⟨rfl, by rw [join_next hget, if_pos hj0]; rfl, rfl, trivial⟩ rfl rfl)
  ·
   have hc2p := of_decide_eq_false hc2
   have hj0 : ¬ 0 < j := by have h := of_decide_eq_false hc2; omega
   refine Cj.skip (Ej.seq (Cj.region (J.z (yl_move rfl rfl) ?_)))
   refine J.z (yl_move rfl rfl) ?_
   refine J.z (yl_move rfl rfl) ?_
   refine J.z (yl_indexAddr (off' := lo + j) rfl rfl rfl Tryz.underlying27 Tryz.sizeOf9 (by omega) (by omega) (by simp)) ?_
   refine J.z (yl_load rfl rfl Tryz.isAgg9 (Blk.imm hlb) (str_from hld hget)) ?_
   refine J.z (yl_cat rfl rfl rfl (by first | (rw [if_pos hj0, List.length_append] at hjn; simp only [List.length_append, List.length_cons, List.length_nil] at hjn ⊢; omega) | (rw [if_neg hj0] at hjn; omega))) ?_
   refine J.z (yl_assign rfl rfl) ?_
   refine J.nil (Ej.blkNormal (Ej.seq (Cj.region (J.z (yl_move rfl rfl) ?_))))
   refine J.z (yl_add rfl rfl rfl (w64 (by omega))) ?_
   refine J.z (yl_assign rfl rfl) ?_
   refine J.nil (Ej.round (j + 1) (by omega) (by omega) ⟨rfl, by rw [join_next hget, if_neg hj0]; rfl, rfl, trivial⟩ rfl rfl)
 ·
  have hc1p := of_decide_eq_false hc1
  have hfull : l.take j = l := List.take_of_length_le (by omega)
  refine Cj.exit (Ej.seqExit (Ej.loopExit (Ej.blkExit (Ej.seq (Cj.seq (Cj.region (J.z (yl_move rfl rfl) ?_)))))))
  refine J.z (yl_assign rfl rfl) ?_
  refine J.nil (Ej.seq (Cj.ret (Ej.ret1 rfl rfl rfl ?_)))
  rw [hfull]
  exact ⟨rfl, rfl, rfl⟩

set_option maxRecDepth 20000 in
theorem rdigits_ok (s : List UInt8) (hs : s.length ≤ 1000000000000) (I : Heap) : Pure Tryz.prog 39 [str s] I (.bool (Ke.digits s)) := by
 refine Ctr.of_body Tryz.func39 rfl (by decide) (Nat.le_of_ble_eq_true rfl) ?_
 intro w0 hw0
 refine Cj.seq (Cj.region (J.z (yl_assign rfl rfl) ?_))
 refine J.nil (Ej.seq (Cj.seq (Cj.seq (Cj.region (J.z (yl_assign rfl rfl) ?_)))))
 refine J.nil (Ej.seq (Cj.block (Cj.loop (ι := Nat) (fun j => j ≤ s.length ∧ (s.take j).all Ke.digit = true) (fun j => s.length - j) (fun j => [(0, str s), (3, i64 (j : Int))]) (fun j => I) (fun j => []) 0 ⟨Nat.zero_le _, rfl⟩ ⟨rfl, rfl, trivial⟩ rfl rfl ?_)))
 rintro j ⟨hj, hall⟩
 refine Cj.seq (Cj.seq (Cj.region (J.z (yl_move rfl rfl) ?_)))
 refine J.z (yl_move rfl rfl) ?_
 refine J.z (yl_lenStr rfl rfl Tryz.underlying9) ?_
 refine J.z (yl_lss rfl rfl rfl) ?_
 refine J.nil (Ej.seq (Cj.cond rfl (fun hc1 => ?_) (fun hc1 => ?_)))
 ·
  have hc1p := of_decide_eq_true hc1
  have hlt : j < s.length := by omega
  obtain ⟨c, hget⟩ : ∃ c, s[j]? = some c := ⟨_, List.getElem?_eq_getElem hlt⟩
  refine Cj.skip (Ej.seq (Cj.seq (Cj.block (Cj.seq (Cj.region (J.z (yl_move rfl rfl) ?_))))))
  refine J.z (yl_move rfl rfl) ?_
  refine J.z (yl_index rfl rfl rfl Tryz.underlying9 (by omega) hget) ?_
  refine J.z (yl_lss rfl rfl rfl) ?_
  refine J.z (yl_move rfl rfl) ?_
  refine J.split 14 rfl (fun hg2 => ?_) (fun hg2 => ?_)
  ·
   have hnd : ¬ Ke.digit c = true := fun e => by have h1 := Ke.digit_iff.1 e; have h := of_decide_eq_true hg2; omega
   refine J.skip 4 14 15 false _ rfl rfl rfl hg2 rfl rfl ?_
   refine J.skip 4 14 16 false _ rfl rfl rfl hg2 rfl rfl ?_
   refine J.skip 4 14 17 false _ rfl rfl rfl hg2 rfl rfl ?_
   refine J.skip 4 14 18 false _ rfl rfl rfl hg2 rfl rfl ?_
   refine J.z (yl_pick1 rfl rfl hg2 rfl) ?_
   refine J.nil (Ej.seq (Cj.cond rfl (fun hc3 => ?_) (fun hc3 => Bool.noConfusion (Eq.trans (Eq.symm rfl) hc3))))
   refine Cj.seq (Cj.region (J.z (yl_assign rfl rfl) ?_))
   refine J.nil (Ej.seq (Cj.ret (Ej.blkRet (Ej.seqRet (Ej.loopRet (Ej.blkRet (Ej.seqRet (Ej.ret1 rfl rfl rfl ?_))))))))
   rw [not_all hget hnd]
   exact ⟨rfl, rfl, rfl⟩
  ·
   have hlo := of_decide_eq_false hg2
   refine J.opG 4 14 false _ rfl rfl rfl hg2 (op_yld (yl_move rfl rfl) rfl rfl ?_)
   refine J.opG 4 14 false _ rfl rfl rfl hg2 (op_yld (yl_move rfl rfl) rfl rfl ?_)
   refine J.opG 4 14 false _ rfl rfl rfl hg2 (op_yld (yl_index rfl rfl rfl Tryz.underlying9 (by omega) hget) rfl rfl ?_)
   refine J.opG 4 14 false _ rfl rfl rfl hg2 (op_yld (yl_gtr rfl rfl rfl) rfl rfl ?_)
   refine J.z (yl_pick0 rfl rfl hg2 rfl) ?_
   refine J.nil (Ej.seq (Cj.cond rfl (fun hc4 => ?_) (fun hc4 => ?_)))
   ·
    have hc4p := of_decide_eq_true hc4
    have hnd : ¬ Ke.digit c = true := fun e => by have h1 := Ke.digit_iff.1 e; have h := of_decide_eq_true hc4; omega
    refine Cj.seq (Cj.region (J.z (yl_assign rfl rfl) ?_))
    refine J.nil (Ej.seq (Cj.ret (Ej.blkRet (Ej.seqRet (Ej.loopRet (Ej.blkRet (Ej.seqRet (Ej.ret1 rfl rfl rfl ?_))))))))
    rw [not_all hget hnd]
    exact ⟨rfl, rfl, rfl⟩
   ·
    have hc4p := of_decide_eq_false hc4
    have hd : Ke.digit c = true := Ke.digit_iff.2 (by have h := of_decide_eq_false hc4; omega)
    refine Cj.skip (Ej.blkNormal (Ej.seq (Cj.region (J.z (yl_move rfl rfl) ?_))))
    refine J.z (yl_add rfl rfl rfl (w64 (by omega))) ?_
    refine J.z (yl_assign rfl rfl) ?_
    refine J.nil (Ej.round (j + 1) ⟨by omega, all_at hall hget hd⟩ (by omega) ⟨rfl, rfl, trivial⟩ rfl rfl)
 ·
  have hc1p := of_decide_eq_false hc1
  refine Cj.exit (Ej.seqExit (Ej.loopExit (Ej.blkExit (Ej.seq (Cj.seq (Cj.region (J.z (yl_assign rfl rfl) ?_)))))))
  refine J.nil (Ej.seq (Cj.ret (Ej.ret1 rfl rfl rfl ?_)))
  have he : Ke.digits s = true := by rw [List.take_of_length_le (by omega)] at hall; exact hall
  rw [he]
  exact ⟨rfl, rfl, rfl⟩

set_option maxRecDepth 20000 in
theorem has_ok (s : List UInt8) (d : UInt8) (hs : s.length ≤ 1000000000000) (I : Heap) : Pure Tryz.prog 82 [str s, u8 d] I (.bool (s.contains d)) := by
 refine Ctr.of_body Tryz.func82 rfl (by decide) (Nat.le_of_ble_eq_true rfl) ?_
 intro w0 hw0
 refine Cj.seq (Cj.region (J.z (yl_assign rfl rfl) ?_))
 refine J.nil (Ej.seq (Cj.seq (Cj.seq (Cj.region (J.z (yl_assign rfl rfl) ?_)))))
 refine J.nil (Ej.seq (Cj.block (Cj.loop (ι := Nat) (fun j => j ≤ s.length ∧ d ∉ s.take j) (fun j => s.length - j) (fun j => [(0, str s), (1, u8 d), (5, i64 (j : Int))]) (fun j => I) (fun j => []) 0 ⟨Nat.zero_le _, by simp⟩ ⟨rfl, rfl, rfl, trivial⟩ rfl rfl ?_)))
 rintro j ⟨hj, hno⟩
 refine Cj.seq (Cj.seq (Cj.region (J.z (yl_move rfl rfl) ?_)))
 refine J.z (yl_move rfl rfl) ?_
 refine J.z (yl_lenStr rfl rfl Tryz.underlying9) ?_
 refine J.z (yl_lss rfl rfl rfl) ?_
 refine J.nil (Ej.seq (Cj.cond rfl (fun hc1 => ?_) (fun hc1 => ?_)))
 ·
  have hc1p := of_decide_eq_true hc1
  have hlt : j < s.length := by omega
  obtain ⟨c, hget⟩ : ∃ c, s[j]? = some c := ⟨_, List.getElem?_eq_getElem hlt⟩
  refine Cj.skip (Ej.seq (Cj.seq (Cj.block (Cj.seq (Cj.region (J.z (yl_move rfl rfl) ?_))))))
  refine J.z (yl_move rfl rfl) ?_
  refine J.z (yl_index rfl rfl rfl Tryz.underlying9 (by omega) hget) ?_
  refine J.z (yl_move rfl rfl) ?_
  refine J.z (yl_eql rfl rfl rfl) ?_
  refine J.nil (Ej.seq (Cj.cond rfl (fun hc2 => ?_) (fun hc2 => ?_)))
  ·
   have hc2p := eq_of_beq hc2
   have he : c = d := UInt8.toNat_inj.1 (by have h := eq_of_beq hc2; omega)
   refine Cj.seq (Cj.region (J.z (yl_assign rfl rfl) ?_))
   refine J.nil (Ej.seq (Cj.ret (Ej.blkRet (Ej.seqRet (Ej.loopRet (Ej.blkRet (Ej.seqRet (Ej.ret1 rfl rfl rfl ?_))))))))
   have hx : s.contains d = true := by simpa using he ▸ List.mem_of_getElem? hget
   rw [hx]
   exact ⟨rfl, rfl, rfl⟩
  ·
   have hc2p := ne_of_beq_false hc2
   have hne : c ≠ d := fun e => ne_of_beq_false hc2 (by rw [e])
   refine Cj.skip (Ej.blkNormal (Ej.seq (Cj.region (J.z (yl_move rfl rfl) ?_))))
   refine J.z (yl_add rfl rfl rfl (w64 (by omega))) ?_
   refine J.z (yl_assign rfl rfl) ?_
   refine J.nil (Ej.round (j + 1) ⟨by omega, has_next hno hget hne⟩ (by omega) ⟨rfl, rfl, rfl, trivial⟩ rfl rfl)
 ·
  have hc1p := of_decide_eq_false hc1
  refine Cj.exit (Ej.seqExit (Ej.loopExit (Ej.blkExit (Ej.seq (Cj.seq (Cj.region (J.z (yl_assign rfl rfl) ?_)))))))
  refine J.nil (Ej.seq (Cj.ret (Ej.ret1 rfl rfl rfl ?_)))
  have hx : s.contains d = false := by rw [List.take_of_length_le (by omega)] at hno; simpa using hno
  rw [hx]
  exact ⟨rfl, rfl, rfl⟩

set_option maxRecDepth 20000 in
theorem number_ok (s : List UInt8) (hs : s.length ≤ 1000000000000) (I : Heap) : Pure Tryz.prog 40 [str s] I (str (Ke.number s)) := by
 refine Ctr.of_body Tryz.func40 rfl (by decide) (Nat.le_of_ble_eq_true rfl) ?_
 intro w0 hw0
 refine Cj.seq (Cj.region (J.z (yl_assign rfl rfl) ?_))
 refine J.nil (Ej.seq (Cj.seq (Cj.block (Cj.loop (ι := List UInt8) (fun x => Ke.strip x = Ke.strip s ∧ x.length ≤ s.length) (fun x => x.length) (fun x => [(0, str x)]) (fun x => I) (fun x => []) s ⟨rfl, Nat.le_refl _⟩ ⟨rfl, trivial⟩ rfl rfl ?_))))
 rintro x ⟨hx, hxl⟩
 refine Cj.seq (Cj.seq (Cj.region (J.z (yl_move rfl rfl) ?_)))
 refine J.z (yl_lenStr rfl rfl Tryz.underlying9) ?_
 refine J.z (yl_gtr rfl rfl rfl) ?_
 refine J.z (yl_move rfl rfl) ?_
 refine J.split 7 rfl (fun hg1 => ?_) (fun hg1 => ?_)
 ·
  have hl1 : 1 < x.length := by have h := of_decide_eq_true hg1; omega
  obtain ⟨c, hget⟩ : ∃ c, x[0]? = some c := ⟨_, List.getElem?_eq_getElem (by omega)⟩
  have hxc : x = c :: x.tail := head_of0 hget
  have htn : x.tail ≠ [] := fun e => by rw [hxc, e] at hl1; simp at hl1
  refine J.opG 3 7 true _ rfl rfl rfl hg1 (op_yld (yl_move rfl rfl) rfl rfl ?_)
  refine J.opG 3 7 true _ rfl rfl rfl hg1 (op_yld (yl_index rfl rfl rfl Tryz.underlying9 (by omega) hget) rfl rfl ?_)
  refine J.opG 3 7 true _ rfl rfl rfl hg1 (op_yld (yl_eql rfl rfl rfl) rfl rfl ?_)
  refine J.z (yl_pick1 rfl rfl hg1 rfl) ?_
  refine J.nil (Ej.seq (Cj.cond rfl (fun hc2 => ?_) (fun hc2 => ?_)))
  ·
   have hc2p := eq_of_beq hc2
   have hx0 : x = 48 :: x.tail := by have h := eq_of_beq hc2; rw [show c = 48 from UInt8.toNat_inj.1 (by rw [show (48 : UInt8).toNat = 48 from rfl]; omega)] at hxc; exact hxc
   refine Cj.skip (Ej.seq (Cj.block (Cj.region (J.z (yl_move rfl rfl) ?_))))
   refine J.z (yl_sliceStr (p := 1) (q := x.length) rfl rfl Tryz.underlying9 ⟨_, rfl⟩ rfl (by omega) (by omega)) ?_
   refine J.eqv 13 rfl (show _ = str x.tail from (by rw [List.take_length, List.drop_one])) ?_
   refine J.z (yl_assign rfl rfl) ?_
   refine J.nil (Ej.blkNormal (Ej.round x.tail ⟨by rw [← hx, hx0, strip_cons0 htn]; rfl, by rw [List.length_tail]; omega⟩ (by rw [List.length_tail]; omega) ⟨rfl, trivial⟩ rfl rfl))
  ·
   have hc2p := ne_of_beq_false hc2
   have hdone : x.length ≤ 1 ∨ ∃ c r, x = c :: r ∧ c ≠ 48 := .inr ⟨c, _, hxc, fun e => ne_of_beq_false hc2 (by rw [e]; rfl)⟩
   have hsl : (Ke.strip s).length = x.length := by rw [← hx, strip_done hdone]
   refine Cj.exit (Ej.seqExit (Ej.loopExit (Ej.blkExit (Ej.seq (Cj.seq (Cj.region (J.z (yl_move rfl rfl) ?_)))))))
   refine J.eqv 14 rfl (show _ = str (Ke.strip s) from (by rw [← hx, strip_done hdone])) ?_
   refine J.z (yl_lenStr rfl rfl Tryz.underlying9) ?_
   refine J.z (yl_min2 rfl rfl rfl) ?_
   refine J.eqv 16 rfl (show _ = i64 ((min (Ke.strip s).length 99 : Nat) : Int) from (congrArg i64 (by split <;> omega))) ?_
   refine J.z (yl_assign rfl rfl) ?_
   refine J.nil (Ej.seq (Cj.seq (Cj.region (J.z (yl_move rfl rfl) ?_))))
   refine J.z (yl_quo rfl rfl rfl (by decide) (w64 (by show _ ≤ ((min (Ke.strip s).length 99 / 10 : Nat) : Int) ∧ ((min (Ke.strip s).length 99 / 10 : Nat) : Int) ≤ _; omega))) ?_
   refine J.eqv 18 rfl (show _ = i64 ((min (Ke.strip s).length 99 / 10 : Nat) : Int) from rfl) ?_
   refine J.z (yl_add rfl rfl rfl (w64 (by omega))) ?_
   refine J.eqv 19 rfl (show _ = i64 ((48 + min (Ke.strip s).length 99 / 10 : Nat) : Int) from (congrArg i64 (by omega))) ?_
   refine J.z (yl_convInt rfl rfl Tryz.underlying3 Tryz.underlying5) ?_
   refine J.eqv 20 rfl (show _ = u8 (UInt8.ofNat (48 + min (Ke.strip s).length 99 / 10)) from (congrArg (Value.int .u8) (conv8 (by omega)))) ?_
   refine J.z (yl_move rfl rfl) ?_
   refine J.z (yl_rem rfl rfl rfl (by decide)) ?_
   refine J.eqv 22 rfl (show _ = i64 ((min (Ke.strip s).length 99 % 10 : Nat) : Int) from rfl) ?_
   refine J.z (yl_add rfl rfl rfl (w64 (by omega))) ?_
   refine J.eqv 23 rfl (show _ = i64 ((48 + min (Ke.strip s).length 99 % 10 : Nat) : Int) from (congrArg i64 (by omega))) ?_
   refine J.z (yl_convInt rfl rfl Tryz.underlying3 Tryz.underlying5) ?_
   refine J.eqv 24 rfl (show _ = u8 (UInt8.ofNat (48 + min (Ke.strip s).length 99 % 10)) from (congrArg (Value.int .u8) (conv8 (by omega)))) ?_
   refine J.op rfl (op_buildSlice rfl rfl rfl Tryz.underlying46 Tryz.sizeOf5 Tryz.zeroValue5 rfl rfl rfl rfl (LCat.one rfl (LCat.one rfl LCat.none)) ?_)
   intro b3 hb3
   refine J.z (yl_toStr [UInt8.ofNat (48 + min (Ke.strip s).length 99 / 10), UInt8.ofNat (48 + min (Ke.strip s).length 99 % 10)] rfl rfl rfl Tryz.underlying46 Tryz.underlying9 Tryz.underlying5 (Blk.at 0 rfl) rfl) ?_
   refine J.z (yl_move rfl rfl) ?_
   refine J.eqv 27 rfl (show _ = str (Ke.strip s) from (by rw [← hx, strip_done hdone])) ?_
   refine J.z (yl_cat rfl rfl rfl (by first | omega | (simp only [List.length_append]; omega) | (simp; omega))) ?_
   refine J.z (yl_assign rfl rfl) ?_
   refine J.nil (Ej.seq (Cj.ret (Ej.bare ?_)))
   refine Ej.ret1 rfl rfl rfl ?_
   exact ⟨rfl, rfl, rfl⟩
 ·
  have hdone : x.length ≤ 1 ∨ ∃ c r, x = c :: r ∧ c ≠ 48 := .inl (by have h := of_decide_eq_false hg1; omega)
  have hsl : (Ke.strip s).length = x.length := by rw [← hx, strip_done hdone]
  refine J.skip 3 7 8 true _ rfl rfl rfl hg1 rfl rfl ?_
  refine J.skip 3 7 9 true _ rfl rfl rfl hg1 rfl rfl ?_
  refine J.skip 3 7 10 true _ rfl rfl rfl hg1 rfl rfl ?_
  refine J.z (yl_pick0 rfl rfl hg1 rfl) ?_
  refine J.nil (Ej.seq (Cj.cond rfl (fun hc4 => Bool.noConfusion (Eq.trans (Eq.symm rfl) hc4)) (fun hc4 => ?_)))
  refine Cj.exit (Ej.seqExit (Ej.loopExit (Ej.blkExit (Ej.seq (Cj.seq (Cj.region (J.z (yl_move rfl rfl) ?_)))))))
  refine J.eqv 14 rfl (show _ = str (Ke.strip s) from (by rw [← hx, strip_done hdone])) ?_
  refine J.z (yl_lenStr rfl rfl Tryz.underlying9) ?_
  refine J.z (yl_min2 rfl rfl rfl) ?_
  refine J.eqv 16 rfl (show _ = i64 ((min (Ke.strip s).length 99 : Nat) : Int) from (congrArg i64 (by split <;> omega))) ?_
  refine J.z (yl_assign rfl rfl) ?_
  refine J.nil (Ej.seq (Cj.seq (Cj.region (J.z (yl_move rfl rfl) ?_))))
  refine J.z (yl_quo rfl rfl rfl (by decide) (w64 (by show _ ≤ ((min (Ke.strip s).length 99 / 10 : Nat) : Int) ∧ ((min (Ke.strip s).length 99 / 10 : Nat) : Int) ≤ _; omega))) ?_
  refine J.eqv 18 rfl (show _ = i64 ((min (Ke.strip s).length 99 / 10 : Nat) : Int) from rfl) ?_
  refine J.z (yl_add rfl rfl rfl (w64 (by omega))) ?_
  refine J.eqv 19 rfl (show _ = i64 ((48 + min (Ke.strip s).length 99 / 10 : Nat) : Int) from (congrArg i64 (by omega))) ?_
  refine J.z (yl_convInt rfl rfl Tryz.underlying3 Tryz.underlying5) ?_
  refine J.eqv 20 rfl (show _ = u8 (UInt8.ofNat (48 + min (Ke.strip s).length 99 / 10)) from (congrArg (Value.int .u8) (conv8 (by omega)))) ?_
  refine J.z (yl_move rfl rfl) ?_
  refine J.z (yl_rem rfl rfl rfl (by decide)) ?_
  refine J.eqv 22 rfl (show _ = i64 ((min (Ke.strip s).length 99 % 10 : Nat) : Int) from rfl) ?_
  refine J.z (yl_add rfl rfl rfl (w64 (by omega))) ?_
  refine J.eqv 23 rfl (show _ = i64 ((48 + min (Ke.strip s).length 99 % 10 : Nat) : Int) from (congrArg i64 (by omega))) ?_
  refine J.z (yl_convInt rfl rfl Tryz.underlying3 Tryz.underlying5) ?_
  refine J.eqv 24 rfl (show _ = u8 (UInt8.ofNat (48 + min (Ke.strip s).length 99 % 10)) from (congrArg (Value.int .u8) (conv8 (by omega)))) ?_
  refine J.op rfl (op_buildSlice rfl rfl rfl Tryz.underlying46 Tryz.sizeOf5 Tryz.zeroValue5 rfl rfl rfl rfl (LCat.one rfl (LCat.one rfl LCat.none)) ?_)
  intro b5 hb5
  refine J.z (yl_toStr [UInt8.ofNat (48 + min (Ke.strip s).length 99 / 10), UInt8.ofNat (48 + min (Ke.strip s).length 99 % 10)] rfl rfl rfl Tryz.underlying46 Tryz.underlying9 Tryz.underlying5 (Blk.at 0 rfl) rfl) ?_
  refine J.z (yl_move rfl rfl) ?_
  refine J.eqv 27 rfl (show _ = str (Ke.strip s) from (by rw [← hx, strip_done hdone])) ?_
  refine J.z (yl_cat rfl rfl rfl (by first | omega | (simp only [List.length_append]; omega) | (simp; omega))) ?_
  refine J.z (yl_assign rfl rfl) ?_
  refine J.nil (Ej.seq (Cj.ret (Ej.bare ?_)))
  refine Ej.ret1 rfl rfl rfl ?_
  exact ⟨rfl, rfl, rfl⟩

end Go.Proofs.YtnogdccoekfnoaaGreatDoor
