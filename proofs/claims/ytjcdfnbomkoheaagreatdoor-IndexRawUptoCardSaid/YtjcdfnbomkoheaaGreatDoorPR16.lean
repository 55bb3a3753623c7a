/-
  Own texts on the laws of the seat, joined: the logic, and contracts of functions. Conditions: none.
-/
import Derived.Test.YtjcdfnbomkoheaaGreatDoorNmR
import Derived.Test.YtjcdfnbomkoheaaGreatDoorPR15
set_option maxRecDepth 100000
set_option maxHeartbeats 4000000
section
namespace Go.Proofs.YtjcdfnbomkoheaaGreatDoor
open _root_.Go.Proofs.Tryz
open Go Go.Sx
abbrev lineA (x : List UInt8 × Int) : Array Value := #[str x.1, i64 x.2]
theorem eqLine : EqK Tryz.prog 57 lineA := EqK.textInt tU57 (by kernel_rfl) (by decide) (by decide) rfl rfl rfl rfl tU9 tU3 tA9 tA3
theorem take_eqR {α : Type} {a b : List α} {k : Nat} {x y : α} (h : a.take k = b.take k) (hx : a[k]? = some x) (hy : b[k]? = some y) (he : x = y) : a.take (k + 1) = b.take (k + 1) := by
  obtain ⟨h1, e1⟩ := List.getElem?_eq_some_iff.1 hx
  obtain ⟨h2, e2⟩ := List.getElem?_eq_some_iff.1 hy
  rw [List.take_succ_eq_append_getElem h1, List.take_succ_eq_append_getElem h2, h, e1, e2, he]
theorem put_at {l : List (List UInt8)} {s : List UInt8} {k : Nat} (hl : Ke.Inc l) (h1 : ∀ x ∈ l.take k, x < s) (h2 : ∀ x, l[k]? = some x → ¬ x < s ∧ x ≠ s) : l.take k ++ [s] ++ l.drop k = Ke.put l s := by
  have hd : ∀ y ∈ l.drop k, s < y := by
    rcases Nat.lt_or_ge k l.length with g | g
    · have h3 := h2 l[k] (lgg g)
      have h4 : s < l[k] := lt_of_ne h3.1 (Ne.symm h3.2)
      intro y hy
      rw [← List.getElem_cons_drop g] at hy
      rcases List.mem_cons.1 hy with e | e
      · rw [e]; exact h4
      refine List.lt_trans h4 ?_
      have h5 : (l.drop k).Pairwise (· < ·) := List.Pairwise.sublist (List.drop_sublist k l) hl
      rw [← List.getElem_cons_drop g] at h5
      exact (List.pairwise_cons.1 h5).1 y e
    intro y hy; rw [List.drop_eq_nil_of_le g] at hy; cases hy
  refine Ke.inc_eq ?_ (Ke.put_inc s hl) fun x => ?_
  · unfold Ke.Inc
    rw [List.pairwise_append, List.pairwise_append]
    refine ⟨⟨List.Pairwise.sublist (List.take_sublist k l) hl, List.pairwise_singleton _ _, fun a ha b hb => ?_⟩, List.Pairwise.sublist (List.drop_sublist k l) hl, fun a ha b hb => ?_⟩
    · rw [List.mem_singleton.1 hb]; exact h1 a ha
    rcases List.mem_append.1 ha with g | g
    · exact List.lt_trans (h1 a g) (hd b hb)
    rw [List.mem_singleton.1 g]; exact hd b hb
  rw [Ke.put_mem]
  have h6 : x ∈ l ↔ x ∈ l.take k ∨ x ∈ l.drop k := by rw [← List.mem_append, List.take_append_drop]
  rw [h6, List.mem_append, List.mem_append, List.mem_singleton]
  constructor
  · rintro ((g | g) | g)
    · exact .inr (.inl g)
    · exact .inl g
    exact .inr (.inr g)
  rintro (g | g | g)
  · exact .inl (.inr g)
  · exact .inl (.inl g)
  exact .inr g
theorem all_lt {l : List (List UInt8)} {s x : List UInt8} {k : Nat} (h : ∀ y ∈ l.take k, y < s) (hg : l[k]? = some x) (hx : x < s) : ∀ y ∈ l.take (k + 1), y < s := by
  obtain ⟨hlt, hg⟩ := List.getElem?_eq_some_iff.1 hg
  rw [List.take_succ_eq_append_getElem hlt, hg]
  intro y hy
  rcases List.mem_append.1 hy with g | g
  · exact h y g
  rw [List.mem_singleton.1 g]; exact hx
abbrev strC (s : List UInt8) : List Value := [str s]
theorem strC_len (s : List UInt8) : (strC s).length = 1 := rfl
theorem three_str (a b : List (List UInt8)) (s : List UInt8) : ((([] : List Value) ++ a.flatMap strC) ++ [str s]) ++ b.flatMap strC = (a ++ [s] ++ b).flatMap strC := by simp
theorem rRecs_ok (a b : List Ix.Rec) (va vb : Value) (hal : a.length ≤ 100000000000000) (I : Heap) (ha : RowS recC I a va) (hb : RowS recC I b vb) : Pure Tryz.prog 18 [va, vb] I (.bool (decide (a = b))) := by
 refine Ctr.toPure ?_
 obtain ⟨p1, c1, rfl, hc1, hp1⟩ := ha
 obtain ⟨p2, c2, rfl, hc2, hp2⟩ := hb
 refine Ctr.ob func18 ?_
 intro w0 hw0
 refine Cj.sr (J.z q1 ?_)
 refine J.nsss (Cj.region (J.z q0 ?_))
 refine J.z (q14 tU44) ?_
 refine J.z q0 ?_
 refine J.z (q14 tU44) ?_
 refine J.z q45 ?_
 refine J.cd (fun hc1 => ?_) (fun hc1 => ?_)
 ·
  have hc1p := bne_iff_ne.1 hc1
  have hln : a.length ≠ b.length := by have h := bne_iff_ne.1 hc1; omega
  refine Cj.sr (J.z q1 ?_)
  refine J.ns (Cj.rs (q6 ?_))
  rw [decide_eq_false (fun e => hln (by rw [e]))]
  exact ⟨rfl, rfl⟩
 have hc1p := bne_f hc1
 have hlen : a.length = b.length := by have h := bne_f hc1; omega
 refine Cj.ks (Cj.seq (Cj.sr (J.z q1 ?_)))
 refine J.ns (Cj.block (Cj.loop (ι := Nat) (fun j => j ≤ a.length ∧ a.take j = b.take j) (fun j => a.length - j) (fun j => [(0, .slice p1 a.length c1), (1, .slice p2 b.length c2), (5, i64 (j : Int))]) (fun j => _) (fun j => []) 0 ⟨Nat.zero_le _, rfl⟩ ⟨rfl, rfl, rfl, trivial⟩ rfl rfl ?_))
 rintro j ⟨hj, hall⟩
 refine Cj.seq (Cj.sr (J.z q0 ?_))
 refine J.z q0 ?_
 refine J.z (q14 tU44) ?_
 refine J.z q16 ?_
 refine J.cd (fun hc2 => ?_) (fun hc2 => ?_)
 ·
  have hc2p := odt hc2
  have hlt : j < a.length := by omega
  obtain ⟨x, hx⟩ : ∃ x, a[j]? = some x := ⟨_, lgg hlt⟩
  obtain ⟨y, hy⟩ : ∃ y, b[j]? = some y := ⟨_, lgg (by omega)⟩
  obtain ⟨fa, oa, acs, aty, afr, asp, rfl, hfa, had⟩ := hp1 (ne_nil_of hlt)
  obtain ⟨fb, ob, bcs, bty, bfr, bsp, rfl, hfb, hbd⟩ := hp2 (ne_nil_of (by omega : j < b.length))
  refine Cj.ks (Cj.seq (Cj.block (Cj.seq (Cj.drawSel [] [] 9 (by kernel_rfl) ?_))))
  refine JA.fix fx1 (fun fx3 => ?_)
  refine JA.tk 0 rfl fx3 q0 ?_
  refine JA.tk 1 rfl fx3 q0 ?_
  refine JA.tk 2 rfl fx3 (q20 (off' := oa + j * 2) tU44 tS26) ?_
  refine JA.tk 3 rfl fx3 (yl_loadAgg rfl rfl tA26 tS26 (Blk.immC hfa) (row_from recC_len had hx) rfl) ?_
  refine JA.tk 4 rfl fx3 q0 ?_
  refine JA.tk 5 rfl fx3 q0 ?_
  refine JA.tk 6 rfl fx3 (q20 (off' := ob + j * 2) tU44 tS26) ?_
  refine JA.tk 7 rfl fx3 (yl_loadAgg rfl rfl tA26 tS26 (Blk.immC hfb) (row_from recC_len hbd hy) rfl) ?_
  refine JA.tk 8 rfl fx3 (yl_neqK (kv := recA) (a := x) (b := y) rfl rfl rfl rfl rfl eqRec (by kernel_rfl)) ?_
  refine q12 ?_
  refine Ej.seq (Cj.cond rfl (fun hc4 => ?_) (fun hc4 => ?_))
  ·
   have hc4p := bne_iff_ne.1 hc4
   have hxy : x ≠ y := bne_iff_ne.1 hc4
   refine Cj.sr (J.z q1 ?_)
   refine J.ns (Cj.ret (Ej.blkRet (Ej.seqRet (Ej.loopRet (Ej.blkRet (Ej.seqRet (q6 ?_)))))))
   rw [decide_eq_false (fun e => hxy (by rw [e, hy] at hx; exact (Option.some.inj hx).symm))]
   exact ⟨rfl, rfl⟩
  have hc4p := bne_f hc4
  have hxy : x = y := bne_f hc4
  refine Cj.kb (Cj.region (J.z q0 ?_))
  refine J.z q7 ?_
  refine J.z q1 ?_
  refine J.nil (Ej.round (j + 1) ⟨by omega, take_eqR hall hx hy hxy⟩ (by omega) ⟨rfl, rfl, rfl, trivial⟩ rfl rfl)
 have hc2p := odf hc2
 refine Cj.xl (Cj.sr (J.z q1 ?_))
 refine J.ns (Cj.ret (q6 ?_))
 rw [List.take_of_length_le (by omega : a.length ≤ j), List.take_of_length_le (by omega : b.length ≤ j)] at hall
 rw [decide_eq_true hall]
 exact ⟨rfl, rfl⟩
theorem rLines_ok (a b : List (List UInt8 × Int)) (va vb : Value) (hal : a.length ≤ 100000000000000) (I : Heap) (ha : RowS lineC I a va) (hb : RowS lineC I b vb) : Pure Tryz.prog 25 [va, vb] I (.bool (decide (a = b))) := by
 refine Ctr.toPure ?_
 obtain ⟨p1, c1, rfl, hc1, hp1⟩ := ha
 obtain ⟨p2, c2, rfl, hc2, hp2⟩ := hb
 refine Ctr.ob func25 ?_
 intro w0 hw0
 refine Cj.sr (J.z q1 ?_)
 refine J.nsss (Cj.region (J.z q0 ?_))
 refine J.z (q14 tU47) ?_
 refine J.z q0 ?_
 refine J.z (q14 tU47) ?_
 refine J.z q45 ?_
 refine J.cd (fun hc1 => ?_) (fun hc1 => ?_)
 ·
  have hc1p := bne_iff_ne.1 hc1
  have hln : a.length ≠ b.length := by have h := bne_iff_ne.1 hc1; omega
  refine Cj.sr (J.z q1 ?_)
  refine J.ns (Cj.rs (q6 ?_))
  rw [decide_eq_false (fun e => hln (by rw [e]))]
  exact ⟨rfl, rfl⟩
 have hc1p := bne_f hc1
 have hlen : a.length = b.length := by have h := bne_f hc1; omega
 refine Cj.ks (Cj.seq (Cj.sr (J.z q1 ?_)))
 refine J.ns (Cj.block (Cj.loop (ι := Nat) (fun j => j ≤ a.length ∧ a.take j = b.take j) (fun j => a.length - j) (fun j => [(0, .slice p1 a.length c1), (1, .slice p2 b.length c2), (5, i64 (j : Int))]) (fun j => _) (fun j => []) 0 ⟨Nat.zero_le _, rfl⟩ ⟨rfl, rfl, rfl, trivial⟩ rfl rfl ?_))
 rintro j ⟨hj, hall⟩
 refine Cj.seq (Cj.sr (J.z q0 ?_))
 refine J.z q0 ?_
 refine J.z (q14 tU47) ?_
 refine J.z q16 ?_
 refine J.cd (fun hc2 => ?_) (fun hc2 => ?_)
 ·
  have hc2p := odt hc2
  have hlt : j < a.length := by omega
  obtain ⟨x, hx⟩ : ∃ x, a[j]? = some x := ⟨_, lgg hlt⟩
  obtain ⟨y, hy⟩ : ∃ y, b[j]? = some y := ⟨_, lgg (by omega)⟩
  obtain ⟨fa, oa, acs, aty, afr, asp, rfl, hfa, had⟩ := hp1 (ne_nil_of hlt)
  obtain ⟨fb, ob, bcs, bty, bfr, bsp, rfl, hfb, hbd⟩ := hp2 (ne_nil_of (by omega : j < b.length))
  refine Cj.ks (Cj.seq (Cj.block (Cj.seq (Cj.drawSel [] [] 9 (by kernel_rfl) ?_))))
  refine JA.fix fx1 (fun fx3 => ?_)
  refine JA.tk 0 rfl fx3 q0 ?_
  refine JA.tk 1 rfl fx3 q0 ?_
  refine JA.tk 2 rfl fx3 (q20 (off' := oa + j * 2) tU47 tS57) ?_
  refine JA.tk 3 rfl fx3 (yl_loadAgg rfl rfl isAgg57 tS57 (Blk.immC hfa) (row_from lineC_len had hx) rfl) ?_
  refine JA.tk 4 rfl fx3 q0 ?_
  refine JA.tk 5 rfl fx3 q0 ?_
  refine JA.tk 6 rfl fx3 (q20 (off' := ob + j * 2) tU47 tS57) ?_
  refine JA.tk 7 rfl fx3 (yl_loadAgg rfl rfl isAgg57 tS57 (Blk.immC hfb) (row_from lineC_len hbd hy) rfl) ?_
  refine JA.tk 8 rfl fx3 (yl_neqK (kv := lineA) (a := x) (b := y) rfl rfl rfl rfl rfl eqLine (by kernel_rfl)) ?_
  refine q12 ?_
  refine Ej.seq (Cj.cond rfl (fun hc4 => ?_) (fun hc4 => ?_))
  ·
   have hc4p := bne_iff_ne.1 hc4
   have hxy : x ≠ y := bne_iff_ne.1 hc4
   refine Cj.sr (J.z q1 ?_)
   refine J.ns (Cj.ret (Ej.blkRet (Ej.seqRet (Ej.loopRet (Ej.blkRet (Ej.seqRet (q6 ?_)))))))
   rw [decide_eq_false (fun e => hxy (by rw [e, hy] at hx; exact (Option.some.inj hx).symm))]
   exact ⟨rfl, rfl⟩
  have hc4p := bne_f hc4
  have hxy : x = y := bne_f hc4
  refine Cj.kb (Cj.region (J.z q0 ?_))
  refine J.z q7 ?_
  refine J.z q1 ?_
  refine J.nil (Ej.round (j + 1) ⟨by omega, take_eqR hall hx hy hxy⟩ (by omega) ⟨rfl, rfl, rfl, trivial⟩ rfl rfl)
 have hc2p := odf hc2
 refine Cj.xl (Cj.sr (J.z q1 ?_))
 refine J.ns (Cj.ret (q6 ?_))
 rw [List.take_of_length_le (by omega : a.length ≤ j), List.take_of_length_le (by omega : b.length ≤ j)] at hall
 rw [decide_eq_true hall]
 exact ⟨rfl, rfl⟩
theorem rWithin_ok (a b : List (List UInt8)) (va vb : Value) (I : Heap) (ha : StrP I a va) (hb : StrP I b vb) (hal : a.length ≤ 10000000000000) (hbl : b.length ≤ 10000000000000) : Pure Tryz.prog 54 [vb, va] I (.bool (Ix.within b a)) := by
 refine Ctr.toPure ?_
 obtain ⟨p1, c1, rfl, hc1, -⟩ := id ha
 obtain ⟨p2, c2, rfl, hc2, -⟩ := id hb
 refine Ctr.ob func54 ?_
 intro w0 hw0
 refine Cj.sr (J.z q1 ?_)
 refine J.nsss (Cj.region (J.z q1 ?_))
 refine J.ns (Cj.block (Cj.loop (ι := Nat) (fun k => k ≤ a.length + 1 ∧ (0 < k → 0 < b.length) ∧ Ix.within b (a.drop k) = Ix.within b a) (fun k => a.length + 1 - k) (fun k => [(0, .slice p2 b.length c2), (1, .slice p1 a.length c1), (5, i64 (k : Int))]) (fun k => _) (fun k => []) 0 ⟨Nat.zero_le _, fun h => absurd h (Nat.lt_irrefl 0), rfl⟩ ⟨rfl, rfl, rfl, trivial⟩ rfl rfl ?_))
 rintro k ⟨hk, hb0, hw⟩
 refine Cj.seq (Cj.sr (J.z q0 ?_))
 refine J.z q0 ?_
 refine J.z (q14 tU28) ?_
 refine J.z q7 ?_
 refine J.z q0 ?_
 refine J.z (q14 tU28) ?_
 refine J.z q36 ?_
 refine J.cd (fun hc13 => ?_) (fun hc13 => ?_)
 ·
  have hc13p := odt hc13
  have hkl : k + b.length ≤ a.length := by omega
  refine Cj.ks (Cj.seq (Cj.block (Cj.sr (J.z q0 ?_))))
  refine J.z q0 ?_
  refine J.z q0 ?_
  refine J.z q0 ?_
  refine J.z (q14 tU28) ?_
  refine J.z q7 ?_
  refine J.z (yl_slice2 (j := k) (k := (k + b.length)) rfl rfl rfl rfl tU28 tS9 rfl (by omega) (by omega)) ?_
  refine J.z q0 ?_
  refine J.op rfl (op_pure rfl rfl rfl rfl rfl (Same_ok _ b _ _ (by rw [List.length_take, List.length_drop]; omega) _ (strP_cut ha (Nat.le_add_right k b.length) hkl) hb) ?_)
  refine J.z q1 ?_
  refine J.nssr (J.z q0 ?_)
  refine J.cd (fun hc25 => ?_) (fun hc25 => ?_)
  ·
   have heq := odt hc25
   rw [Nat.add_sub_cancel_left] at heq
   refine Cj.sr (J.z q1 ?_)
   refine J.ns (Cj.ret (Ej.blkRet (Ej.seqRet (Ej.loopRet (Ej.blkRet (Ej.seqRet (q6 ?_)))))))
   rw [← hw, within_pre heq]
   exact ⟨rfl, rfl⟩
  have hne := odf hc25
  rw [Nat.add_sub_cancel_left] at hne
  refine Cj.kb (Cj.region (J.z q0 ?_))
  refine J.z q7 ?_
  refine J.z q1 ?_
  refine J.nil (Ej.round (k + 1) ⟨by omega, fun _ => List.length_pos_iff.2 (fun e => hne (by rw [e]; rfl)), by rw [← hw, within_step hkl hne]⟩ (by omega) ⟨rfl, rfl, rfl, trivial⟩ rfl rfl)
 have hc13p := odf hc13
 refine Cj.xl (Cj.sr (J.z q1 ?_))
 refine J.ns (Cj.ret (q6 ?_))
 rw [← hw, within_short (by rw [List.length_drop]; rcases Nat.eq_zero_or_pos k with h | h <;> (first | omega | (have := hb0 h; omega)))]
 exact ⟨rfl, rfl⟩
theorem rKeyOf_ok (n s : List UInt8) (hs : s.length ≤ 100000000) (I : Heap) : Pure Tryz.prog 32 [str n, str s] I (str (Ix.keyOf n s)) := by
 refine Ctr.toPure ?_
 have hil := isbn_len s
 refine Ctr.ob func32 ?_
 intro w0 hw0
 refine Cj.sr (J.z q1 ?_)
 refine J.nssr (J.z q0 ?_)
 refine J.op rfl (op_pure rfl rfl rfl rfl rfl (rIsbn_ok s hs _) ?_)
 refine J.z q0 ?_
 refine J.z q25 ?_
 refine J.z q25 ?_
 refine J.z q1 ?_
 refine J.z q1 ?_
 refine J.nsss (Cj.region (J.z q0 ?_))
 refine J.z q0 ?_
 refine q15 13 (fun hg1 => ?_) (fun hg1 => ?_)
 ·
  refine q3 1 13 true hg1 (q2 q0 ?_)
  refine q3 1 13 true hg1 (q2 q31 ?_)
  refine J.z (q11 hg1) ?_
  refine J.cd (fun hc2 => ?_) (fun hc2 => ?_)
  ·
   have hc2p := ebq hc2
   have hk : Ix.keyOf n s = Ke.sortKey (Ke.isbn s).1 0 := if_pos ⟨hg1, ebq hc2⟩
   refine Cj.sr (J.z q0 ?_)
   refine J.op rfl (op_pure rfl rfl rfl rfl rfl (rSort_ok (Ke.isbn s).1 0 (by omega) _) ?_)
   refine J.z q1 ?_
   refine J.ns (Cj.rs (q6 ?_))
   rw [hk]
   exact ⟨rfl, rfl⟩
  have hc2p := nbf hc2
  have hk : Ix.keyOf n s = Ke.sortKey s 0 := if_neg (fun g => nbf hc2 g.2)
  refine Cj.ks (Cj.sr (J.z q0 ?_))
  refine J.op rfl (op_pure rfl rfl rfl rfl rfl (rSort_ok s 0 hs _) ?_)
  refine J.z q1 ?_
  refine J.ns (Cj.ret (q6 ?_))
  rw [hk]
  exact ⟨rfl, rfl⟩
 have hk : Ix.keyOf n s = Ke.sortKey s 0 := if_neg (fun g => Bool.noConfusion (g.1.symm.trans hg1))
 refine q4 1 13 14 true hg1 ?_
 refine q4 1 13 15 true hg1 ?_
 refine J.z (q9 hg1) ?_
 refine J.c0 (fun hc3 => ?_)
 refine Cj.ks (Cj.sr (J.z q0 ?_))
 refine J.op rfl (op_pure rfl rfl rfl rfl rfl (rSort_ok s 0 hs _) ?_)
 refine J.z q1 ?_
 refine J.ns (Cj.ret (q6 ?_))
 rw [hk]
 exact ⟨rfl, rfl⟩
theorem xPut_ok (l : List (List UInt8)) (v : Value) (s : List UInt8) (hinc : Ke.Inc l) (hl : l.length ≤ 4300000000000) (I : Heap) (hv0 : StrP I l v) : Ctr Tryz.prog 62 [v, str s] I [] (fun e I' H' => ∃ w, e = .returned w ∧ StrP I' (Ke.put l s) w ∧ H' = []) := by
 have hrow := strC_row.1 hv0
 obtain ⟨p, c, rfl, hc, hp⟩ := id hv0
 refine Ctr.ob func62 ?_
 intro w0 hw0
 refine Cj.sr (J.z q1 ?_)
 refine J.nssr (J.z q1 ?_)
 refine J.nss (Cj.block (Cj.loop (ι := Nat) (fun k => k ≤ l.length ∧ ∀ x ∈ l.take k, x < s) (fun k => l.length - k) (fun k => [(0, .slice p l.length c), (1, str s), (5, i64 (k : Int))]) (fun k => _) (fun k => []) 0 ⟨Nat.zero_le _, fun x hx => by simp at hx⟩ ⟨rfl, rfl, rfl, trivial⟩ rfl rfl ?_))
 rintro k ⟨hk, hall⟩
 refine Cj.seq (Cj.sr (J.z q0 ?_))
 refine J.z q0 ?_
 refine J.z (q14 tU28) ?_
 refine J.z q16 ?_
 refine J.z q0 ?_
 refine q15 11 (fun hg1 => ?_) (fun hg1 => ?_)
 ·
  have hg1p := odt hg1
  have hlt : k < l.length := by omega
  obtain ⟨x, hget⟩ : ∃ x, l[k]? = some x := ⟨_, lgg hlt⟩
  obtain ⟨lb, lo, lcs, lty, lfr, sp, rfl, hlb, hld⟩ := hp (ne_nil_of hlt)
  refine q3 4 11 true hg1 (q2 q0 ?_)
  refine q3 4 11 true hg1 (q2 q0 ?_)
  refine J.opG 4 11 true _ rfl rfl rfl hg1 (op_yld (q20 (off' := lo + k) tU28 tS9) rfl rfl ?_)
  refine q3 4 11 true hg1 (q2 (yl_load rfl rfl tA9 (Blk.imm hlb) (str_from hld hget)) ?_)
  refine q3 4 11 true hg1 (q2 q0 ?_)
  refine q3 4 11 true hg1 (q2 (yl_lssStr rfl rfl rfl) ?_)
  refine J.z (q11 hg1) ?_
  refine J.cd (fun hc2 => ?_) (fun hc2 => ?_)
  ·
   have hxs : x < s := odt hc2
   refine Cj.ks (Cj.block (Cj.region (J.z q0 ?_)))
   refine J.z q7 ?_
   refine J.z q1 ?_
   refine J.nil (Ej.blkNormal (Ej.round (k + 1) ⟨by omega, all_lt hall hget hxs⟩ (by omega) ⟨rfl, rfl, rfl, trivial⟩ rfl rfl))
  have hxs : ¬ x < s := odf hc2
  refine Cj.xl (Cj.seq (Cj.sr (J.z q0 ?_)))
  refine J.z q0 ?_
  refine J.z (q14 tU28) ?_
  refine J.z q16 ?_
  refine J.z q0 ?_
  refine q15 25 (fun hg3 => ?_) (fun hg3 => ?_)
  ·
   have hg3p := odt hg3
   refine q3 4 25 true hg3 (q2 q0 ?_)
   refine q3 4 25 true hg3 (q2 q0 ?_)
   refine J.opG 4 25 true _ rfl rfl rfl hg3 (op_yld (q20 (off' := lo + k) tU28 tS9) rfl rfl ?_)
   refine q3 4 25 true hg3 (q2 (yl_load rfl rfl tA9 (Blk.imm hlb) (str_from hld hget)) ?_)
   refine q3 4 25 true hg3 (q2 q0 ?_)
   refine q3 4 25 true hg3 (q2 q31 ?_)
   refine J.z (q11 hg3) ?_
   refine J.cd (fun hc4 => ?_) (fun hc4 => ?_)
   ·
    have hc4p := ebq hc4
    have hxe : x = s := ebq hc4
    refine Cj.sr (J.z q0 ?_)
    refine J.z q1 ?_
    refine J.ns (Cj.rs (Ej.bare ?_))
    refine q6 ?_
    rw [show Ke.put l s = l from if_pos (hxe ▸ lmg hget)]
    exact ⟨_, rfl, hv0, rfl⟩
   have hc4p := nbf hc4
   have hxe : x ≠ s := nbf hc4
   refine Cj.ks (Cj.sr (J.z q1 ?_))
   refine J.nss ?_
   have htl : (l.take k).length = k := by rw [List.length_take]; omega
   have hdl : (l.drop k).length = l.length - k := List.length_drop
   refine Cj.region (J.z q0 ?_)
   refine J.z q0 ?_
   refine J.z q0 ?_
   refine J.z (yl_slice0 (k := k) rfl rfl rfl tU28 tS9 rfl (by omega)) ?_
   refine J.op rfl (op_append (by' := 15) (n := 0) (g := none) (xs := []) [] rfl rfl rfl rfl rfl tU28 (.inr ⟨_, tU28⟩) (by kernel_rfl) tS9 tZ9 rfl ⟨rfl, rfl⟩ rfl (Src.row strC_len (RowS.take hrow hk) (fun x _ => rfl)) (by omega) ?_)
   intro g5 hg5
   refine J.z q1 ?_
   refine J.nssr (J.z q0 ?_)
   refine J.z q0 ?_
   refine J.op rfl (q23 tU28 tS9 tZ9 ?_)
   intro b6 hb6
   refine J.op rfl (op_append (by' := 15) [_] rfl rfl rfl rfl rfl tU28 (.inr ⟨_, tU28⟩) (by kernel_rfl) tS9 tZ9 rfl hg5 rfl (Src.slice (Blk.at 0 rfl) rfl rfl rfl) (by omega) ?_)
   intro g7 hg7
   refine J.z q1 ?_
   refine J.nssr (J.z q0 ?_)
   refine J.z q0 ?_
   refine J.z q0 ?_
   refine J.z (yl_slice1 (j := k) rfl rfl rfl tU28 tS9 rfl (by omega) (by omega)) ?_
   refine J.op rfl (op_append (by' := 15) [_] rfl rfl rfl rfl rfl tU28 (.inr ⟨_, tU28⟩) (by kernel_rfl) tS9 tZ9 rfl hg7 rfl (Src.row strC_len (RowS.from strC_len hrow (j := k) hk) (fun x _ => rfl)) (by omega) ?_)
   intro g8 hg8
   refine J.z q1 ?_
   refine J.ns (Cj.ret (Ej.keep (Keeps.d Keeps.r) ?_))
   have hes := put_at hinc hall (fun y hy => by rw [hget] at hy; cases hy; exact ⟨hxs, hxe⟩)
   have hfl := (three_str (l.take k) (l.drop k) s).trans (congrArg (List.flatMap strC) hes)
   refine Ej.perm (H' := gH 9 ((Ke.put l s).flatMap strC) g8 ++ []) (.of_eq (by rw [← hfl, List.append_nil]; rfl)) ?_
   refine Ej.keepR strC_len (by decide) (by rw [← hfl]; exact hg8) (by rw [← hes]; simp only [List.length_append, List.length_singleton]; omega) (fun I8 hle8 hw8 => ?_)
   refine q6 ?_
   exact ⟨_, rfl, strC_row.2 hw8, rfl⟩
  have hg3p := odf hg3
  omega
 have hg1p := odf hg1
 refine q4 4 11 12 true hg1 ?_
 refine q4 4 11 13 true hg1 ?_
 refine q4 4 11 14 true hg1 ?_
 refine q4 4 11 15 true hg1 ?_
 refine q4 4 11 16 true hg1 ?_
 refine q4 4 11 17 true hg1 ?_
 refine J.z (q9 hg1) ?_
 refine J.c0 (fun hc9 => ?_)
 refine Cj.xl (Cj.seq (Cj.sr (J.z q0 ?_)))
 refine J.z q0 ?_
 refine J.z (q14 tU28) ?_
 refine J.z q16 ?_
 refine J.z q0 ?_
 refine q15 25 (fun hg10 => ?_) (fun hg10 => ?_)
 ·
  have hg10p := odt hg10
  have hlt : k < l.length := by omega
  obtain ⟨x, hget⟩ : ∃ x, l[k]? = some x := ⟨_, lgg hlt⟩
  obtain ⟨lb, lo, lcs, lty, lfr, sp, rfl, hlb, hld⟩ := hp (ne_nil_of hlt)
  omega
 have hg10p := odf hg10
 refine q4 4 25 26 true hg10 ?_
 refine q4 4 25 27 true hg10 ?_
 refine q4 4 25 28 true hg10 ?_
 refine q4 4 25 29 true hg10 ?_
 refine q4 4 25 30 true hg10 ?_
 refine q4 4 25 31 true hg10 ?_
 refine J.z (q9 hg10) ?_
 refine J.c0 (fun hc11 => ?_)
 refine Cj.ks (Cj.sr (J.z q1 ?_))
 refine J.nss ?_
 have htl : (l.take k).length = k := by rw [List.length_take]; omega
 have hdl : (l.drop k).length = l.length - k := List.length_drop
 refine Cj.region (J.z q0 ?_)
 refine J.z q0 ?_
 refine J.z q0 ?_
 refine J.z (yl_slice0 (k := k) rfl rfl rfl tU28 tS9 rfl (by omega)) ?_
 refine J.op rfl (op_append (by' := 15) (n := 0) (g := none) (xs := []) [] rfl rfl rfl rfl rfl tU28 (.inr ⟨_, tU28⟩) (by kernel_rfl) tS9 tZ9 rfl ⟨rfl, rfl⟩ rfl (Src.row strC_len (RowS.take hrow hk) (fun x _ => rfl)) (by omega) ?_)
 intro g12 hg12
 refine J.z q1 ?_
 refine J.nssr (J.z q0 ?_)
 refine J.z q0 ?_
 refine J.op rfl (q23 tU28 tS9 tZ9 ?_)
 intro b13 hb13
 refine J.op rfl (op_append (by' := 15) [_] rfl rfl rfl rfl rfl tU28 (.inr ⟨_, tU28⟩) (by kernel_rfl) tS9 tZ9 rfl hg12 rfl (Src.slice (Blk.at 0 rfl) rfl rfl rfl) (by omega) ?_)
 intro g14 hg14
 refine J.z q1 ?_
 refine J.nssr (J.z q0 ?_)
 refine J.z q0 ?_
 refine J.z q0 ?_
 refine J.z (yl_slice1 (j := k) rfl rfl rfl tU28 tS9 rfl (by omega) (by omega)) ?_
 refine J.op rfl (op_append (by' := 15) [_] rfl rfl rfl rfl rfl tU28 (.inr ⟨_, tU28⟩) (by kernel_rfl) tS9 tZ9 rfl hg14 rfl (Src.row strC_len (RowS.from strC_len hrow (j := k) hk) (fun x _ => rfl)) (by omega) ?_)
 intro g15 hg15
 refine J.z q1 ?_
 refine J.ns (Cj.ret (Ej.keep (Keeps.d Keeps.r) ?_))
 have hes := put_at hinc hall (fun y hy => absurd (List.getElem?_eq_some_iff.1 hy).1 (by omega))
 have hfl := (three_str (l.take k) (l.drop k) s).trans (congrArg (List.flatMap strC) hes)
 refine Ej.perm (H' := gH 9 ((Ke.put l s).flatMap strC) g15 ++ []) (.of_eq (by rw [← hfl, List.append_nil]; rfl)) ?_
 refine Ej.keepR strC_len (by decide) (by rw [← hfl]; exact hg15) (by rw [← hes]; simp only [List.length_append, List.length_singleton]; omega) (fun I8 hle8 hw8 => ?_)
 refine q6 ?_
 exact ⟨_, rfl, strC_row.2 hw8, rfl⟩
def RxS (I : Heap) (rb : Nat) (es : List Ent) (p : Option Addr) (c : Nat) : Prop := I rb = some (cel 73 [.slice p es.length c]) ∧ EntsS I es (.slice p es.length c)
theorem RxS.mono {I I' : Heap} {rb : Nat} {es : List Ent} {p : Option Addr} {c : Nat} (h : RxS I rb es p c) (hle : Le I I') : RxS I' rb es p c := ⟨hle _ _ h.1, h.2.mono hle⟩
structure RxP (I : Heap) (rb : Nat) (es : List Ent) : Prop where
  ex : ∃ p c, RxS I rb es p c
  len : es.length ≤ 1000
  eok : ∀ e ∈ es, EOK e.fs
  srt : Ix.Srt (es.map entL)
theorem RxP.mono {I I' : Heap} {rb : Nat} {es : List Ent} (h : RxP I rb es) (hle : Le I I') : RxP I' rb es := ⟨let ⟨p, c, g⟩ := h.ex; ⟨p, c, g.mono hle⟩, h.len, h.eok, h.srt⟩
theorem RxP.of {I : Heap} {rb : Nat} {es : List Ent} {w : Value} (h1 : I rb = some (cel 73 [w])) (h2 : EntsS I es w) (hl : es.length ≤ 1000) (he : ∀ e ∈ es, EOK e.fs) (hs : Ix.Srt (es.map entL)) : RxP I rb es := by
  obtain ⟨p, c, rfl, -⟩ := h2.len
  exact ⟨⟨p, c, h1, h2⟩, hl, he, hs⟩
theorem ent_record {cs sp : List Value} {o k : Nat} {es : List Ent} {x : Ent} (h : cs.drop o = es.flatMap entC ++ sp) (hx : es[k]? = some x) : (cs.drop (o + k * 5 + 2)).take 3 = [u8 x.k, u8 x.l, x.v] := by
  have h1 := row_from entC_len h hx
  rw [show (cs.drop (o + k * 5 + 2)).take 3 = ((cs.drop (o + k * 5)).take 5).drop 2 by rw [List.drop_take, List.drop_drop], h1]; rfl
def selT (P : Ent → Bool) (es : List Ent) : List Ix.Rec := (es.filter P).map (·.t)
theorem selT_next {P : Ent → Bool} {es : List Ent} {k : Nat} {x : Ent} (h : es[k]? = some x) : selT P (es.take (k + 1)) = selT P (es.take k) ++ if P x = true then [x.t] else [] := by
  obtain ⟨hlt, hg⟩ := List.getElem?_eq_some_iff.1 h
  unfold selT
  rw [List.take_succ_eq_append_getElem hlt, hg, List.filter_append, List.map_append]
  by_cases hc : P x = true
  · rw [List.filter_cons_of_pos hc, if_pos hc]; rfl
  rw [List.filter_cons_of_neg hc, if_neg hc]; rfl
theorem selT_len (P : Ent → Bool) (es : List Ent) : (selT P es).length ≤ es.length := by
  unfold selT; rw [List.length_map]; exact List.length_filter_le _ _
theorem any_next {α : Type} {p : α → Bool} {l : List α} {k : Nat} {x : α} (h : l[k]? = some x) : (l.take (k + 1)).any p = ((l.take k).any p || p x) := by
  obtain ⟨hlt, hg⟩ := List.getElem?_eq_some_iff.1 h
  rw [List.take_succ_eq_append_getElem hlt, hg, List.any_append]; simp
def wIn (w : Ke.Row) (x : List UInt8 × Nat) : Bool := Ix.within w (Ke.words x.1)
def kIn (k : List UInt8) (x : List UInt8 × Nat) : Bool := decide (Ke.sortKey x.1 x.2 = k)
def hasN (n : List UInt8) (w : Ke.Row) (e : Ent) : Bool := (Ix.valsN e.fs n).any (wIn w)
def hasKN (n k : List UInt8) (e : Ent) : Bool := (Ix.valsN e.fs n).any (kIn k)
theorem hasN_eq (n : List UInt8) (w : Ke.Row) (e : Ent) : Ix.hasW n w (Ix.vals e.fs) = hasN n w e := by
  unfold hasN Ix.hasW
  rw [← Ix.valsN_eq, List.any_map, List.any_filter]
  rfl
theorem hasKN_eq (n k : List UInt8) (e : Ent) : Ix.hasK n k (Ix.vals e.fs) = hasKN n k e := by
  unfold hasKN Ix.hasK
  rw [← Ix.valsN_eq, List.any_map, List.any_filter]
  rfl
theorem sel_eq (f : List Ix.V → Bool) (P : Ent → Bool) (h : ∀ e, f (Ix.vals e.fs) = P e) (es : List Ent) : ((es.map entL).filter fun e => f e.2).map (·.1) = selT P es := by
  unfold selT
  rw [List.filter_map, List.map_map]
  have : (fun e : Ix.Rec × List Ix.V => f e.2) ∘ entL = P := funext fun e => h e
  rw [this]; rfl
theorem phr_end {es : List Ent} {n : List UInt8} {w : Ke.Row} {k : Nat} (h0 : k = 0 ∨ w ≠ []) (hk : es.length ≤ k) : selT (hasN n w) (es.take k) = Ix.phrase (es.map entL) n w := by
  unfold Ix.phrase
  by_cases hw : w = []
  · have h1 := h0.resolve_right fun g => g hw
    subst h1
    rw [if_pos hw]; rfl
  rw [if_neg hw, sel_eq _ _ (fun e => hasN_eq n w e), List.take_of_length_le hk]
theorem phr_no {es : List Ent} {n : List UInt8} {w : Ke.Row} {k : Nat} (h0 : k = 0 ∨ w ≠ []) (hw : w = []) : selT (hasN n w) (es.take k) = Ix.phrase (es.map entL) n w := by
  have h1 := h0.resolve_right fun g => g hw
  subst h1
  unfold Ix.phrase
  rw [if_pos hw]; rfl
def keyN (n k : List UInt8) (e : Ent) : Bool := hasKN n k e && decide (k ≠ [])
theorem with_eq (es : List Ent) (n k : List UInt8) : selT (keyN n k) es = Ix.withK (es.map entL) n k := by
  unfold Ix.withK
  by_cases hk : k = []
  · rw [if_pos hk]
    unfold selT keyN
    rw [List.filter_eq_nil_iff.2 fun e _ => by simp [hk]]; rfl
  rw [if_neg hk]
  exact (sel_eq _ (keyN n k) (fun e => by unfold keyN; rw [hasKN_eq, decide_eq_true hk, Bool.and_true]) es).symm
theorem ofN_text {f : Ke.Fld} {n : List UInt8} {x : List UInt8 × Nat} (h : x ∈ Ix.ofN f n) : x.1.length ≤ textsLen f.subs + f.subs.length + 13 := by
  have ht : ∀ c : List UInt8, (Ke.textOf f c).length ≤ textsLen f.subs + f.subs.length := textOf_len f
  have hp : ∀ (u : List UInt8 → List UInt8 × Bool) (c : UInt8), (∀ s, (u s).2 = true → (u s).1.length ≤ 13) → x ∈ psL u c f.subs → x.1.length ≤ textsLen f.subs + f.subs.length + 13 := fun u c hu hx => by
    unfold psL at hx
    obtain ⟨y, hy, rfl⟩ := List.mem_map.1 hx
    obtain ⟨s, _, he⟩ := List.mem_filterMap.1 hy
    unfold pickU at he
    split at he
    · rename_i hc; cases he; have := hu _ hc.1; dsimp only; omega
    cases he
  by_cases h1 : n = Ix.nTitle
  · rw [of_title h1] at h; split at h
    · rw [List.mem_singleton.1 h]; have := ht [97, 98]; dsimp only; omega
    cases h
  by_cases h2 : n = Ix.nAuthor
  · rw [of_author h2] at h; split at h
    · rw [List.mem_singleton.1 h]; have := ht [97]; dsimp only; omega
    cases h
  by_cases h3 : n = Ix.nSubject
  · rw [of_subject h3] at h; split at h
    · rw [List.mem_singleton.1 h]; have := ht [97, 120]; dsimp only; omega
    cases h
  by_cases h4 : n = Ix.nIsbn
  · rw [of_isbn h4] at h; split at h
    · exact hp _ _ (fun s _ => isbn_len s) h
    cases h
  by_cases h5 : n = Ix.nYear
  · rw [of_year h5] at h; split at h
    · refine hp _ _ (fun s hs => ?_) h
      unfold uy at hs ⊢
      cases hy : Ix.yearOf s with
      | none => simp
      | some y => have := yearOf_len hy; dsimp only [Option.getD]; omega
    cases h
  by_cases h6 : n = Ix.nAny
  · rw [of_any h6] at h; split at h
    · rw [List.mem_singleton.1 h]; have := all_len f; dsimp only; omega
    cases h
  rw [of_none h1 h2 h3 h4 h5 h6] at h; cases h
theorem valsN_text {fs : List Ke.Fld} (hok : EOK fs) {n : List UInt8} {x : List UInt8 × Nat} (h : x ∈ Ix.valsN fs n) : x.1.length ≤ 3002000 := by
  unfold Ix.valsN at h
  obtain ⟨f, hf, hx⟩ := List.mem_flatMap.1 h
  have h1 := ofN_text hx
  have h2 := hok.2 f hf
  omega
theorem RowS.len {α : Type} {f : α → List Value} {I : Heap} {l : List α} {v : Value} (h : RowS f I l v) : ∃ p c, v = .slice p l.length c := let ⟨p, c, h1, _⟩ := h; ⟨p, c, h1⟩
theorem rPhrase_ok (rb : Nat) (es : List Ent) (n s : List UInt8) (hs : s.length ≤ 1000000000) (I : Heap) (hx : RxP I rb es) : Ctr Tryz.prog 22 [ptr rb 0, str n, str s] I [] (fun e I' H' => ∃ v, e = .returned v ∧ RowS recC I' (Ix.phrase (es.map entL) n (Ke.words s)) v ∧ H' = []) := by
 have hlen := hx.len
 have heok := hx.eok
 obtain ⟨p, c, hR⟩ := hx.ex
 have hrb := hR.1
 have hwl := (Ke.words_len s).1
 refine Ctr.ob func22 ?_
 intro w0 hw0
 refine Cj.sr (J.z q1 ?_)
 refine J.nssr (J.z q0 ?_)
 refine J.op rfl (q52 rfl rfl rfl rfl rfl (rWords_ok s hs _) ?_)
 intro v2 I3 H4 hle5 hn1 hp6
 have hR := hR.mono hle5
 obtain ⟨gw, hgw, h, rfl⟩ := hp6; cases h
 refine J.keepS (hgw.base hn1) (fun Iw hlew hw => ?_)
 have hR := hR.mono hlew
 obtain ⟨pw, cw, hwe⟩ := StrS_sl hw
 refine J.eqv 15 rfl hwe ?_
 rw [hwe] at hw
 replace hw := StrP.of hw
 refine J.z q1 ?_
 refine J.nssr (J.z q1 ?_)
 refine J.nsss (Cj.region (J.z q1 ?_))
 refine J.ns (Cj.block (Cj.loop (ι := Nat × Heap × Gs) (fun y => y.1 ≤ es.length ∧ (y.1 = 0 ∨ (Ke.words s) ≠ []) ∧ StrP y.2.1 (Ke.words s) (.slice pw (Ke.words s).length cw) ∧ RxS y.2.1 rb es p c ∧ gOk w0.heap.size 2 (selT (hasN n (Ke.words s)) (es.take y.1)).length ((selT (hasN n (Ke.words s)) (es.take y.1)).flatMap recC) y.2.2) (fun y => es.length - y.1) (fun y => [(0, ptr rb 0), (1, str n), (7, .slice pw (Ke.words s).length cw), (8, gV (selT (hasN n (Ke.words s)) (es.take y.1)).length y.2.2), (9, i64 (y.1 : Int))]) (fun y => y.2.1) (fun y => gH 26 ((selT (hasN n (Ke.words s)) (es.take y.1)).flatMap recC) y.2.2) (0, _, none) ⟨Nat.zero_le _, .inl rfl, hw, hR, rfl, rfl⟩ ⟨rfl, rfl, rfl, rfl, rfl, trivial⟩ rfl rfl ?_))
 rintro ⟨k, J1, g⟩ ⟨hk, hk0, hw, hR, hg⟩
 dsimp only at hk hk0 hw hR hg ⊢
 have hrb := hR.1
 have hsl := selT_len (hasN n (Ke.words s)) (es.take k)
 rw [List.length_take, Nat.min_eq_left hk] at hsl
 refine Cj.seq (Cj.sr (J.z q0 ?_))
 refine J.z q0 ?_
 refine J.z q8 ?_
 refine J.z (q5 (off' := 0) tU73 tS27) ?_
 refine J.z (q10 tA27 (Blk.imm hrb)) ?_
 refine J.z (q14 tU27) ?_
 refine J.z q16 ?_
 refine J.z q0 ?_
 refine q15 23 (fun hg7 => ?_) (fun hg7 => ?_)
 ·
  have hg7p := odt hg7
  refine q3 7 23 true hg7 (q2 q0 ?_)
  refine q3 7 23 true hg7 (q2 (q14 tU28) ?_)
  refine q3 7 23 true hg7 (q2 (yl_gtr rfl rfl rfl) ?_)
  refine J.z (q11 hg7) ?_
  refine J.cd (fun hc8 => ?_) (fun hc8 => ?_)
  ·
   have hc8p := odt hc8
   have hwne : (Ke.words s) ≠ [] := ne_nil_of (k := 0) (by omega)
   refine Cj.ks (Cj.seq (Cj.block (Cj.seq ?_)))
   have hlt : k < es.length := by omega
   obtain ⟨e0, hget⟩ : ∃ x, es[k]? = some x := ⟨_, lgg hlt⟩
   have hek := heok e0 (lmg hget)
   obtain ⟨p1, c1, hpe, hc1, hp⟩ := id hR.2.1
   cases hpe
   obtain ⟨eb, eo, ecs, ety, efr, esp, rfl, heb, hed⟩ := hp (ne_nil_of hlt)
   have hrec := hR.2.2 e0 (lmg hget)
   obtain ⟨vp0, vc0, hev, -, -⟩ := id hrec.1
   have hnx := selT_next (P := (hasN n (Ke.words s))) hget
   refine Cj.region (J.z q0 ?_)
   refine J.z q8 ?_
   refine J.z (q5 (off' := 0) tU73 tS27) ?_
   refine J.z (q10 tA27 (Blk.imm hrb)) ?_
   refine J.z q0 ?_
   refine J.z (q20 (off' := eo + k * 5) tU27 tS37) ?_
   refine J.z (q5 (off' := eo + k * 5 + 2) tU37 tS35) ?_
   refine J.z (yl_loadAgg rfl rfl isAgg35 tS35 (Blk.imm heb) (ent_record hed hget) rfl) ?_
   refine J.z q0 ?_
   refine J.op rfl (q37 (H1 := []) rfl rfl rfl rfl rfl (rValues_ok e0.fs e0.v e0.k e0.l n hek _ hrec) ?_)
   intro v9 I10 H11 hle12 hp13
   have hR := hR.mono hle12
   have hw := hw.mono hle12
   have heb := hle12 _ _ heb
   obtain ⟨vv, h, hvals, rfl⟩ := hp13; cases h
   obtain ⟨pv, cv, rfl⟩ := RowS.len hvals
   have hvl : (Ix.valsN e0.fs n).length ≤ 1000000 := by have h1 := valsN_len n e0.fs (fun f hf => (hek.2 f hf).1); have h2 := hek.1; omega
   refine J.z q1 ?_
   refine J.nssr (J.z q1 ?_)
   refine J.nsss (Cj.region (J.z q1 ?_))
   refine J.ns (Cj.block (Cj.keep Keeps.r ?_))
   refine Cj.loop (ι := Nat × Heap) (fun y => y.1 ≤ (Ix.valsN e0.fs n).length ∧ Le I10 y.2) (fun y => (Ix.valsN e0.fs n).length - y.1) (fun y => [(0, ptr rb 0), (1, str n), (7, .slice pw (Ke.words s).length cw), (8, gV (selT (hasN n (Ke.words s)) (es.take k)).length g), (9, i64 (k : Int)), (10, .slice pv (Ix.valsN e0.fs n).length cv), (11, .bool (((Ix.valsN e0.fs n).take y.1).any (wIn (Ke.words s)))), (12, i64 (y.1 : Int))]) (fun y => y.2) (fun y => gH 26 ((selT (hasN n (Ke.words s)) (es.take k)).flatMap recC) g) (0, _) ⟨Nat.zero_le _, Le.refl _⟩ ⟨rfl, rfl, rfl, rfl, rfl, rfl, rfl, rfl, trivial⟩ rfl rfl ?_
   rintro ⟨j, J2⟩ ⟨hj, hIJ⟩
   dsimp only at hj hIJ ⊢
   have hR := hR.mono hIJ
   have hrb := hR.1
   have hw := hw.mono hIJ
   have heb := hIJ _ _ heb
   have hvals := hvals.mono hIJ
   refine Cj.seq (Cj.sr (J.z q0 ?_))
   refine J.z q0 ?_
   refine J.z (q14 tU101) ?_
   refine J.z q16 ?_
   refine J.cd (fun hc14 => ?_) (fun hc14 => ?_)
   ·
    have hc14p := odt hc14
    have hjlt : j < (Ix.valsN e0.fs n).length := by omega
    obtain ⟨x, hvget⟩ : ∃ x, (Ix.valsN e0.fs n)[j]? = some x := ⟨_, lgg hjlt⟩
    have hxt := valsN_text hek (lmg hvget)
    obtain ⟨p2, c2, hpe2, hc2, hp2⟩ := id hvals
    cases hpe2
    obtain ⟨vb, vo, vcs, vty, vfr, vsp, rfl, hvb, hvd⟩ := hp2 (ne_nil_of hjlt)
    refine Cj.ks (Cj.seq (Cj.block (Cj.sr (J.z q0 ?_))))
    refine J.z q0 ?_
    refine J.z q0 ?_
    refine J.z (q20 (off' := vo + j * 2) tU101 tS104) ?_
    refine J.z (q5 tU104 tS9) ?_
    refine J.z (yl_load rfl rfl tA9 (Blk.imm hvb) (row_fcell valC_len hvd hvget 0 (by decide))) ?_
    refine J.op rfl (q52 rfl rfl rfl rfl rfl (rWords_ok x.1 (by omega) _) ?_)
    intro v16 I17 H18 hle19 hn15 hp20
    have hIJ := hIJ.mono hle19
    have hw := hw.mono hle19
    obtain ⟨gx, hgx, h, rfl⟩ := hp20; cases h
    refine J.keepS (hgx.base hn15) (fun Ix1 hlex hwx => ?_)
    have hIJ := hIJ.mono hlex
    have hw := hw.mono hlex
    replace hwx := StrP.of hwx
    refine J.op rfl (op_pure rfl rfl rfl rfl rfl (rWithin_ok (Ke.words x.1) (Ke.words s) _ _ _ hwx hw (by have := (Ke.words_len x.1).1; omega) (by omega)) ?_)
    refine J.z q1 ?_
    refine J.nsr (J.z q0 ?_)
    refine J.z q0 ?_
    refine q15 55 (fun hg21 => ?_) (fun hg21 => ?_)
    ·
     have hfd := hg21
     refine q4 1 55 56 false hg21 ?_
     refine J.z (q11 hg21) ?_
     refine J.z q1 ?_
     refine J.nb (Cj.region (J.z q0 ?_))
     refine J.z q7 ?_
     refine J.z q1 ?_
     refine J.nil (Ej.round (j + 1, _) ⟨by dsimp only; omega, hIJ⟩ (by dsimp only; omega) ⟨rfl, rfl, rfl, rfl, rfl, rfl, by dsimp only; rw [any_next hvget, hfd]; rfl, rfl, trivial⟩ rfl rfl)
    have hfd := hg21
    refine q3 1 55 false hg21 (q2 q0 ?_)
    refine J.z (q9 hg21) ?_
    refine J.z q1 ?_
    refine J.nb (Cj.region (J.z q0 ?_))
    refine J.z q7 ?_
    refine J.z q1 ?_
    refine J.nil (Ej.round (j + 1, _) ⟨by dsimp only; omega, hIJ⟩ (by dsimp only; omega) ⟨rfl, rfl, rfl, rfl, rfl, rfl, by dsimp only; rw [any_next hvget, hfd, Bool.false_or]; rfl, rfl, trivial⟩ rfl rfl)
   have hc14p := odf hc14
   refine Cj.xl (Cj.sr (J.z q0 ?_))
   refine J.cd (fun hc22 => ?_) (fun hc22 => ?_)
   ·
    have hh : (hasN n (Ke.words s)) e0 = true := by have h := hc22; rw [List.take_of_length_le (by omega)] at h; exact h
    rw [if_pos hh] at hnx
    refine Cj.region (J.z q0 ?_)
    refine J.z q0 ?_
    refine J.z q8 ?_
    refine J.z (q5 (off' := 0) tU73 tS27) ?_
    refine J.z (q10 tA27 (Blk.imm hrb)) ?_
    refine J.z q0 ?_
    refine J.z (q20 (off' := eo + k * 5) tU27 tS37) ?_
    refine J.z (q5 tU37 tS26) ?_
    refine J.z (yl_loadAgg rfl rfl tA26 tS26 (Blk.imm heb) (ent_rec hed hget) rfl) ?_
    refine J.op rfl (q44 tU44 tS26 tZ26 ?_)
    intro b23 hb23
    refine J.op rfl (op_append (by' := 15) [_] rfl rfl rfl rfl rfl tU44 (.inr ⟨_, tU44⟩) (by kernel_rfl) tS26 tZ26 rfl hg rfl (Src.slice (Blk.at 0 rfl) rfl rfl rfl) (by omega) ?_)
    intro g24 hg24
    refine J.z q1 ?_
    refine J.nb (Cj.region (J.z q0 ?_))
    refine J.z q7 ?_
    refine J.z q1 ?_
    refine J.nil (Ej.keep (Keeps.d Keeps.r) ?_)
    refine Ej.round (k + 1, _, g24) ⟨by dsimp only; omega, .inr hwne, hw, hR, by dsimp only; rw [hnx, List.length_append, List.flatMap_append]; exact hg24⟩ (by dsimp only; omega) ⟨rfl, rfl, rfl, by dsimp only; rw [hnx, List.length_append]; rfl, rfl, trivial⟩ rfl (by dsimp only; rw [hnx, List.flatMap_append]; rfl)
   have hh : (hasN n (Ke.words s)) e0 = false := by have h := hc22; rw [List.take_of_length_le (by omega)] at h; exact h
   rw [if_neg (fun g => Bool.noConfusion (g.symm.trans hh))] at hnx
   refine Cj.kb (Cj.region (J.z q0 ?_))
   refine J.z q7 ?_
   refine J.z q1 ?_
   refine J.nil (Ej.round (k + 1, _, g) ⟨by dsimp only; omega, .inr hwne, hw, hR, by dsimp only; rw [hnx, List.append_nil]; exact hg⟩ (by dsimp only; omega) ⟨rfl, rfl, rfl, by dsimp only; rw [hnx, List.append_nil]; rfl, rfl, trivial⟩ rfl (by dsimp only; rw [hnx, List.append_nil]))
  have hc8p := odf hc8
  refine Cj.xl (Cj.sr (J.z q0 ?_))
  refine J.z q1 ?_
  refine J.ns (Cj.ret ?_)
  have hph := phr_no hk0 (List.length_eq_zero_iff.1 (by omega)) (es := es) (n := n) (w := (Ke.words s)) (k := k)
  rw [hph] at hg ⊢
  refine Ej.perm (H' := gH 26 ((Ix.phrase (es.map entL) n (Ke.words s)).flatMap recC) g ++ []) (.of_eq (List.append_nil _)) ?_
  refine Ej.keepR recC_len (by decide) hg rfl (fun I8 hle8 hw8 => ?_)
  refine q6 ?_
  exact ⟨_, rfl, hw8, rfl⟩
 have hg7p := odf hg7
 refine q4 7 23 24 true hg7 ?_
 refine q4 7 23 25 true hg7 ?_
 refine q4 7 23 26 true hg7 ?_
 refine J.z (q9 hg7) ?_
 refine J.c0 (fun hc25 => ?_)
 refine Cj.xl (Cj.sr (J.z q0 ?_))
 refine J.z q1 ?_
 refine J.ns (Cj.ret ?_)
 have hph := phr_end hk0 (by omega) (es := es) (n := n) (w := (Ke.words s)) (k := k)
 rw [hph] at hg ⊢
 refine Ej.perm (H' := gH 26 ((Ix.phrase (es.map entL) n (Ke.words s)).flatMap recC) g ++ []) (.of_eq (List.append_nil _)) ?_
 refine Ej.keepR recC_len (by decide) hg rfl (fun I8 hle8 hw8 => ?_)
 refine q6 ?_
 exact ⟨_, rfl, hw8, rfl⟩
theorem rWord_ok (rb : Nat) (es : List Ent) (n s : List UInt8) (hs : s.length ≤ 1000000000) (I : Heap) (hx : RxP I rb es) : Ctr Tryz.prog 20 [ptr rb 0, str n, str s] I [] (fun e I' H' => ∃ v, e = .returned v ∧ RowS recC I' (Ix.word (es.map entL) n s) v ∧ H' = []) := by
 have hwl := (Ke.words_len s).1
 refine Ctr.ob func20 ?_
 intro w0 hw0
 refine Cj.sr (J.z q1 ?_)
 refine J.nsss (Cj.region (J.z q0 ?_))
 refine J.op rfl (q52 rfl rfl rfl rfl rfl (rWords_ok s hs _) ?_)
 intro v2 I3 H4 hle5 hn1 hp6
 have hx := hx.mono hle5
 obtain ⟨gw, hgw, h, rfl⟩ := hp6; cases h
 refine J.keepS (hgw.base hn1) (fun Iw hlew hw => ?_)
 have hx := hx.mono hlew
 obtain ⟨pw, cw, hwe⟩ := StrS_sl hw
 refine J.eqv 8 rfl hwe ?_
 rw [hwe] at hw
 replace hw := StrP.of hw
 refine J.z (q14 tU28) ?_
 refine J.z q45 ?_
 refine J.cd (fun hc7 => ?_) (fun hc7 => ?_)
 ·
  have hc7p := bne_iff_ne.1 hc7
  have hne : Ix.word (es.map entL) n s = [] := word_no (by have h := bne_iff_ne.1 hc7; omega)
  refine Cj.sr (J.z q1 ?_)
  refine J.ns (Cj.rs ?_)
  rw [hne]
  refine q6 ?_
  exact ⟨_, rfl, RowS.nil, rfl⟩
 have hc7p := bne_f hc7
 have hne : Ix.word (es.map entL) n s = Ix.phrase (es.map entL) n (Ke.words s) := if_pos (by have h := bne_f hc7; omega)
 refine Cj.ks (Cj.sr (J.z q0 ?_))
 refine J.z q0 ?_
 refine J.z q0 ?_
 refine J.op rfl (q37 (H1 := []) rfl rfl rfl rfl rfl (rPhrase_ok rb es n s hs _ hx) ?_)
 intro v8 I9 H10 hle11 hp12
 obtain ⟨vhph, h, hph, rfl⟩ := hp12; cases h
 refine J.z q1 ?_
 refine J.ns (Cj.ret ?_)
 rw [hne]
 refine q6 ?_
 exact ⟨_, rfl, hph, rfl⟩
theorem rWith_ok (rb : Nat) (es : List Ent) (n key : List UInt8) (I : Heap) (hx : RxP I rb es) : Ctr Tryz.prog 56 [ptr rb 0, str n, str key] I [] (fun e I' H' => ∃ v, e = .returned v ∧ RowS recC I' (Ix.withK (es.map entL) n key) v ∧ H' = []) := by
 have hlen := hx.len
 have heok := hx.eok
 obtain ⟨p, c, hR⟩ := hx.ex
 have hrb := hR.1
 refine Ctr.ob func56 ?_
 intro w0 hw0
 refine Cj.sr (J.z q1 ?_)
 refine J.nssr (J.z q1 ?_)
 refine J.nsss (Cj.region (J.z q1 ?_))
 refine J.ns (Cj.block (Cj.loop (ι := Nat × Heap × Gs) (fun y => y.1 ≤ es.length ∧ RxS y.2.1 rb es p c ∧ gOk w0.heap.size 2 (selT (keyN n key) (es.take y.1)).length ((selT (keyN n key) (es.take y.1)).flatMap recC) y.2.2) (fun y => es.length - y.1) (fun y => [(0, ptr rb 0), (1, str n), (2, str key), (7, gV (selT (keyN n key) (es.take y.1)).length y.2.2), (8, i64 (y.1 : Int))]) (fun y => y.2.1) (fun y => gH 26 ((selT (keyN n key) (es.take y.1)).flatMap recC) y.2.2) (0, _, none) ⟨Nat.zero_le _, hR, rfl, rfl⟩ ⟨rfl, rfl, rfl, rfl, rfl, trivial⟩ rfl rfl ?_))
 rintro ⟨k, J1, g⟩ ⟨hk, hR, hg⟩
 dsimp only at hk hR hg ⊢
 have hrb := hR.1
 have hsl := selT_len (keyN n key) (es.take k)
 rw [List.length_take, Nat.min_eq_left hk] at hsl
 refine Cj.seq (Cj.sr (J.z q0 ?_))
 refine J.z q0 ?_
 refine J.z q8 ?_
 refine J.z (q5 (off' := 0) tU73 tS27) ?_
 refine J.z (q10 tA27 (Blk.imm hrb)) ?_
 refine J.z (q14 tU27) ?_
 refine J.z q16 ?_
 refine J.cd (fun hc1 => ?_) (fun hc1 => ?_)
 ·
  have hc1p := odt hc1
  refine Cj.ks (Cj.seq (Cj.block (Cj.seq ?_)))
  have hlt : k < es.length := by omega
  obtain ⟨e0, hget⟩ : ∃ x, es[k]? = some x := ⟨_, lgg hlt⟩
  have hek := heok e0 (lmg hget)
  obtain ⟨p1, c1, hpe, hc1, hp⟩ := id hR.2.1
  cases hpe
  obtain ⟨eb, eo, ecs, ety, efr, esp, rfl, heb, hed⟩ := hp (ne_nil_of hlt)
  have hrec := hR.2.2 e0 (lmg hget)
  obtain ⟨vp0, vc0, hev, -, -⟩ := id hrec.1
  have hnx := selT_next (P := (keyN n key)) hget
  refine Cj.region (J.z q0 ?_)
  refine J.z q8 ?_
  refine J.z (q5 (off' := 0) tU73 tS27) ?_
  refine J.z (q10 tA27 (Blk.imm hrb)) ?_
  refine J.z q0 ?_
  refine J.z (q20 (off' := eo + k * 5) tU27 tS37) ?_
  refine J.z (q5 (off' := eo + k * 5 + 2) tU37 tS35) ?_
  refine J.z (yl_loadAgg rfl rfl isAgg35 tS35 (Blk.imm heb) (ent_record hed hget) rfl) ?_
  refine J.z q0 ?_
  refine J.op rfl (q37 (H1 := []) rfl rfl rfl rfl rfl (rValues_ok e0.fs e0.v e0.k e0.l n hek _ hrec) ?_)
  intro v2 I3 H4 hle5 hp6
  have hR := hR.mono hle5
  have hrb := hle5 _ _ hrb
  have heb := hle5 _ _ heb
  obtain ⟨vv, h, hvals, rfl⟩ := hp6; cases h
  obtain ⟨pv, cv, rfl⟩ := RowS.len hvals
  have hvl : (Ix.valsN e0.fs n).length ≤ 1000000 := by have h1 := valsN_len n e0.fs (fun f hf => (hek.2 f hf).1); have h2 := hek.1; omega
  refine J.z q1 ?_
  refine J.nssr (J.z q1 ?_)
  refine J.nsss (Cj.region (J.z q1 ?_))
  refine J.ns (Cj.block (Cj.keep Keeps.r ?_))
  refine Cj.loop (ι := Nat) (fun j => j ≤ (Ix.valsN e0.fs n).length) (fun j => (Ix.valsN e0.fs n).length - j) (fun j => [(0, ptr rb 0), (1, str n), (2, str key), (7, gV (selT (keyN n key) (es.take k)).length g), (8, i64 (k : Int)), (9, .slice pv (Ix.valsN e0.fs n).length cv), (10, .bool (((Ix.valsN e0.fs n).take j).any (kIn key))), (11, i64 (j : Int))]) (fun j => _) (fun j => gH 26 ((selT (keyN n key) (es.take k)).flatMap recC) g) 0 (Nat.zero_le _) ⟨rfl, rfl, rfl, rfl, rfl, rfl, rfl, rfl, trivial⟩ rfl rfl ?_
  intro j hj
  refine Cj.seq (Cj.sr (J.z q0 ?_))
  refine J.z q0 ?_
  refine J.z (q14 tU101) ?_
  refine J.z q16 ?_
  refine J.cd (fun hc7 => ?_) (fun hc7 => ?_)
  ·
   have hc7p := odt hc7
   have hjlt : j < (Ix.valsN e0.fs n).length := by omega
   obtain ⟨x, hvget⟩ : ∃ x, (Ix.valsN e0.fs n)[j]? = some x := ⟨_, lgg hjlt⟩
   have hxt := valsN_text hek (lmg hvget)
   obtain ⟨p2, c2, hpe2, hc2, hp2⟩ := id hvals
   cases hpe2
   obtain ⟨vb, vo, vcs, vty, vfr, vsp, rfl, hvb, hvd⟩ := hp2 (ne_nil_of hjlt)
   refine Cj.ks (Cj.seq (Cj.block (Cj.seq (Cj.drawSel [] [] 13 (by kernel_rfl) ?_))))
   have hrb_10 := hrb
   have heb_10 := heb
   have hvb_10 := hvb
   refine JA.fix fx1 (fun fx8 => ?_)
   refine JA.tk 0 rfl fx8 q0 ?_
   refine JA.tk 1 rfl fx8 q0 ?_
   refine JA.tk 2 rfl fx8 (q20 (off' := vo + j * 2) tU101 tS104) ?_
   refine JA.tk 3 rfl fx8 (q5 tU104 tS9) ?_
   refine JA.tk 4 rfl fx8 (yl_load rfl rfl tA9 (Blk.immC hvb_10) (row_fcell valC_len hvd hvget 0 (by decide))) ?_
   refine JA.tk 5 rfl fx8 q0 ?_
   refine JA.tk 6 rfl fx8 q0 ?_
   refine JA.tk 7 rfl fx8 (q20 (off' := vo + j * 2) tU101 tS104) ?_
   refine JA.tk 8 rfl fx8 (q5 (off' := vo + j * 2 + 1) tU104 tS3) ?_
   refine JA.tk 9 rfl fx8 (yl_load rfl rfl tA3 (Blk.immC hvb_10) (row_fcell valC_len hvd hvget 1 (by decide))) ?_
   refine JA.tk 11 rfl fx8 q0 ?_
   refine q13 10 rfl (op_pure rfl rfl rfl rfl rfl (rSort_ok x.1 _ (by omega) _) ?_)
   refine ⟨fx0, ?_⟩
   refine JA.fix fx1 (fun fx9 => ?_)
   refine JA.tk 12 rfl fx9 q31 ?_
   refine q12 ?_
   refine Ej.seq (Cj.cond rfl (fun hc10 => ?_) (fun hc10 => ?_))
   ·
    have hc10p := ebq hc10
    have hks : kIn key x = true := decide_eq_true (ebq hc10)
    refine Cj.region (J.z q1 ?_)
    refine J.nb (Cj.region (J.z q0 ?_))
    refine J.z q7 ?_
    refine J.z q1 ?_
    refine J.nil (Ej.round (j + 1) (by omega) (by omega) ⟨rfl, rfl, rfl, rfl, rfl, rfl, by rw [any_next hvget, hks, Bool.or_true]; rfl, rfl, trivial⟩ rfl rfl)
   have hc10p := nbf hc10
   have hks : kIn key x = false := decide_eq_false (nbf hc10)
   refine Cj.kb (Cj.region (J.z q0 ?_))
   refine J.z q7 ?_
   refine J.z q1 ?_
   refine J.nil (Ej.round (j + 1) (by omega) (by omega) ⟨rfl, rfl, rfl, rfl, rfl, rfl, by rw [any_next hvget, hks, Bool.or_false]; rfl, rfl, trivial⟩ rfl rfl)
  have hc7p := odf hc7
  refine Cj.xl (Cj.sr (J.z q0 ?_))
  refine J.z q0 ?_
  refine q15 51 (fun hg11 => ?_) (fun hg11 => ?_)
  ·
   have hfd : hasKN n key e0 = true := by have h := hg11; rw [List.take_of_length_le (by omega)] at h; exact h
   refine q3 1 51 true hg11 (q2 q0 ?_)
   refine q3 1 51 true hg11 (q2 (yl_neqStr rfl rfl rfl) ?_)
   refine J.z (q11 hg11) ?_
   refine J.cd (fun hc12 => ?_) (fun hc12 => ?_)
   ·
    have hc12p := bne_iff_ne.1 hc12
    have hh : (keyN n key) e0 = true := by unfold keyN; rw [hfd, decide_eq_true (bne_iff_ne.1 hc12)]; rfl
    rw [if_pos hh] at hnx
    refine Cj.region (J.z q0 ?_)
    refine J.z q0 ?_
    refine J.z q8 ?_
    refine J.z (q5 (off' := 0) tU73 tS27) ?_
    refine J.z (q10 tA27 (Blk.imm hrb)) ?_
    refine J.z q0 ?_
    refine J.z (q20 (off' := eo + k * 5) tU27 tS37) ?_
    refine J.z (q5 tU37 tS26) ?_
    refine J.z (yl_loadAgg rfl rfl tA26 tS26 (Blk.imm heb) (ent_rec hed hget) rfl) ?_
    refine J.op rfl (q44 tU44 tS26 tZ26 ?_)
    intro b13 hb13
    refine J.op rfl (op_append (by' := 15) [_] rfl rfl rfl rfl rfl tU44 (.inr ⟨_, tU44⟩) (by kernel_rfl) tS26 tZ26 rfl hg rfl (Src.slice (Blk.at 0 rfl) rfl rfl rfl) (by omega) ?_)
    intro g14 hg14
    refine J.z q1 ?_
    refine J.nb (Cj.region (J.z q0 ?_))
    refine J.z q7 ?_
    refine J.z q1 ?_
    refine J.nil (Ej.keep (Keeps.d Keeps.r) ?_)
    refine Ej.round (k + 1, _, g14) ⟨by dsimp only; omega, hR, by dsimp only; rw [hnx, List.length_append, List.flatMap_append]; exact hg14⟩ (by dsimp only; omega) ⟨rfl, rfl, rfl, by dsimp only; rw [hnx, List.length_append]; rfl, rfl, trivial⟩ rfl (by dsimp only; rw [hnx, List.flatMap_append]; rfl)
   have hc12p := bne_f hc12
   have hh : (keyN n key) e0 = false := by unfold keyN; rw [decide_eq_false (fun g => g (bne_f hc12)), Bool.and_false]
   rw [if_neg (fun g => Bool.noConfusion (g.symm.trans hh))] at hnx
   refine Cj.kb (Cj.region (J.z q0 ?_))
   refine J.z q7 ?_
   refine J.z q1 ?_
   refine J.nil (Ej.round (k + 1, _, g) ⟨by dsimp only; omega, hR, by dsimp only; rw [hnx, List.append_nil]; exact hg⟩ (by dsimp only; omega) ⟨rfl, rfl, rfl, by dsimp only; rw [hnx, List.append_nil]; rfl, rfl, trivial⟩ rfl (by dsimp only; rw [hnx, List.append_nil]))
  have hfd : hasKN n key e0 = false := by have h := hg11; rw [List.take_of_length_le (by omega)] at h; exact h
  have hh : (keyN n key) e0 = false := by unfold keyN; rw [hfd]; rfl
  rw [if_neg (fun g => Bool.noConfusion (g.symm.trans hh))] at hnx
  refine q4 1 51 52 true hg11 ?_
  refine q4 1 51 53 true hg11 ?_
  refine J.z (q9 hg11) ?_
  refine J.c0 (fun hc15 => ?_)
  refine Cj.kb (Cj.region (J.z q0 ?_))
  refine J.z q7 ?_
  refine J.z q1 ?_
  refine J.nil (Ej.round (k + 1, _, g) ⟨by dsimp only; omega, hR, by dsimp only; rw [hnx, List.append_nil]; exact hg⟩ (by dsimp only; omega) ⟨rfl, rfl, rfl, by dsimp only; rw [hnx, List.append_nil]; rfl, rfl, trivial⟩ rfl (by dsimp only; rw [hnx, List.append_nil]))
 have hc1p := odf hc1
 refine Cj.xl (Cj.sr (J.z q0 ?_))
 refine J.z q1 ?_
 refine J.ns (Cj.ret ?_)
 have hph := with_eq es n key
 rw [List.take_of_length_le (by omega : es.length ≤ k), hph] at hg ⊢
 refine Ej.perm (H' := gH 26 ((Ix.withK (es.map entL) n key).flatMap recC) g ++ []) (.of_eq (List.append_nil _)) ?_
 refine Ej.keepR recC_len (by decide) hg rfl (fun I8 hle8 hw8 => ?_)
 refine q6 ?_
 exact ⟨_, rfl, hw8, rfl⟩
theorem rKey_ok (rb : Nat) (es : List Ent) (n s : List UInt8) (hs : s.length ≤ 100000000) (I : Heap) (hx : RxP I rb es) : Ctr Tryz.prog 24 [ptr rb 0, str n, str s] I [] (fun e I' H' => ∃ v, e = .returned v ∧ RowS recC I' (Ix.withK (es.map entL) n (Ix.keyOf n s)) v ∧ H' = []) := by
 refine Ctr.ob func24 ?_
 intro w0 hw0
 refine Cj.sr (J.z q1 ?_)
 refine J.nssr (J.z q0 ?_)
 refine J.z q0 ?_
 refine J.z q0 ?_
 refine J.z q0 ?_
 refine J.op rfl (op_pure rfl rfl rfl rfl rfl (rKeyOf_ok n s hs _) ?_)
 refine J.op rfl (q37 (H1 := []) rfl rfl rfl rfl rfl (rWith_ok rb es n (Ix.keyOf n s) _ hx) ?_)
 intro v1 I2 H3 hle4 hp5
 obtain ⟨vhph, h, hph, rfl⟩ := hp5; cases h
 refine J.z q1 ?_
 refine J.ns (Cj.ret (q6 ?_))
 exact ⟨_, rfl, hph, rfl⟩
def kOf (b : List UInt8) (x : List UInt8 × Nat) : List (List UInt8) := if Ke.sortKey x.1 x.2 ≠ [] ∧ ¬ Ke.sortKey x.1 x.2 < b then [Ke.sortKey x.1 x.2] else []
def ksP (n b : List UInt8) (es : List Ent) : List (List UInt8) := es.flatMap fun e => (Ix.valsN e.fs n).flatMap (kOf b)
theorem kOf_all (b : List UInt8) : ∀ xs : List (List UInt8 × Nat), xs.flatMap (kOf b) = ((xs.map fun x => Ke.sortKey x.1 x.2).filter fun k => decide (k ≠ [])).filter fun k => decide (¬ k < b)
  | [] => rfl
  | x :: r => by
    rw [List.flatMap_cons, kOf_all b r, List.map_cons, List.filter_cons]
    unfold kOf
    by_cases h1 : Ke.sortKey x.1 x.2 = []
    · rw [if_neg (fun g => g.1 h1), if_neg (by simp [h1])]; rfl
    rw [if_pos (decide_eq_true h1), List.filter_cons]
    by_cases h2 : Ke.sortKey x.1 x.2 < b
    · rw [if_neg (fun g => g.2 h2), if_neg (fun g => absurd h2 (odt g))]; rfl
    rw [if_pos ⟨h1, h2⟩, if_pos (decide_eq_true h2)]; rfl
theorem ksP_eq (n b : List UInt8) : ∀ es : List Ent, ksP n b es = ((es.map entL).flatMap fun e => Ix.keysOf n e.2).filter fun k => decide (¬ k < b)
  | [] => rfl
  | e :: r => by
    have ih := ksP_eq n b r
    unfold ksP at ih ⊢
    rw [List.flatMap_cons, ih, List.map_cons, List.flatMap_cons, List.filter_append, kOf_all]
    congr 2
    unfold Ix.keysOf
    rw [← Ix.valsN_eq, List.map_map]; rfl
theorem ks_all (n b : List UInt8) (es : List Ent) : (ksP n b es).foldl Ke.put [] = Ix.keysAll (es.map entL) n b := by rw [ksP_eq]; rfl
theorem flat_next {α β : Type} (f : α → List β) {l : List α} {k : Nat} {x : α} (h : l[k]? = some x) : (l.take (k + 1)).flatMap f = (l.take k).flatMap f ++ f x := by
  obtain ⟨hlt, h⟩ := List.getElem?_eq_some_iff.1 h
  rw [List.take_succ_eq_append_getElem hlt, h, List.flatMap_append]; simp
theorem kOf_len (b : List UInt8) : ∀ xs : List (List UInt8 × Nat), (xs.flatMap (kOf b)).length ≤ xs.length
  | [] => Nat.le_refl _
  | x :: r => by
    have := kOf_len b r
    have h1 : (kOf b x).length ≤ 1 := by unfold kOf; split <;> simp
    rw [List.flatMap_cons, List.length_append, List.length_cons]; omega
theorem ksP_len (n b : List UInt8) : ∀ es : List Ent, (∀ e ∈ es, EOK e.fs) → (ksP n b es).length ≤ es.length * 1000000
  | [], _ => by simp [ksP]
  | e :: r, h => by
    have h1 := ksP_len n b r fun x hx => h x (.tail _ hx)
    have he := h e (.head _)
    have h2 := kOf_len b (Ix.valsN e.fs n)
    have h3 := valsN_len n e.fs fun f hf => (he.2 f hf).1
    have h4 := he.1
    unfold ksP at h1 ⊢
    rw [List.flatMap_cons, List.length_append, List.length_cons, Nat.add_mul]
    omega
theorem puts_incA (xs : List (List UInt8)) : Ke.Inc (xs.foldl Ke.put []) := Ke.puts_inc xs List.Pairwise.nil
theorem take_most {α : Type} {l : List α} {i : Nat} {most : Int} (h0 : (i : Int) ≤ most ∨ i = 0) (hi : i ≤ l.length) (h : l.length ≤ i ∨ most ≤ (i : Int)) : l.take i = l.take most.toNat := by
  rcases h with h | h
  · rw [List.take_of_length_le h]
    rcases h0 with g | g
    · rw [List.take_of_length_le (by omega)]
    subst g
    have : l = [] := List.length_eq_zero_iff.1 (by omega)
    subst this; simp
  rcases h0 with g | g
  · rw [show most.toNat = i by omega]
  rw [show most.toNat = i by omega]
def lnK (L : Ix.Ix) (n k : List UInt8) : List UInt8 × Nat := (k, (Ix.withK L n k).length)
def lnR (L : Ix.Ix) (n : List UInt8) (ks : List (List UInt8)) : List (List UInt8 × Int) := (ks.map (lnK L n)).map lineI
theorem lnR_next (L : Ix.Ix) (n : List UInt8) {ks : List (List UInt8)} {i : Nat} {k : List UInt8} (h : ks[i]? = some k) : lnR L n (ks.take (i + 1)) = lnR L n (ks.take i) ++ [lineI (lnK L n k)] := by
  unfold lnR
  rw [map_next _ h, List.map_append]; rfl
theorem lnR_len (L : Ix.Ix) (n : List UInt8) (ks : List (List UInt8)) : (lnR L n ks).length = ks.length := by unfold lnR; rw [List.length_map, List.length_map]
theorem withK_len (es : List Ent) (n k : List UInt8) : (Ix.withK (es.map entL) n k).length ≤ es.length := by
  rw [← with_eq]; exact selT_len _ _
theorem rget_cons (x : Ent) (es : List Ent) (t : Ix.Rec) : Ix.rget ((x :: es).map entL) t = if x.t = t then some (Ix.vals x.fs) else Ix.rget (es.map entL) t := by
  unfold Ix.rget
  rw [List.map_cons, List.find?_cons]
  by_cases h : x.t = t
  · rw [if_pos h]; simp [entL, h]
  rw [if_neg h]; simp [h]
theorem rget_there : ∀ {es : List Ent} {t : Ix.Rec} {e : Ent}, ethere es t = true → es[epos es t]? = some e → Ix.rget (es.map entL) t = some (Ix.vals e.fs)
  | [], _, _, h, _ => by cases h
  | x :: r, t, e, h, hg => by
    rw [ethere_cons] at h
    rw [epos_cons] at hg
    rw [rget_cons]
    by_cases hl : Ix.lessR x.t t = true
    · rw [if_pos hl] at h hg
      rw [if_neg (fun g => by rw [g, Ix.lessR_irr] at hl; cases hl)]
      exact rget_there h hg
    rw [if_neg hl] at h hg
    have hx : x.t = t := by simpa using h
    cases hg
    rw [if_pos hx]
theorem rget_gone : ∀ {es : List Ent} {t : Ix.Rec}, Ix.Srt (es.map entL) → ethere es t = false → Ix.rget (es.map entL) t = none
  | [], _, _, _ => rfl
  | x :: r, t, hs, h => by
    have h' := List.pairwise_cons.1 hs
    rw [ethere_cons] at h
    rw [rget_cons]
    by_cases hl : Ix.lessR x.t t = true
    · rw [if_pos hl] at h
      rw [if_neg (fun g => by rw [g, Ix.lessR_irr] at hl; cases hl)]
      exact rget_gone h'.2 h
    rw [if_neg hl] at h
    have hx : x.t ≠ t := by simpa using h
    rw [if_neg hx, Ix.rget_none]
    intro y hy he
    have h1 := h'.1 y hy
    rw [he] at h1
    exact hl h1
theorem sort_val {es : List Ent} {t : Ix.Rec} {e : Ent} (h : ethere es t = true) (hg : es[epos es t]? = some e) : Ix.sortOf (es.map entL) t = match (Ix.valsN e.fs Ix.nTitle)[0]? with
    | none => []
    | some x => Ke.sortKey x.1 x.2 := by
  rw [sortOf_at, rget_there h hg, ← Ix.valsN_eq, List.getElem?_map, ← List.head?_eq_getElem?, List.head?_filter]
  show (match (Ix.vals e.fs).find? fun v => decide (v.name = Ix.nTitle) with
    | none => []
    | some v => v.key) = _
  cases (Ix.vals e.fs).find? fun v => decide (v.name = Ix.nTitle) with
  | none => rfl
  | some v => rfl
theorem sort_gone {es : List Ent} {t : Ix.Rec} (hs : Ix.Srt (es.map entL)) (h : ethere es t = false) : Ix.sortOf (es.map entL) t = [] := by
  unfold Ix.sortOf; rw [rget_gone hs h]
theorem ge_str {a b : List UInt8} (h : (!decide (a < b)) = true) : ¬ a < b := by simpa using h
theorem nge_str {a b : List UInt8} (h : (!decide (a < b)) = false) : a < b := by simpa using h
theorem rScan_ok (rb : Nat) (es : List Ent) (n s : List UInt8) (hs : s.length ≤ 100000000) (most : Int) (I : Heap) (hx : RxP I rb es) : Ctr Tryz.prog 27 [ptr rb 0, str n, str s, i64 most] I [] (fun e I' H' => ∃ v, e = .returned v ∧ RowS lineC I' ((Ix.scan (es.map entL) n s most).map lineI) v ∧ H' = []) := by
 have hlen := hx.len
 have heok := hx.eok
 obtain ⟨p, c, hR⟩ := hx.ex
 have hrb := hR.1
 refine Ctr.ob func27 ?_
 intro w0 hw0
 refine Cj.sr (J.z q1 ?_)
 refine J.nssr (J.z q0 ?_)
 refine J.z q0 ?_
 refine J.op rfl (op_pure rfl rfl rfl rfl rfl (rKeyOf_ok n s hs _) ?_)
 refine J.z q1 ?_
 refine J.nssr (J.z q1 ?_)
 refine J.nsss (Cj.region (J.z q1 ?_))
 refine J.ns (Cj.block (Cj.loop (ι := Nat × Heap × Value) (fun y => y.1 ≤ es.length ∧ RxS y.2.1 rb es p c ∧ StrP y.2.1 ((ksP n (Ix.keyOf n s) (es.take y.1)).foldl Ke.put []) y.2.2) (fun y => es.length - y.1) (fun y => [(0, ptr rb 0), (1, str n), (3, i64 most), (9, str (Ix.keyOf n s)), (10, y.2.2), (11, i64 (y.1 : Int))]) (fun y => y.2.1) (fun y => []) (0, _, _) ⟨Nat.zero_le _, hR, ⟨none, 0, rfl, Nat.le_refl _, fun h => absurd rfl h⟩⟩ ⟨rfl, rfl, rfl, rfl, rfl, rfl, trivial⟩ rfl rfl ?_))
 rintro ⟨k, J1, w⟩ ⟨hk, hR, hv⟩
 dsimp only at hk hR hv ⊢
 have hrb := hR.1
 have hkl := ksP_len n (Ix.keyOf n s) (es.take k) (fun e he => heok e (List.mem_of_mem_take he))
 rw [List.length_take, Nat.min_eq_left hk] at hkl
 refine Cj.seq (Cj.sr (J.z q0 ?_))
 refine J.z q0 ?_
 refine J.z q8 ?_
 refine J.z (q5 (off' := 0) tU73 tS27) ?_
 refine J.z (q10 tA27 (Blk.imm hrb)) ?_
 refine J.z (q14 tU27) ?_
 refine J.z q16 ?_
 refine J.cd (fun hc1 => ?_) (fun hc1 => ?_)
 ·
  have hc1p := odt hc1
  refine Cj.ks (Cj.seq (Cj.block (Cj.seq ?_)))
  have hlt : k < es.length := by omega
  obtain ⟨e0, hget⟩ : ∃ x, es[k]? = some x := ⟨_, lgg hlt⟩
  have hek := heok e0 (lmg hget)
  obtain ⟨p1, c1, hpe, hc1, hp⟩ := id hR.2.1
  cases hpe
  obtain ⟨eb, eo, ecs, ety, efr, esp, rfl, heb, hed⟩ := hp (ne_nil_of hlt)
  have hrec := hR.2.2 e0 (lmg hget)
  obtain ⟨vp0, vc0, hev, -, -⟩ := id hrec.1
  have hnx : ksP n (Ix.keyOf n s) (es.take (k + 1)) = ksP n (Ix.keyOf n s) (es.take k) ++ (Ix.valsN e0.fs n).flatMap (kOf (Ix.keyOf n s)) := flat_next _ hget
  refine Cj.region (J.z q0 ?_)
  refine J.z q8 ?_
  refine J.z (q5 (off' := 0) tU73 tS27) ?_
  refine J.z (q10 tA27 (Blk.imm hrb)) ?_
  refine J.z q0 ?_
  refine J.z (q20 (off' := eo + k * 5) tU27 tS37) ?_
  refine J.z (q5 (off' := eo + k * 5 + 2) tU37 tS35) ?_
  refine J.z (yl_loadAgg rfl rfl isAgg35 tS35 (Blk.imm heb) (ent_record hed hget) rfl) ?_
  refine J.z q0 ?_
  refine J.op rfl (q37 (H1 := []) rfl rfl rfl rfl rfl (rValues_ok e0.fs e0.v e0.k e0.l n hek _ hrec) ?_)
  intro v2 I3 H4 hle5 hp6
  have hR := hR.mono hle5
  have hv := hv.mono hle5
  have heb := hle5 _ _ heb
  obtain ⟨vv, h, hvals, rfl⟩ := hp6; cases h
  obtain ⟨pv, cv, rfl⟩ := RowS.len hvals
  have hvl : (Ix.valsN e0.fs n).length ≤ 1000000 := by have h1 := valsN_len n e0.fs (fun f hf => (hek.2 f hf).1); have h2 := hek.1; omega
  refine J.z q1 ?_
  refine J.nssr (J.z q1 ?_)
  refine J.ns (Cj.block (Cj.loop (ι := Nat × Heap × Value) (fun y => y.1 ≤ (Ix.valsN e0.fs n).length ∧ Le I3 y.2.1 ∧ StrP y.2.1 ((ksP n (Ix.keyOf n s) (es.take k) ++ ((Ix.valsN e0.fs n).take y.1).flatMap (kOf (Ix.keyOf n s))).foldl Ke.put []) y.2.2) (fun y => (Ix.valsN e0.fs n).length - y.1) (fun y => [(0, ptr rb 0), (1, str n), (3, i64 most), (9, str (Ix.keyOf n s)), (10, y.2.2), (11, i64 (k : Int)), (12, .slice pv (Ix.valsN e0.fs n).length cv), (13, i64 (y.1 : Int))]) (fun y => y.2.1) (fun y => []) (0, _, _) ⟨Nat.zero_le _, Le.refl _, by dsimp only; rw [List.take_zero, List.flatMap_nil, List.append_nil]; exact hv⟩ ⟨rfl, rfl, rfl, rfl, rfl, rfl, rfl, rfl, trivial⟩ rfl rfl ?_))
  rintro ⟨j, J2, w2⟩ ⟨hj, hIJ, hv⟩
  dsimp only at hj hIJ hv ⊢
  have hR := hR.mono hIJ
  have hrb := hR.1
  have hvals := hvals.mono hIJ
  have hrl := puts_len (ksP n (Ix.keyOf n s) (es.take k) ++ ((Ix.valsN e0.fs n).take j).flatMap (kOf (Ix.keyOf n s))) []
  have hr2 := kOf_len (Ix.keyOf n s) ((Ix.valsN e0.fs n).take j)
  rw [List.length_take, Nat.min_eq_left hj] at hr2
  rw [List.length_append, List.length_nil] at hrl
  refine Cj.seq (Cj.sr (J.z q0 ?_))
  refine J.z q0 ?_
  refine J.z (q14 tU101) ?_
  refine J.z q16 ?_
  refine J.cd (fun hc7 => ?_) (fun hc7 => ?_)
  ·
   have hc7p := odt hc7
   have hjlt : j < (Ix.valsN e0.fs n).length := by omega
   obtain ⟨x, hvget⟩ : ∃ x, (Ix.valsN e0.fs n)[j]? = some x := ⟨_, lgg hjlt⟩
   have hxt := valsN_text hek (lmg hvget)
   have hvn := flat_next (kOf (Ix.keyOf n s)) hvget
   obtain ⟨p2, c2, hpe2, hc2, hp2⟩ := id hvals
   cases hpe2
   obtain ⟨vb, vo, vcs, vty, vfr, vsp, rfl, hvb, hvd⟩ := hp2 (ne_nil_of hjlt)
   refine Cj.ks (Cj.seq (Cj.block (Cj.seq (Cj.drawSel [] [] 12 (by kernel_rfl) ?_))))
   have hrb_10 := hrb
   have heb_10 := heb
   have hvb_10 := hvb
   refine JA.fix fx1 (fun fx8 => ?_)
   refine JA.tk 0 rfl fx8 q0 ?_
   refine JA.tk 1 rfl fx8 q0 ?_
   refine JA.tk 2 rfl fx8 (q20 (off' := vo + j * 2) tU101 tS104) ?_
   refine JA.tk 3 rfl fx8 (q5 tU104 tS9) ?_
   refine JA.tk 4 rfl fx8 (yl_load rfl rfl tA9 (Blk.immC hvb_10) (row_fcell valC_len hvd hvget 0 (by decide))) ?_
   refine JA.tk 5 rfl fx8 q0 ?_
   refine JA.tk 6 rfl fx8 q0 ?_
   refine JA.tk 7 rfl fx8 (q20 (off' := vo + j * 2) tU101 tS104) ?_
   refine JA.tk 8 rfl fx8 (q5 (off' := vo + j * 2 + 1) tU104 tS3) ?_
   refine JA.tk 9 rfl fx8 (yl_load rfl rfl tA3 (Blk.immC hvb_10) (row_fcell valC_len hvd hvget 1 (by decide))) ?_
   refine q13 10 rfl (op_pure rfl rfl rfl rfl rfl (rSort_ok x.1 _ (by omega) _) ?_)
   refine ⟨fx0, ?_⟩
   refine JA.fix fx1 (fun fx9 => ?_)
   refine JA.tk 11 rfl fx9 q1 ?_
   refine q12 ?_
   refine Ej.seq (Cj.sr (J.z q0 ?_))
   refine J.z (yl_neqStr rfl rfl rfl) ?_
   refine J.z q0 ?_
   refine q15 58 (fun hg10 => ?_) (fun hg10 => ?_)
   ·
    have hg10p := bne_iff_ne.1 hg10
    have hk1 : Ke.sortKey x.1 x.2 ≠ [] := bne_iff_ne.1 hg10
    refine q3 2 58 true hg10 (q2 q0 ?_)
    refine q3 2 58 true hg10 (q2 q0 ?_)
    refine q3 2 58 true hg10 (q2 (yl_geqStr rfl rfl rfl) ?_)
    refine J.z (q11 hg10) ?_
    refine J.cd (fun hc11 => ?_) (fun hc11 => ?_)
    ·
     have hko : kOf (Ix.keyOf n s) x = [Ke.sortKey x.1 x.2] := if_pos ⟨hk1, ge_str hc11⟩
     refine Cj.region (J.z q0 ?_)
     refine J.z q0 ?_
     refine J.op rfl (q37 (H1 := []) rfl rfl rfl rfl rfl (xPut_ok _ _ (Ke.sortKey x.1 x.2) (puts_incA _) (by omega) _ hv) ?_)
     intro v12 I13 H14 hle15 hp16
     have hIJ := hIJ.mono hle15
     obtain ⟨wv, h, hv2, rfl⟩ := hp16; cases h
     replace hv := hv2
     refine J.z q1 ?_
     refine J.nb (Cj.region (J.z q0 ?_))
     refine J.z q7 ?_
     refine J.z q1 ?_
     refine J.nil (Ej.round (j + 1, _, _) ⟨by dsimp only; omega, hIJ, by dsimp only; rw [hvn, hko, ← List.append_assoc, puts_one]; exact hv⟩ (by dsimp only; omega) ⟨rfl, rfl, rfl, rfl, rfl, rfl, rfl, rfl, trivial⟩ rfl rfl)
    have hko : kOf (Ix.keyOf n s) x = [] := if_neg (fun g => g.2 (nge_str hc11))
    refine Cj.kb (Cj.region (J.z q0 ?_))
    refine J.z q7 ?_
    refine J.z q1 ?_
    refine J.nil (Ej.round (j + 1, _, _) ⟨by dsimp only; omega, hIJ, by dsimp only; rw [hvn, hko, List.append_nil]; exact hv⟩ (by dsimp only; omega) ⟨rfl, rfl, rfl, rfl, rfl, rfl, rfl, rfl, trivial⟩ rfl rfl)
   have hg10p := bne_f hg10
   have hko : kOf (Ix.keyOf n s) x = [] := if_neg (fun g => g.1 (bne_f hg10))
   refine q4 2 58 59 true hg10 ?_
   refine q4 2 58 60 true hg10 ?_
   refine q4 2 58 61 true hg10 ?_
   refine J.z (q9 hg10) ?_
   refine J.c0 (fun hc17 => ?_)
   refine Cj.kb (Cj.region (J.z q0 ?_))
   refine J.z q7 ?_
   refine J.z q1 ?_
   refine J.nil (Ej.round (j + 1, _, _) ⟨by dsimp only; omega, hIJ, by dsimp only; rw [hvn, hko, List.append_nil]; exact hv⟩ (by dsimp only; omega) ⟨rfl, rfl, rfl, rfl, rfl, rfl, rfl, rfl, trivial⟩ rfl rfl)
  have hc7p := odf hc7
  refine Cj.exit (Ej.seqExit (Ej.loopExit (Ej.blkExit (Ej.blkNormal (Ej.seq (Cj.region (J.z q0 ?_)))))))
  refine J.z q7 ?_
  refine J.z q1 ?_
  refine J.nil (Ej.round (k + 1, _, _) ⟨by dsimp only; omega, hR, by dsimp only; rw [hnx]; rw [List.take_of_length_le (show (Ix.valsN e0.fs n).length ≤ j by omega)] at hv; exact hv⟩ (by dsimp only; omega) ⟨rfl, rfl, rfl, rfl, rfl, rfl, trivial⟩ rfl rfl)
 have hc1p := odf hc1
 refine Cj.xl (Cj.seq ?_)
 have hfull : es.take k = es := List.take_of_length_le (by omega)
 rw [hfull] at hv hkl
 have hkpl := puts_len (ksP n (Ix.keyOf n s) es) []
 rw [List.length_nil] at hkpl
 obtain ⟨ks, hks⟩ : ∃ ks, ks = (ksP n (Ix.keyOf n s) es).foldl Ke.put [] := ⟨_, rfl⟩
 rw [← hks] at hv hkpl
 obtain ⟨pk, ck, rfl⟩ := StrP.len hv
 have hkall : ks = Ix.keysAll (es.map entL) n (Ix.keyOf n s) := hks.trans (ks_all n (Ix.keyOf n s) es)
 have hx1 : RxP J1 rb es := ⟨⟨p, c, hR⟩, hlen, heok, hx.srt⟩
 refine Cj.region (J.z q1 ?_)
 refine J.nsss (Cj.region (J.z q1 ?_))
 refine J.ns (Cj.block (Cj.loop (ι := Nat × Heap × Gs) (fun y => y.1 ≤ ks.length ∧ ((y.1 : Int) ≤ most ∨ y.1 = 0) ∧ Le J1 y.2.1 ∧ gOk w0.heap.size 2 (lnR (es.map entL) n (ks.take y.1)).length ((lnR (es.map entL) n (ks.take y.1)).flatMap lineC) y.2.2) (fun y => ks.length - y.1) (fun y => [(0, ptr rb 0), (1, str n), (3, i64 most), (10, .slice pk ks.length ck), (15, gV (lnR (es.map entL) n (ks.take y.1)).length y.2.2), (16, i64 (y.1 : Int))]) (fun y => y.2.1) (fun y => gH 57 ((lnR (es.map entL) n (ks.take y.1)).flatMap lineC) y.2.2) (0, _, none) ⟨Nat.zero_le _, .inr rfl, Le.refl _, rfl, rfl⟩ ⟨rfl, rfl, rfl, rfl, rfl, rfl, trivial⟩ rfl rfl ?_))
 rintro ⟨i, J3, g⟩ ⟨hi, hi0, hIJ, hg⟩
 dsimp only at hi hi0 hIJ hg ⊢
 have hx := hx1.mono hIJ
 have hv := hv.mono hIJ
 have hll := lnR_len (es.map entL) n (ks.take i)
 rw [List.length_take, Nat.min_eq_left hi] at hll
 refine Cj.seq (Cj.sr (J.z q0 ?_))
 refine J.z q0 ?_
 refine J.z (q14 tU28) ?_
 refine J.z q16 ?_
 refine J.z q0 ?_
 refine q15 70 (fun hg18 => ?_) (fun hg18 => ?_)
 ·
  have hg18p := odt hg18
  have hilt : i < ks.length := by omega
  obtain ⟨x, hkget⟩ : ∃ x, ks[i]? = some x := ⟨_, lgg hilt⟩
  have hnl := lnR_next (es.map entL) n hkget
  have hwl := withK_len es n x
  obtain ⟨p3, c3, hpe3, hc3, hp3⟩ := id hv
  cases hpe3
  obtain ⟨kb, ko, kcs, kty, kfr, ksp, rfl, hkb, hkd⟩ := hp3 (ne_nil_of hilt)
  refine q3 4 70 true hg18 (q2 q0 ?_)
  refine q3 4 70 true hg18 (q2 q0 ?_)
  refine q3 4 70 true hg18 (q2 q16 ?_)
  refine J.z (q11 hg18) ?_
  refine J.cd (fun hc19 => ?_) (fun hc19 => ?_)
  ·
   have hc19p := odt hc19
   refine Cj.ks (Cj.seq (Cj.block (Cj.drawSel [] [] 17 (by kernel_rfl) ?_)))
   have hrb_17 := hrb
   have hkb_17 := hkb
   refine JA.fix fx1 (fun fx20 => ?_)
   refine JA.tk 0 rfl fx20 q0 ?_
   refine JA.tk 1 rfl fx20 q0 ?_
   refine JA.tk 2 rfl fx20 q0 ?_
   refine JA.tk 3 rfl fx20 (q20 (off' := ko + i) tU28 tS9) ?_
   refine JA.tk 4 rfl fx20 (yl_load rfl rfl tA9 (Blk.immC hkb_17) (str_from hkd hkget)) ?_
   refine JA.tk 5 rfl fx20 q0 ?_
   refine JA.tk 6 rfl fx20 q0 ?_
   refine JA.tk 7 rfl fx20 q0 ?_
   refine JA.tk 8 rfl fx20 q0 ?_
   refine JA.tk 9 rfl fx20 (q20 (off' := ko + i) tU28 tS9) ?_
   refine JA.tk 10 rfl fx20 (yl_load rfl rfl tA9 (Blk.immC hkb_17) (str_from hkd hkget)) ?_
   refine q13 11 rfl (q37 (H1 := []) rfl rfl rfl rfl rfl (rWith_ok rb es n x _ hx) ?_)
   intro v21 I22 H23 hle24 hp25
   have hIJ := hIJ.mono hle24
   obtain ⟨vv, h, hph, rfl⟩ := hp25; cases h
   obtain ⟨pw, cw, rfl⟩ := RowS.len hph
   refine ⟨⟨(Le.trans (Le.refl _) hle24), HSub.n, CSub.n⟩, ?_⟩
   refine JA.fix ⟨HSub.n, CSub.n, (Le.trans (Le.refl _) hle24)⟩ (fun fx26 => ?_)
   refine JA.tk 12 rfl fx26 (q14 tU44) ?_
   refine JA.tk 13 rfl fx26 (yl_buildS (pl := #[(0, 1), (1, 1)]) rfl rfl tZ57 rfl tU57 (fun w => by simp []) (LBld.part rfl rfl rfl (LSpl.c LSpl.z) (LBld.part rfl rfl rfl (LSpl.s (LSpl.c LSpl.z)) LBld.none))) ?_
   refine q13 14 rfl (q44 tU47 tS57 tZ57 ?_)
   intro b27 hb27
   refine ⟨⟨(Le.trans (Le.refl _) hle24), HSub.n, CSub.n⟩, ?_⟩
   refine q13 15 rfl (op_append (by' := 23) [_] rfl rfl rfl rfl rfl tU47 (.inr ⟨_, tU47⟩) (by kernel_rfl) tS57 tZ57 rfl hg rfl (Src.slice (Blk.at 0 rfl) rfl rfl rfl) (by omega) ?_)
   intro g28 hg28
   refine ⟨⟨(Le.trans (Le.refl _) hle24), HSub.n, CSub.n⟩, ?_⟩
   refine JA.fix ⟨HSub.n, CSub.n, (Le.trans (Le.refl _) hle24)⟩ (fun fx29 => ?_)
   refine JA.tk 16 rfl fx29 q1 ?_
   refine q12 ?_
   refine Ej.blkNormal (Ej.seq (Cj.region (J.z q0 ?_)))
   refine J.z q7 ?_
   refine J.z q1 ?_
   refine J.nil (Ej.keep (Keeps.d Keeps.r) ?_)
   refine Ej.round (i + 1, _, g28) ⟨by dsimp only; omega, .inl (by dsimp only; omega), hIJ, by dsimp only; rw [hnl, List.length_append, List.flatMap_append]; exact hg28⟩ (by dsimp only; omega) ⟨rfl, rfl, rfl, rfl, by dsimp only; rw [hnl, List.length_append]; rfl, rfl, trivial⟩ rfl (by dsimp only; rw [hnl, List.flatMap_append]; rfl)
  have hc19p := odf hc19
  refine Cj.xl (Cj.sr (J.z q0 ?_))
  refine J.z q1 ?_
  refine J.ns (Cj.ret ?_)
  have htk := take_most hi0 hi (.inr (by omega))
  have hsc : lnR (es.map entL) n (ks.take i) = (Ix.scan (es.map entL) n s most).map lineI := by rw [htk, hkall]; rfl
  rw [hsc] at hg ⊢
  refine Ej.perm (H' := gH 57 (((Ix.scan (es.map entL) n s most).map lineI).flatMap lineC) g ++ []) (.of_eq (List.append_nil _)) ?_
  refine Ej.keepR lineC_len (by decide) hg rfl (fun I8 hle8 hw8 => ?_)
  refine q6 ?_
  exact ⟨_, rfl, hw8, rfl⟩
 have hg18p := odf hg18
 refine q4 4 70 71 true hg18 ?_
 refine q4 4 70 72 true hg18 ?_
 refine q4 4 70 73 true hg18 ?_
 refine J.z (q9 hg18) ?_
 refine J.c0 (fun hc30 => ?_)
 refine Cj.xl (Cj.sr (J.z q0 ?_))
 refine J.z q1 ?_
 refine J.ns (Cj.ret ?_)
 have htk := take_most hi0 hi (.inl (by omega))
 have hsc : lnR (es.map entL) n (ks.take i) = (Ix.scan (es.map entL) n s most).map lineI := by rw [htk, hkall]; rfl
 rw [hsc] at hg ⊢
 refine Ej.perm (H' := gH 57 (((Ix.scan (es.map entL) n s most).map lineI).flatMap lineC) g ++ []) (.of_eq (List.append_nil _)) ?_
 refine Ej.keepR lineC_len (by decide) hg rfl (fun I8 hle8 hw8 => ?_)
 refine q6 ?_
 exact ⟨_, rfl, hw8, rfl⟩
theorem rSortT_ok (rb : Nat) (es : List Ent) (t : Ix.Rec) (I : Heap) (hx : RxP I rb es) : Ctr Tryz.prog 29 [ptr rb 0, kvR t] I [] (fun e _ H' => e = .returned (str (Ix.sortOf (es.map entL) t)) ∧ H' = []) := by
 have hlen := hx.len
 have heok := hx.eok
 obtain ⟨p, c, hR⟩ := hx.ex
 have hrb := hR.1
 refine Ctr.ob func29 ?_
 intro w0 hw0
 refine Cj.sr (J.op rfl (q26 ?_))
 intro b1 hb1
 refine J.z q1 ?_
 refine J.nssr (J.z q0 ?_)
 refine J.z (q35 tA26 tS26) ?_
 refine J.op rfl (op_pure rfl rfl rfl rfl rfl (rfind_ok rb _ es t (by omega) _ hrb hR.2) ?_)
 refine J.z q0 ?_
 refine J.z q25 ?_
 refine J.z q25 ?_
 refine J.z q1 ?_
 refine J.z q1 ?_
 refine J.nsss (Cj.region (J.z q0 ?_))
 refine J.z q42 ?_
 refine J.cd (fun hc2 => ?_) (fun hc2 => ?_)
 ·
  have hth : ethere es t = false := by have h := hc2; simpa using h
  refine Cj.sr (J.z q1 ?_)
  refine J.ns (Cj.rs ?_)
  rw [sort_gone hx.srt hth]
  refine Ej.bare ?_
  refine q6 ?_
  exact ⟨rfl, rfl⟩
 have hth : ethere es t = true := by have h := hc2; simpa using h
 have hlt := ethere_lt hth
 obtain ⟨e0, hget⟩ : ∃ x, es[epos es t]? = some x := ⟨_, lgg hlt⟩
 have hek := heok e0 (lmg hget)
 have hsv := sort_val hth hget
 obtain ⟨p1, c1, hpe, hc1, hp⟩ := id hR.2.1
 cases hpe
 obtain ⟨eb, eo, ecs, ety, efr, esp, rfl, heb, hed⟩ := hp (ne_nil_of hlt)
 have hrec := hR.2.2 e0 (lmg hget)
 obtain ⟨vp0, vc0, hev, -, -⟩ := id hrec.1
 refine Cj.ks (Cj.sr (J.z q0 ?_))
 refine J.z q8 ?_
 refine J.z (q5 (off' := 0) tU73 tS27) ?_
 refine J.z (q10 tA27 (Blk.imm hrb)) ?_
 refine J.z q0 ?_
 refine J.z (q20 (off' := eo + epos es t * 5) tU27 tS37) ?_
 refine J.z (q5 (off' := eo + epos es t * 5 + 2) tU37 tS35) ?_
 refine J.z (yl_loadAgg rfl rfl isAgg35 tS35 (Blk.imm heb) (ent_record hed hget) rfl) ?_
 refine J.op rfl (q37 (H1 := []) rfl rfl rfl rfl rfl (rValues_ok e0.fs e0.v e0.k e0.l Ix.nTitle hek _ hrec) ?_)
 intro v3 I4 H5 hle6 hp7
 have hrb := hle6 _ _ hrb
 have heb := hle6 _ _ heb
 obtain ⟨vv, h, hvals, rfl⟩ := hp7; cases h
 obtain ⟨pv, cv, rfl⟩ := RowS.len hvals
 have hvl : (Ix.valsN e0.fs Ix.nTitle).length ≤ 1000000 := by have h1 := valsN_len Ix.nTitle e0.fs (fun f hf => (hek.2 f hf).1); have h2 := hek.1; omega
 refine J.z q1 ?_
 refine J.nsss (Cj.region (J.z q0 ?_))
 refine J.z (q14 tU101) ?_
 refine J.z q22 ?_
 refine J.cd (fun hc8 => ?_) (fun hc8 => ?_)
 ·
  have hc8p := ebq hc8
  have hnil : (Ix.valsN e0.fs Ix.nTitle) = [] := List.length_eq_zero_iff.1 (by have h := ebq hc8; omega)
  rw [hnil] at hsv
  refine Cj.sr (J.z q1 ?_)
  refine J.ns (Cj.rs ?_)
  rw [hsv]
  refine Ej.bare ?_
  refine q6 ?_
  exact ⟨rfl, rfl⟩
 have hc8p := nbf hc8
 have hjlt : 0 < (Ix.valsN e0.fs Ix.nTitle).length := by have h := nbf hc8; omega
 obtain ⟨x, hvget⟩ : ∃ x, (Ix.valsN e0.fs Ix.nTitle)[0]? = some x := ⟨_, lgg hjlt⟩
 have hxt := valsN_text hek (lmg hvget)
 rw [hvget] at hsv
 obtain ⟨p2, c2, hpe2, hc2, hp2⟩ := id hvals
 cases hpe2
 obtain ⟨vb, vo, vcs, vty, vfr, vsp, rfl, hvb, hvd⟩ := hp2 (ne_nil_of hjlt)
 refine Cj.ks (Cj.seq (Cj.drawSel [0] [] 10 (by kernel_rfl) ?_))
 have hrb_7 := hrb
 have heb_7 := heb
 have hvb_7 := hvb
 refine JA.fix ⟨(HSub.c 0 rfl HSub.n), CSub.n, (Le.refl _)⟩ (fun fx9 => ?_)
 refine JA.tk 0 rfl fx9 q0 ?_
 refine JA.tk 1 rfl fx9 (yl_indexAddr (off' := vo + 0 * 2) rfl rfl rfl tU101 tS104 (by decide) (by omega) (by simp)) ?_
 refine JA.tk 2 rfl fx9 (q5 tU104 tS9) ?_
 refine JA.tk 3 rfl fx9 (yl_load rfl rfl tA9 (Blk.immC hvb_7) (row_fcell valC_len hvd hvget 0 (by decide))) ?_
 refine JA.tk 4 rfl fx9 q0 ?_
 refine JA.tk 5 rfl fx9 (yl_indexAddr (off' := vo + 0 * 2) rfl rfl rfl tU101 tS104 (by decide) (by omega) (by simp)) ?_
 refine JA.tk 6 rfl fx9 (q5 (off' := vo + 0 * 2 + 1) tU104 tS3) ?_
 refine JA.tk 7 rfl fx9 (yl_load rfl rfl tA3 (Blk.immC hvb_7) (row_fcell valC_len hvd hvget 1 (by decide))) ?_
 refine q13 8 rfl (op_pure rfl rfl rfl rfl rfl (rSort_ok x.1 _ (by omega) _) ?_)
 refine ⟨⟨(Le.refl _), (HSub.c 0 rfl HSub.n), CSub.n⟩, ?_⟩
 refine JA.fix ⟨(HSub.c 0 rfl HSub.n), CSub.n, (Le.refl _)⟩ (fun fx10 => ?_)
 refine JA.tk 9 rfl fx10 q1 ?_
 refine q12 ?_
 refine Ej.seq (Cj.ret ?_)
 rw [hsv]
 refine Ej.bare ?_
 refine q6 ?_
 exact ⟨rfl, rfl⟩
end Go.Proofs.YtjcdfnbomkoheaaGreatDoor
end
section
namespace Ke
def nrm1 (f : Fld) : Fld := { f with sv := .slice none 0 0 }
def nrm (fs : List Fld) : List Fld := fs.map nrm1
end Ke
end
section
namespace Go.Sx
open Go
section
variable {cx : Cx} {Q : Qt} {e : Env} {I : Heap} {H : HL}
end
section
variable {cx : Cx} {Q : Qt} {e : Env} {I : Heap} {H : HL}
end
section
variable {α : Type} {N M : Nat → Prop} {T : TypeId} {f : α → List Value} {I I' : Heap} {l : List α} {v : Value}
end
section
variable {cx : Cx} {Q : Qt} {e : Env} {I : Heap} {R : HL} {T : TypeId} {α : Type} {l : List α} {f : α → List Value} {sz n base : Nat} {g : Gs}
end
theorem Cj.named {cx : Cx} {Q : Qt} {e : Env} {I : Heap} {H : HL} {c : Code} (k : ∀ I9, I9 = I → Cj cx Q c e I9 H) : Cj cx Q c e I H := k I rfl
section
variable {cx : Cx} {Q : Qt} {e : Env} {I I1 : Heap} {H A : HL} {Z : CL} {z : Nat} {l : List Oper} {fuel : Nat} {listed : Array Bool}
end
section
variable {cx : Cx} {Q : Qt} {e : Env} {I I1 : Heap} {R H1 A : HL} {Z : CL} {z : Nat} {ops : List Oper} {fuel : Nat} {listed : Array Bool} {T : TypeId} {α : Type} {l : List α} {f : α → List Value} {v : Value} {sz n : Nat} {g : Gs}
end
end Go.Sx
end
section
namespace Go.Proofs.YtjcdfnbomkoheaaGreatDoor
open Go Go.Sx
theorem vals_nrm (fs : List Ke.Fld) : Ix.vals (Ke.nrm fs) = Ix.vals fs := by
  unfold Ix.vals Ke.nrm
  rw [List.flatMap_map]; rfl
end Go.Proofs.YtjcdfnbomkoheaaGreatDoor
end
section
namespace Go.Proofs.YtjcdfnbomkoheaaGreatDoor
open Go Go.Sx
end Go.Proofs.YtjcdfnbomkoheaaGreatDoor
end
section
namespace Go.Proofs.YtjcdfnbomkoheaaGreatDoor
open _root_.Go.Proofs.Tryz
open Go Go.Sx
def prs (ps : List Ke.Sub) : List (List UInt8) := ps.flatMap fun s => [[s.code], s.text]
theorem prs_len (ps : List Ke.Sub) : (prs ps).length = 2 * ps.length := by
  unfold prs
  induction ps with
  | nil => rfl
  | cons a r ih => rw [List.flatMap_cons, List.length_append, ih, List.length_cons]; simp; omega
theorem prs_at : ∀ {ps : List Ke.Sub} {i : Nat} {s : Ke.Sub}, ps[i]? = some s → (prs ps)[2 * i]? = some [s.code] ∧ (prs ps)[2 * i + 1]? = some s.text
  | [], i, _, h => by simp at h
  | a :: r, 0, s, h => by cases h; exact ⟨rfl, rfl⟩
  | a :: r, i + 1, s, h => by
    have := prs_at (ps := r) (i := i) (s := s) h
    have e : prs (a :: r) = [a.code] :: a.text :: prs r := rfl
    rw [e, show 2 * (i + 1) = 2 * i + 1 + 1 by omega, List.getElem?_cons_succ, List.getElem?_cons_succ, List.getElem?_cons_succ, List.getElem?_cons_succ]
    exact this
theorem field_ok (tag ind : List UInt8) (ps : List Ke.Sub) (v : Value) (hps : ps.length ≤ 1000) (I : Heap) (hv : StrP I (prs ps) v) : Ctr Tryz.prog 14 [str tag, str ind, v] I [] (fun e I' H' => ∃ w, e = .returned (.agg (fldC ⟨tag, ind, [], w, ps⟩).toArray) ∧ RowS subC I' ps w ∧ H' = []) := by
 obtain ⟨p, c, rfl, hc, hp⟩ := hv
 have hpl := prs_len ps
 refine Ctr.ob func14 ?_
 intro w0 hw0
 refine Cj.sr (J.op rfl (op_alloc rfl rfl rfl tZ31 rfl ?_))
 intro b1 hb1
 refine J.nssr (J.z q0 ?_)
 refine J.z q0 ?_
 refine J.z (yl_buildS (pl := #[(0, 1), (1, 1), (2, 1), (3, 1)]) rfl rfl tZ31 rfl tU31 (fun w => by simp []) (LBld.part rfl rfl rfl (LSpl.c LSpl.z) (LBld.part rfl rfl rfl (LSpl.s (LSpl.c LSpl.z)) LBld.none))) ?_
 refine J.op rfl (op_alloc rfl rfl rfl tZ31 rfl ?_)
 intro b2 hb2
 refine J.op rfl (q24 0 tS31 (LSpl.c (LSpl.c (LSpl.c (LSpl.c LSpl.z)))) LSet.z ?_)
 refine J.nsss (Cj.region (J.z q1 ?_))
 refine J.ns (Cj.block (Cj.loop (ι := Nat × Gs) (fun y => y.1 ≤ ps.length ∧ gOk w0.heap.size 2 (ps.take y.1).length ((ps.take y.1).flatMap subC) y.2) (fun y => ps.length - y.1) (fun y => [(0, str tag), (2, .slice p (prs ps).length c), (6, ptr b1 0), (7, ptr b2 0), (8, i64 ((2 * y.1 + 1 : Nat) : Int))]) (fun y => _) (fun y => (b2, cel 31 [str tag, str ind, str [], gV (ps.take y.1).length y.2]) :: (b1, cel 31 [str [], str [], str [], .slice none 0 0]) :: gH 65 ((ps.take y.1).flatMap subC) y.2) (0, none) ⟨Nat.zero_le _, rfl, rfl⟩ ⟨rfl, rfl, rfl, rfl, rfl, trivial⟩ rfl rfl ?_))
 rintro ⟨i, g⟩ ⟨hi, hg⟩
 dsimp only at hi hg ⊢
 have hsl : (ps.take i).length = i := by rw [List.length_take]; omega
 refine Cj.seq (Cj.sr (J.z q0 ?_))
 refine J.z q0 ?_
 refine J.z (q14 tU28) ?_
 refine J.z q16 ?_
 refine J.cd (fun hc3 => ?_) (fun hc3 => ?_)
 ·
  have hc3p := odt hc3
  refine Cj.ks (Cj.seq (Cj.block ?_))
  have hlt : i < ps.length := by omega
  obtain ⟨x, hsget⟩ : ∃ x, ps[i]? = some x := ⟨_, lgg hlt⟩
  have hsl1 : (ps.take (i + 1)).length = (ps.take i).length + 1 := by rw [List.length_take, List.length_take]; omega
  obtain ⟨hg1, hg2⟩ := prs_at hsget
  obtain ⟨lb, lo, lcs, lty, lfr, sp, rfl, hlb, hld⟩ := hp (ne_nil_of (k := 2 * i) (by omega))
  refine Cj.drawSel [0, 1] [] 16 (by kernel_rfl) ?_
  refine JA.fix ⟨(HSub.c 0 rfl (HSub.c 1 rfl HSub.n)), CSub.n, (Le.refl _)⟩ (fun fx4 => ?_)
  refine JA.tk 0 rfl fx4 (q5 (off' := 3) tU31 tS29) ?_
  refine JA.tk 1 rfl fx4 (q10 tA29 (Blk.atC 0 rfl)) ?_
  refine JA.tk 2 rfl fx4 q0 ?_
  refine JA.tk 3 rfl fx4 q0 ?_
  refine JA.tk 4 rfl fx4 q47 ?_
  refine JA.eqv 22 rfl (show _ = i64 ((2 * i : Nat) : Int) from (congrArg i64 (by omega))) ?_
  refine JA.tk 5 rfl fx4 (yl_indexAddr (off' := lo + 2 * i) rfl rfl rfl tU28 tS9 (by omega) (by omega) (by omega)) ?_
  refine JA.tk 6 rfl fx4 (yl_load rfl rfl tA9 (Blk.immC hlb) (str_from hld hg1)) ?_
  refine JA.tk 7 rfl fx4 (yl_index rfl rfl rfl tU9 (by decide) rfl) ?_
  refine JA.tk 8 rfl fx4 q0 ?_
  refine JA.tk 9 rfl fx4 q0 ?_
  refine JA.tk 10 rfl fx4 (yl_indexAddr (off' := lo + (2 * i + 1)) rfl rfl rfl tU28 tS9 (by omega) (by omega) (by omega)) ?_
  refine JA.tk 11 rfl fx4 (yl_load rfl rfl tA9 (Blk.immC hlb) (str_from hld hg2)) ?_
  refine JA.tk 12 rfl fx4 (yl_buildS (pl := #[(0, 1), (1, 1)]) rfl rfl zeroValue65 rfl tU65 (fun w => by simp []) (LBld.part rfl rfl rfl (LSpl.c LSpl.z) (LBld.part rfl rfl rfl (LSpl.s (LSpl.c LSpl.z)) LBld.none))) ?_
  refine q13 13 rfl (q44 tU29 tS65 zeroValue65 ?_)
  intro b5 hb5
  refine ⟨⟨(Le.refl _), (HSub.c 1 rfl (HSub.c 2 rfl HSub.n)), CSub.n⟩, ?_⟩
  refine q13 14 rfl (op_append (by' := 23) [_, _, _] rfl rfl rfl rfl rfl tU29 (.inr ⟨_, tU29⟩) (by kernel_rfl) tS65 zeroValue65 rfl hg rfl (Src.slice (Blk.at 0 rfl) rfl rfl rfl) (by omega) ?_)
  intro g6 hg6
  refine ⟨⟨(Le.refl _), (HSub.c 1 rfl (HSub.c 2 rfl HSub.n)), CSub.n⟩, ?_⟩
  refine JA.fix ⟨(HSub.c 1 rfl (HSub.c 2 rfl HSub.n)), CSub.n, (Le.refl _)⟩ (fun fx7 => ?_)
  refine JA.tk 15 rfl fx7 (q5 (off' := 3) tU31 tS29) ?_
  refine JA.last 16 (by kernel_rfl) rfl rfl rfl (op_store 1 rfl rfl rfl rfl (gV_cells _ _) (gV_one _ _) tS29 rfl rfl (LSpl.s (LSpl.s (LSpl.s (LSpl.c LSpl.z)))) (LSet.s LSet.z) ?_)
  refine q12 ?_
  refine Ej.blkNormal (Ej.seq (Cj.region (J.z q0 ?_)))
  refine J.z q7 ?_
  refine J.eqv 17 rfl (show _ = i64 ((2 * (i + 1) + 1 : Nat) : Int) from (congrArg i64 (by omega))) ?_
  refine J.z q1 ?_
  refine J.nil (Ej.keep (Keeps.d (Keeps.k (Keeps.k Keeps.r))) ?_)
  refine Ej.round (i + 1, g6) ⟨by dsimp only; omega, by dsimp only; rw [hsl1, flat_next subC hsget]; exact hg6⟩ (by dsimp only; omega) ⟨rfl, rfl, rfl, rfl, rfl, trivial⟩ rfl (by dsimp only; rw [hsl1, flat_next subC hsget]; rfl)
 have hc3p := odf hc3
 refine Cj.xl (Cj.sr (J.z (q35 tA31 tS31) ?_))
 refine J.op rfl (op_store 1 rfl rfl rfl rfl rfl (by show [str tag, str ind, str [], gV _ _].all Value.oneCell' = true; simp only [List.all_cons, List.all_nil, gV_one', Bool.and_true]; rfl) tS31 rfl rfl (LSpl.c (LSpl.c (LSpl.c (LSpl.c LSpl.z)))) (LSet.s LSet.z) ?_)
 refine J.ns (Cj.ret ?_)
 have hfull : ps.take i = ps := List.take_of_length_le (by omega)
 rw [hfull] at hg ⊢
 refine Ej.perm (H' := gH _ _ _ ++ [_, _]) List.perm_append_comm ?_
 refine Ej.keepR subC_len (by decide) hg rfl (fun I9 hle9 hfs => ?_)
 refine Ej.retC (Keeps.d (Keeps.d Keeps.n)) rfl rfl rfl (Blk.at 1 rfl) tA31 tS31 rfl ?_
 exact ⟨_, rfl, hfs, rfl⟩
end Go.Proofs.YtjcdfnbomkoheaaGreatDoor
end
section
namespace Go.Proofs.YtjcdfnbomkoheaaGreatDoor
open Go Go.Sx
theorem phrase_small (es : List Ent) (n : List UInt8) (w : Ke.Row) : (Ix.phrase (es.map entL) n w).length ≤ es.length := by
  unfold Ix.phrase
  split
  · simp
  rw [List.length_map]
  exact nlt (List.length_filter_le _ _) (by rw [List.length_map]; exact Nat.le_refl _)
theorem word_small (es : List Ent) (n s : List UInt8) : (Ix.word (es.map entL) n s).length ≤ es.length := by
  unfold Ix.word
  split
  · exact phrase_small es n _
  simp
theorem scan_small (L : Ix.Ix) (n s : List UInt8) (most : Int) : ((Ix.scan L n s most).map lineI).length ≤ most.toNat := by
  unfold Ix.scan
  rw [List.length_map, List.length_map, List.length_take]; omega
end Go.Proofs.YtjcdfnbomkoheaaGreatDoor
end
