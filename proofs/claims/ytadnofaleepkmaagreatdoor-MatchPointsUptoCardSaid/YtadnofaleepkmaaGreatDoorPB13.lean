/-
  Own texts on the laws of match, joined: the logic, and contracts of functions. Conditions: none.
-/
import Derived.Test.YtadnofaleepkmaaGreatDoorPB12
import Derived.Test.YtadnofaleepkmaaGreatDoorPB8
import Derived.Test.YtadnofaleepkmaaGreatDoorPB7
import Derived.ChangeKeysEq
section
namespace Go.Proofs.YtadnofaleepkmaaGreatDoor
open Go Go.Sx
theorem year_at2 {s : List UInt8} {i : Nat} (h : i < s.length) : Ke.yearIn (s.drop i) = if 0 ≤ Ke.num4 (s.drop i) then Ke.num4 (s.drop i) else Ke.yearIn (s.drop (i + 1)) := by
  obtain ⟨c, hc⟩ : ∃ c, s[i]? = some c := ⟨_, List.getElem?_eq_getElem h⟩
  rw [drop_cons hc]; rfl
theorem notin_next {α : Type} {l : List α} {x y : α} {k : Nat} (h : x ∉ l.take k) (hg : l[k]? = some y) (hx : x ≠ y) : x ∉ l.take (k + 1) := by
  obtain ⟨hlt, hg⟩ := List.getElem?_eq_some_iff.1 hg
  rw [List.take_succ_eq_append_getElem hlt, hg, List.mem_append, List.mem_singleton]
  rintro (e | e)
  · exact h e
  · exact hx e
theorem every_next {α : Type} {P : α → Prop} {l : List α} {x : α} {k : Nat} (h : ∀ y ∈ l.take k, P y) (hg : l[k]? = some x) (hx : P x) : ∀ y ∈ l.take (k + 1), P y := by
  obtain ⟨hlt, hg⟩ := List.getElem?_eq_some_iff.1 hg
  rw [List.take_succ_eq_append_getElem hlt, hg]
  intro y hy
  rcases List.mem_append.1 hy with e | e
  · exact h y e
  · rw [List.mem_singleton] at e; subst e; exact hx
theorem isbk_len (f : Ke.Fld) (ss : List Ke.Sub) : (isbk f ss).length ≤ ss.length := by
  unfold isbk; split
  · exact List.length_filterMap_le _ _
  · exact Nat.zero_le _
theorem isbns_len : ∀ {l : List Ke.Fld}, (∀ f ∈ l, f.subs.length ≤ 2000000) → (Ke.isbns l).length ≤ 2000000 * l.length
  | [], _ => Nat.zero_le _
  | f :: r, h => by
    have h1 : (Ke.isbs f).length ≤ f.subs.length := isbk_len f f.subs
    have h2 := h f (.head _); have h3 := isbns_len fun g hg => h g (.tail _ hg)
    unfold Ke.isbns at h3 ⊢
    simp only [List.flatMap_cons, List.length_append, List.length_cons]; omega
set_option maxRecDepth 20000 in
theorem Strings_ok (a b : List (List UInt8)) (va vb : Value) (ha0 : a.length ≤ 100000000000000) (I : Heap) (ha : StrP I a va) (hb : StrP I b vb) : Pure Tryz.prog 40 [va, vb] I (.bool (decide (a = b))) := by
 obtain ⟨p, c, rfl, hc, hp⟩ := ha
 obtain ⟨q, d, rfl, hd, hq⟩ := hb
 refine Ctr.of_body Tryz.func40 rfl (by decide) (Nat.le_of_ble_eq_true rfl) ?_
 intro w0 hw0
 refine Cj.seq (Cj.region (J.z (yl_assign rfl rfl) ?_))
 refine J.nil (Ej.seq (Cj.seq (Cj.seq (Cj.region (J.z (yl_move rfl rfl) ?_)))))
 refine J.z (yl_lenSlice rfl rfl Tryz.underlying31) ?_
 refine J.z (yl_move rfl rfl) ?_
 refine J.z (yl_lenSlice rfl rfl Tryz.underlying31) ?_
 refine J.z (yl_neq rfl rfl rfl) ?_
 refine J.nil (Ej.seq (Cj.cond rfl (fun hc1 => ?_) (fun hc1 => ?_)))
 ·
  have hc1p := bne_iff_ne.1 hc1
  have hne : a.length ≠ b.length := fun e => (bne_iff_ne.1 hc1) (by rw [e])
  refine Cj.seq (Cj.region (J.z (yl_assign rfl rfl) ?_))
  refine J.nil (Ej.seq (Cj.ret (Ej.seqRet (Ej.ret1 rfl rfl rfl ?_))))
  have he : decide (a = b) = false := decide_eq_false (fun e => hne (by rw [e]))
  rw [he]
  exact ⟨rfl, rfl, rfl⟩
 ·
  have hc1p := bne_f hc1
  have hle0 : a.length = b.length := by have h := hc1; simp at h; omega
  refine Cj.skip (Ej.seq (Cj.seq (Cj.seq (Cj.region (J.z (yl_assign rfl rfl) ?_)))))
  refine J.nil (Ej.seq (Cj.block (Cj.loop (ι := Nat) (fun j => j ≤ a.length ∧ a.take j = b.take j) (fun j => a.length - j) (fun j => [(0, .slice p a.length c), (1, .slice q b.length d), (5, i64 (j : Int))]) (fun j => I) (fun j => []) 0 ⟨Nat.zero_le _, rfl⟩ ⟨rfl, rfl, rfl, trivial⟩ rfl rfl ?_)))
  rintro j ⟨hj, hsm⟩
  refine Cj.seq (Cj.seq (Cj.region (J.z (yl_move rfl rfl) ?_)))
  refine J.z (yl_move rfl rfl) ?_
  refine J.z (yl_lenSlice rfl rfl Tryz.underlying31) ?_
  refine J.z (yl_lss rfl rfl rfl) ?_
  refine J.nil (Ej.seq (Cj.cond rfl (fun hc2 => ?_) (fun hc2 => ?_)))
  ·
   have hc2p := of_decide_eq_true hc2
   have hlt : j < a.length := by omega
   obtain ⟨x, hgx⟩ : ∃ x, a[j]? = some x := ⟨_, List.getElem?_eq_getElem hlt⟩
   obtain ⟨y, hgy⟩ : ∃ y, b[j]? = some y := ⟨_, List.getElem?_eq_getElem (by omega)⟩
   obtain ⟨ab, ao, acs, aty, afr, spa, rfl, hab, had⟩ := hp (ne_nil_of hlt)
   obtain ⟨bb, bo, bcs, bty, bfr, spb, rfl, hbb, hbd⟩ := hq (ne_nil_of (k := j) (by omega))
   refine Cj.skip (Ej.seq (Cj.seq (Cj.block (Cj.seq (Cj.drawSel [] [] 9 (by kernel_rfl) ?_)))))
   refine JA.fix ⟨HSub.n, CSub.n, (Le.refl _)⟩ (fun fx3 => ?_)
   refine JA.tk 0 rfl fx3 (yl_move rfl rfl) ?_
   refine JA.tk 1 rfl fx3 (yl_move rfl rfl) ?_
   refine JA.tk 2 rfl fx3 (yl_indexAddr (off' := ao + j) rfl rfl rfl Tryz.underlying31 Tryz.sizeOf9 (by omega) (by omega) (by simp)) ?_
   refine JA.tk 3 rfl fx3 (yl_load rfl rfl Tryz.isAgg9 (Blk.immC hab) (str_from had hgx)) ?_
   refine JA.tk 4 rfl fx3 (yl_move rfl rfl) ?_
   refine JA.tk 5 rfl fx3 (yl_move rfl rfl) ?_
   refine JA.tk 6 rfl fx3 (yl_indexAddr (off' := bo + j) rfl rfl rfl Tryz.underlying31 Tryz.sizeOf9 (by omega) (by omega) (by simp)) ?_
   refine JA.tk 7 rfl fx3 (yl_load rfl rfl Tryz.isAgg9 (Blk.immC hbb) (str_from hbd hgy)) ?_
   refine JA.tk 8 rfl fx3 (yl_neqStr rfl rfl rfl) ?_
   refine JA.done (by kernel_rfl) ?_
   refine Ej.seq (Cj.cond rfl (fun hc4 => ?_) (fun hc4 => ?_))
   ·
    have hc4p := bne_iff_ne.1 hc4
    have hxn : x ≠ y := bne_iff_ne.1 hc4
    refine Cj.seq (Cj.region (J.z (yl_assign rfl rfl) ?_))
    refine J.nil (Ej.seq (Cj.ret (Ej.blkRet (Ej.seqRet (Ej.loopRet (Ej.blkRet (Ej.seqRet (Ej.ret1 rfl rfl rfl ?_))))))))
    have he : decide (a = b) = false := decide_eq_false (fun e => by subst e; rw [hgx] at hgy; exact hxn (Option.some.inj hgy))
    rw [he]
    exact ⟨rfl, rfl, rfl⟩
   ·
    have hc4p := bne_f hc4
    have hxy : y = x := by have h := hc4; simp at h; exact h.symm
    refine Cj.skip (Ej.blkNormal (Ej.seq (Cj.region (J.z (yl_move rfl rfl) ?_))))
    refine J.z (yl_add rfl rfl rfl (w64 (by omega))) ?_
    refine J.z (yl_assign rfl rfl) ?_
    refine J.nil (Ej.round (j + 1) ⟨by omega, take_same hsm hgx (hxy ▸ hgy)⟩ (by omega) ⟨rfl, rfl, rfl, trivial⟩ rfl rfl)
  ·
   have hc2p := of_decide_eq_false hc2
   refine Cj.exit (Ej.seqExit (Ej.loopExit (Ej.blkExit (Ej.seq (Cj.seq (Cj.region (J.z (yl_assign rfl rfl) ?_)))))))
   refine J.nil (Ej.seq (Cj.ret (Ej.ret1 rfl rfl rfl ?_)))
   have he : decide (a = b) = true := decide_eq_true (by rw [List.take_of_length_le (by omega), List.take_of_length_le (by omega)] at hsm; exact hsm)
   rw [he]
   exact ⟨rfl, rfl, rfl⟩
set_option maxRecDepth 20000 in
theorem common_ok (a b : List (List UInt8)) (va vb : Value) (ha0 : a.length ≤ 100000000000000) (hb0 : b.length ≤ 100000000000000) (I : Heap) (ha : StrP I a va) (hb : StrP I b vb) : Pure Tryz.prog 37 [va, vb] I (.bool (Ke.common a b)) := by
 obtain ⟨p, c, rfl, hc, hp⟩ := ha
 obtain ⟨q, d, rfl, hd, hq⟩ := hb
 refine Ctr.of_body Tryz.func37 rfl (by decide) (Nat.le_of_ble_eq_true rfl) ?_
 intro w0 hw0
 refine Cj.seq (Cj.region (J.z (yl_assign rfl rfl) ?_))
 refine J.nil (Ej.seq (Cj.seq (Cj.seq (Cj.region (J.z (yl_assign rfl rfl) ?_)))))
 refine J.nil (Ej.seq (Cj.block (Cj.loop (ι := Nat) (fun j => j ≤ a.length ∧ ∀ x ∈ a.take j, x ∉ b) (fun j => a.length - j) (fun j => [(0, .slice p a.length c), (1, .slice q b.length d), (5, i64 (j : Int))]) (fun j => I) (fun j => []) 0 ⟨Nat.zero_le _, by simp⟩ ⟨rfl, rfl, rfl, trivial⟩ rfl rfl ?_)))
 rintro j ⟨hj, hall⟩
 refine Cj.seq (Cj.seq (Cj.region (J.z (yl_move rfl rfl) ?_)))
 refine J.z (yl_move rfl rfl) ?_
 refine J.z (yl_lenSlice rfl rfl Tryz.underlying31) ?_
 refine J.z (yl_lss rfl rfl rfl) ?_
 refine J.nil (Ej.seq (Cj.cond rfl (fun hc1 => ?_) (fun hc1 => ?_)))
 ·
  have hc1p := of_decide_eq_true hc1
  have hlt : j < a.length := by omega
  obtain ⟨x, hgx⟩ : ∃ x, a[j]? = some x := ⟨_, List.getElem?_eq_getElem hlt⟩
  obtain ⟨ab, ao, acs, aty, afr, spa, rfl, hab, had⟩ := hp (ne_nil_of hlt)
  refine Cj.skip (Ej.seq (Cj.seq (Cj.block (Cj.seq (Cj.region (J.z (yl_assign rfl rfl) ?_))))))
  refine J.nil (Ej.seq (Cj.block (Cj.loop (ι := Nat) (fun k => k ≤ b.length ∧ x ∉ b.take k) (fun k => b.length - k) (fun k => [(0, .slice (some ⟨ab, ao, none⟩) a.length c), (1, .slice q b.length d), (5, i64 (j : Int)), (6, i64 (k : Int))]) (fun k => I) (fun k => []) 0 ⟨Nat.zero_le _, by simp⟩ ⟨rfl, rfl, rfl, rfl, trivial⟩ rfl rfl ?_)))
  rintro k ⟨hk, hno⟩
  refine Cj.seq (Cj.seq (Cj.region (J.z (yl_move rfl rfl) ?_)))
  refine J.z (yl_move rfl rfl) ?_
  refine J.z (yl_lenSlice rfl rfl Tryz.underlying31) ?_
  refine J.z (yl_lss rfl rfl rfl) ?_
  refine J.nil (Ej.seq (Cj.cond rfl (fun hc2 => ?_) (fun hc2 => ?_)))
  ·
   have hc2p := of_decide_eq_true hc2
   have hklt : k < b.length := by omega
   obtain ⟨y, hgy⟩ : ∃ y, b[k]? = some y := ⟨_, List.getElem?_eq_getElem hklt⟩
   obtain ⟨bb, bo, bcs, bty, bfr, spb, rfl, hbb, hbd⟩ := hq (ne_nil_of hklt)
   refine Cj.skip (Ej.seq (Cj.seq (Cj.block (Cj.seq (Cj.drawSel [] [] 9 (by kernel_rfl) ?_)))))
   refine JA.fix ⟨HSub.n, CSub.n, (Le.refl _)⟩ (fun fx3 => ?_)
   refine JA.tk 0 rfl fx3 (yl_move rfl rfl) ?_
   refine JA.tk 1 rfl fx3 (yl_move rfl rfl) ?_
   refine JA.tk 2 rfl fx3 (yl_indexAddr (off' := ao + j) rfl rfl rfl Tryz.underlying31 Tryz.sizeOf9 (by omega) (by omega) (by simp)) ?_
   refine JA.tk 3 rfl fx3 (yl_load rfl rfl Tryz.isAgg9 (Blk.immC hab) (str_from had hgx)) ?_
   refine JA.tk 4 rfl fx3 (yl_move rfl rfl) ?_
   refine JA.tk 5 rfl fx3 (yl_move rfl rfl) ?_
   refine JA.tk 6 rfl fx3 (yl_indexAddr (off' := bo + k) rfl rfl rfl Tryz.underlying31 Tryz.sizeOf9 (by omega) (by omega) (by simp)) ?_
   refine JA.tk 7 rfl fx3 (yl_load rfl rfl Tryz.isAgg9 (Blk.immC hbb) (str_from hbd hgy)) ?_
   refine JA.tk 8 rfl fx3 (yl_eqlStr rfl rfl rfl) ?_
   refine JA.done (by kernel_rfl) ?_
   refine Ej.seq (Cj.cond rfl (fun hc4 => ?_) (fun hc4 => ?_))
   ·
    have hc4p := eq_of_beq hc4
    have hxy : x = y := eq_of_beq hc4
    refine Cj.seq (Cj.region (J.z (yl_assign rfl rfl) ?_))
    refine J.nil (Ej.seq (Cj.ret (Ej.blkRet (Ej.seqRet (Ej.loopRet (Ej.blkRet (Ej.blkRet (Ej.seqRet (Ej.loopRet (Ej.blkRet (Ej.seqRet (Ej.ret1 rfl rfl rfl ?_))))))))))))
    rw [show Ke.common a b = true from Ke.common_iff.2 ⟨x, List.mem_of_getElem? hgx, hxy ▸ List.mem_of_getElem? hgy⟩]
    exact ⟨rfl, rfl, rfl⟩
   ·
    have hc4p := ne_of_beq_false hc4
    have hxy : x ≠ y := ne_of_beq_false hc4
    refine Cj.skip (Ej.blkNormal (Ej.seq (Cj.region (J.z (yl_move rfl rfl) ?_))))
    refine J.z (yl_add rfl rfl rfl (w64 (by omega))) ?_
    refine J.z (yl_assign rfl rfl) ?_
    refine J.nil (Ej.round (k + 1) ⟨by omega, notin_next hno hgy hxy⟩ (by omega) ⟨rfl, rfl, rfl, rfl, trivial⟩ rfl rfl)
  ·
   have hc2p := of_decide_eq_false hc2
   have hnx : x ∉ b := by rw [List.take_of_length_le (by omega)] at hno; exact hno
   refine Cj.exit (Ej.seqExit (Ej.loopExit (Ej.blkExit (Ej.blkNormal (Ej.seq (Cj.region (J.z (yl_move rfl rfl) ?_)))))))
   refine J.z (yl_add rfl rfl rfl (w64 (by omega))) ?_
   refine J.z (yl_assign rfl rfl) ?_
   refine J.nil (Ej.round (j + 1) ⟨by omega, every_next hall hgx hnx⟩ (by omega) ⟨rfl, rfl, rfl, trivial⟩ rfl rfl)
 ·
  have hc1p := of_decide_eq_false hc1
  refine Cj.exit (Ej.seqExit (Ej.loopExit (Ej.blkExit (Ej.seq (Cj.seq (Cj.region (J.z (yl_assign rfl rfl) ?_)))))))
  refine J.nil (Ej.seq (Cj.ret (Ej.ret1 rfl rfl rfl ?_)))
  rw [show Ke.common a b = false from Bool.eq_false_iff.2 fun e => by obtain ⟨x, h1, h2⟩ := Ke.common_iff.1 e; rw [List.take_of_length_le (by omega)] at hall; exact hall x h1 h2]
  exact ⟨rfl, rfl, rfl⟩
set_option maxRecDepth 20000 in
theorem rnum_ok (s : List UInt8) (hs : s.length ≤ 1000000000000) (I : Heap) : Pure Tryz.prog 66 [str s] I (i64 (Ke.num4 s)) := by
 refine Ctr.of_body Tryz.func66 rfl (by decide) (Nat.le_of_ble_eq_true rfl) ?_
 intro w0 hw0
 refine Cj.seq (Cj.region (J.z (yl_assign rfl rfl) ?_))
 refine J.nil (Ej.seq (Cj.seq (Cj.seq (Cj.region (J.z (yl_move rfl rfl) ?_)))))
 refine J.z (yl_lenStr rfl rfl Tryz.underlying9) ?_
 refine J.z (yl_lss rfl rfl rfl) ?_
 refine J.nil (Ej.seq (Cj.cond rfl (fun hc1 => ?_) (fun hc1 => ?_)))
 ·
  have hc1p := of_decide_eq_true hc1
  refine Cj.seq (Cj.region (J.z (yl_assign rfl rfl) ?_))
  refine J.nil (Ej.seq (Cj.ret (Ej.seqRet (Ej.ret1 rfl rfl rfl ?_))))
  rw [Ke.num4_short (by omega)]
  exact ⟨rfl, rfl, rfl⟩
 ·
  have hc1p := of_decide_eq_false hc1
  refine Cj.skip (Ej.seq (Cj.seq (Cj.region (J.z (yl_assign rfl rfl) ?_))))
  refine J.nil (Ej.seq (Cj.seq (Cj.seq (Cj.region (J.z (yl_assign rfl rfl) ?_)))))
  refine J.nil (Ej.seq (Cj.block (Cj.loop (ι := Nat) (fun j => j ≤ 4 ∧ Ke.digits (s.take j) = true) (fun j => 4 - j) (fun j => [(0, str s), (3, i64 ((Ke.val4 (s.take j) : Nat) : Int)), (4, i64 (j : Int))]) (fun j => I) (fun j => []) 0 ⟨Nat.zero_le _, rfl⟩ ⟨rfl, rfl, rfl, trivial⟩ rfl rfl ?_)))
  rintro j ⟨hj, hall⟩
  have hvl := Ke.val4_le (s := s.take j) (by rw [List.length_take]; omega) hall
  refine Cj.seq (Cj.seq (Cj.region (J.z (yl_move rfl rfl) ?_)))
  refine J.z (yl_lss rfl rfl rfl) ?_
  refine J.nil (Ej.seq (Cj.cond rfl (fun hc2 => ?_) (fun hc2 => ?_)))
  ·
   have hc2p := of_decide_eq_true hc2
   have hlt : j < s.length := by omega
   obtain ⟨c, hget⟩ : ∃ c, s[j]? = some c := ⟨_, List.getElem?_eq_getElem hlt⟩
   refine Cj.skip (Ej.seq (Cj.seq (Cj.block (Cj.seq (Cj.seq (Cj.region (J.z (yl_move rfl rfl) ?_)))))))
   refine J.z (yl_move rfl rfl) ?_
   refine J.z (yl_index rfl rfl rfl Tryz.underlying9 (by omega) hget) ?_
   refine J.z (yl_lss rfl rfl rfl) ?_
   refine J.z (yl_move rfl rfl) ?_
   refine J.split 16 rfl (fun hg3 => ?_) (fun hg3 => ?_)
   ·
    have hg3p := of_decide_eq_true hg3
    have hnd : ¬ Ke.digit c = true := fun e => by have h1 := Ke.digit_iff.1 e; have h := of_decide_eq_true hg3; omega
    refine J.skip 4 16 17 false _ rfl rfl rfl hg3 rfl rfl ?_
    refine J.skip 4 16 18 false _ rfl rfl rfl hg3 rfl rfl ?_
    refine J.skip 4 16 19 false _ rfl rfl rfl hg3 rfl rfl ?_
    refine J.skip 4 16 20 false _ rfl rfl rfl hg3 rfl rfl ?_
    refine J.z (yl_pick1 rfl rfl hg3 rfl) ?_
    refine J.nil (Ej.seq (Cj.cond rfl (fun hc4 => ?_) (fun hc4 => Bool.noConfusion (Eq.trans (Eq.symm rfl) hc4))))
    refine Cj.seq (Cj.region (J.z (yl_assign rfl rfl) ?_))
    refine J.nil (Ej.seq (Cj.ret (Ej.seqRet (Ej.blkRet (Ej.seqRet (Ej.loopRet (Ej.blkRet (Ej.seqRet (Ej.ret1 rfl rfl rfl ?_)))))))))
    rw [show Ke.num4 s = -1 from if_neg (fun g => hnd (List.all_eq_true.1 g.2 c (List.mem_of_getElem? (show (s.take 4)[j]? = some c by rw [List.getElem?_take, if_pos (by omega)]; exact hget))))]
    exact ⟨rfl, rfl, rfl⟩
   ·
    have hg3p := of_decide_eq_false hg3
    have hlo := of_decide_eq_false hg3
    refine J.opG 4 16 false _ rfl rfl rfl hg3 (op_yld (yl_move rfl rfl) rfl rfl ?_)
    refine J.opG 4 16 false _ rfl rfl rfl hg3 (op_yld (yl_move rfl rfl) rfl rfl ?_)
    refine J.opG 4 16 false _ rfl rfl rfl hg3 (op_yld (yl_index rfl rfl rfl Tryz.underlying9 (by omega) hget) rfl rfl ?_)
    refine J.opG 4 16 false _ rfl rfl rfl hg3 (op_yld (yl_gtr rfl rfl rfl) rfl rfl ?_)
    refine J.z (yl_pick0 rfl rfl hg3 rfl) ?_
    refine J.nil (Ej.seq (Cj.cond rfl (fun hc5 => ?_) (fun hc5 => ?_)))
    ·
     have hc5p := of_decide_eq_true hc5
     have hnd : ¬ Ke.digit c = true := fun e => by have h1 := Ke.digit_iff.1 e; have h := of_decide_eq_true hc5; omega
     refine Cj.seq (Cj.region (J.z (yl_assign rfl rfl) ?_))
     refine J.nil (Ej.seq (Cj.ret (Ej.seqRet (Ej.blkRet (Ej.seqRet (Ej.loopRet (Ej.blkRet (Ej.seqRet (Ej.ret1 rfl rfl rfl ?_)))))))))
     rw [show Ke.num4 s = -1 from if_neg (fun g => hnd (List.all_eq_true.1 g.2 c (List.mem_of_getElem? (show (s.take 4)[j]? = some c by rw [List.getElem?_take, if_pos (by omega)]; exact hget))))]
     exact ⟨rfl, rfl, rfl⟩
    ·
     have hc5p := of_decide_eq_false hc5
     have hd : Ke.digit c = true := Ke.digit_iff.2 (by have h := of_decide_eq_false hc5; omega)
     have hdc := Ke.digit_iff.1 hd
     refine Cj.skip (Ej.seq (Cj.region (J.z (yl_move rfl rfl) ?_)))
     refine J.z (yl_mul rfl rfl rfl (w64 (by omega))) ?_
     refine J.z (yl_move rfl rfl) ?_
     refine J.z (yl_move rfl rfl) ?_
     refine J.z (yl_index rfl rfl rfl Tryz.underlying9 (by omega) hget) ?_
     refine J.z (yl_sub rfl rfl rfl (w8 (by omega))) ?_
     refine J.z (yl_convInt rfl rfl Tryz.underlying5 Tryz.underlying3) ?_
     refine J.eqv 28 rfl (show _ = i64 ((c.toNat - 48 : Nat) : Int) from (congrArg i64 ((w64 (by omega)).trans (by omega)))) ?_
     refine J.z (yl_add rfl rfl rfl (w64 (by omega))) ?_
     refine J.z (yl_assign rfl rfl) ?_
     refine J.nil (Ej.blkNormal (Ej.seq (Cj.region (J.z (yl_move rfl rfl) ?_))))
     refine J.z (yl_add rfl rfl rfl (w64 (by omega))) ?_
     refine J.z (yl_assign rfl rfl) ?_
     refine J.nil (Ej.round (j + 1) ⟨by omega, all_at hall hget hd⟩ (by omega) ⟨rfl, by rw [val4_next hget]; exact congrArg (fun z => some (Value.int .i64 z)) (by omega), rfl, trivial⟩ rfl rfl)
  ·
   have hc2p := of_decide_eq_false hc2
   refine Cj.exit (Ej.seqExit (Ej.loopExit (Ej.blkExit (Ej.seq (Cj.seq (Cj.region (J.z (yl_move rfl rfl) ?_)))))))
   refine J.z (yl_assign rfl rfl) ?_
   refine J.nil (Ej.seq (Cj.ret (Ej.ret1 rfl rfl rfl ?_)))
   obtain rfl : j = 4 := by omega
   rw [show Ke.num4 s = (Ke.val4 (s.take 4) : Int) from if_pos ⟨by omega, hall⟩]
   exact ⟨rfl, rfl, rfl⟩
set_option maxRecDepth 20000 in
set_option maxHeartbeats 1000000 in
theorem ryear_ok (fs : List Ke.Fld) (v : Value) (rk rl : UInt8) (hok : FOK fs) (hdl : ∀ f ∈ fs, f.data.length ≤ 2000000) (I : Heap) (hr : RecS I fs v) : Pure Tryz.prog 41 [recV rk rl v] I (i64 (Ke.year fs)) := by
 refine Ctr.toPure ?_
 have hfs := hok.1
 obtain ⟨p, c, rfl, hc, -⟩ := id hr.1
 have hfo := first_ok [50, 54, 48] hok
 have htl := textOf_len (Ke.first fs [50, 54, 48]) [99]
 obtain ⟨p8, n8, c8, hsv8⟩ := first_sv [48, 48, 56] hr
 obtain ⟨p6, n6, c6, hsv6⟩ := first_sv [50, 54, 48] hr
 have hd8 := first_data [48, 48, 56] hdl
 refine Ctr.of_body Tryz.func41 rfl (by decide) (Nat.le_of_ble_eq_true rfl) ?_
 intro w0 hw0
 refine Cj.seq (Cj.region (J.op rfl (op_box rfl rfl rfl rfl rfl ?_)))
 intro b1 hb1
 refine J.z (yl_assign rfl rfl) ?_
 refine J.nil (Ej.seq (Cj.seq (Cj.region (J.z (yl_loadAgg rfl rfl Tryz.isAgg26 Tryz.sizeOf26 (Blk.at 0 rfl) rfl rfl) ?_))))
 refine J.op rfl (op_call (H1 := []) rfl rfl rfl rfl rfl (rFirst_ok fs _ rk rl [48, 48, 56] hfs _ hr) ?_ (fun _ _ _ _ h => by cases h.1) (fun _ _ h => by cases h.1))
 intro v2 I3 H4 hle5 hp6
 have hr := hr.mono hle5
 obtain ⟨h, rfl⟩ := hp6; cases h
 refine J.z (yl_move rfl rfl) ?_
 refine J.z (yl_extract rfl rfl rfl) ?_
 refine J.z (yl_extract rfl rfl rfl) ?_
 refine J.op rfl (op_alloc rfl rfl rfl Tryz.zeroValue35 rfl ?_)
 intro b7 hb7
 refine J.op rfl (op_store 0 rfl rfl rfl rfl rfl (fldC_one hsv8) Tryz.sizeOf35 rfl rfl (LSpl.c (LSpl.c (LSpl.c (LSpl.c LSpl.z)))) LSet.z ?_)
 refine J.z (yl_assign rfl rfl) ?_
 refine J.nil (Ej.seq (Cj.join (ι := Heap) (fun J9 => RecS J9 fs (.slice p fs.length c) ∧ ¬ (11 ≤ (Ke.first fs [48, 48, 56]).data.length ∧ 0 ≤ Ke.num4 ((Ke.first fs [48, 48, 56]).data.drop 7))) (fun J9 => [(1, ptr b1 0)]) (fun J9 => J9) (fun J9 => [(b1, cel 26 [u8 rk, u8 rl, .slice p fs.length c])]) ?_ (fun hcut => ?_)))
 ·
  rintro J9 ⟨hr, hno⟩
  refine Cj.seq (Cj.region (J.z (yl_loadAgg rfl rfl Tryz.isAgg26 Tryz.sizeOf26 (Blk.at 0 rfl) rfl rfl) ?_))
  refine J.op rfl (op_call (H1 := []) rfl rfl rfl rfl rfl (rFirst_ok fs _ rk rl [50, 54, 48] hfs _ hr) ?_ (fun _ _ _ _ h => by cases h.1) (fun _ _ h => by cases h.1))
  intro v8 I9 H10 hle11 hp12
  have hr := hr.mono hle11
  obtain ⟨h, rfl⟩ := hp12; cases h
  refine J.z (yl_move rfl rfl) ?_
  refine J.z (yl_extract rfl rfl rfl) ?_
  refine J.z (yl_extract rfl rfl rfl) ?_
  refine J.op rfl (op_alloc rfl rfl rfl Tryz.zeroValue35 rfl ?_)
  intro b13 hb13
  refine J.op rfl (op_store 0 rfl rfl rfl rfl rfl (fldC_one hsv6) Tryz.sizeOf35 rfl rfl (LSpl.c (LSpl.c (LSpl.c (LSpl.c LSpl.z)))) LSet.z ?_)
  refine J.z (yl_assign rfl rfl) ?_
  refine J.nil (Ej.seq (Cj.seq (Cj.seq (Cj.region (J.z (yl_move rfl rfl) ?_)))))
  refine J.z (yl_not rfl rfl) ?_
  refine J.nil (Ej.seq (Cj.cond rfl (fun hc14 => ?_) (fun hc14 => ?_)))
  ·
   have hfind : Ke.find fs [50, 54, 48] = none := by have h := hc14; simpa using h
   have hz6 : Ke.y260 fs = -1 := by unfold Ke.y260 Ke.first; rw [hfind]; rfl
   refine Cj.seq (Cj.region (J.z (yl_assign rfl rfl) ?_))
   refine J.nil (Ej.seq (Cj.ret (Ej.seqRet (Ej.bare ?_))))
   refine Ej.ret1 rfl rfl rfl ?_
   rw [show Ke.year fs = _ from if_neg hno, hz6]
   exact ⟨rfl, rfl⟩
  ·
   refine Cj.skip (Ej.seq (Cj.seq (Cj.region (J.z (yl_loadAgg rfl rfl Tryz.isAgg35 Tryz.sizeOf35 (Blk.at 0 rfl) rfl rfl) ?_))))
   refine J.op rfl (op_pure rfl rfl rfl rfl rfl (rText_ok (Ke.first fs [50, 54, 48]) [99] (by decide) hfo.1 hfo.2.1 _ (first_row [50, 54, 48] hr)) ?_)
   refine J.z (yl_assign rfl rfl) ?_
   refine J.nil (Ej.seq (Cj.seq (Cj.seq (Cj.region (J.z (yl_assign rfl rfl) ?_)))))
   refine J.nil (Ej.seq (Cj.block (Cj.keep (Keeps.d (Keeps.d Keeps.n)) ?_)))
   refine Cj.loop (ι := Nat) (fun i => Ke.yearIn ((Ke.textOf (Ke.first fs [50, 54, 48]) [99]).drop i) = Ke.y260 fs ∧ i ≤ (Ke.textOf (Ke.first fs [50, 54, 48]) [99]).length) (fun i => (Ke.textOf (Ke.first fs [50, 54, 48]) [99]).length - i) (fun i => [(7, str (Ke.textOf (Ke.first fs [50, 54, 48]) [99])), (8, i64 (i : Int))]) (fun i => _) (fun i => []) 0 ⟨rfl, Nat.zero_le _⟩ ⟨rfl, rfl, trivial⟩ rfl rfl ?_
   rintro i ⟨hy, hi⟩
   refine Cj.seq (Cj.seq (Cj.region (J.z (yl_move rfl rfl) ?_)))
   refine J.z (yl_move rfl rfl) ?_
   refine J.z (yl_lenStr rfl rfl Tryz.underlying9) ?_
   refine J.z (yl_lss rfl rfl rfl) ?_
   refine J.nil (Ej.seq (Cj.cond rfl (fun hc15 => ?_) (fun hc15 => ?_)))
   ·
    have hc15p := of_decide_eq_true hc15
    have hlt : i < (Ke.textOf (Ke.first fs [50, 54, 48]) [99]).length := by have h := of_decide_eq_true hc15; omega
    refine Cj.skip (Ej.seq (Cj.seq (Cj.block (Cj.seq (Cj.region (J.z (yl_move rfl rfl) ?_))))))
    refine J.z (yl_move rfl rfl) ?_
    refine J.z (yl_sliceStr (p := i) rfl rfl Tryz.underlying9 ⟨_, rfl⟩ rfl (by omega) (by omega)) ?_
    refine J.eqv 49 rfl (show _ = str ((Ke.textOf (Ke.first fs [50, 54, 48]) [99]).drop i) from (congrArg str (by rw [List.take_length]))) ?_
    refine J.op rfl (op_pure rfl rfl rfl rfl rfl (rnum_ok ((Ke.textOf (Ke.first fs [50, 54, 48]) [99]).drop i) (by rw [List.length_drop]; omega) _) ?_)
    refine J.z (yl_geq rfl rfl rfl) ?_
    refine J.nil (Ej.seq (Cj.cond rfl (fun hc16 => ?_) (fun hc16 => ?_)))
    ·
     have hc16p := of_decide_eq_true hc16
     have hpos : 0 ≤ Ke.num4 ((Ke.textOf (Ke.first fs [50, 54, 48]) [99]).drop i) := of_decide_eq_true hc16
     refine Cj.seq (Cj.region (J.z (yl_move rfl rfl) ?_))
     refine J.z (yl_move rfl rfl) ?_
     refine J.z (yl_sliceStr (p := i) rfl rfl Tryz.underlying9 ⟨_, rfl⟩ rfl (by omega) (by omega)) ?_
     refine J.eqv 54 rfl (show _ = str ((Ke.textOf (Ke.first fs [50, 54, 48]) [99]).drop i) from (congrArg str (by rw [List.take_length]))) ?_
     refine J.op rfl (op_pure rfl rfl rfl rfl rfl (rnum_ok ((Ke.textOf (Ke.first fs [50, 54, 48]) [99]).drop i) (by rw [List.length_drop]; omega) _) ?_)
     refine J.z (yl_assign rfl rfl) ?_
     refine J.nil (Ej.seq (Cj.ret (Ej.blkRet (Ej.seqRet (Ej.loopRet (Ej.blkRet (Ej.seqRet (Ej.ret1 rfl rfl rfl ?_))))))))
     rw [show Ke.year fs = _ from if_neg hno, ← hy, year_at2 hlt, if_pos hpos]
     exact ⟨rfl, rfl⟩
    ·
     have hc16p := of_decide_eq_false hc16
     have hneg : ¬ 0 ≤ Ke.num4 ((Ke.textOf (Ke.first fs [50, 54, 48]) [99]).drop i) := of_decide_eq_false hc16
     refine Cj.skip (Ej.blkNormal (Ej.seq (Cj.region (J.z (yl_move rfl rfl) ?_))))
     refine J.z (yl_add rfl rfl rfl (w64 (by omega))) ?_
     refine J.z (yl_assign rfl rfl) ?_
     refine J.nil (Ej.round (i + 1) ⟨by rw [← hy, year_at2 hlt, if_neg hneg], by omega⟩ (by omega) ⟨rfl, rfl, trivial⟩ rfl rfl)
   ·
    have hc15p := of_decide_eq_false hc15
    refine Cj.exit (Ej.seqExit (Ej.loopExit (Ej.blkExit (Ej.seq (Cj.seq (Cj.region (J.z (yl_assign rfl rfl) ?_)))))))
    refine J.nil (Ej.seq (Cj.ret (Ej.ret1 rfl rfl rfl ?_)))
    rw [show Ke.year fs = _ from if_neg hno, ← hy, List.drop_eq_nil_of_le (by omega)]
    exact ⟨rfl, rfl⟩
 ·
  refine Cj.seq (Cj.region (J.z (yl_move rfl rfl) ?_))
  refine J.z (yl_move rfl rfl) ?_
  refine J.split 15 rfl (fun hg17 => ?_) (fun hg17 => ?_)
  ·
   refine J.opG 1 15 true _ rfl rfl rfl hg17 (op_yld (yl_fieldAddr (off' := 2) rfl rfl Tryz.underlying35 rfl Tryz.sizeOf9 rfl) rfl rfl ?_)
   refine J.opG 1 15 true _ rfl rfl rfl hg17 (op_yld (yl_load rfl rfl Tryz.isAgg9 (Blk.at 0 rfl) rfl) rfl rfl ?_)
   refine J.opG 1 15 true _ rfl rfl rfl hg17 (op_yld (yl_lenStr rfl rfl Tryz.underlying9) rfl rfl ?_)
   refine J.opG 1 15 true _ rfl rfl rfl hg17 (op_yld (yl_geq rfl rfl rfl) rfl rfl ?_)
   refine J.z (yl_pick1 rfl rfl hg17 rfl) ?_
   refine J.z (yl_move rfl rfl) ?_
   refine J.split 21 rfl (fun hg18 => ?_) (fun hg18 => ?_)
   ·
    have hg18p := of_decide_eq_true hg18
    have h11 : 11 ≤ (Ke.first fs [48, 48, 56]).data.length := by have h := of_decide_eq_true hg18; omega
    refine J.opG 7 21 true _ rfl rfl rfl hg18 (op_yld (yl_fieldAddr (off' := 2) rfl rfl Tryz.underlying35 rfl Tryz.sizeOf9 rfl) rfl rfl ?_)
    refine J.opG 7 21 true _ rfl rfl rfl hg18 (op_yld (yl_load rfl rfl Tryz.isAgg9 (Blk.at 0 rfl) rfl) rfl rfl ?_)
    refine J.opG 7 21 true _ rfl rfl rfl hg18 (op_yld (yl_sliceStr (p := 7) rfl rfl Tryz.underlying9 ⟨_, rfl⟩ rfl (by omega) (by omega)) rfl rfl ?_)
    refine J.eqv 24 rfl (show _ = str ((Ke.first fs [48, 48, 56]).data.drop 7) from (congrArg str (by rw [List.take_length]))) ?_
    refine J.opG 7 21 true _ rfl rfl rfl hg18 (op_pure rfl rfl rfl rfl rfl (rnum_ok ((Ke.first fs [48, 48, 56]).data.drop 7) (by rw [List.length_drop]; omega) _) ?_)
    refine J.opG 7 21 true _ rfl rfl rfl hg18 (op_yld (yl_geq rfl rfl rfl) rfl rfl ?_)
    refine J.z (yl_pick1 rfl rfl hg18 rfl) ?_
    refine J.nil (Ej.seq (Cj.cond rfl (fun hc19 => ?_) (fun hc19 => ?_)))
    ·
     have hc19p := of_decide_eq_true hc19
     have hpos : 0 ≤ Ke.num4 ((Ke.first fs [48, 48, 56]).data.drop 7) := of_decide_eq_true hc19
     refine Cj.seq (Cj.region (J.z (yl_fieldAddr (off' := 2) rfl rfl Tryz.underlying35 rfl Tryz.sizeOf9 rfl) ?_))
     refine J.z (yl_load rfl rfl Tryz.isAgg9 (Blk.at 0 rfl) rfl) ?_
     refine J.z (yl_sliceStr (p := 7) rfl rfl Tryz.underlying9 ⟨_, rfl⟩ rfl (by omega) (by omega)) ?_
     refine J.eqv 30 rfl (show _ = str ((Ke.first fs [48, 48, 56]).data.drop 7) from (congrArg str (by rw [List.take_length]))) ?_
     refine J.op rfl (op_pure rfl rfl rfl rfl rfl (rnum_ok ((Ke.first fs [48, 48, 56]).data.drop 7) (by rw [List.length_drop]; omega) _) ?_)
     refine J.z (yl_assign rfl rfl) ?_
     refine J.nil (Ej.seq (Cj.ret (Ej.seqRet (Ej.bare ?_))))
     refine Ej.ret1 rfl rfl rfl ?_
     rw [show Ke.year fs = _ from if_pos ⟨h11, hpos⟩]
     exact ⟨rfl, rfl⟩
    ·
     have hc19p := of_decide_eq_false hc19
     have hnn : ¬ (11 ≤ (Ke.first fs [48, 48, 56]).data.length ∧ 0 ≤ Ke.num4 ((Ke.first fs [48, 48, 56]).data.drop 7)) := fun g => of_decide_eq_false hc19 g.2
     refine Cj.skip (Ej.keep (Keeps.d (Keeps.k Keeps.n)) ?_)
     exact hcut _ _ _ _ ⟨hr, hnn⟩ ⟨rfl, trivial⟩ rfl rfl
   ·
    have hg18p := of_decide_eq_false hg18
    have hnn : ¬ (11 ≤ (Ke.first fs [48, 48, 56]).data.length ∧ 0 ≤ Ke.num4 ((Ke.first fs [48, 48, 56]).data.drop 7)) := fun g => by have h := of_decide_eq_false hg18; omega
    refine J.skip 7 21 22 true _ rfl rfl rfl hg18 rfl rfl ?_
    refine J.skip 7 21 23 true _ rfl rfl rfl hg18 rfl rfl ?_
    refine J.skip 7 21 24 true _ rfl rfl rfl hg18 rfl rfl ?_
    refine J.skip 7 21 25 true _ rfl rfl rfl hg18 rfl rfl ?_
    refine J.skip 7 21 26 true _ rfl rfl rfl hg18 rfl rfl ?_
    refine J.z (yl_pick0 rfl rfl hg18 rfl) ?_
    refine J.nil (Ej.seq (Cj.cond rfl (fun hc20 => Bool.noConfusion (Eq.trans (Eq.symm rfl) hc20)) (fun hc20 => ?_)))
    refine Cj.skip (Ej.keep (Keeps.d (Keeps.k Keeps.n)) ?_)
    exact hcut _ _ _ _ ⟨hr, hnn⟩ ⟨rfl, trivial⟩ rfl rfl
  ·
   have hfind : Ke.find fs [48, 48, 56] = none := by have h := hg17; simpa using h
   have hdz : (Ke.first fs [48, 48, 56]).data.length = 0 := by unfold Ke.first; rw [hfind]; rfl
   have hnn : ¬ (11 ≤ (Ke.first fs [48, 48, 56]).data.length ∧ 0 ≤ Ke.num4 ((Ke.first fs [48, 48, 56]).data.drop 7)) := fun g => by rw [hdz] at g; exact absurd g.1 (by decide)
   refine J.skip 1 15 16 true _ rfl rfl rfl hg17 rfl rfl ?_
   refine J.skip 1 15 17 true _ rfl rfl rfl hg17 rfl rfl ?_
   refine J.skip 1 15 18 true _ rfl rfl rfl hg17 rfl rfl ?_
   refine J.skip 1 15 19 true _ rfl rfl rfl hg17 rfl rfl ?_
   refine J.z (yl_pick0 rfl rfl hg17 rfl) ?_
   refine J.z (yl_move rfl rfl) ?_
   refine J.skip 7 21 22 true _ rfl rfl rfl rfl rfl rfl ?_
   refine J.skip 7 21 23 true _ rfl rfl rfl rfl rfl rfl ?_
   refine J.skip 7 21 24 true _ rfl rfl rfl rfl rfl rfl ?_
   refine J.skip 7 21 25 true _ rfl rfl rfl rfl rfl rfl ?_
   refine J.skip 7 21 26 true _ rfl rfl rfl rfl rfl rfl ?_
   refine J.z (yl_pick0 rfl rfl rfl rfl) ?_
   refine J.nil (Ej.seq (Cj.cond rfl (fun hc21 => Bool.noConfusion (Eq.trans (Eq.symm rfl) hc21)) (fun hc21 => ?_)))
   refine Cj.skip (Ej.keep (Keeps.d (Keeps.k Keeps.n)) ?_)
   exact hcut _ _ _ _ ⟨hr, hnn⟩ ⟨rfl, trivial⟩ rfl rfl
set_option maxRecDepth 20000 in
theorem rauthor_ok (fs : List Ke.Fld) (v : Value) (rk rl : UInt8) (hok : FOK fs) (I : Heap) (hr : RecS I fs v) : Ctr Tryz.prog 39 [recV rk rl v] I [] (fun e I' H' => ∃ w, e = .returned w ∧ StrP I' (Ke.author fs) w ∧ H' = []) := by
 have hfs := hok.1
 obtain ⟨p, c, rfl, hc, -⟩ := id hr.1
 have hfo := first_ok [49, 48, 48] hok
 have htl := textOf_len (Ke.first fs [49, 48, 48]) [97]
 obtain ⟨p1, n1, c1, hsv1⟩ := first_sv [49, 48, 48] hr
 refine Ctr.of_body Tryz.func39 rfl (by decide) (Nat.le_of_ble_eq_true rfl) ?_
 intro w0 hw0
 refine Cj.seq (Cj.region (J.op rfl (op_box rfl rfl rfl rfl rfl ?_)))
 intro b1 hb1
 refine J.z (yl_assign rfl rfl) ?_
 refine J.nil (Ej.seq (Cj.seq (Cj.region (J.z (yl_loadAgg rfl rfl Tryz.isAgg26 Tryz.sizeOf26 (Blk.at 0 rfl) rfl rfl) ?_))))
 refine J.op rfl (op_call (H1 := []) rfl rfl rfl rfl rfl (rFirst_ok fs _ rk rl [49, 48, 48] hfs _ hr) ?_ (fun _ _ _ _ h => by cases h.1) (fun _ _ h => by cases h.1))
 intro v2 I3 H4 hle5 hp6
 have hr := hr.mono hle5
 obtain ⟨h, rfl⟩ := hp6; cases h
 refine J.z (yl_move rfl rfl) ?_
 refine J.z (yl_extract rfl rfl rfl) ?_
 refine J.z (yl_extract rfl rfl rfl) ?_
 refine J.op rfl (op_alloc rfl rfl rfl Tryz.zeroValue35 rfl ?_)
 intro b7 hb7
 refine J.op rfl (op_store 0 rfl rfl rfl rfl rfl (fldC_one hsv1) Tryz.sizeOf35 rfl rfl (LSpl.c (LSpl.c (LSpl.c (LSpl.c LSpl.z)))) LSet.z ?_)
 refine J.z (yl_assign rfl rfl) ?_
 refine J.nil (Ej.seq (Cj.seq (Cj.seq (Cj.region (J.z (yl_move rfl rfl) ?_)))))
 refine J.z (yl_not rfl rfl) ?_
 refine J.nil (Ej.seq (Cj.cond rfl (fun hc8 => ?_) (fun hc8 => ?_)))
 ·
  have hfind : Ke.find fs [49, 48, 48] = none := by have h := hc8; simpa using h
  have hz : Ke.author fs = [] := by unfold Ke.author Ke.first; rw [hfind]; rfl
  refine Cj.seq (Cj.region (J.z (yl_assign rfl rfl) ?_))
  refine J.nil (Ej.seq (Cj.ret (Ej.seqRet (Ej.bare ?_))))
  refine Ej.ret1 rfl rfl rfl ?_
  rw [hz]
  exact ⟨_, rfl, StrP.of (.inl ⟨rfl, rfl⟩), rfl⟩
 ·
  refine Cj.skip (Ej.seq (Cj.seq (Cj.region (J.z (yl_loadAgg rfl rfl Tryz.isAgg35 Tryz.sizeOf35 (Blk.at 0 rfl) rfl rfl) ?_))))
  refine J.op rfl (op_pure rfl rfl rfl rfl rfl (rText_ok (Ke.first fs [49, 48, 48]) [97] (by decide) hfo.1 hfo.2.1 _ (first_row [49, 48, 48] hr)) ?_)
  refine J.op rfl (op_callN rfl rfl rfl rfl rfl (rWords_ok (Ke.textOf (Ke.first fs [49, 48, 48]) [97]) (by omega) _) ?_ (fun _ _ _ _ h => by obtain ⟨_, _, h, _⟩ := h; cases h) (fun _ _ h => by obtain ⟨_, _, h, _⟩ := h; cases h))
  intro v10 I11 H12 hle13 hn9 hp14
  have hr := hr.mono hle13
  obtain ⟨gaw, hgaw, h, rfl⟩ := hp14; cases h
  refine J.keepS (hgaw.base hn9) (fun Iaw hleaw aw => ?_)
  have hr := hr.mono hleaw
  refine J.z (yl_assign rfl rfl) ?_
  refine J.nil (Ej.seq (Cj.ret (Ej.bare ?_)))
  refine Ej.ret1 rfl rfl rfl ?_
  exact ⟨_, rfl, StrP.of aw, rfl⟩
end Go.Proofs.YtadnofaleepkmaaGreatDoor
end
section
namespace Go.Sx
open Go
section
variable {P : Program} {t e : TypeId}
theorem run_equalIn_two (w : World) (d : Nat) (ht : P.underlying t = some (.array 2 e)) (he : P.underlying e = some (.int .i64)) (hc : P.cellsOf e = 1) {i : TypeInfo} (hi : P.info? e = some i) (ha : ∀ w, (isAgg e).run P w = .ok false w) (a b : Int × Int) :
    (Op.equalIn (d + 2) t (.agg #[i64 a.1, i64 a.2]) (.agg #[i64 b.1, i64 b.2])).run P w = .ok (a == b) w := by
  rw [run_equalIn_array w (d + 1) _ _ ht hi, hc, show List.range 2 = [0, 1] from rfl]
  have p0 : ∀ (x y : Value) w, (part e #[x, y] (0 * 1)).run P w = .ok x w := fun x y w => run_part0 ha rfl
  have p1 : ∀ (x y : Value) w, (part e #[x, y] (1 * 1)).run P w = .ok y w := fun x y w => run_part0 ha rfl
  have q : ∀ (x y : Int) w, (Op.equalIn (d + 1) e (i64 x) (i64 y)).run P w = .ok (x == y) w := fun x y w => run_equalIn_int w d e .i64 .i64 x y he
  simp only [Op.eqItems, Sem.run_bind, p0, q, Result.andThen_ok]
  obtain ⟨a1, a2⟩ := a
  obtain ⟨b1, b2⟩ := b
  by_cases h1 : a1 = b1
  · by_cases h2 : a2 = b2
    · simp [h1, h2, Sem.run_bind, p1, q]
    · simp [h1, h2, Sem.run_bind, p1, q]
  · simp [h1]
theorem info_of {d : TypeDesc} (h : P.underlying e = some d) : ∃ i, P.info? e = some i := by
  cases hi : P.info? e with
  | none => simp [Program.underlying, hi] at h
  | some i => exact ⟨i, rfl⟩
variable {cx : Cx} {S : World → Prop} {ev0 : Env} {o : Oper}
theorem yl_neqA2 {x y : Operand} {U : Nat} {a b : Int × Int} {vs us : List Value} (ho : o.op = .binOp .neq t x y U) (hx : ev ev0 x = some (.agg vs.toArray)) (hy : ev ev0 y = some (.agg us.toArray)) (hvs : vs = [i64 a.1, i64 a.2]) (hus : us = [i64 b.1, i64 b.2])
    (ht : cx.P.underlying t = some (.array 2 e)) (he : cx.P.underlying e = some (.int .i64)) (hc : cx.P.cellsOf e = 1) (ha : ∀ w, (isAgg e).run cx.P w = .ok false w) (hq : cx.P.eqGuardType cx.P.depth t = false) : Yld cx o ev0 S (.bool (a != b)) := by
  subst hvs hus
  obtain ⟨i, hi⟩ := info_of he
  intro w0 w hw _
  have hg : (eqGuard .neq t x y (.agg #[i64 a.1, i64 a.2]) (.agg #[i64 b.1, i64 b.2])).run cx.P w = .ok () w := by
    simp [eqGuard, hq]
  have h1 := run_neq_struct (P := cx.P) w t #[i64 a.1, i64 a.2] #[i64 b.1, i64 b.2]
  rw [run_equalIn_two w 9998 ht he hc hi ha a b] at h1
  simp [execOp, ho, hw.eval hx, hw.eval hy, hg, h1, bne]
end
end Go.Sx
end
section
namespace Go.Proofs.YtadnofaleepkmaaGreatDoor
open Go Go.Sx
theorem tmod_rng (a : Int) {m : Int} (hm : 0 < m) : -m < a.tmod m ∧ a.tmod m < m := by
  refine ⟨?_, Int.tmod_lt_of_pos a hm⟩
  have h := Int.tmod_lt_of_pos (-a) hm
  rw [Int.neg_tmod] at h
  omega
theorem goMod_eq (a : Int) {m : Int} (hm : 0 < m) : (a.tmod m + m).tmod m = a % m := by
  have h := tmod_rng a hm
  rw [Int.tmod_eq_emod_of_nonneg (by omega), Int.add_emod_right, Int.tmod_def, Int.sub_mul_emod_self_left]
/-- Rows of numbers, one cell each. -/
def intC (x : Int) : List Value := [i64 x]
theorem one_from {α : Type} {f : α → List Value} {g : α → Value} (hf : ∀ x, f x = [g x]) {cs sp : List Value} {o : Nat} {l : List α} (h : cs.drop o = l.flatMap f ++ sp) {k : Nat} {x : α} (hx : l[k]? = some x) : cs[o + k]? = some (g x) := by
  have := row_fcell (n := 1) (fun x => by rw [hf]; rfl) h hx 0 (by decide)
  rw [hf] at this
  simpa using this
def twoC (x : Int × Int) : List Value := [i64 x.1, i64 x.2]
theorem twoC_len (x : Int × Int) : (twoC x).length = 2 := rfl
def valC (x : Value) : List Value := [x]
/-- A row of rows of numbers. -/
def PartR (I : Heap) (l : List (List Int)) (v : Value) : Prop := ∃ vs, RowS valC I vs v ∧ vs.length = l.length ∧ ∀ (k : Nat) (w : Value) (x : List Int), vs[k]? = some w → l[k]? = some x → RowS intC I x w
theorem PartR.mono {I I' : Heap} {l : List (List Int)} {v : Value} (h : PartR I l v) (hle : Le I I') : PartR I' l v :=
  let ⟨vs, h1, h2, h3⟩ := h; ⟨vs, h1.mono hle, h2, fun k w x a b => (h3 k w x a b).mono hle⟩
set_option maxRecDepth 20000 in
theorem Mod_ok (a m : Int) (hm : 0 < m) (hm2 : m ≤ 1000000000000) (I : Heap) : Pure Tryz.prog 29 [i64 a, i64 m] I (i64 (a % m)) := by
 have hrg := tmod_rng a hm
 refine Ctr.of_body Tryz.func29 rfl (by decide) (Nat.le_of_ble_eq_true rfl) ?_
 intro w0 hw0
 refine Cj.seq (Cj.region (J.z (yl_assign rfl rfl) ?_))
 refine J.nil (Ej.seq (Cj.seq (Cj.region (J.z (yl_move rfl rfl) ?_))))
 refine J.z (yl_move rfl rfl) ?_
 refine J.z (yl_rem rfl rfl rfl (by omega)) ?_
 refine J.z (yl_move rfl rfl) ?_
 refine J.z (yl_add rfl rfl rfl (w64 (by omega))) ?_
 refine J.z (yl_move rfl rfl) ?_
 refine J.z (yl_rem rfl rfl rfl (by omega)) ?_
 refine J.eqv 11 rfl (show _ = i64 (a % m) from (congrArg i64 (goMod_eq a hm))) ?_
 refine J.z (yl_assign rfl rfl) ?_
 refine J.nil (Ej.seq (Cj.ret (Ej.ret1 rfl rfl rfl ?_)))
 exact ⟨rfl, rfl, rfl⟩
set_option maxRecDepth 20000 in
theorem SameI_ok (a b : List Int) (va vb : Value) (ha0 : a.length ≤ 100000000000000) (I : Heap) (ha : RowS intC I a va) (hb : RowS intC I b vb) : Pure Tryz.prog 56 [va, vb] I (.bool (decide (a = b))) := by
 obtain ⟨p, c, rfl, hc, hp⟩ := ha
 obtain ⟨q, d, rfl, hd, hq⟩ := hb
 refine Ctr.of_body Tryz.func56 rfl (by decide) (Nat.le_of_ble_eq_true rfl) ?_
 intro w0 hw0
 refine Cj.seq (Cj.region (J.z (yl_assign rfl rfl) ?_))
 refine J.nil (Ej.seq (Cj.seq (Cj.seq (Cj.region (J.z (yl_move rfl rfl) ?_)))))
 refine J.z (yl_lenSlice rfl rfl Tryz.underlying62) ?_
 refine J.z (yl_move rfl rfl) ?_
 refine J.z (yl_lenSlice rfl rfl Tryz.underlying62) ?_
 refine J.z (yl_neq rfl rfl rfl) ?_
 refine J.nil (Ej.seq (Cj.cond rfl (fun hc1 => ?_) (fun hc1 => ?_)))
 ·
  have hc1p := bne_iff_ne.1 hc1
  have hne : a.length ≠ b.length := fun e => (bne_iff_ne.1 hc1) (by rw [e])
  refine Cj.seq (Cj.region (J.z (yl_assign rfl rfl) ?_))
  refine J.nil (Ej.seq (Cj.ret (Ej.seqRet (Ej.ret1 rfl rfl rfl ?_))))
  have he : decide (a = b) = false := decide_eq_false (fun e => hne (by rw [e]))
  rw [he]
  exact ⟨rfl, rfl, rfl⟩
 ·
  have hc1p := bne_f hc1
  have hle0 : a.length = b.length := by have h := hc1; simp at h; omega
  refine Cj.skip (Ej.seq (Cj.seq (Cj.seq (Cj.region (J.z (yl_assign rfl rfl) ?_)))))
  refine J.nil (Ej.seq (Cj.block (Cj.loop (ι := Nat) (fun j => j ≤ a.length ∧ a.take j = b.take j) (fun j => a.length - j) (fun j => [(0, .slice p a.length c), (1, .slice q b.length d), (5, i64 (j : Int))]) (fun j => I) (fun j => []) 0 ⟨Nat.zero_le _, rfl⟩ ⟨rfl, rfl, rfl, trivial⟩ rfl rfl ?_)))
  rintro j ⟨hj, hsm⟩
  refine Cj.seq (Cj.seq (Cj.region (J.z (yl_move rfl rfl) ?_)))
  refine J.z (yl_move rfl rfl) ?_
  refine J.z (yl_lenSlice rfl rfl Tryz.underlying62) ?_
  refine J.z (yl_lss rfl rfl rfl) ?_
  refine J.nil (Ej.seq (Cj.cond rfl (fun hc2 => ?_) (fun hc2 => ?_)))
  ·
   have hc2p := of_decide_eq_true hc2
   have hlt : j < a.length := by omega
   obtain ⟨x, hgx⟩ : ∃ x, a[j]? = some x := ⟨_, List.getElem?_eq_getElem hlt⟩
   obtain ⟨y, hgy⟩ : ∃ y, b[j]? = some y := ⟨_, List.getElem?_eq_getElem (by omega)⟩
   obtain ⟨ab, ao, acs, aty, afr, spa, rfl, hab, had⟩ := hp (ne_nil_of hlt)
   obtain ⟨bb, bo, bcs, bty, bfr, spb, rfl, hbb, hbd⟩ := hq (ne_nil_of (k := j) (by omega))
   refine Cj.skip (Ej.seq (Cj.seq (Cj.block (Cj.seq (Cj.drawSel [] [] 9 (by kernel_rfl) ?_)))))
   refine JA.fix ⟨HSub.n, CSub.n, (Le.refl _)⟩ (fun fx3 => ?_)
   refine JA.tk 0 rfl fx3 (yl_move rfl rfl) ?_
   refine JA.tk 1 rfl fx3 (yl_move rfl rfl) ?_
   refine JA.tk 2 rfl fx3 (yl_indexAddr (off' := ao + j) rfl rfl rfl Tryz.underlying62 Tryz.sizeOf3 (by omega) (by omega) (by simp)) ?_
   refine JA.tk 3 rfl fx3 (yl_load rfl rfl Tryz.isAgg3 (Blk.immC hab) (one_from (fun _ => rfl) had hgx)) ?_
   refine JA.tk 4 rfl fx3 (yl_move rfl rfl) ?_
   refine JA.tk 5 rfl fx3 (yl_move rfl rfl) ?_
   refine JA.tk 6 rfl fx3 (yl_indexAddr (off' := bo + j) rfl rfl rfl Tryz.underlying62 Tryz.sizeOf3 (by omega) (by omega) (by simp)) ?_
   refine JA.tk 7 rfl fx3 (yl_load rfl rfl Tryz.isAgg3 (Blk.immC hbb) (one_from (fun _ => rfl) hbd hgy)) ?_
   refine JA.tk 8 rfl fx3 (yl_neq rfl rfl rfl) ?_
   refine JA.done (by kernel_rfl) ?_
   refine Ej.seq (Cj.cond rfl (fun hc4 => ?_) (fun hc4 => ?_))
   ·
    have hc4p := bne_iff_ne.1 hc4
    have hxn : x ≠ y := bne_iff_ne.1 hc4
    refine Cj.seq (Cj.region (J.z (yl_assign rfl rfl) ?_))
    refine J.nil (Ej.seq (Cj.ret (Ej.blkRet (Ej.seqRet (Ej.loopRet (Ej.blkRet (Ej.seqRet (Ej.ret1 rfl rfl rfl ?_))))))))
    have he : decide (a = b) = false := decide_eq_false (fun e => by subst e; rw [hgx] at hgy; exact hxn (Option.some.inj hgy))
    rw [he]
    exact ⟨rfl, rfl, rfl⟩
   ·
    have hc4p := bne_f hc4
    have hxy : y = x := by have h := hc4; simp at h; exact h.symm
    refine Cj.skip (Ej.blkNormal (Ej.seq (Cj.region (J.z (yl_move rfl rfl) ?_))))
    refine J.z (yl_add rfl rfl rfl (w64 (by omega))) ?_
    refine J.z (yl_assign rfl rfl) ?_
    refine J.nil (Ej.round (j + 1) ⟨by omega, take_same hsm hgx (hxy ▸ hgy)⟩ (by omega) ⟨rfl, rfl, rfl, trivial⟩ rfl rfl)
  ·
   have hc2p := of_decide_eq_false hc2
   refine Cj.exit (Ej.seqExit (Ej.loopExit (Ej.blkExit (Ej.seq (Cj.seq (Cj.region (J.z (yl_assign rfl rfl) ?_)))))))
   refine J.nil (Ej.seq (Cj.ret (Ej.ret1 rfl rfl rfl ?_)))
   have he : decide (a = b) = true := decide_eq_true (by rw [List.take_of_length_le (by omega), List.take_of_length_le (by omega)] at hsm; exact hsm)
   rw [he]
   exact ⟨rfl, rfl, rfl⟩
set_option maxRecDepth 20000 in
theorem SameParts_ok (a b : List (List Int)) (ua ub : Value) (ha0 : a.length ≤ 100000000000000) (hsz : ∀ x ∈ a, x.length ≤ 100000000000000) (I : Heap) (ha : PartR I a ua) (hb : PartR I b ub) : Pure Tryz.prog 30 [ua, ub] I (.bool (decide (a = b))) := by
 obtain ⟨va, ⟨p, c, rfl, hc, hp⟩, hla, hax⟩ := ha
 obtain ⟨vb, ⟨q, d, rfl, hd, hq⟩, hlb, hby⟩ := hb
 refine Ctr.of_body Tryz.func30 rfl (by decide) (Nat.le_of_ble_eq_true rfl) ?_
 intro w0 hw0
 refine Cj.seq (Cj.region (J.z (yl_assign rfl rfl) ?_))
 refine J.nil (Ej.seq (Cj.seq (Cj.seq (Cj.region (J.z (yl_move rfl rfl) ?_)))))
 refine J.z (yl_lenSlice rfl rfl Tryz.underlying59) ?_
 refine J.z (yl_move rfl rfl) ?_
 refine J.z (yl_lenSlice rfl rfl Tryz.underlying59) ?_
 refine J.z (yl_neq rfl rfl rfl) ?_
 refine J.nil (Ej.seq (Cj.cond rfl (fun hc1 => ?_) (fun hc1 => ?_)))
 ·
  have hc1p := bne_iff_ne.1 hc1
  have hne : a.length ≠ b.length := fun e => (bne_iff_ne.1 hc1) (by rw [hla, hlb, e])
  refine Cj.seq (Cj.region (J.z (yl_assign rfl rfl) ?_))
  refine J.nil (Ej.seq (Cj.ret (Ej.seqRet (Ej.ret1 rfl rfl rfl ?_))))
  have he : decide (a = b) = false := decide_eq_false (fun e => hne (by rw [e]))
  rw [he]
  exact ⟨rfl, rfl, rfl⟩
 ·
  have hc1p := bne_f hc1
  have hle0 : a.length = b.length := by have h := hc1; simp at h; omega
  refine Cj.skip (Ej.seq (Cj.seq (Cj.seq (Cj.region (J.z (yl_assign rfl rfl) ?_)))))
  refine J.nil (Ej.seq (Cj.block (Cj.loop (ι := Nat) (fun j => j ≤ a.length ∧ a.take j = b.take j) (fun j => a.length - j) (fun j => [(0, .slice p va.length c), (1, .slice q vb.length d), (5, i64 (j : Int))]) (fun j => I) (fun j => []) 0 ⟨Nat.zero_le _, rfl⟩ ⟨rfl, rfl, rfl, trivial⟩ rfl rfl ?_)))
  rintro j ⟨hj, hsm⟩
  refine Cj.seq (Cj.seq (Cj.region (J.z (yl_move rfl rfl) ?_)))
  refine J.z (yl_move rfl rfl) ?_
  refine J.z (yl_lenSlice rfl rfl Tryz.underlying59) ?_
  refine J.z (yl_lss rfl rfl rfl) ?_
  refine J.nil (Ej.seq (Cj.cond rfl (fun hc2 => ?_) (fun hc2 => ?_)))
  ·
   have hc2p := of_decide_eq_true hc2
   have hlt : j < a.length := by omega
   obtain ⟨x, hgx⟩ : ∃ x, a[j]? = some x := ⟨_, List.getElem?_eq_getElem hlt⟩
   obtain ⟨y, hgy⟩ : ∃ y, b[j]? = some y := ⟨_, List.getElem?_eq_getElem (by omega)⟩
   obtain ⟨wx, hwx⟩ : ∃ x, va[j]? = some x := ⟨_, List.getElem?_eq_getElem (by omega)⟩
   obtain ⟨wy, hwy⟩ : ∃ y, vb[j]? = some y := ⟨_, List.getElem?_eq_getElem (by omega)⟩
   obtain ⟨ab, ao, acs, aty, afr, spa, rfl, hab, had⟩ := hp (ne_nil_of (k := j) (by omega))
   obtain ⟨bb, bo, bcs, bty, bfr, spb, rfl, hbb, hbd⟩ := hq (ne_nil_of (k := j) (by omega))
   have hrx := hax j wx x hwx hgx
   have hry := hby j wy y hwy hgy
   have hxl := hsz x (List.mem_of_getElem? hgx)
   refine Cj.skip (Ej.seq (Cj.seq (Cj.block (Cj.seq (Cj.drawSel [] [] 10 (by kernel_rfl) ?_)))))
   have hab_6 := hab
   have hbb_6 := hbb
   refine JA.fix ⟨HSub.n, CSub.n, (Le.refl _)⟩ (fun fx3 => ?_)
   refine JA.tk 0 rfl fx3 (yl_move rfl rfl) ?_
   refine JA.tk 1 rfl fx3 (yl_move rfl rfl) ?_
   refine JA.tk 2 rfl fx3 (yl_indexAddr (off' := ao + j) rfl rfl rfl Tryz.underlying59 Tryz.sizeOf62 (by omega) (by omega) (by simp)) ?_
   refine JA.tk 3 rfl fx3 (yl_load rfl rfl Tryz.isAgg62 (Blk.immC hab_6) (one_from (g := id) (fun _ => rfl) had hwx)) ?_
   refine JA.tk 4 rfl fx3 (yl_move rfl rfl) ?_
   refine JA.tk 5 rfl fx3 (yl_move rfl rfl) ?_
   refine JA.tk 6 rfl fx3 (yl_indexAddr (off' := bo + j) rfl rfl rfl Tryz.underlying59 Tryz.sizeOf62 (by omega) (by omega) (by simp)) ?_
   refine JA.tk 7 rfl fx3 (yl_load rfl rfl Tryz.isAgg62 (Blk.immC hbb_6) (one_from (g := id) (fun _ => rfl) hbd hwy)) ?_
   refine JA.step 8 (by kernel_rfl) rfl rfl (op_pure rfl rfl rfl rfl rfl (SameI_ok x y _ _ hxl _ hrx hry) ?_)
   refine ⟨⟨(Le.refl _), HSub.n, CSub.n⟩, ?_⟩
   refine JA.fix ⟨HSub.n, CSub.n, (Le.refl _)⟩ (fun fx4 => ?_)
   refine JA.tk 9 rfl fx4 (yl_not rfl rfl) ?_
   refine JA.done (by kernel_rfl) ?_
   refine Ej.seq (Cj.cond rfl (fun hc5 => ?_) (fun hc5 => ?_))
   ·
    have hxn : x ≠ y := by have h := hc5; simpa using h
    refine Cj.seq (Cj.region (J.z (yl_assign rfl rfl) ?_))
    refine J.nil (Ej.seq (Cj.ret (Ej.blkRet (Ej.seqRet (Ej.loopRet (Ej.blkRet (Ej.seqRet (Ej.ret1 rfl rfl rfl ?_))))))))
    have he : decide (a = b) = false := decide_eq_false (fun e => by subst e; rw [hgx] at hgy; exact hxn (Option.some.inj hgy))
    rw [he]
    exact ⟨rfl, rfl, rfl⟩
   ·
    have hxy : y = x := by have h := hc5; simp at h; exact h.symm
    refine Cj.skip (Ej.blkNormal (Ej.seq (Cj.region (J.z (yl_move rfl rfl) ?_))))
    refine J.z (yl_add rfl rfl rfl (w64 (by omega))) ?_
    refine J.z (yl_assign rfl rfl) ?_
    refine J.nil (Ej.round (j + 1) ⟨by omega, take_same hsm hgx (hxy ▸ hgy)⟩ (by omega) ⟨rfl, rfl, rfl, trivial⟩ rfl rfl)
  ·
   have hc2p := of_decide_eq_false hc2
   refine Cj.exit (Ej.seqExit (Ej.loopExit (Ej.blkExit (Ej.seq (Cj.seq (Cj.region (J.z (yl_assign rfl rfl) ?_)))))))
   refine J.nil (Ej.seq (Cj.ret (Ej.ret1 rfl rfl rfl ?_)))
   have he : decide (a = b) = true := decide_eq_true (by rw [List.take_of_length_le (by omega), List.take_of_length_le (by omega)] at hsm; exact hsm)
   rw [he]
   exact ⟨rfl, rfl, rfl⟩
set_option maxRecDepth 20000 in
theorem SamePairs_ok (a b : List (Int × Int)) (va vb : Value) (ha0 : a.length ≤ 100000000000000) (I : Heap) (ha : RowS twoC I a va) (hb : RowS twoC I b vb) : Pure Tryz.prog 26 [va, vb] I (.bool (decide (a = b))) := by
 obtain ⟨p, c, rfl, hc, hp⟩ := ha
 obtain ⟨q, d, rfl, hd, hq⟩ := hb
 refine Ctr.of_body Tryz.func26 rfl (by decide) (Nat.le_of_ble_eq_true rfl) ?_
 intro w0 hw0
 refine Cj.seq (Cj.region (J.z (yl_assign rfl rfl) ?_))
 refine J.nil (Ej.seq (Cj.seq (Cj.seq (Cj.region (J.z (yl_move rfl rfl) ?_)))))
 refine J.z (yl_lenSlice rfl rfl Tryz.underlying53) ?_
 refine J.z (yl_move rfl rfl) ?_
 refine J.z (yl_lenSlice rfl rfl Tryz.underlying53) ?_
 refine J.z (yl_neq rfl rfl rfl) ?_
 refine J.nil (Ej.seq (Cj.cond rfl (fun hc1 => ?_) (fun hc1 => ?_)))
 ·
  have hc1p := bne_iff_ne.1 hc1
  have hne : a.length ≠ b.length := fun e => (bne_iff_ne.1 hc1) (by rw [e])
  refine Cj.seq (Cj.region (J.z (yl_assign rfl rfl) ?_))
  refine J.nil (Ej.seq (Cj.ret (Ej.seqRet (Ej.ret1 rfl rfl rfl ?_))))
  have he : decide (a = b) = false := decide_eq_false (fun e => hne (by rw [e]))
  rw [he]
  exact ⟨rfl, rfl, rfl⟩
 ·
  have hc1p := bne_f hc1
  have hle0 : a.length = b.length := by have h := hc1; simp at h; omega
  refine Cj.skip (Ej.seq (Cj.seq (Cj.seq (Cj.region (J.z (yl_assign rfl rfl) ?_)))))
  refine J.nil (Ej.seq (Cj.block (Cj.loop (ι := Nat) (fun j => j ≤ a.length ∧ a.take j = b.take j) (fun j => a.length - j) (fun j => [(0, .slice p a.length c), (1, .slice q b.length d), (5, i64 (j : Int))]) (fun j => I) (fun j => []) 0 ⟨Nat.zero_le _, rfl⟩ ⟨rfl, rfl, rfl, trivial⟩ rfl rfl ?_)))
  rintro j ⟨hj, hsm⟩
  refine Cj.seq (Cj.seq (Cj.region (J.z (yl_move rfl rfl) ?_)))
  refine J.z (yl_move rfl rfl) ?_
  refine J.z (yl_lenSlice rfl rfl Tryz.underlying53) ?_
  refine J.z (yl_lss rfl rfl rfl) ?_
  refine J.nil (Ej.seq (Cj.cond rfl (fun hc2 => ?_) (fun hc2 => ?_)))
  ·
   have hc2p := of_decide_eq_true hc2
   have hlt : j < a.length := by omega
   obtain ⟨x, hgx⟩ : ∃ x, a[j]? = some x := ⟨_, List.getElem?_eq_getElem hlt⟩
   obtain ⟨y, hgy⟩ : ∃ y, b[j]? = some y := ⟨_, List.getElem?_eq_getElem (by omega)⟩
   obtain ⟨ab, ao, acs, aty, afr, spa, rfl, hab, had⟩ := hp (ne_nil_of hlt)
   obtain ⟨bb, bo, bcs, bty, bfr, spb, rfl, hbb, hbd⟩ := hq (ne_nil_of (k := j) (by omega))
   refine Cj.skip (Ej.seq (Cj.seq (Cj.block (Cj.seq (Cj.drawSel [] [] 9 (by kernel_rfl) ?_)))))
   refine JA.fix ⟨HSub.n, CSub.n, (Le.refl _)⟩ (fun fx3 => ?_)
   refine JA.tk 0 rfl fx3 (yl_move rfl rfl) ?_
   refine JA.tk 1 rfl fx3 (yl_move rfl rfl) ?_
   refine JA.tk 2 rfl fx3 (yl_indexAddr (off' := ao + j * 2) rfl rfl rfl Tryz.underlying53 Tryz.sizeOf56 (by omega) (by omega) (by simp)) ?_
   refine JA.tk 3 rfl fx3 (yl_loadAgg rfl rfl Tryz.isAgg56 Tryz.sizeOf56 (Blk.immC hab) (row_from twoC_len had hgx) rfl) ?_
   refine JA.tk 4 rfl fx3 (yl_move rfl rfl) ?_
   refine JA.tk 5 rfl fx3 (yl_move rfl rfl) ?_
   refine JA.tk 6 rfl fx3 (yl_indexAddr (off' := bo + j * 2) rfl rfl rfl Tryz.underlying53 Tryz.sizeOf56 (by omega) (by omega) (by simp)) ?_
   refine JA.tk 7 rfl fx3 (yl_loadAgg rfl rfl Tryz.isAgg56 Tryz.sizeOf56 (Blk.immC hbb) (row_from twoC_len hbd hgy) rfl) ?_
   refine JA.tk 8 rfl fx3 (yl_neqA2 (a := x) (b := y) rfl rfl rfl rfl rfl Tryz.underlying56 Tryz.underlying3 (by kernel_rfl) Tryz.isAgg3 (by kernel_rfl)) ?_
   refine JA.done (by kernel_rfl) ?_
   refine Ej.seq (Cj.cond rfl (fun hc4 => ?_) (fun hc4 => ?_))
   ·
    have hc4p := bne_iff_ne.1 hc4
    have hxn : x ≠ y := bne_iff_ne.1 hc4
    refine Cj.seq (Cj.region (J.z (yl_assign rfl rfl) ?_))
    refine J.nil (Ej.seq (Cj.ret (Ej.blkRet (Ej.seqRet (Ej.loopRet (Ej.blkRet (Ej.seqRet (Ej.ret1 rfl rfl rfl ?_))))))))
    have he : decide (a = b) = false := decide_eq_false (fun e => by subst e; rw [hgx] at hgy; exact hxn (Option.some.inj hgy))
    rw [he]
    exact ⟨rfl, rfl, rfl⟩
   ·
    have hc4p := bne_f hc4
    have hxy : y = x := by have h := hc4; simp at h; exact h.symm
    refine Cj.skip (Ej.blkNormal (Ej.seq (Cj.region (J.z (yl_move rfl rfl) ?_))))
    refine J.z (yl_add rfl rfl rfl (w64 (by omega))) ?_
    refine J.z (yl_assign rfl rfl) ?_
    refine J.nil (Ej.round (j + 1) ⟨by omega, take_same hsm hgx (hxy ▸ hgy)⟩ (by omega) ⟨rfl, rfl, rfl, trivial⟩ rfl rfl)
  ·
   have hc2p := of_decide_eq_false hc2
   refine Cj.exit (Ej.seqExit (Ej.loopExit (Ej.blkExit (Ej.seq (Cj.seq (Cj.region (J.z (yl_assign rfl rfl) ?_)))))))
   refine J.nil (Ej.seq (Cj.ret (Ej.ret1 rfl rfl rfl ?_)))
   have he : decide (a = b) = true := decide_eq_true (by rw [List.take_of_length_le (by omega), List.take_of_length_le (by omega)] at hsm; exact hsm)
   rw [he]
   exact ⟨rfl, rfl, rfl⟩
set_option maxRecDepth 20000 in
theorem field_ok (tag ind text : List UInt8) (I : Heap) : Ctr Tryz.prog 33 [str tag, str ind, str text] I [] (fun e I' H' => ∃ sv, e = .returned (.agg (fldC ⟨tag, ind, [], sv, [⟨97, text⟩]⟩).toArray) ∧ RowS subC I' [⟨97, text⟩] sv ∧ H' = []) := by
 refine Ctr.of_body Tryz.func33 rfl (by decide) (Nat.le_of_ble_eq_true rfl) ?_
 intro w0 hw0
 refine Cj.seq (Cj.region (J.op rfl (op_alloc rfl rfl rfl Tryz.zeroValue35 rfl ?_)))
 intro b1 hb1
 refine J.nil (Ej.seq (Cj.seq (Cj.region (J.z (yl_move rfl rfl) ?_))))
 refine J.z (yl_move rfl rfl) ?_
 refine J.z (yl_move rfl rfl) ?_
 refine J.z (yl_buildS (pl := #[(0, 1), (1, 1)]) rfl rfl Tryz.zeroValue47 rfl Tryz.underlying47 (fun w => by simp [Tryz.sizeOf5, Tryz.sizeOf9]) (LBld.part rfl rfl rfl (LSpl.c LSpl.z) (LBld.part rfl rfl rfl (LSpl.s (LSpl.c LSpl.z)) LBld.none))) ?_
 refine J.op rfl (op_buildSlice rfl rfl rfl Tryz.underlying33 Tryz.sizeOf47 Tryz.zeroValue47 rfl rfl rfl rfl (LCat.agg rfl LCat.none) ?_)
 intro b2 hb2
 refine J.z (yl_buildS (pl := #[(0, 1), (1, 1), (2, 1), (3, 1)]) rfl rfl Tryz.zeroValue35 rfl Tryz.underlying35 (fun w => by simp [Tryz.sizeOf33, Tryz.sizeOf9]) (LBld.part rfl rfl rfl (LSpl.c LSpl.z) (LBld.part rfl rfl rfl (LSpl.s (LSpl.c LSpl.z)) (LBld.part rfl rfl rfl (LSpl.s (LSpl.s (LSpl.s (LSpl.c LSpl.z)))) LBld.none)))) ?_
 refine J.op rfl (op_store 1 rfl rfl rfl rfl rfl rfl Tryz.sizeOf35 rfl rfl (LSpl.c (LSpl.c (LSpl.c (LSpl.c LSpl.z)))) (LSet.s LSet.z) ?_)
 refine J.nil (Ej.seq (Cj.ret (Ej.pull Pull.z ?_)))
 refine Ej.persist hb2 (fun I9 hle9 hbi => ?_)
 refine Ej.retC (Keeps.d Keeps.n) rfl rfl rfl (Blk.at 0 rfl) Tryz.isAgg35 Tryz.sizeOf35 rfl ?_
 exact ⟨_, rfl, RowS.of (l := [(⟨97, text⟩ : Ke.Sub)]) (sp := []) (Nat.le_refl _) hbi, rfl⟩
end Go.Proofs.YtadnofaleepkmaaGreatDoor
end
section
namespace Go.Proofs.YtadnofaleepkmaaGreatDoor
open Go Go.Sx
/-- Rows of numbers that are not negative, one cell each. -/
abbrev natC (x : Nat) : List Value := [i64 (x : Int)]
theorem natC_len (x : Nat) : (natC x).length = 1 := rfl
theorem valC_len (x : Value) : (valC x).length = 1 := rfl
theorem imin (p q : Int) : (if q < p then q else p) = min p q := by rcases Int.lt_or_le q p with h | h <;> (first | rw [if_pos h] | rw [if_neg (by omega)]) <;> omega
theorem imax (p q : Int) : (if q > p then q else p) = max p q := by rcases Int.lt_or_le p q with h | h <;> (first | rw [if_pos h] | rw [if_neg (by omega)]) <;> omega
theorem nmin (p q : Nat) : (if (q : Int) < (p : Int) then (q : Int) else (p : Int)) = ((min p q : Nat) : Int) := by rw [imin]; omega
theorem nmax (p q : Nat) : (if (q : Int) > (p : Int) then (q : Int) else (p : Int)) = ((max p q : Nat) : Int) := by rw [imax]; omega
theorem ntop (n : Int) : (if (0 : Int) > n then (0 : Int) else n) = ((n.toNat : Nat) : Int) := by rw [imax]; omega
theorem RowS.cast {α β : Type} {f : α → List Value} {g : β → List Value} {c : α → β} (h : ∀ x, g (c x) = f x) {I : Heap} {l : List α} {v : Value} (hr : RowS f I l v) : RowS g I (l.map c) v := by
  obtain ⟨p, k, rfl, hk, hp⟩ := hr
  refine ⟨p, k, by rw [List.length_map], by rw [List.length_map]; exact hk, fun hn => ?_⟩
  obtain ⟨b, o, cs, t, fr, sp, h1, h2, h3⟩ := hp (fun e => hn (by rw [e]; rfl))
  refine ⟨b, o, cs, t, fr, sp, h1, h2, ?_⟩
  rw [h3, List.flatMap_map]
  congr 2
  funext x; exact (h x).symm
/-- The first ones are set. -/
theorem fill_next {n j : Nat} (h : j < n) : ((List.range j).map nat64 ++ List.replicate (n - j) (i64 0)).set j (i64 (j : Int)) = (List.range (j + 1)).map nat64 ++ List.replicate (n - (j + 1)) (i64 0) := by
  rw [List.set_append_right _ _ (by simp), show n - j = n - (j + 1) + 1 by omega, List.replicate_succ, List.length_map, List.length_range, Nat.sub_self, List.set_cons_zero, List.range_succ, List.map_append, List.append_assoc]
  rfl
theorem valid_next {N : Nat} {ps : List (Int × Int)} {k : Nat} {x : Int × Int} (h : ps[k]? = some x) : Kp.valid N (ps.take (k + 1)) = Kp.valid N (ps.take k) ++ if 0 ≤ x.1 ∧ x.1 < (N : Int) ∧ 0 ≤ x.2 ∧ x.2 < (N : Int) then [(x.1.toNat, x.2.toNat)] else [] := by
  obtain ⟨hlt, hg⟩ := List.getElem?_eq_some_iff.1 h
  unfold Kp.valid
  rw [List.take_succ_eq_append_getElem hlt, hg, List.filterMap_append]
  congr 1
  split <;> simp_all
theorem valid_mem {N : Nat} {ps : List (Int × Int)} {a b : Nat} (h : ((a : Int), (b : Int)) ∈ ps) (ha : a < N) (hb : b < N) : (a, b) ∈ Kp.valid N ps :=
  List.mem_filterMap.2 ⟨_, h, by dsimp only; rw [if_pos (by omega)]; rfl⟩
/-- The roots of the first numbers. -/
def rts (R : Nat → Nat) (k : Nat) : List Nat := (List.range k).filter fun i => decide (R i = i)
def prt (R : Nat → Nat) (k r : Nat) : List Nat := (List.range k).filter fun i => decide (R i = r)
theorem rts_next (R : Nat → Nat) (k : Nat) : rts R (k + 1) = rts R k ++ if R k = k then [k] else [] := by
  unfold rts
  rw [List.range_succ, List.filter_append]
  by_cases h : R k = k <;> simp [h]
theorem prt_next (R : Nat → Nat) (k r : Nat) : prt R (k + 1) r = prt R k r ++ if R k = r then [k] else [] := by
  unfold prt
  rw [List.range_succ, List.filter_append]
  by_cases h : R k = r <;> simp [h]
theorem rts_len (R : Nat → Nat) (k : Nat) : (rts R k).length ≤ k := by
  have := List.length_filter_le (fun i => decide (R i = i)) (List.range k)
  rw [List.length_range] at this; exact this
theorem prt_len (R : Nat → Nat) (k r : Nat) : (prt R k r).length ≤ k := by
  have := List.length_filter_le (fun i => decide (R i = r)) (List.range k)
  rw [List.length_range] at this; exact this
/-- The parts that pairs connect. -/
def partsI (n : Int) (ps : List (Int × Int)) : List (List Int) := (Kp.parts n.toNat (Kp.lb n.toNat (Kp.valid n.toNat ps))).map fun l => l.map fun x : Nat => (x : Int)
theorem parts_row {N : Nat} {V : Kp.Prs} {R : Nat → Nat} (hR : Kp.Lab N V R) (hV : ∀ p ∈ V, p.1 < N ∧ p.2 < N) {I : Heap} {val : Nat → Value} {w : Value} (hw : RowS valC I ((rts R N).map val) w) (hv : ∀ r, RowS natC I (prt R N r) (val r)) : PartR I ((Kp.parts N (Kp.lb N V)).map fun l => l.map fun x : Nat => (x : Int)) w := by
  rw [Kp.parts_eq (n := N) (L := Kp.lb N V) (M := R) fun i hi => (Kp.lb_lab hV).unique hR hi]
  refine ⟨_, hw, by simp [Kp.parts, rts], fun k u x hu hx => ?_⟩
  have hp : Kp.parts N R = (rts R N).map fun i => prt R N i := rfl
  rw [hp, List.map_map, List.getElem?_map] at hx
  rw [List.getElem?_map] at hu
  cases hk : (rts R N)[k]? with
  | none => rw [hk] at hu; cases hu
  | some i =>
    rw [hk] at hu hx
    cases hu; cases hx
    exact RowS.cast (fun _ => rfl) (hv i)
theorem fam_next {F : Fam Int Nat} {R : Nat → Nat} {k r : Nat} {xs : List Nat} (hfg : fget F ((R k : Nat) : Int) = xs) (hm : ∀ r : Nat, fget F (r : Int) = prt R k r) : (if ((r : Int) == ((R k : Nat) : Int)) = true then xs ++ [k] else fget F (r : Int)) = prt R k r ++ if R k = r then [k] else [] := by
  by_cases h : R k = r
  · subst h; rw [if_pos (by simp), if_pos rfl, ← hfg, hm]
  · rw [if_neg (by rw [beq_iff_eq]; omega), if_neg h, List.append_nil, hm]
theorem val_flat (vs : List Value) : vs.flatMap valC = vs := by
  induction vs with
  | nil => rfl
  | cons a r ih => rw [List.flatMap_cons, ih]; rfl
set_option maxRecDepth 20000 in
set_option maxHeartbeats 2000000 in
theorem Parts_ok (n : Int) (hn : n ≤ 100000) (ps : List (Int × Int)) (hps : ps.length ≤ 100000000) (v : Value) (I : Heap) (hr : RowS twoC I ps v) : Ctr Tryz.prog 31 [i64 n, v] I [] (fun e I' H' => ∃ w, e = .returned w ∧ PartR I' (partsI n ps) w ∧ H' = []) := by
 obtain ⟨p, c, rfl, hc, -⟩ := id hr
 unfold partsI
 obtain ⟨N, hN⟩ : ∃ N, N = n.toNat := ⟨_, rfl⟩
 rw [← hN]
 obtain ⟨V, hV⟩ : ∃ V, V = Kp.valid N ps := ⟨_, rfl⟩
 rw [← hV]
 have hVl : ∀ p ∈ V, p.1 < N ∧ p.2 < N := fun p hp => Kp.valid_lt (hV ▸ hp)
 refine Ctr.of_body Tryz.func31 rfl (by decide) (Nat.le_of_ble_eq_true rfl) ?_
 intro w0 hw0
 refine Cj.seq (Cj.region (J.z (yl_assign rfl rfl) ?_))
 refine J.nil (Ej.seq (Cj.seq (Cj.region (J.z (yl_move rfl rfl) ?_))))
 refine J.z (yl_max2 rfl rfl rfl) ?_
 refine J.eqv 17 rfl (show _ = i64 (N : Int) from (by rw [hN]; exact congrArg i64 (ntop n))) ?_
 refine J.op rfl (op_makeSlice (n := N) (c := N) (by1 := 8) (z := (.int .i64 0)) rfl rfl rfl rfl rfl Tryz.underlying62 (by kernel_rfl) rfl (by omega) (by omega) (by omega) ?_)
 intro b1 hb1
 refine J.op rfl (op_alloc rfl rfl rfl Tryz.zeroValue62 rfl ?_)
 intro b2 hb2
 refine J.op rfl (op_store 0 rfl rfl rfl rfl rfl rfl Tryz.sizeOf62 rfl rfl (LSpl.c LSpl.z) LSet.z ?_)
 refine J.nil (Ej.seq (Cj.seq (Cj.seq (Cj.region (J.z (yl_load rfl rfl Tryz.isAgg62 (Blk.at 0 rfl) rfl) ?_)))))
 refine J.z (yl_lenSlice rfl rfl Tryz.underlying62) ?_
 refine J.z (yl_move rfl rfl) ?_
 refine J.nil (Ej.seq (Cj.block (Cj.loop (ι := Nat) (fun j => j ≤ N) (fun j => N - j) (fun j => [(0, i64 n), (1, .slice p ps.length c), (5, ptr b2 0), (20, i64 (N : Int)), (21, i64 (j : Int))]) (fun j => I) (fun j => [(b2, cel 62 [.slice (some ⟨b1, 0, none⟩) N N]), (b1, cel 3 ((List.range j).map nat64 ++ List.replicate (N - j) (i64 0)))]) 0 (Nat.zero_le _) ⟨rfl, rfl, rfl, rfl, rfl, trivial⟩ rfl rfl ?_)))
 rintro j hj
 refine Cj.seq (Cj.region (J.z (yl_lss rfl rfl rfl) ?_))
 refine J.nil (Ej.seq (Cj.seq (Cj.cond rfl (fun hc3 => ?_) (fun hc3 => ?_))))
 ·
  have hc3p := of_decide_eq_true hc3
  refine Cj.skip (Ej.seq (Cj.seq (Cj.block (Cj.seq (Cj.region (J.z (yl_move rfl rfl) ?_))))))
  refine J.z (yl_assign rfl rfl) ?_
  refine J.nil (Ej.seq (Cj.region (J.z (yl_load rfl rfl Tryz.isAgg62 (Blk.at 0 rfl) rfl) ?_)))
  refine J.z (yl_move rfl rfl) ?_
  refine J.z (yl_move rfl rfl) ?_
  refine J.z (yl_indexAddr (off' := j) rfl rfl rfl Tryz.underlying62 Tryz.sizeOf3 (by omega) (by omega) (by simp)) ?_
  refine J.op rfl (op_store1 1 rfl rfl rfl rfl rfl rfl Tryz.sizeOf3 rfl (.inl rfl) (by simp; omega) (LSet.s LSet.z) ?_)
  refine J.nil (Ej.blkNormal (Ej.seq (Cj.region (J.z (yl_add rfl rfl rfl (w64 (by omega))) ?_))))
  refine J.z (yl_move rfl rfl) ?_
  refine J.nil (Ej.round (j + 1) (by omega) (by omega) ⟨rfl, rfl, rfl, rfl, rfl, trivial⟩ rfl (by rw [← fill_next (by omega)]; rfl))
 ·
  have hc3p := of_decide_eq_false hc3
  have hfull : (List.range j).map nat64 ++ List.replicate (N - j) (i64 0) = (List.range N).map nat64 := by rw [show j = N by omega, Nat.sub_self]; simp
  refine Cj.exit (Ej.seqExit (Ej.loopExit (Ej.blkExit (Ej.seq (Cj.seq (Cj.region (J.op rfl (op_alloc rfl rfl rfl Tryz.zeroValue97 rfl ?_))))))))
  intro b4 hb4
  refine J.nil (Ej.seq (Cj.seq (Cj.region (J.z (yl_makeFunc rfl rfl rfl) ?_))))
  refine J.op rfl (op_store 0 rfl rfl rfl rfl rfl rfl Tryz.sizeOf97 rfl rfl (LSpl.c LSpl.z) LSet.z ?_)
  refine J.nil (Ej.seq (Cj.seq (Cj.seq (Cj.pull (Pull.s Pull.z) ?_))))
  refine Cj.persist hb2 (fun I6 hle5 hb2i => ?_)
  have hr := hr.mono hle5
  refine Cj.persist hb4 (fun I8 hle7 hb4i => ?_)
  have hr := hr.mono hle7
  have hb2i := hle7 _ _ hb2i
  refine Cj.region (J.z (yl_move rfl rfl) ?_)
  refine J.z (yl_lenSlice rfl rfl Tryz.underlying53) ?_
  refine J.z (yl_move rfl rfl) ?_
  refine J.nil (Ej.seq (Cj.block (Cj.loop (ι := Nat × List Nat) (fun y => y.1 ≤ ps.length ∧ Kp.For N V y.2 ∧ Kp.Joined (Kp.valid N (ps.take y.1)) y.2) (fun y => ps.length - y.1) (fun y => [(0, i64 n), (5, ptr b2 0), (7, ptr b4 0), (30, .slice p ps.length c), (31, i64 (ps.length : Int)), (32, i64 (y.1 : Int))]) (fun y => _) (fun y => [(b1, cel 3 (y.2.map nat64))]) (0, List.range N) ⟨Nat.zero_le _, Kp.For.start N V, fun q hq => by cases hq⟩ ⟨rfl, rfl, rfl, rfl, rfl, rfl, trivial⟩ rfl (by dsimp only; rw [hfull]) ?_)))
  rintro ⟨k, P⟩ ⟨hk, hF, hJ⟩
  dsimp only at hk hF hJ ⊢
  refine Cj.seq (Cj.region (J.z (yl_lss rfl rfl rfl) ?_))
  refine J.nil (Ej.seq (Cj.seq (Cj.cond rfl (fun hc9 => ?_) (fun hc9 => ?_))))
  ·
   have hc9p := of_decide_eq_true hc9
   have hlt : k < ps.length := by omega
   obtain ⟨⟨x1, x2⟩, hget⟩ : ∃ x, ps[k]? = some x := ⟨_, List.getElem?_eq_getElem hlt⟩
   obtain ⟨pp, pc, hpe, hpc, hpp⟩ := id hr
   cases hpe
   obtain ⟨pb, po, pcs, pty, pfr, psp, rfl, hpb, hpd⟩ := hpp (ne_nil_of hlt)
   have hvn := valid_next (N := N) hget
   refine Cj.skip (Ej.seq (Cj.seq (Cj.block (Cj.seq (Cj.region (J.z (yl_indexAddr (off' := po + k * 2) rfl rfl rfl Tryz.underlying53 Tryz.sizeOf56 (by omega) (by omega) (by simp)) ?_))))))
   refine J.z (yl_loadAgg rfl rfl Tryz.isAgg56 Tryz.sizeOf56 (Blk.imm hpb) (row_from twoC_len hpd hget) rfl) ?_
   refine J.op rfl (op_alloc rfl rfl rfl Tryz.zeroValue56 rfl ?_)
   intro b10 hb10
   refine J.op rfl (op_store 0 rfl rfl rfl rfl rfl rfl Tryz.sizeOf56 rfl rfl (LSpl.c (LSpl.c LSpl.z)) LSet.z ?_)
   refine J.nil (Ej.seq (Cj.seq (Cj.seq (Cj.region (J.z (yl_indexArr (off' := 0) rfl rfl rfl Tryz.underlying56 Tryz.sizeOf3 (by decide) (by decide) (by decide)) ?_)))))
   refine J.z (yl_load rfl rfl Tryz.isAgg3 (Blk.at 0 rfl) rfl) ?_
   refine J.z (yl_indexArr (off' := 1) rfl rfl rfl Tryz.underlying56 Tryz.sizeOf3 (by decide) (by decide) (by decide)) ?_
   refine J.z (yl_load rfl rfl Tryz.isAgg3 (Blk.at 0 rfl) rfl) ?_
   refine J.z (yl_min2 rfl rfl rfl) ?_
   refine J.eqv 40 rfl (show _ = i64 (min x1 x2) from (congrArg i64 (imin x1 x2))) ?_
   refine J.z (yl_lss rfl rfl rfl) ?_
   refine J.z (yl_move rfl rfl) ?_
   refine J.split 42 rfl (fun hg11 => ?_) (fun hg11 => ?_)
   ·
    have hg11p := of_decide_eq_true hg11
    dsimp only at hvn
    rw [if_neg (by omega)] at hvn
    refine J.skip 6 42 43 false _ rfl rfl rfl hg11 rfl rfl ?_
    refine J.skip 6 42 44 false _ rfl rfl rfl hg11 rfl rfl ?_
    refine J.skip 6 42 45 false _ rfl rfl rfl hg11 rfl rfl ?_
    refine J.skip 6 42 46 false _ rfl rfl rfl hg11 rfl rfl ?_
    refine J.skip 6 42 47 false _ rfl rfl rfl hg11 rfl rfl ?_
    refine J.skip 6 42 48 false _ rfl rfl rfl hg11 rfl rfl ?_
    refine J.skip 6 42 49 false _ rfl rfl rfl hg11 rfl rfl ?_
    refine J.z (yl_pick1 rfl rfl hg11 rfl) ?_
    refine J.nil (Ej.seq (Cj.cond rfl (fun hc12 => ?_) (fun hc12 => Bool.noConfusion (Eq.trans (Eq.symm rfl) hc12))))
    refine Cj.exit (Ej.seqExit (Ej.blkExit (Ej.seq (Cj.region (J.z (yl_add rfl rfl rfl (w64 (by omega))) ?_)))))
    refine J.z (yl_move rfl rfl) ?_
    refine J.nil (Ej.keep (Keeps.d (Keeps.k Keeps.n)) ?_)
    refine Ej.round (k + 1, P) ⟨by dsimp only; omega, hF, by dsimp only; rw [hvn, List.append_nil]; exact hJ⟩ (by dsimp only; omega) ⟨rfl, rfl, rfl, rfl, rfl, rfl, trivial⟩ rfl rfl
   ·
    have hg11p := of_decide_eq_false hg11
    refine J.opG 6 42 false _ rfl rfl rfl hg11 (op_yld (yl_indexArr (off' := 0) rfl rfl rfl Tryz.underlying56 Tryz.sizeOf3 (by decide) (by decide) (by decide)) rfl rfl ?_)
    refine J.opG 6 42 false _ rfl rfl rfl hg11 (op_yld (yl_load rfl rfl Tryz.isAgg3 (Blk.at 0 rfl) rfl) rfl rfl ?_)
    refine J.opG 6 42 false _ rfl rfl rfl hg11 (op_yld (yl_indexArr (off' := 1) rfl rfl rfl Tryz.underlying56 Tryz.sizeOf3 (by decide) (by decide) (by decide)) rfl rfl ?_)
    refine J.opG 6 42 false _ rfl rfl rfl hg11 (op_yld (yl_load rfl rfl Tryz.isAgg3 (Blk.at 0 rfl) rfl) rfl rfl ?_)
    refine J.opG 6 42 false _ rfl rfl rfl hg11 (op_yld (yl_max2 rfl rfl rfl) rfl rfl ?_)
    refine J.eqv 47 rfl (show _ = i64 (max x1 x2) from (congrArg i64 (imax x1 x2))) ?_
    refine J.opG 6 42 false _ rfl rfl rfl hg11 (op_yld (yl_move rfl rfl) rfl rfl ?_)
    refine J.opG 6 42 false _ rfl rfl rfl hg11 (op_yld (yl_geq rfl rfl rfl) rfl rfl ?_)
    refine J.z (yl_pick0 rfl rfl hg11 rfl) ?_
    refine J.nil (Ej.seq (Cj.cond rfl (fun hc13 => ?_) (fun hc13 => ?_)))
    ·
     have hc13p := of_decide_eq_true hc13
     dsimp only at hvn
     rw [if_neg (by omega)] at hvn
     refine Cj.exit (Ej.seqExit (Ej.blkExit (Ej.seq (Cj.region (J.z (yl_add rfl rfl rfl (w64 (by omega))) ?_)))))
     refine J.z (yl_move rfl rfl) ?_
     refine J.nil (Ej.keep (Keeps.d (Keeps.k Keeps.n)) ?_)
     refine Ej.round (k + 1, P) ⟨by dsimp only; omega, hF, by dsimp only; rw [hvn, List.append_nil]; exact hJ⟩ (by dsimp only; omega) ⟨rfl, rfl, rfl, rfl, rfl, rfl, trivial⟩ rfl rfl
    ·
     have hc13p := of_decide_eq_false hc13
     obtain ⟨a, ha⟩ : ∃ a : Nat, x1 = (a : Int) := ⟨x1.toNat, by omega⟩
     obtain ⟨b, hb⟩ : ∃ b : Nat, x2 = (b : Int) := ⟨x2.toNat, by omega⟩
     subst ha; subst hb
     have haN : a < N := by omega
     have hbN : b < N := by omega
     dsimp only at hvn
     rw [if_pos (by omega), Int.toNat_natCast, Int.toNat_natCast] at hvn
     have hab : (a, b) ∈ V := by rw [hV]; exact valid_mem (List.mem_of_getElem? hget) haN hbN
     refine Cj.skip (Ej.seq (Cj.seq (Cj.drawSel [0] [] 10 (by kernel_rfl) ?_)))
     have hb2i_13 := hb2i
     have hb4i_13 := hb4i
     have hpb_13 := hpb
     refine JA.fix ⟨(HSub.c 0 rfl HSub.n), CSub.n, (Le.refl _)⟩ (fun fx14 => ?_)
     refine JA.tk 0 rfl fx14 (yl_load rfl rfl Tryz.isAgg97 (Blk.immC hb4i_13) rfl) ?_
     refine JA.tk 1 rfl fx14 (yl_indexArr (off' := 0) rfl rfl rfl Tryz.underlying56 Tryz.sizeOf3 (by decide) (by decide) (by decide)) ?_
     refine JA.tk 2 rfl fx14 (yl_load rfl rfl Tryz.isAgg3 (Blk.atC 0 rfl) rfl) ?_
     refine JA.tk 4 rfl fx14 (yl_load rfl rfl Tryz.isAgg97 (Blk.immC hb4i_13) rfl) ?_
     refine JA.tk 5 rfl fx14 (yl_indexArr (off' := 1) rfl rfl rfl Tryz.underlying56 Tryz.sizeOf3 (by decide) (by decide) (by decide)) ?_
     refine JA.tk 6 rfl fx14 (yl_load rfl rfl Tryz.isAgg3 (Blk.atC 0 rfl) rfl) ?_
     refine JA.pull (Pull.s Pull.z) ?_
     refine JA.step 3 (by kernel_rfl) rfl rfl (op_call (H1 := [_]) rfl rfl rfl rfl rfl (root_ok _ _ b2 b4 b1 (by omega) _ hb2i hb4i a P (by omega) hF) ?_ (fun _ _ _ _ h => by obtain ⟨_, _, h, _⟩ := h; cases h) (fun _ _ h => by obtain ⟨_, _, h, _⟩ := h; cases h))
     intro v15 I16 H17 hle18 hp19
     have hr := hr.mono hle18
     have hb2i := hle18 _ _ hb2i
     have hb4i := hle18 _ _ hb4i
     have hpb := hle18 _ _ hpb
     obtain ⟨P1, hI, h, hF1, hR1, rfl⟩ := hp19; cases h; subst hI
     refine ⟨⟨(Le.trans (Le.refl _) hle18), (HSub.c 1 rfl HSub.n), CSub.n⟩, ?_⟩
     refine JA.pull Pull.z ?_
     refine JA.step 7 (by kernel_rfl) rfl rfl (op_call (H1 := [_]) rfl rfl rfl rfl rfl (root_ok _ _ b2 b4 b1 (by omega) _ hb2i hb4i b P1 (by omega) hF1) ?_ (fun _ _ _ _ h => by obtain ⟨_, _, h, _⟩ := h; cases h) (fun _ _ h => by obtain ⟨_, _, h, _⟩ := h; cases h))
     intro v20 I21 H22 hle23 hp24
     have hr := hr.mono hle23
     have hb2i := hle23 _ _ hb2i
     have hb4i := hle23 _ _ hb4i
     have hpb := hle23 _ _ hpb
     obtain ⟨P2, hI, h, hF2, hR2, rfl⟩ := hp24; cases h; subst hI
     refine ⟨⟨(Le.trans (Le.trans (Le.refl _) hle18) hle23), (HSub.c 1 rfl HSub.n), CSub.n⟩, ?_⟩
     refine JA.fix ⟨(HSub.c 1 rfl HSub.n), CSub.n, (Le.trans (Le.trans (Le.refl _) hle18) hle23)⟩ (fun fx25 => ?_)
     refine JA.tk 8 rfl fx25 (yl_assign rfl rfl) ?_
     refine JA.tk 9 rfl fx25 (yl_assign rfl rfl) ?_
     refine JA.done (by kernel_rfl) ?_
     refine Ej.seq ?_
     have e1 : Kp.rootOf P a = Kp.rootOf P2 a := by rw [hR2, hR1]
     have e2 : Kp.rootOf P1 b = Kp.rootOf P2 b := (hR2 b).symm
     rw [e1, e2]
     have hJ2 : Kp.Joined (Kp.valid N (ps.take k)) P2 := fun q hq => by rw [hR2, hR1, hR2, hR1]; exact hJ q hq
     have hl1 := Kp.rootOf_le P2 a
     have hl2 := Kp.rootOf_le P2 b
     refine Cj.region (J.z (yl_load rfl rfl Tryz.isAgg62 (Blk.imm hb2i) rfl) ?_)
     refine J.z (yl_move rfl rfl) ?_
     refine J.z (yl_move rfl rfl) ?_
     refine J.z (yl_max2 rfl rfl rfl) ?_
     refine J.eqv 62 rfl (show _ = i64 ((max (Kp.rootOf P2 a) (Kp.rootOf P2 b) : Nat) : Int) from (congrArg i64 (nmax _ _))) ?_
     refine J.z (yl_move rfl rfl) ?_
     refine J.z (yl_move rfl rfl) ?_
     refine J.z (yl_min2 rfl rfl rfl) ?_
     refine J.eqv 65 rfl (show _ = i64 ((min (Kp.rootOf P2 a) (Kp.rootOf P2 b) : Nat) : Int) from (congrArg i64 (nmin _ _))) ?_
     refine J.z (yl_indexAddr (off' := max (Kp.rootOf P2 a) (Kp.rootOf P2 b)) rfl rfl rfl Tryz.underlying62 Tryz.sizeOf3 (by omega) (by omega) (by simp)) ?_
     refine J.op rfl (op_store1 0 rfl rfl rfl rfl rfl rfl Tryz.sizeOf3 rfl (.inl rfl) (by rw [List.length_map, hF2.len]; omega) LSet.z ?_)
     refine J.nil (Ej.blkNormal (Ej.seq (Cj.region (J.z (yl_add rfl rfl rfl (w64 (by omega))) ?_))))
     refine J.z (yl_move rfl rfl) ?_
     refine J.nil (Ej.keep (Keeps.k (Keeps.d Keeps.n)) ?_)
     refine Ej.round (k + 1, P2.set (max (Kp.rootOf P2 a) (Kp.rootOf P2 b)) (min (Kp.rootOf P2 a) (Kp.rootOf P2 b))) ⟨by dsimp only; omega, hF2.join haN hbN hab, by dsimp only; rw [hvn]; exact Kp.joined_next hF2 haN hbN hJ2⟩ (by dsimp only; omega) ⟨rfl, rfl, rfl, rfl, rfl, rfl, trivial⟩ rfl (by dsimp only; rw [List.map_set]; rfl)
  ·
   have hc9p := of_decide_eq_false hc9
   have hvt : Kp.valid N (ps.take k) = V := by rw [hV, List.take_of_length_le (by omega)]
   rw [hvt] at hJ
   obtain ⟨P0, hP0⟩ : ∃ P0, P0 = P := ⟨_, rfl⟩
   subst hP0
   have hF0 := hF
   have hJ0 := hJ
   refine Cj.exit (Ej.seqExit (Ej.loopExit (Ej.blkExit (Ej.seq (Cj.seq (Cj.region (J.op rfl (op_makeMap rfl rfl rfl ?_))))))))
   intro b26 hb26
   refine J.z (yl_assign rfl rfl) ?_
   refine J.nil (Ej.seq (Cj.seq (Cj.region (J.z (yl_assign rfl rfl) ?_))))
   refine J.nil (Ej.seq (Cj.seq (Cj.seq (Cj.region (J.z (yl_load rfl rfl Tryz.isAgg62 (Blk.imm hb2i) rfl) ?_)))))
   refine J.z (yl_lenSlice rfl rfl Tryz.underlying62) ?_
   refine J.z (yl_move rfl rfl) ?_
   refine J.nil (Ej.seq (Cj.block (Cj.loop (ι := Nat × List Nat × ML Int × Nat × Fam Int Nat) (fun y => y.1 ≤ N ∧ Kp.For N V y.2.1 ∧ (∀ j, Kp.rootOf y.2.1 j = Kp.rootOf P0 j) ∧ FamS w0.heap.size 1 natC y.2.2.1 y.2.2.2.2 ∧ ∀ r : Nat, fget y.2.2.2.2 (r : Int) = prt (Kp.rootOf P0) y.1 r) (fun y => N - y.1) (fun y => [(5, ptr b2 0), (7, ptr b4 0), (12, .map (some b26)), (13, .slice none 0 0), (70, i64 (N : Int)), (71, i64 (y.1 : Int))]) (fun y => _) (fun y => (b26, mobj (fun a : Int => Value.int .i64 a) y.2.2.1 y.2.2.2.1) :: (b1, cel 3 (y.2.1.map nat64)) :: famH 3 natC y.2.2.2.2) (0, P0, [], 0, []) ⟨Nat.zero_le _, hF, fun _ => rfl, FamS.nil, fun _ => rfl⟩ ⟨rfl, rfl, rfl, rfl, rfl, rfl, trivial⟩ rfl rfl ?_)))
   rintro ⟨k, P, l, cc, Fm⟩ ⟨hk, hF, hR0, hfam, hmem⟩
   dsimp only at hk hF hR0 hfam hmem ⊢
   refine Cj.seq (Cj.region (J.z (yl_lss rfl rfl rfl) ?_))
   refine J.nil (Ej.seq (Cj.seq (Cj.cond rfl (fun hc27 => ?_) (fun hc27 => ?_))))
   ·
    have hc27p := of_decide_eq_true hc27
    refine Cj.skip (Ej.seq (Cj.seq (Cj.block (Cj.seq (Cj.region (J.z (yl_move rfl rfl) ?_))))))
    refine J.z (yl_assign rfl rfl) ?_
    refine J.nil (Ej.seq (Cj.drawSel [0] [] 12 (by kernel_rfl) ?_))
    have hb2i_21 := hb2i
    have hb4i_21 := hb4i
    refine JA.fix ⟨(HSub.c 0 rfl HSub.n), CSub.n, (Le.refl _)⟩ (fun fx28 => ?_)
    refine JA.tk 0 rfl fx28 (yl_move rfl rfl) ?_
    refine JA.tk 1 rfl fx28 (yl_load rfl rfl Tryz.isAgg97 (Blk.immC hb4i_21) rfl) ?_
    refine JA.tk 2 rfl fx28 (yl_move rfl rfl) ?_
    refine JA.tk 4 rfl fx28 (yl_move rfl rfl) ?_
    refine JA.tk 5 rfl fx28 (yl_load rfl rfl Tryz.isAgg97 (Blk.immC hb4i_21) rfl) ?_
    refine JA.tk 6 rfl fx28 (yl_move rfl rfl) ?_
    refine JA.tk 9 rfl fx28 (yl_move rfl rfl) ?_
    refine JA.all [3, 10] (by kernel_rfl) (by simp) ?_
    intro i hi
    simp only [List.mem_cons, List.not_mem_nil, or_false] at hi
    rcases hi with rfl | rfl
    ·
     refine ⟨_, rfl, rfl, ?_⟩
     refine OpJ.pull (Pull.s Pull.z) ?_
     refine op_call (H1 := [_]) rfl rfl rfl rfl rfl (root_ok _ _ b2 b4 b1 (by omega) _ hb2i hb4i k P (by omega) hF) ?_ (fun _ _ _ _ h => by obtain ⟨_, _, h, _⟩ := h; cases h) (fun _ _ h => by obtain ⟨_, _, h, _⟩ := h; cases h)
     intro v29 I30 H31 hle32 hp33
     have hr := hr.mono hle32
     have hb2i := hle32 _ _ hb2i
     have hb4i := hle32 _ _ hb4i
     obtain ⟨P1, hI, h, hF1, hR1, rfl⟩ := hp33; cases h; subst hI
     refine ⟨⟨(Le.trans (Le.refl _) hle32), (HSub.c 1 rfl HSub.n), CSub.n⟩, ?_⟩
     refine JA.eqv 77 rfl (show _ = i64 ((Kp.rootOf P0 k : Nat) : Int) from (by rw [hR0])) ?_
     refine JA.all [7, 10] (by kernel_rfl) (by simp) ?_
     intro i hi
     simp only [List.mem_cons, List.not_mem_nil, or_false] at hi
     rcases hi with rfl | rfl
     ·
      refine ⟨_, rfl, rfl, ?_⟩
      refine OpJ.pull Pull.z ?_
      refine op_call (H1 := [_]) rfl rfl rfl rfl rfl (root_ok _ _ b2 b4 b1 (by omega) _ hb2i hb4i k P1 (by omega) hF1) ?_ (fun _ _ _ _ h => by obtain ⟨_, _, h, _⟩ := h; cases h) (fun _ _ h => by obtain ⟨_, _, h, _⟩ := h; cases h)
      intro v34 I35 H36 hle37 hp38
      have hr := hr.mono hle37
      have hb2i := hle37 _ _ hb2i
      have hb4i := hle37 _ _ hb4i
      obtain ⟨P2, hI, h, hF2, hR2, rfl⟩ := hp38; cases h; subst hI
      refine ⟨⟨(Le.trans (Le.trans (Le.refl _) hle32) hle37), (HSub.c 1 rfl HSub.n), CSub.n⟩, ?_⟩
      refine JA.eqv 81 rfl (show _ = i64 ((Kp.rootOf P0 k : Nat) : Int) from (by rw [hR1, hR0])) ?_
      obtain ⟨F1, F2, xs, gx, hout, hval, hgx, hfg, hback⟩ := hfam.out 3 ((Kp.rootOf P0 k : Nat) : Int)
      have hxl : xs.length ≤ k := by rw [← hfg, hmem]; exact prt_len _ _ _
      refine JA.fix ⟨(HSub.c 1 rfl HSub.n), CSub.n, (Le.trans (Le.trans (Le.refl _) hle32) hle37)⟩ (fun fx39 => ?_)
      refine JA.tk 8 rfl fx39 (yl_lookup1 (kv := (fun a : Int => Value.int .i64 a)) (l := l) (a := ((Kp.rootOf P0 k : Nat) : Int)) rfl rfl rfl rfl Tryz.underlying98 (KeyK.int Tryz.underlying3) Tryz.zeroValue62 (Blk.atC 0 rfl)) ?_
      refine JA.eqv 82 rfl (show _ = gV xs.length gx from hval) ?_
      refine JA.step 10 (by kernel_rfl) rfl rfl (op_buildSlice rfl rfl rfl Tryz.underlying62 Tryz.sizeOf3 Tryz.zeroValue3 rfl rfl rfl rfl (LCat.one rfl LCat.none) ?_)
      intro b40 hb40
      refine ⟨⟨(Le.trans (Le.trans (Le.refl _) hle32) hle37), (HSub.c 2 rfl HSub.n), CSub.n⟩, ?_⟩
      refine JA.perm (hout [_, _, _]) ?_
      refine JA.step 11 (by kernel_rfl) rfl rfl (op_append (by' := 7) ([_, _, _] ++ famH _ _ _) rfl rfl rfl rfl rfl Tryz.underlying62 (.inr ⟨_, Tryz.underlying62⟩) (by kernel_rfl) Tryz.sizeOf3 Tryz.zeroValue3 rfl hgx rfl (Src.slice (Blk.at 0 rfl) rfl rfl rfl) (by omega) ?_)
      intro g41 hg41
      refine ⟨⟨(Le.trans (Le.trans (Le.refl _) hle32) hle37), (HSub.c 2 rfl HSub.n), CSub.n⟩, ?_⟩
      refine JA.last 12 (by kernel_rfl) rfl rfl rfl (op_insert (kv := (fun a : Int => Value.int .i64 a)) (a := ((Kp.rootOf P0 k : Nat) : Int)) 2 (.inr rfl) rfl rfl rfl rfl rfl Tryz.underlying98 (KeyK.int Tryz.underlying3) rfl (LSet.s (LSet.s LSet.z)) ?_)
      refine JA.done (by kernel_rfl) ?_
      refine Ej.blkNormal (Ej.seq (Cj.region (J.z (yl_add rfl rfl rfl (w64 (by omega))) ?_)))
      refine J.z (yl_move rfl rfl) ?_
      refine J.nil ?_
      obtain ⟨F9, hfam9, hget9, hperm9⟩ := hback k g41 cc hg41
      refine Ej.perm (hperm9 [_, _, _]) ?_
      refine Ej.keep (Keeps.d (Keeps.k (Keeps.k Keeps.r))) ?_
      refine Ej.pull Pull.z ?_
      refine Ej.pull (Pull.s Pull.z) ?_
      refine Ej.round (k + 1, P2, mset l ((Kp.rootOf P0 k : Nat) : Int) (gV (xs.length + 1) g41) cc, mclk l ((Kp.rootOf P0 k : Nat) : Int) cc, F9) ⟨by dsimp only; omega, hF2, fun j => by rw [hR2, hR1]; exact hR0 j, hfam9, fun r => by dsimp only; rw [hget9, prt_next]; exact fam_next hfg hmem⟩ (by dsimp only; omega) ⟨rfl, rfl, rfl, rfl, rfl, rfl, trivial⟩ rfl rfl
     ·
      refine ⟨_, rfl, rfl, ?_⟩
      refine op_buildSlice rfl rfl rfl Tryz.underlying62 Tryz.sizeOf3 Tryz.zeroValue3 rfl rfl rfl rfl (LCat.one rfl LCat.none) ?_
      intro b42 hb42
      refine ⟨⟨(Le.trans (Le.refl _) hle32), (HSub.c 2 rfl HSub.n), CSub.n⟩, ?_⟩
      refine JA.pull (Pull.s Pull.z) ?_
      refine JA.step 7 (by kernel_rfl) rfl rfl (op_call (H1 := [_]) rfl rfl rfl rfl rfl (root_ok _ _ b2 b4 b1 (by omega) _ hb2i hb4i k P1 (by omega) hF1) ?_ (fun _ _ _ _ h => by obtain ⟨_, _, h, _⟩ := h; cases h) (fun _ _ h => by obtain ⟨_, _, h, _⟩ := h; cases h))
      intro v43 I44 H45 hle46 hp47
      have hr := hr.mono hle46
      have hb2i := hle46 _ _ hb2i
      have hb4i := hle46 _ _ hb4i
      obtain ⟨P2, hI, h, hF2, hR2, rfl⟩ := hp47; cases h; subst hI
      refine ⟨⟨(Le.trans (Le.trans (Le.refl _) hle32) hle46), (HSub.c 2 rfl HSub.n), CSub.n⟩, ?_⟩
      refine JA.eqv 81 rfl (show _ = i64 ((Kp.rootOf P0 k : Nat) : Int) from (by rw [hR1, hR0])) ?_
      obtain ⟨F1, F2, xs, gx, hout, hval, hgx, hfg, hback⟩ := hfam.out 3 ((Kp.rootOf P0 k : Nat) : Int)
      have hxl : xs.length ≤ k := by rw [← hfg, hmem]; exact prt_len _ _ _
      refine JA.fix ⟨(HSub.c 2 rfl HSub.n), CSub.n, (Le.trans (Le.trans (Le.refl _) hle32) hle46)⟩ (fun fx48 => ?_)
      refine JA.tk 8 rfl fx48 (yl_lookup1 (kv := (fun a : Int => Value.int .i64 a)) (l := l) (a := ((Kp.rootOf P0 k : Nat) : Int)) rfl rfl rfl rfl Tryz.underlying98 (KeyK.int Tryz.underlying3) Tryz.zeroValue62 (Blk.atC 0 rfl)) ?_
      refine JA.eqv 82 rfl (show _ = gV xs.length gx from hval) ?_
      refine JA.perm (hout [_, _, _]) ?_
      refine JA.step 11 (by kernel_rfl) rfl rfl (op_append (by' := 7) ([_, _, _] ++ famH _ _ _) rfl rfl rfl rfl rfl Tryz.underlying62 (.inr ⟨_, Tryz.underlying62⟩) (by kernel_rfl) Tryz.sizeOf3 Tryz.zeroValue3 rfl hgx rfl (Src.slice (Blk.at 1 rfl) rfl rfl rfl) (by omega) ?_)
      intro g49 hg49
      refine ⟨⟨(Le.trans (Le.trans (Le.refl _) hle32) hle46), (HSub.c 2 rfl HSub.n), CSub.n⟩, ?_⟩
      refine JA.last 12 (by kernel_rfl) rfl rfl rfl (op_insert (kv := (fun a : Int => Value.int .i64 a)) (a := ((Kp.rootOf P0 k : Nat) : Int)) 2 (.inr rfl) rfl rfl rfl rfl rfl Tryz.underlying98 (KeyK.int Tryz.underlying3) rfl (LSet.s (LSet.s LSet.z)) ?_)
      refine JA.done (by kernel_rfl) ?_
      refine Ej.blkNormal (Ej.seq (Cj.region (J.z (yl_add rfl rfl rfl (w64 (by omega))) ?_)))
      refine J.z (yl_move rfl rfl) ?_
      refine J.nil ?_
      obtain ⟨F9, hfam9, hget9, hperm9⟩ := hback k g49 cc hg49
      refine Ej.perm (hperm9 [_, _, _]) ?_
      refine Ej.keep (Keeps.k (Keeps.d (Keeps.k Keeps.r))) ?_
      refine Ej.pull Pull.z ?_
      refine Ej.pull (Pull.s Pull.z) ?_
      refine Ej.round (k + 1, P2, mset l ((Kp.rootOf P0 k : Nat) : Int) (gV (xs.length + 1) g49) cc, mclk l ((Kp.rootOf P0 k : Nat) : Int) cc, F9) ⟨by dsimp only; omega, hF2, fun j => by rw [hR2, hR1]; exact hR0 j, hfam9, fun r => by dsimp only; rw [hget9, prt_next]; exact fam_next hfg hmem⟩ (by dsimp only; omega) ⟨rfl, rfl, rfl, rfl, rfl, rfl, trivial⟩ rfl rfl
    ·
     refine ⟨_, rfl, rfl, ?_⟩
     refine op_buildSlice rfl rfl rfl Tryz.underlying62 Tryz.sizeOf3 Tryz.zeroValue3 rfl rfl rfl rfl (LCat.one rfl LCat.none) ?_
     intro b50 hb50
     refine ⟨⟨(Le.refl _), (HSub.c 1 rfl HSub.n), CSub.n⟩, ?_⟩
     refine JA.pull (Pull.s (Pull.s Pull.z)) ?_
     refine JA.step 3 (by kernel_rfl) rfl rfl (op_call (H1 := [_]) rfl rfl rfl rfl rfl (root_ok _ _ b2 b4 b1 (by omega) _ hb2i hb4i k P (by omega) hF) ?_ (fun _ _ _ _ h => by obtain ⟨_, _, h, _⟩ := h; cases h) (fun _ _ h => by obtain ⟨_, _, h, _⟩ := h; cases h))
     intro v51 I52 H53 hle54 hp55
     have hr := hr.mono hle54
     have hb2i := hle54 _ _ hb2i
     have hb4i := hle54 _ _ hb4i
     obtain ⟨P1, hI, h, hF1, hR1, rfl⟩ := hp55; cases h; subst hI
     refine ⟨⟨(Le.trans (Le.refl _) hle54), (HSub.c 2 rfl HSub.n), CSub.n⟩, ?_⟩
     refine JA.eqv 77 rfl (show _ = i64 ((Kp.rootOf P0 k : Nat) : Int) from (by rw [hR0])) ?_
     refine JA.pull Pull.z ?_
     refine JA.step 7 (by kernel_rfl) rfl rfl (op_call (H1 := [_]) rfl rfl rfl rfl rfl (root_ok _ _ b2 b4 b1 (by omega) _ hb2i hb4i k P1 (by omega) hF1) ?_ (fun _ _ _ _ h => by obtain ⟨_, _, h, _⟩ := h; cases h) (fun _ _ h => by obtain ⟨_, _, h, _⟩ := h; cases h))
     intro v56 I57 H58 hle59 hp60
     have hr := hr.mono hle59
     have hb2i := hle59 _ _ hb2i
     have hb4i := hle59 _ _ hb4i
     obtain ⟨P2, hI, h, hF2, hR2, rfl⟩ := hp60; cases h; subst hI
     refine ⟨⟨(Le.trans (Le.trans (Le.refl _) hle54) hle59), (HSub.c 2 rfl HSub.n), CSub.n⟩, ?_⟩
     refine JA.eqv 81 rfl (show _ = i64 ((Kp.rootOf P0 k : Nat) : Int) from (by rw [hR1, hR0])) ?_
     obtain ⟨F1, F2, xs, gx, hout, hval, hgx, hfg, hback⟩ := hfam.out 3 ((Kp.rootOf P0 k : Nat) : Int)
     have hxl : xs.length ≤ k := by rw [← hfg, hmem]; exact prt_len _ _ _
     refine JA.fix ⟨(HSub.c 2 rfl HSub.n), CSub.n, (Le.trans (Le.trans (Le.refl _) hle54) hle59)⟩ (fun fx61 => ?_)
     refine JA.tk 8 rfl fx61 (yl_lookup1 (kv := (fun a : Int => Value.int .i64 a)) (l := l) (a := ((Kp.rootOf P0 k : Nat) : Int)) rfl rfl rfl rfl Tryz.underlying98 (KeyK.int Tryz.underlying3) Tryz.zeroValue62 (Blk.atC 0 rfl)) ?_
     refine JA.eqv 82 rfl (show _ = gV xs.length gx from hval) ?_
     refine JA.perm (hout [_, _, _]) ?_
     refine JA.step 11 (by kernel_rfl) rfl rfl (op_append (by' := 7) ([_, _, _] ++ famH _ _ _) rfl rfl rfl rfl rfl Tryz.underlying62 (.inr ⟨_, Tryz.underlying62⟩) (by kernel_rfl) Tryz.sizeOf3 Tryz.zeroValue3 rfl hgx rfl (Src.slice (Blk.at 1 rfl) rfl rfl rfl) (by omega) ?_)
     intro g62 hg62
     refine ⟨⟨(Le.trans (Le.trans (Le.refl _) hle54) hle59), (HSub.c 2 rfl HSub.n), CSub.n⟩, ?_⟩
     refine JA.last 12 (by kernel_rfl) rfl rfl rfl (op_insert (kv := (fun a : Int => Value.int .i64 a)) (a := ((Kp.rootOf P0 k : Nat) : Int)) 2 (.inr rfl) rfl rfl rfl rfl rfl Tryz.underlying98 (KeyK.int Tryz.underlying3) rfl (LSet.s (LSet.s LSet.z)) ?_)
     refine JA.done (by kernel_rfl) ?_
     refine Ej.blkNormal (Ej.seq (Cj.region (J.z (yl_add rfl rfl rfl (w64 (by omega))) ?_)))
     refine J.z (yl_move rfl rfl) ?_
     refine J.nil ?_
     obtain ⟨F9, hfam9, hget9, hperm9⟩ := hback k g62 cc hg62
     refine Ej.perm (hperm9 [_, _, _]) ?_
     refine Ej.keep (Keeps.k (Keeps.d (Keeps.k Keeps.r))) ?_
     refine Ej.pull Pull.z ?_
     refine Ej.pull (Pull.s Pull.z) ?_
     refine Ej.round (k + 1, P2, mset l ((Kp.rootOf P0 k : Nat) : Int) (gV (xs.length + 1) g62) cc, mclk l ((Kp.rootOf P0 k : Nat) : Int) cc, F9) ⟨by dsimp only; omega, hF2, fun j => by rw [hR2, hR1]; exact hR0 j, hfam9, fun r => by dsimp only; rw [hget9, prt_next]; exact fam_next hfg hmem⟩ (by dsimp only; omega) ⟨rfl, rfl, rfl, rfl, rfl, rfl, trivial⟩ rfl rfl
   ·
    have hc27p := of_decide_eq_false hc27
    refine Cj.exit (Ej.seqExit (Ej.loopExit (Ej.blkExit (Ej.seq (Cj.seq (Cj.seq ?_))))))
    have hkN : N = k := by omega
    subst hkN
    refine Cj.perm (H' := famH _ _ _ ++ [_, _]) List.perm_append_comm ?_
    refine Cj.keepFam natC_len (by decide) Fm _ hfam.ok (fun I9 hle9 hall => ?_)
    have hr := hr.mono hle9
    have hb2i := hle9 _ _ hb2i
    have hb4i := hle9 _ _ hb4i
    have hrow : ∀ r : Nat, RowS natC I9 (prt (Kp.rootOf P0) N r) ((mget l ((r : Nat) : Int)).getD (.slice none 0 0)) := fun r => (hmem r) ▸ hfam.row hall ((r : Nat) : Int)
    refine Cj.region (J.z (yl_load rfl rfl Tryz.isAgg62 (Blk.imm hb2i) rfl) ?_)
    refine J.z (yl_lenSlice rfl rfl Tryz.underlying62) ?_
    refine J.z (yl_move rfl rfl) ?_
    refine J.nil (Ej.seq (Cj.block (Cj.loop (ι := Nat × List Nat × Gs) (fun y => y.1 ≤ N ∧ Kp.For N V y.2.1 ∧ (∀ j, Kp.rootOf y.2.1 j = Kp.rootOf P0 j) ∧ gOk w0.heap.size 1 (rts (Kp.rootOf P0) y.1).length ((rts (Kp.rootOf P0) y.1).map (fun i : Nat => (mget l ((i : Nat) : Int)).getD (.slice none 0 0))) y.2.2) (fun y => N - y.1) (fun y => [(5, ptr b2 0), (7, ptr b4 0), (12, .map (some b26)), (13, gV (rts (Kp.rootOf P0) y.1).length y.2.2), (88, i64 (N : Int)), (89, i64 (y.1 : Int))]) (fun y => _) (fun y => (b26, mobj (fun a : Int => Value.int .i64 a) l cc) :: (b1, cel 3 (y.2.1.map nat64)) :: gH 62 ((rts (Kp.rootOf P0) y.1).map (fun i : Nat => (mget l ((i : Nat) : Int)).getD (.slice none 0 0))) y.2.2) (0, P, none) ⟨Nat.zero_le _, hF, hR0, rfl, rfl⟩ ⟨rfl, rfl, rfl, rfl, rfl, rfl, trivial⟩ rfl rfl ?_)))
    rintro ⟨m, P, g⟩ ⟨hm, hF, hR0, hg⟩
    dsimp only at hm hF hR0 hg ⊢
    have hrl := rts_len (Kp.rootOf P0) m
    refine Cj.seq (Cj.region (J.z (yl_lss rfl rfl rfl) ?_))
    refine J.nil (Ej.seq (Cj.seq (Cj.cond rfl (fun hc63 => ?_) (fun hc63 => ?_))))
    ·
     have hc63p := of_decide_eq_true hc63
     refine Cj.skip (Ej.seq (Cj.seq (Cj.block (Cj.seq (Cj.region (J.z (yl_move rfl rfl) ?_))))))
     refine J.z (yl_assign rfl rfl) ?_
     refine J.nil (Ej.seq (Cj.seq (Cj.region (J.z (yl_load rfl rfl Tryz.isAgg97 (Blk.imm hb4i) rfl) ?_))))
     refine J.z (yl_move rfl rfl) ?_
     refine J.pull (Pull.s Pull.z) ?_
     refine J.op rfl (op_call (H1 := [_]) rfl rfl rfl rfl rfl (root_ok _ _ b2 b4 b1 (by omega) _ hb2i hb4i m P (by omega) hF) ?_ (fun _ _ _ _ h => by obtain ⟨_, _, h, _⟩ := h; cases h) (fun _ _ h => by obtain ⟨_, _, h, _⟩ := h; cases h))
     intro v64 I65 H66 hle67 hp68
     have hr := hr.mono hle67
     have hb2i := hle67 _ _ hb2i
     have hb4i := hle67 _ _ hb4i
     obtain ⟨P1, hI, h, hF1, hR1, rfl⟩ := hp68; cases h; subst hI
     refine J.eqv 94 rfl (show _ = i64 ((Kp.rootOf P0 m : Nat) : Int) from (by rw [hR0])) ?_
     refine J.z (yl_move rfl rfl) ?_
     refine J.z (yl_eql rfl rfl rfl) ?_
     refine J.nil (Ej.seq (Cj.cond rfl (fun hc69 => ?_) (fun hc69 => ?_)))
     ·
      have hc69p := eq_of_beq hc69
      have hrt : Kp.rootOf P0 m = m := by have h := eq_of_beq hc69; omega
      obtain ⟨xp, xc, hxv, -⟩ := id (hrow m)
      refine Cj.region (J.z (yl_move rfl rfl) ?_)
      refine J.z (yl_move rfl rfl) ?_
      refine J.z (yl_move rfl rfl) ?_
      refine J.z (yl_lookup1 (kv := (fun a : Int => Value.int .i64 a)) (l := l) (a := ((m : Nat) : Int)) rfl rfl rfl rfl Tryz.underlying98 (KeyK.int Tryz.underlying3) Tryz.zeroValue62 (Blk.at 1 rfl)) ?_
      refine J.eqv 100 rfl (show _ = .slice xp _ xc from hxv) ?_
      refine J.op rfl (op_buildSlice rfl rfl rfl Tryz.underlying59 Tryz.sizeOf62 Tryz.zeroValue62 rfl rfl rfl rfl (LCat.one rfl LCat.none) ?_)
      intro b70 hb70
      refine J.op rfl (op_append (by' := 23) [_, _, _] rfl rfl rfl rfl rfl Tryz.underlying59 (.inr ⟨_, Tryz.underlying59⟩) (by kernel_rfl) Tryz.sizeOf62 Tryz.zeroValue62 rfl hg rfl (Src.slice (Blk.at 0 rfl) rfl rfl rfl) (by omega) ?_)
      intro g71 hg71
      refine J.z (yl_assign rfl rfl) ?_
      refine J.nil (Ej.blkNormal (Ej.seq (Cj.region (J.z (yl_add rfl rfl rfl (w64 (by omega))) ?_))))
      refine J.z (yl_move rfl rfl) ?_
      refine J.nil (Ej.keep (Keeps.d (Keeps.k (Keeps.k Keeps.r))) ?_)
      refine Ej.pull Pull.z ?_
      refine Ej.pull (Pull.s Pull.z) ?_
      refine Ej.round (m + 1, P1, g71) ⟨by dsimp only; omega, hF1, fun j => by rw [hR1]; exact hR0 j, by dsimp only; rw [rts_next, if_pos hrt, List.length_append, List.map_append]; rw [← hxv] at hg71; exact hg71⟩ (by dsimp only; omega) ⟨rfl, rfl, rfl, by dsimp only; rw [rts_next, if_pos hrt, List.length_append]; rfl, rfl, rfl, trivial⟩ rfl (by dsimp only; rw [rts_next, if_pos hrt, List.map_append, ← hxv]; rfl)
     ·
      have hc69p := ne_of_beq_false hc69
      have hrt : Kp.rootOf P0 m ≠ m := fun e => ne_of_beq_false hc69 (by rw [e])
      refine Cj.skip (Ej.blkNormal (Ej.seq (Cj.region (J.z (yl_add rfl rfl rfl (w64 (by omega))) ?_))))
      refine J.z (yl_move rfl rfl) ?_
      refine J.nil (Ej.keep (Keeps.k (Keeps.k Keeps.r)) ?_)
      refine Ej.pull Pull.z ?_
      refine Ej.pull (Pull.s Pull.z) ?_
      refine Ej.round (m + 1, P1, g) ⟨by dsimp only; omega, hF1, fun j => by rw [hR1]; exact hR0 j, by dsimp only; rw [rts_next, if_neg hrt, List.append_nil]; exact hg⟩ (by dsimp only; omega) ⟨rfl, rfl, rfl, by dsimp only; rw [rts_next, if_neg hrt, List.append_nil]; rfl, rfl, rfl, trivial⟩ rfl (by dsimp only; rw [rts_next, if_neg hrt, List.append_nil])
    ·
     have hc63p := of_decide_eq_false hc63
     refine Cj.exit (Ej.seqExit (Ej.loopExit (Ej.blkExit (Ej.seq (Cj.seq (Cj.region (J.z (yl_move rfl rfl) ?_)))))))
     refine J.z (yl_assign rfl rfl) ?_
     refine J.nil (Ej.seq (Cj.ret ?_))
     have hmk : N = m := by omega
     subst hmk
     refine Ej.perm (H' := gH _ _ _ ++ [_, _]) List.perm_append_comm ?_
     rw [← val_flat (List.map _ (rts (Kp.rootOf P0) N))] at hg
     rw [← val_flat (List.map _ (rts (Kp.rootOf P0) N))]
     refine Ej.keepR valC_len (by decide) hg (List.length_map _).symm (fun I8 hle8 hvs => ?_)
     refine Ej.bare ?_
     refine Ej.ret1 rfl rfl rfl ?_
     exact ⟨_, rfl, parts_row (hF0.lab hJ0) hVl hvs (fun r => (hrow r).mono hle8), rfl⟩
end Go.Proofs.YtadnofaleepkmaaGreatDoor
end
section
namespace Ke
def dig (d : Nat) : UInt8 := UInt8.ofNat (48 + d % 10)
/-- A year in four digits. -/
def s4 (x : Nat) : Bs := [dig (x / 1000), dig (x / 100), dig (x / 10), dig x]
/-! ### A record is the same as itself -/
theorem pts_self (f : Feat) : 0 ≤ pts f f := by
  have h1 := pB_self f.books
  have h2 := pT_self f.title
  have h3 := pA_self f.author
  have h4 := pY_self f.year
  have h5 := pK_self f.kind
  unfold pts
  have : 0 ≤ pB f.books f.books := by rw [h1]; split <;> decide
  have : 0 ≤ pT f.title f.title := by rw [h2]; split <;> decide
  have : 0 ≤ pA f.author f.author := by rw [h3]; split <;> decide
  omega
theorem pts_book (f : Feat) (h : f.books ≠ []) : 40 ≤ pts f f := by
  have h1 := pB_self f.books
  rw [if_neg h] at h1
  have h2 := pT_self f.title
  have h3 := pA_self f.author
  have h4 := pY_self f.year
  have h5 := pK_self f.kind
  unfold pts
  have : 0 ≤ pT f.title f.title := by rw [h2]; split <;> decide
  have : 0 ≤ pA f.author f.author := by rw [h3]; split <;> decide
  omega
theorem pts_name (f : Feat) (h : f.title ≠ []) (k : f.author ≠ []) : 40 ≤ pts f f := by
  have h1 := pB_self f.books
  have h2 := pT_self f.title
  rw [if_neg h] at h2
  have h3 := pA_self f.author
  rw [if_neg k] at h3
  have h4 := pY_self f.year
  have h5 := pK_self f.kind
  unfold pts
  have : 0 ≤ pB f.books f.books := by rw [h1]; split <;> decide
  omega
/-- A key of a book number comes of one. -/
theorem book_key {fs : List Fld} {k : Bs} (hk : k ∈ all fs) (hp : k.take 5 = isbnPre) : isbns fs ≠ [] := by
  have h1 : k ∈ raw fs := by
    rcases (puts_mem (raw fs) [] k).1 hk with h | h
    · exact h
    · cases h
  rcases List.mem_append.1 h1 with h | h
  · obtain ⟨f, hf, hm⟩ := List.mem_flatMap.1 h
    unfold books at hm
    split at hm
    · rename_i ht
      obtain ⟨s, hs, he⟩ := List.mem_filterMap.1 hm
      unfold book at he
      split at he
      · rename_i hc
        intro hn
        have : (isbn s.text).1 ∈ isbns fs := List.mem_flatMap.2 ⟨f, hf, by unfold isbs; rw [if_pos ht]; exact List.mem_filterMap.2 ⟨s, hs, by unfold isb; rw [if_pos hc]⟩⟩
        rw [hn] at this; cases this
      · cases he
    · cases hm
  · unfold titles at h
    split at h
    · cases h
    · rw [List.mem_singleton.1 h] at hp
      simp [isbnPre] at hp
theorem all_nodup (fs : List Fld) : (all fs).Nodup := List.Pairwise.imp (R := (· < ·)) (fun {a b} h => (show a ≠ b from fun e => List.lt_irrefl b (e ▸ h))) (puts_inc (raw fs) List.Pairwise.nil)
end Ke
end
section
namespace Go.Sx
open Go
section
variable {cx : Cx} {Q : Qt} {e : Env} {I : Heap} {H : HL} {o : Oper} {C : Ct}
theorem madeN {zs : List Value} {sz : Nat} (hz : zs.length = sz) (h0 : 0 < sz) (c : Nat) : madeCells zs.toArray (c * sz) = ((List.replicate c zs).flatMap id).toArray := by
  apply Array.ext_getElem?
  intro i
  unfold madeCells
  by_cases h : i < c * sz
  · have hd : i / sz < c := (Nat.div_lt_iff_lt_mul h0).2 h
    have hm : i % sz < sz := Nat.mod_lt _ h0
    have h3 : ((List.replicate c zs).flatMap id)[i]? = zs[i % sz]? := by
      have hl : ∀ (l : List (List Value)), (∀ x ∈ l, x = zs) → ∀ k j, k < l.length → j < sz → (l.flatMap id)[k * sz + j]? = zs[j]? := by
        intro l
        induction l with
        | nil => intro _ k j hk; simp at hk
        | cons a r ih =>
          intro hall k j hk hj
          have ha := hall a (.head _)
          subst ha
          rw [List.flatMap_cons]
          cases k with
          | zero => rw [Nat.zero_mul, Nat.zero_add, List.getElem?_append_left (by rw [id]; omega)]; rfl
          | succ k =>
            rw [List.getElem?_append_right (by rw [id, hz, Nat.add_mul]; omega), id, hz, show (k + 1) * sz + j - sz = k * sz + j by rw [Nat.add_mul]; omega]
            exact ih (fun x hx => hall x (.tail _ hx)) k j (by simpa using hk) hj
      have := hl (List.replicate c zs) (fun x hx => (List.mem_replicate.1 hx).2) (i / sz) (i % sz) (by simpa using hd) hm
      rw [Nat.mul_comm, Nat.div_add_mod] at this
      exact this
    have hr : ((List.replicate c zs).flatMap id).toArray[i]? = ((List.replicate c zs).flatMap id)[i]? := List.getElem?_toArray
    rw [hr, h3, List.getElem?_eq_getElem (by omega)]
    rw [Array.getElem?_map, Array.getElem?_range, if_pos h]
    simp only [Option.map_some, List.size_toArray, hz]
    rw [getElem!_pos _ _ (by simpa [hz] using hm)]
    simp
  · have h3 : ((List.replicate c zs).flatMap id).length = c * sz := by
      have hl : ∀ c, ((List.replicate c zs).flatMap id).length = c * sz := by
        intro c
        induction c with
        | zero => simp
        | succ c ih => rw [List.replicate_succ, List.flatMap_cons, List.length_append, ih, id, hz, Nat.add_mul]; omega
      exact hl c
    have hr : ((List.replicate c zs).flatMap id).toArray[i]? = ((List.replicate c zs).flatMap id)[i]? := List.getElem?_toArray
    rw [hr, List.getElem?_eq_none (by omega), Array.getElem?_eq_none (by rw [Array.size_map, Array.size_range]; omega)]
theorem op_makeSliceN {T E d by1 n c sz : Nat} {x y : Operand} {kl kc : IntKind} {z : Value} {zs : List Value} (ho : o.op = .makeSlice T x y) (hd : o.dst = some d) (hn : Nat.blt d cx.n = true) (hx : ev e x = some (.int kl (n : Int))) (hy : ev e y = some (.int kc (c : Int)))
    (hu : cx.P.underlying T = some (.slice E)) (hi0 : (cx.P.info? E).map (fun i => (i.bytes, i.size, i.zero)) = some (by1, sz, some z)) (hzc : z.cells = zs.toArray) (hzl : zs.length = sz) (h0 : 0 < sz) (hnc : n ≤ c) (hb : by1 * c ≤ 281474976710656) (h63 : c ≤ 9223372036854775807)
    (k : ∀ b, cx.w0.heap.size ≤ b → C ((d, .slice (some ⟨b, 0, none⟩) n c) :: e) I ((b, cel E ((List.replicate c zs).flatMap id)) :: H)) : OpJ cx Q o e I H C := by
  intro K hK a w ha hs
  unfold Oper.wp
  obtain ⟨i, hi, hii⟩ := Option.map_eq_some_iff.1 hi0
  simp only [Prod.mk.injEq] at hii
  obtain ⟨h1, h2, h3⟩ := hii
  have hbb : (i.bytes : Int) * (c : Int) ≤ 281474976710656 := by
    have h : ((by1 * c : Nat) : Int) ≤ 281474976710656 := by omega
    rw [h1]
    rwa [Int.natCast_mul] at h
  have hr := run_make (P := cx.P) w T E i z hu hi h3 kl kc n c (by omega) (by omega) hbb (by omega)
  have : (execOp a.eval o).run cx.P w = .ok (.value (.slice (some ⟨w.heap.size, 0, none⟩) n c)) (w.alloc (cel E ((List.replicate c zs).flatMap id))) := by
    simp only [execOp, ho, ha.eval hx, ha.eval hy, Sem.run_bind, hr, Result.andThen_ok, Sem.run_pure, h2, hzc, Int.toNat_natCast, madeN hzl h0, cel]
  rw [this]
  simp only [Oper.upon, hd]
  exact hK _ _ _ (k _ hs.size) _ _ (ha.put hn) (hs.alloc _)
end
/-- A struct of a row is set. -/
theorem row_spl {α : Type} {f : α → List Value} {n : Nat} (hf : ∀ x, (f x).length = n) {sp : List Value} {x : α} : ∀ {l : List α} {i : Nat}, i < l.length → LSpl (l.flatMap f ++ sp) (i * n) (f x) ((l.set i x).flatMap f ++ sp)
  | [], _, h => by simp at h
  | a :: r, 0, _ => by
    refine ⟨by rw [Nat.zero_mul, hf, List.flatMap_cons, List.length_append, List.length_append, hf]; omega, ?_⟩
    rw [Nat.zero_mul, List.take_zero, List.nil_append, Nat.zero_add, List.set_cons_zero, List.flatMap_cons, List.flatMap_cons, List.append_assoc, List.append_assoc, hf, ← hf a, List.drop_left]
  | a :: r, i + 1, h => by
    obtain ⟨h1, h2⟩ := row_spl hf (sp := sp) (x := x) (l := r) (i := i) (by simpa using h)
    have ha := hf a
    refine ⟨by rw [List.flatMap_cons, List.append_assoc, List.length_append, ha, Nat.add_mul]; omega, ?_⟩
    rw [List.set_cons_succ, List.flatMap_cons, List.append_assoc, h2, List.flatMap_cons, List.append_assoc (f a), show (i + 1) * n = (f a).length + i * n by rw [ha, Nat.add_mul]; omega, List.take_length_add_append, Nat.add_assoc, List.drop_length_add_append]
    simp only [List.append_assoc]
end Go.Sx
end
