/-
  The law's upper. Own text, printed by a program. Conditions: none.
-/
import Derived.Test.YtadnofaleepkmaaGreatDoorPA9
namespace Go.Proofs.YtadnofaleepkmaaGreatDoor
open Go Go.Sx
def upc (c : UInt8) : UInt8 := if 97 ≤ c.toNat ∧ c.toNat ≤ 122 then UInt8.ofNat (c.toNat - 32) else c
def upA (s : List UInt8) (j : Nat) : List UInt8 := (s.take j).map upc ++ s.drop j
theorem upA_len (s : List UInt8) (j : Nat) : (upA s j).length = s.length := by unfold upA; simp; omega
theorem upA_get {s : List UInt8} {j : Nat} {c : UInt8} (h : s[j]? = some c) : (upA s j)[j]? = some c := by
  obtain ⟨hlt, -⟩ := List.getElem?_eq_some_iff.1 h
  unfold upA
  rw [List.getElem?_append_right (by simp; omega)]
  simp [h, Nat.min_eq_left (Nat.le_of_lt hlt)]
theorem upA_set {s : List UInt8} {j : Nat} {c : UInt8} (h : s[j]? = some c) : (upA s j).set j (upc c) = upA s (j + 1) := by
  obtain ⟨hlt, hg⟩ := List.getElem?_eq_some_iff.1 h
  unfold upA
  rw [List.set_append_right _ _ (by simp; omega), drop_cons h, List.take_succ_eq_append_getElem hlt, hg]
  simp [Nat.min_eq_left (Nat.le_of_lt hlt)]
theorem upA_same {s : List UInt8} {j : Nat} {c : UInt8} (h : s[j]? = some c) (hc : upc c = c) : upA s j = upA s (j + 1) := by
  rw [← upA_set h, hc]
  obtain ⟨hlt, hg⟩ := List.getElem?_eq_some_iff.1 (upA_get h)
  rw [← hg, List.set_getElem_self]
set_option maxRecDepth 20000 in
theorem upper_ok (s : List UInt8) (hs : s.length ≤ 1000000000000) (I : Heap) : Pure Tryz.prog 24 [str s] I (str (s.map upc)) := by
 refine Ctr.toPure ?_
 refine Ctr.of_body Tryz.func24 rfl (by decide) (Nat.le_of_ble_eq_true rfl) ?_
 intro w0 hw0
 refine Cj.seq (Cj.region (J.z (yl_assign rfl rfl) ?_))
 refine J.nil (Ej.seq (Cj.seq (Cj.region (J.z (yl_move rfl rfl) ?_))))
 refine J.op rfl (op_toBytes rfl rfl rfl rfl Tryz.underlying9 Tryz.underlying86 Tryz.underlying5 ?_)
 intro b1 c2 sp3 fr4 hb1 hfr4
 refine J.z (yl_assign rfl rfl) ?_
 refine J.nil (Ej.seq (Cj.seq (Cj.seq (Cj.region (J.z (yl_assign rfl rfl) ?_)))))
 refine J.nil (Ej.seq (Cj.block (Cj.loop (ι := Nat) (fun j => j ≤ s.length) (fun j => s.length - j) (fun j => [(3, .slice (some ⟨b1, 0, none⟩) s.length c2), (4, i64 (j : Int))]) (fun j => I) (fun j => [(b1, .cells (bcs (upA s j) ++ sp3).toArray 5 (fr4, fr4 + 1))]) 0 (Nat.zero_le _) ⟨rfl, rfl, trivial⟩ rfl rfl ?_)))
 intro j hj
 have hul := upA_len s j
 refine Cj.seq (Cj.seq (Cj.region (J.z (yl_move rfl rfl) ?_)))
 refine J.z (yl_move rfl rfl) ?_
 refine J.z (yl_lenSlice rfl rfl Tryz.underlying86) ?_
 refine J.z (yl_lss rfl rfl rfl) ?_
 refine J.nil (Ej.seq (Cj.cond rfl (fun hc5 => ?_) (fun hc5 => ?_)))
 ·
  have hc5p := of_decide_eq_true hc5
  have hlt : j < s.length := by omega
  obtain ⟨c, hget⟩ : ∃ c, s[j]? = some c := ⟨_, List.getElem?_eq_getElem hlt⟩
  have hcl := c.toNat_lt
  refine Cj.skip (Ej.seq (Cj.seq (Cj.block (Cj.seq (Cj.region (J.z (yl_move rfl rfl) ?_))))))
  refine J.z (yl_move rfl rfl) ?_
  refine J.z (yl_indexAddr (off' := j) rfl rfl rfl Tryz.underlying86 Tryz.sizeOf5 (by omega) (by omega) (by simp)) ?_
  refine J.z (yl_load rfl rfl Tryz.isAgg5 (Blk.at 0 rfl) (bcs_get _ _ j c (upA_get hget))) ?_
  refine J.z (yl_geq rfl rfl rfl) ?_
  refine J.z (yl_move rfl rfl) ?_
  refine J.split 18 rfl (fun hg6 => ?_) (fun hg6 => ?_)
  ·
   have hg6p := of_decide_eq_true hg6
   refine J.opG 5 18 true _ rfl rfl rfl hg6 (op_yld (yl_move rfl rfl) rfl rfl ?_)
   refine J.opG 5 18 true _ rfl rfl rfl hg6 (op_yld (yl_move rfl rfl) rfl rfl ?_)
   refine J.opG 5 18 true _ rfl rfl rfl hg6 (op_yld (yl_indexAddr (off' := j) rfl rfl rfl Tryz.underlying86 Tryz.sizeOf5 (by omega) (by omega) (by simp)) rfl rfl ?_)
   refine J.opG 5 18 true _ rfl rfl rfl hg6 (op_yld (yl_load rfl rfl Tryz.isAgg5 (Blk.at 0 rfl) (bcs_get _ _ j c (upA_get hget))) rfl rfl ?_)
   refine J.opG 5 18 true _ rfl rfl rfl hg6 (op_yld (yl_leq rfl rfl rfl) rfl rfl ?_)
   refine J.z (yl_pick1 rfl rfl hg6 rfl) ?_
   refine J.nil (Ej.seq (Cj.cond rfl (fun hc7 => ?_) (fun hc7 => ?_)))
   ·
    have hc7p := of_decide_eq_true hc7
    refine Cj.region (J.z (yl_move rfl rfl) ?_)
    refine J.z (yl_move rfl rfl) ?_
    refine J.z (yl_move rfl rfl) ?_
    refine J.z (yl_move rfl rfl) ?_
    refine J.z (yl_indexAddr (off' := j) rfl rfl rfl Tryz.underlying86 Tryz.sizeOf5 (by omega) (by omega) (by simp)) ?_
    refine J.z (yl_load rfl rfl Tryz.isAgg5 (Blk.at 0 rfl) (bcs_get _ _ j c (upA_get hget))) ?_
    refine J.z (yl_sub rfl rfl rfl (w8 (by omega))) ?_
    refine J.eqv 31 rfl (show _ = u8 (upc c) from (congrArg (Value.int .u8) (by unfold upc; rw [if_pos (by omega), UInt8.toNat_ofNat']; omega))) ?_
    refine J.z (yl_indexAddr (off' := j) rfl rfl rfl Tryz.underlying86 Tryz.sizeOf5 (by omega) (by omega) (by simp)) ?_
    refine J.op rfl (op_store1 0 rfl rfl rfl rfl rfl rfl Tryz.sizeOf5 rfl (.inr (by have := hfr4; simp only [List.length_append, bcs_len] at this ⊢; omega)) (by simp only [List.length_append, bcs_len]; omega) LSet.z ?_)
    refine J.nil (Ej.blkNormal (Ej.seq (Cj.region (J.z (yl_move rfl rfl) ?_))))
    refine J.z (yl_add rfl rfl rfl (w64 (by omega))) ?_
    refine J.z (yl_assign rfl rfl) ?_
    refine J.nil (Ej.round (j + 1) (by omega) (by omega) ⟨rfl, rfl, trivial⟩ rfl (by rw [bcs_set _ _ _ _ (by omega), upA_set hget]))
   ·
    have hc7p := of_decide_eq_false hc7
    have hno : upc c = c := if_neg (by omega)
    refine Cj.skip (Ej.blkNormal (Ej.seq (Cj.region (J.z (yl_move rfl rfl) ?_))))
    refine J.z (yl_add rfl rfl rfl (w64 (by omega))) ?_
    refine J.z (yl_assign rfl rfl) ?_
    refine J.nil (Ej.round (j + 1) (by omega) (by omega) ⟨rfl, rfl, trivial⟩ rfl (by rw [upA_same hget hno]))
  ·
   have hg6p := of_decide_eq_false hg6
   have hno : upc c = c := if_neg (by omega)
   refine J.skip 5 18 19 true _ rfl rfl rfl hg6 rfl rfl ?_
   refine J.skip 5 18 20 true _ rfl rfl rfl hg6 rfl rfl ?_
   refine J.skip 5 18 21 true _ rfl rfl rfl hg6 rfl rfl ?_
   refine J.skip 5 18 22 true _ rfl rfl rfl hg6 rfl rfl ?_
   refine J.skip 5 18 23 true _ rfl rfl rfl hg6 rfl rfl ?_
   refine J.z (yl_pick0 rfl rfl hg6 rfl) ?_
   refine J.nil (Ej.seq (Cj.cond rfl (fun hc8 => Bool.noConfusion (Eq.trans (Eq.symm rfl) hc8)) (fun hc8 => ?_)))
   refine Cj.skip (Ej.blkNormal (Ej.seq (Cj.region (J.z (yl_move rfl rfl) ?_))))
   refine J.z (yl_add rfl rfl rfl (w64 (by omega))) ?_
   refine J.z (yl_assign rfl rfl) ?_
   refine J.nil (Ej.round (j + 1) (by omega) (by omega) ⟨rfl, rfl, trivial⟩ rfl (by rw [upA_same hget hno]))
 ·
  have hc5p := of_decide_eq_false hc5
  refine Cj.exit (Ej.seqExit (Ej.loopExit (Ej.blkExit (Ej.seq (Cj.seq (Cj.region (J.z (yl_move rfl rfl) ?_)))))))
  refine J.z (yl_toStr (upA s j) rfl rfl (by rw [upA_len]) Tryz.underlying86 Tryz.underlying9 Tryz.underlying5 (Blk.at 0 rfl) (by rw [List.drop_zero, List.take_left' (by rw [bcs_len, upA_len])])) ?_
  refine J.z (yl_assign rfl rfl) ?_
  refine J.nil (Ej.seq (Cj.ret (Ej.bare ?_)))
  refine Ej.ret1 rfl rfl rfl ?_
  exact ⟨by rw [show upA s j = s.map upc from by unfold upA; rw [List.take_of_length_le (by omega), List.drop_eq_nil_of_le (by omega), List.append_nil]], rfl⟩
end Go.Proofs.YtadnofaleepkmaaGreatDoor
