/-
  Own texts on the laws of match, joined: the logic, and contracts of functions. Conditions: none.
-/
import Derived.Test.YtadnofaleepkmaaGreatDoorPB9
import Derived.Test.YtadnofaleepkmaaGreatDoorPB10
import Derived.Test.YtadnofaleepkmaaGreatDoorPB7
section
namespace Go.Proofs.YtadnofaleepkmaaGreatDoor
open Go Go.Sx
theorem StrP.len {I : Heap} {l : List (List UInt8)} {v : Value} (h : StrP I l v) : ∃ p c, v = .slice p l.length c := let ⟨p, c, h, _⟩ := h; ⟨p, c, h⟩
theorem pg_next {s x : List UInt8} {d : Bool} {l : List (List UInt8)} : Ke.pg s d (x :: l) = (if s < x ∧ d = false then [s, x] else [x]) ++ Ke.pg s (d || decide (s < x)) l := by
  rw [Ke.pg]
  by_cases h : s < x
  · cases d
    · rw [if_pos ⟨h, rfl⟩, if_pos ⟨h, rfl⟩]; simp [h]
    · rw [if_neg (by simp), if_neg (by simp)]; rfl
  · rw [if_neg (fun g => h g.1), if_neg (fun g => h g.1)]; simp [h]
theorem put_in {l : List (List UInt8)} {s : List UInt8} {k : Nat} (h : l[k]? = some s) : Ke.put l s = l := if_pos (List.mem_of_getElem? h)
theorem mem_next {l : List (List UInt8)} {s x : List UInt8} {k : Nat} (h : s ∉ l.take k) (hg : l[k]? = some x) (hx : x ≠ s) : s ∉ l.take (k + 1) := by
  obtain ⟨hlt, hg⟩ := List.getElem?_eq_some_iff.1 hg
  rw [List.take_succ_eq_append_getElem hlt, hg, List.mem_append, List.mem_singleton]
  rintro (e | e)
  · exact h e
  · exact hx e.symm
theorem put_end {l : List (List UInt8)} {s : List UInt8} {k : Nat} (hk : ¬ k < l.length) (h : s ∉ l.take k) : Ke.put l s = Ke.pg s false l := by
  rw [List.take_of_length_le (by omega)] at h; exact if_neg h
theorem pg_end {s : List UInt8} {d : Bool} {l : List (List UInt8)} {k : Nat} (hk : ¬ k < l.length) : Ke.pg s d (l.drop k) = if d = true then [] else [s] := by
  rw [List.drop_eq_nil_of_le (by omega)]; cases d <;> rfl
theorem pg_len (s : List UInt8) : ∀ (l : List (List UInt8)) (d : Bool), (Ke.pg s d l).length ≤ l.length + 1
  | [], true => Nat.zero_le _
  | [], false => Nat.le_refl _
  | x :: l, d => by
    have := pg_len s l (d || decide (s < x))
    rw [pg_next, List.length_append, List.length_cons]
    by_cases h : s < x ∧ d = false
    · rw [if_pos h]
      obtain ⟨h1, rfl⟩ := h
      have h2 : Ke.pg s (false || decide (s < x)) l = l := by rw [decide_eq_true h1]; exact Ke.pg_true s l
      rw [h2]; simp; omega
    · rw [if_neg h]; simp; omega
theorem put_len (l : List (List UInt8)) (s : List UInt8) : (Ke.put l s).length ≤ l.length + 1 := by
  unfold Ke.put
  split
  · omega
  · exact pg_len s l false
theorem puts_len : ∀ (xs l : List (List UInt8)), (xs.foldl Ke.put l).length ≤ l.length + xs.length
  | [], l => Nat.le_refl _
  | x :: xs, l => by
    have h1 := puts_len xs (Ke.put l x)
    have h2 := put_len l x
    simp only [List.foldl_cons, List.length_cons]; omega
theorem puts_one (xs : List (List UInt8)) (x : List UInt8) : (xs ++ [x]).foldl Ke.put [] = Ke.put (xs.foldl Ke.put []) x := by rw [List.foldl_append]; rfl
set_option maxRecDepth 20000 in
theorem rText_ok (f : Ke.Fld) (codes : List UInt8) (hcl : codes.length ≤ 1000) (hn : f.subs.length ≤ 2000000) (htx : textsLen f.subs ≤ 2000000) (I : Heap) (hr : RowS subC I f.subs f.sv) : Pure Tryz.prog 21 [.agg (fldC f).toArray, str codes] I (str (Ke.textOf f codes)) := by
 refine Ctr.toPure ?_
 obtain ⟨p2, c2, hsv, hc2, hp2⟩ := hr
 refine Ctr.of_body Tryz.func21 rfl (by decide) (Nat.le_of_ble_eq_true rfl) ?_
 intro w0 hw0
 refine Cj.seq (Cj.region (J.op rfl (op_box rfl rfl rfl rfl rfl ?_)))
 intro b1 hb1
 refine J.z (yl_assign rfl rfl) ?_
 refine J.nil (Ej.seq (Cj.seq (Cj.region (J.z (yl_assign rfl rfl) ?_))))
 refine J.nil (Ej.seq (Cj.seq (Cj.seq (Cj.region (J.z (yl_assign rfl rfl) ?_)))))
 refine J.nil (Ej.seq (Cj.block (Cj.loop (ι := Nat × Gs) (fun j => j.1 ≤ f.subs.length ∧ gOk w0.heap.size 1 (tx codes (f.subs.take j.1)).length ((tx codes (f.subs.take j.1)).map str) j.2) (fun j => f.subs.length - j.1) (fun j => [(1, str codes), (2, ptr b1 0), (5, gV (tx codes (f.subs.take j.1)).length j.2), (6, i64 (j.1 : Int))]) (fun j => _) (fun j => (b1, cel 35 (fldC f)) :: gH 9 ((tx codes (f.subs.take j.1)).map str) j.2) (0, none) ⟨Nat.zero_le _, rfl, rfl⟩ ⟨rfl, rfl, rfl, rfl, trivial⟩ rfl rfl ?_)))
 rintro ⟨j, g⟩ ⟨hj, hg⟩
 dsimp only at hj hg ⊢
 have htl := tx_len codes (f.subs.take j)
 rw [List.length_take, Nat.min_eq_left hj] at htl
 refine Cj.seq (Cj.seq (Cj.region (J.z (yl_move rfl rfl) ?_)))
 refine J.z (yl_fieldAddr (off' := 3) rfl rfl Tryz.underlying35 rfl Tryz.sizeOf33 rfl) ?_
 refine J.z (yl_load rfl rfl Tryz.isAgg33 (Blk.at 0 rfl) rfl) ?_
 refine J.eqv 10 rfl (show _ = .slice p2 f.subs.length c2 from hsv) ?_
 refine J.z (yl_lenSlice rfl rfl Tryz.underlying33) ?_
 refine J.z (yl_lss rfl rfl rfl) ?_
 refine J.nil (Ej.seq (Cj.cond rfl (fun hc2 => ?_) (fun hc2 => ?_)))
 ·
  have hc2p := of_decide_eq_true hc2
  refine Cj.skip (Ej.seq (Cj.seq (Cj.block (Cj.seq ?_))))
  have hlt : j < f.subs.length := by omega
  obtain ⟨sb, hsget⟩ : ∃ x, f.subs[j]? = some x := ⟨_, List.getElem?_eq_getElem hlt⟩
  obtain ⟨sbk, so, scs, sty, sfr, sp2, rfl, hsbk, hsd⟩ := hp2 (ne_nil_of hlt)
  have hnx := tx_next (codes := codes) hsget
  refine Cj.region (J.z (yl_move rfl rfl) ?_)
  refine J.z (yl_fieldAddr (off' := 3) rfl rfl Tryz.underlying35 rfl Tryz.sizeOf33 rfl) ?_
  refine J.z (yl_load rfl rfl Tryz.isAgg33 (Blk.at 0 rfl) rfl) ?_
  refine J.eqv 17 rfl (show _ = .slice (some ⟨sbk, so, none⟩) f.subs.length c2 from hsv) ?_
  refine J.z (yl_move rfl rfl) ?_
  refine J.z (yl_indexAddr (off' := so + j * 2) rfl rfl rfl Tryz.underlying33 Tryz.sizeOf47 (by omega) (by omega) (by simp)) ?_
  refine J.z (yl_fieldAddr rfl rfl Tryz.underlying47 rfl Tryz.sizeOf5 rfl) ?_
  refine J.z (yl_load rfl rfl Tryz.isAgg5 (Blk.imm hsbk) (row_fcell subC_len hsd hsget 0 (by decide))) ?_
  refine J.op rfl (op_pure rfl rfl rfl rfl rfl (has_ok codes sb.code (by omega) _) ?_)
  refine J.z (yl_assign rfl rfl) ?_
  refine J.nil (Ej.seq (Cj.seq (Cj.region (J.z (yl_move rfl rfl) ?_))))
  refine J.nil (Ej.seq (Cj.cond rfl (fun hc3 => ?_) (fun hc3 => ?_)))
  ·
   rw [if_pos hc3] at hnx
   refine Cj.region (J.z (yl_move rfl rfl) ?_)
   refine J.z (yl_fieldAddr (off' := 3) rfl rfl Tryz.underlying35 rfl Tryz.sizeOf33 rfl) ?_
   refine J.z (yl_load rfl rfl Tryz.isAgg33 (Blk.at 0 rfl) rfl) ?_
   refine J.eqv 26 rfl (show _ = .slice (some ⟨sbk, so, none⟩) f.subs.length c2 from hsv) ?_
   refine J.z (yl_move rfl rfl) ?_
   refine J.z (yl_indexAddr (off' := so + j * 2) rfl rfl rfl Tryz.underlying33 Tryz.sizeOf47 (by omega) (by omega) (by simp)) ?_
   refine J.z (yl_fieldAddr rfl rfl Tryz.underlying47 rfl Tryz.sizeOf9 rfl) ?_
   refine J.z (yl_load rfl rfl Tryz.isAgg9 (Blk.imm hsbk) (row_fcell subC_len hsd hsget 1 (by decide))) ?_
   refine J.op rfl (op_buildSlice rfl rfl rfl Tryz.underlying31 Tryz.sizeOf9 Tryz.zeroValue9 rfl rfl rfl rfl (LCat.one rfl LCat.none) ?_)
   intro b4 hb4
   refine J.op rfl (op_append (by' := 15) [_, _] rfl rfl rfl rfl rfl Tryz.underlying31 (.inr ⟨_, Tryz.underlying31⟩) (by kernel_rfl) Tryz.sizeOf9 Tryz.zeroValue9 rfl hg rfl (Src.slice (Blk.at 0 rfl) rfl rfl rfl) (by omega) ?_)
   intro g5 hg5
   refine J.z (yl_assign rfl rfl) ?_
   refine J.nil (Ej.blkNormal (Ej.seq (Cj.region (J.z (yl_move rfl rfl) ?_))))
   refine J.z (yl_add rfl rfl rfl (w64 (by omega))) ?_
   refine J.z (yl_assign rfl rfl) ?_
   refine J.nil (Ej.keep (Keeps.d (Keeps.k Keeps.r)) ?_)
   refine Ej.round (j + 1, g5) ⟨by dsimp only; omega, by dsimp only; rw [hnx, List.map_append, List.length_append]; exact hg5⟩ (by dsimp only; omega) ⟨rfl, rfl, by dsimp only; rw [hnx, List.length_append]; rfl, rfl, trivial⟩ rfl (by dsimp only; rw [hnx, List.map_append]; rfl)
  ·
   rw [if_neg (fun e => Bool.noConfusion (e.symm.trans hc3))] at hnx
   refine Cj.skip (Ej.blkNormal (Ej.seq (Cj.region (J.z (yl_move rfl rfl) ?_))))
   refine J.z (yl_add rfl rfl rfl (w64 (by omega))) ?_
   refine J.z (yl_assign rfl rfl) ?_
   refine J.nil (Ej.round (j + 1, g) ⟨by dsimp only; omega, by dsimp only; rw [hnx, List.append_nil]; exact hg⟩ (by dsimp only; omega) ⟨rfl, rfl, by dsimp only; rw [hnx, List.append_nil]; rfl, rfl, trivial⟩ rfl (by dsimp only; rw [hnx, List.append_nil]))
 ·
  have hc2p := of_decide_eq_false hc2
  refine Cj.exit (Ej.seqExit (Ej.loopExit (Ej.blkExit (Ej.seq (Cj.seq ?_)))))
  have hfull : f.subs.take j = f.subs := List.take_of_length_le (by omega)
  rw [hfull] at hg ⊢
  have htl2 := textOf_len f codes
  refine Cj.perm (H' := gH _ _ _ ++ [_]) List.perm_append_comm ?_
  refine Cj.keepS hg (fun I8 hle8 hv => ?_)
  refine Cj.region (J.z (yl_move rfl rfl) ?_)
  refine J.op rfl (op_pure rfl rfl rfl rfl rfl (rJoin_ok (tx codes f.subs) _ (by have := tx_len codes f.subs; omega) (by have e : Ke.join (tx codes f.subs) = Ke.textOf f codes := rfl; rw [e]; omega) _ (StrP.of hv)) ?_)
  refine J.z (yl_assign rfl rfl) ?_
  refine J.nil (Ej.seq (Cj.ret (Ej.bare ?_)))
  refine Ej.ret1 rfl rfl rfl ?_
  exact ⟨rfl, rfl⟩
set_option maxRecDepth 20000 in
theorem rFirst_ok (fs : List Ke.Fld) (v : Value) (rk rl : UInt8) (tag : List UInt8) (hn : fs.length ≤ 2000000) (I : Heap) (hr : RecS I fs v) : Ctr Tryz.prog 19 [recV rk rl v, str tag] I []
    (fun e _ H' => e = .returned (.tuple #[.agg (fldC (Ke.first fs tag)).toArray, .bool (Ke.find fs tag).isSome]) ∧ H' = []) := by
 obtain ⟨⟨p, c, rfl, hc, hp⟩, hsub⟩ := hr
 refine Ctr.of_body Tryz.func19 rfl (by decide) (Nat.le_of_ble_eq_true rfl) ?_
 intro w0 hw0
 refine Cj.seq (Cj.region (J.op rfl (op_box rfl rfl rfl rfl rfl ?_)))
 intro b1 hb1
 refine J.op rfl (op_alloc rfl rfl rfl Tryz.zeroValue35 rfl ?_)
 intro b2 hb2
 refine J.z (yl_assign rfl rfl) ?_
 refine J.nil (Ej.seq (Cj.seq (Cj.seq (Cj.region (J.z (yl_assign rfl rfl) ?_)))))
 refine J.nil (Ej.seq (Cj.block (Cj.loop (ι := Nat) (fun j => j ≤ fs.length ∧ ∀ g ∈ fs.take j, g.tag ≠ tag) (fun j => fs.length - j) (fun j => [(1, str tag), (2, ptr b1 0), (4, ptr b2 0), (6, i64 (j : Int))]) (fun j => _) (fun j => [(b2, cel 35 (fldC Ke.zf)), (b1, cel 26 [u8 rk, u8 rl, .slice p fs.length c])]) 0 ⟨Nat.zero_le _, fun g hg => by simp at hg⟩ ⟨rfl, rfl, rfl, rfl, trivial⟩ rfl rfl ?_)))
 rintro j ⟨hj, hall⟩
 refine Cj.seq (Cj.seq (Cj.region (J.z (yl_move rfl rfl) ?_)))
 refine J.z (yl_fieldAddr (off' := 2) rfl rfl Tryz.underlying26 rfl Tryz.sizeOf23 rfl) ?_
 refine J.z (yl_load rfl rfl Tryz.isAgg23 (Blk.at 1 rfl) rfl) ?_
 refine J.z (yl_lenSlice rfl rfl Tryz.underlying23) ?_
 refine J.z (yl_lss rfl rfl rfl) ?_
 refine J.nil (Ej.seq (Cj.cond rfl (fun hc3 => ?_) (fun hc3 => ?_)))
 ·
  have hc3p := of_decide_eq_true hc3
  refine Cj.skip (Ej.seq (Cj.seq (Cj.block (Cj.seq ?_))))
  have hlt : j < fs.length := by omega
  obtain ⟨f, hget⟩ : ∃ f, fs[j]? = some f := ⟨_, List.getElem?_eq_getElem hlt⟩
  obtain ⟨fb, fo, fcs, fty, ffr, sp, rfl, hfb, hfd⟩ := hp (ne_nil_of hlt)
  obtain ⟨p2, c2, hsv, hc2, hp2⟩ := hsub f (List.mem_of_getElem? hget)
  refine Cj.region (J.z (yl_fieldAddr (off' := 2) rfl rfl Tryz.underlying26 rfl Tryz.sizeOf23 rfl) ?_)
  refine J.z (yl_load rfl rfl Tryz.isAgg23 (Blk.at 1 rfl) rfl) ?_
  refine J.z (yl_move rfl rfl) ?_
  refine J.z (yl_indexAddr (off' := fo + j * 4) rfl rfl rfl Tryz.underlying23 Tryz.sizeOf35 (by omega) (by omega) (by simp)) ?_
  refine J.z (yl_fieldAddr rfl rfl Tryz.underlying35 rfl Tryz.sizeOf9 rfl) ?_
  refine J.z (yl_load rfl rfl Tryz.isAgg9 (Blk.imm hfb) (row_fcell fldC_len hfd hget 0 (by decide))) ?_
  refine J.z (yl_move rfl rfl) ?_
  refine J.z (yl_eqlStr rfl rfl rfl) ?_
  refine J.nil (Ej.seq (Cj.cond rfl (fun hc4 => ?_) (fun hc4 => ?_)))
  ·
   have hc4p := eq_of_beq hc4
   have ht : f.tag = tag := eq_of_beq hc4
   refine Cj.seq (Cj.region (J.z (yl_fieldAddr (off' := 2) rfl rfl Tryz.underlying26 rfl Tryz.sizeOf23 rfl) ?_))
   refine J.z (yl_load rfl rfl Tryz.isAgg23 (Blk.at 1 rfl) rfl) ?_
   refine J.z (yl_move rfl rfl) ?_
   refine J.z (yl_indexAddr (off' := fo + j * 4) rfl rfl rfl Tryz.underlying23 Tryz.sizeOf35 (by omega) (by omega) (by simp)) ?_
   refine J.z (yl_loadAgg rfl rfl Tryz.isAgg35 Tryz.sizeOf35 (Blk.imm hfb) (row_from fldC_len hfd hget) rfl) ?_
   refine J.op rfl (op_store 0 rfl rfl rfl rfl rfl (fldC_one hsv) Tryz.sizeOf35 rfl rfl (LSpl.c (LSpl.c (LSpl.c (LSpl.c LSpl.z)))) LSet.z ?_)
   refine J.z (yl_assign rfl rfl) ?_
   refine J.nil (Ej.seq (Cj.ret (Ej.blkRet (Ej.seqRet (Ej.loopRet (Ej.blkRet (Ej.seqRet ?_)))))))
   have hfind := find_some hall hget ht
   have hfirst : Ke.first fs tag = f := by unfold Ke.first; rw [hfind]; rfl
   rw [hfirst, hfind]
   refine Ej.retCT (Keeps.d (Keeps.d Keeps.n)) rfl rfl rfl (Blk.at 0 rfl) Tryz.isAgg35 Tryz.sizeOf35 rfl rfl ?_
   exact ⟨rfl, rfl⟩
  ·
   have hc4p := ne_of_beq_false hc4
   have hnt : f.tag ≠ tag := ne_of_beq_false hc4
   refine Cj.skip (Ej.blkNormal (Ej.seq (Cj.region (J.z (yl_move rfl rfl) ?_))))
   refine J.z (yl_add rfl rfl rfl (w64 (by omega))) ?_
   refine J.z (yl_assign rfl rfl) ?_
   refine J.nil (Ej.round (j + 1) ⟨by omega, tags_next hall hget hnt⟩ (by omega) ⟨rfl, rfl, rfl, rfl, trivial⟩ rfl rfl)
 ·
  have hc3p := of_decide_eq_false hc3
  refine Cj.exit (Ej.seqExit (Ej.loopExit (Ej.blkExit (Ej.seq (Cj.seq (Cj.region (J.z (yl_buildS (pl := #[(0, 1), (1, 1), (2, 1), (3, 1)]) rfl rfl Tryz.zeroValue35 rfl Tryz.underlying35 (fun w => by simp [Tryz.sizeOf33, Tryz.sizeOf9]) LBld.none) ?_)))))))
  refine J.op rfl (op_store 0 rfl rfl rfl rfl rfl rfl Tryz.sizeOf35 rfl rfl (LSpl.c (LSpl.c (LSpl.c (LSpl.c LSpl.z)))) LSet.z ?_)
  refine J.z (yl_assign rfl rfl) ?_
  refine J.nil (Ej.seq (Cj.ret ?_))
  have hfull : fs.take j = fs := List.take_of_length_le (by omega)
  rw [hfull] at hall
  have hfind := find_none hall
  have hfirst : Ke.first fs tag = Ke.zf := by unfold Ke.first; rw [hfind]; rfl
  rw [hfirst, hfind]
  refine Ej.retCT (Keeps.d (Keeps.d Keeps.n)) rfl rfl rfl (Blk.at 0 rfl) Tryz.isAgg35 Tryz.sizeOf35 rfl rfl ?_
  exact ⟨rfl, rfl⟩
theorem first_row {I : Heap} {fs : List Ke.Fld} {v : Value} (tag : List UInt8) (h : RecS I fs v) : RowS subC I (Ke.first fs tag).subs (Ke.first fs tag).sv := by
  rcases first_in fs tag with e | e
  · rw [e]; exact RowS.nil
  · exact h.2 _ e
set_option maxRecDepth 20000 in
theorem rTitle_ok (fs : List Ke.Fld) (v : Value) (rk rl : UInt8) (hok : FOK fs) (I : Heap) (hr : RecS I fs v) : Pure Tryz.prog 38 [recV rk rl v] I (str (Ke.title fs)) := by
 refine Ctr.toPure ?_
 have hfs := hok.1
 have hfo := first_ok [50, 52, 53] hok
 have htl := textOf_len (Ke.first fs [50, 52, 53]) [97, 98]
 obtain ⟨p, n, c0, hsv⟩ := first_sv [50, 52, 53] hr
 have hsr := first_row [50, 52, 53] hr
 refine Ctr.of_body Tryz.func38 rfl (by decide) (Nat.le_of_ble_eq_true rfl) ?_
 intro w0 hw0
 refine Cj.seq (Cj.region (J.op rfl (op_box rfl rfl rfl rfl rfl ?_)))
 intro b1 hb1
 refine J.z (yl_assign rfl rfl) ?_
 refine J.nil (Ej.seq (Cj.seq (Cj.region (J.z (yl_loadAgg rfl rfl Tryz.isAgg26 Tryz.sizeOf26 (Blk.at 0 rfl) rfl rfl) ?_))))
 refine J.op rfl (op_call (H1 := []) rfl rfl rfl rfl rfl (rFirst_ok fs _ rk rl [50, 52, 53] hfs _ hr) ?_ (fun _ _ _ _ h => by cases h.1) (fun _ _ h => by cases h.1))
 intro v2 I3 H4 hle5 hp6
 have hr := hr.mono hle5
 have hsr := hsr.mono hle5
 obtain ⟨h, rfl⟩ := hp6; cases h
 refine J.z (yl_move rfl rfl) ?_
 refine J.z (yl_extract rfl rfl rfl) ?_
 refine J.z (yl_extract rfl rfl rfl) ?_
 refine J.op rfl (op_alloc rfl rfl rfl Tryz.zeroValue35 rfl ?_)
 intro b7 hb7
 refine J.op rfl (op_store 0 rfl rfl rfl rfl rfl (fldC_one hsv) Tryz.sizeOf35 rfl rfl (LSpl.c (LSpl.c (LSpl.c (LSpl.c LSpl.z)))) LSet.z ?_)
 refine J.z (yl_assign rfl rfl) ?_
 refine J.nil (Ej.seq (Cj.seq (Cj.region (J.z (yl_assign rfl rfl) ?_))))
 refine J.nil (Ej.seq (Cj.seq (Cj.seq (Cj.region (J.z (yl_fieldAddr (off' := 1) rfl rfl Tryz.underlying35 rfl Tryz.sizeOf9 rfl) ?_)))))
 refine J.z (yl_load rfl rfl Tryz.isAgg9 (Blk.at 0 rfl) rfl) ?_
 refine J.z (yl_lenStr rfl rfl Tryz.underlying9) ?_
 refine J.z (yl_gtr rfl rfl rfl) ?_
 refine J.z (yl_move rfl rfl) ?_
 refine J.split 15 rfl (fun hg8 => ?_) (fun hg8 => ?_)
 ·
  have hg8p := of_decide_eq_true hg8
  have hl1 : 1 < (Ke.first fs [50, 52, 53]).ind.length := by omega
  obtain ⟨c, hget⟩ : ∃ c, (Ke.first fs [50, 52, 53]).ind[1]? = some c := ⟨_, List.getElem?_eq_getElem hl1⟩
  have hcl := c.toNat_lt
  refine J.opG 4 15 true _ rfl rfl rfl hg8 (op_yld (yl_fieldAddr (off' := 1) rfl rfl Tryz.underlying35 rfl Tryz.sizeOf9 rfl) rfl rfl ?_)
  refine J.opG 4 15 true _ rfl rfl rfl hg8 (op_yld (yl_load rfl rfl Tryz.isAgg9 (Blk.at 0 rfl) rfl) rfl rfl ?_)
  refine J.opG 4 15 true _ rfl rfl rfl hg8 (op_yld (yl_index rfl rfl rfl Tryz.underlying9 (by decide) hget) rfl rfl ?_)
  refine J.opG 4 15 true _ rfl rfl rfl hg8 (op_yld (yl_geq rfl rfl rfl) rfl rfl ?_)
  refine J.z (yl_pick1 rfl rfl hg8 rfl) ?_
  refine J.z (yl_move rfl rfl) ?_
  refine J.split 21 rfl (fun hg9 => ?_) (fun hg9 => ?_)
  ·
   have hg9p := of_decide_eq_true hg9
   refine J.opG 10 21 true _ rfl rfl rfl hg9 (op_yld (yl_fieldAddr (off' := 1) rfl rfl Tryz.underlying35 rfl Tryz.sizeOf9 rfl) rfl rfl ?_)
   refine J.opG 10 21 true _ rfl rfl rfl hg9 (op_yld (yl_load rfl rfl Tryz.isAgg9 (Blk.at 0 rfl) rfl) rfl rfl ?_)
   refine J.opG 10 21 true _ rfl rfl rfl hg9 (op_yld (yl_index rfl rfl rfl Tryz.underlying9 (by decide) hget) rfl rfl ?_)
   refine J.opG 10 21 true _ rfl rfl rfl hg9 (op_yld (yl_leq rfl rfl rfl) rfl rfl ?_)
   refine J.z (yl_pick1 rfl rfl hg9 rfl) ?_
   refine J.nil (Ej.seq (Cj.cond rfl (fun hc10 => ?_) (fun hc10 => ?_)))
   ·
    have hc10p := of_decide_eq_true hc10
    have hd : Ke.digit c = true := Ke.digit_iff.2 (by omega)
    refine Cj.region (J.z (yl_fieldAddr (off' := 1) rfl rfl Tryz.underlying35 rfl Tryz.sizeOf9 rfl) ?_)
    refine J.z (yl_load rfl rfl Tryz.isAgg9 (Blk.at 0 rfl) rfl) ?_
    refine J.z (yl_index rfl rfl rfl Tryz.underlying9 (by decide) hget) ?_
    refine J.z (yl_sub rfl rfl rfl (w8 (by omega))) ?_
    refine J.z (yl_convInt rfl rfl Tryz.underlying5 Tryz.underlying3) ?_
    refine J.eqv 31 rfl (show _ = i64 ((c.toNat - 48 : Nat) : Int) from (congrArg i64 ((w64 (by omega)).trans (by omega)))) ?_
    refine J.z (yl_assign rfl rfl) ?_
    refine J.nil (Ej.seq (Cj.seq (Cj.region (J.z (yl_loadAgg rfl rfl Tryz.isAgg35 Tryz.sizeOf35 (Blk.at 0 rfl) rfl rfl) ?_))))
    refine J.op rfl (op_pure rfl rfl rfl rfl rfl (rText_ok (Ke.first fs [50, 52, 53]) [97, 98] (by decide) hfo.1 hfo.2.1 _ hsr) ?_)
    refine J.z (yl_move rfl rfl) ?_
    refine J.op rfl (op_pure rfl rfl rfl rfl rfl (rSort_ok (Ke.textOf (Ke.first fs [50, 52, 53]) [97, 98]) _ (by omega) _) ?_)
    refine J.z (yl_assign rfl rfl) ?_
    refine J.nil (Ej.seq (Cj.ret (Ej.bare ?_)))
    refine Ej.ret1 rfl rfl rfl ?_
    have hsk := (skip_at hget).trans (by rw [if_pos (by simp [Ke.digits, hd])])
    unfold Ke.title
    rw [hsk]
    exact ⟨rfl, rfl⟩
   ·
    have hc10p := of_decide_eq_false hc10
    refine Cj.skip (Ej.seq (Cj.seq (Cj.region (J.z (yl_loadAgg rfl rfl Tryz.isAgg35 Tryz.sizeOf35 (Blk.at 0 rfl) rfl rfl) ?_))))
    refine J.op rfl (op_pure rfl rfl rfl rfl rfl (rText_ok (Ke.first fs [50, 52, 53]) [97, 98] (by decide) hfo.1 hfo.2.1 _ hsr) ?_)
    refine J.z (yl_move rfl rfl) ?_
    refine J.op rfl (op_pure rfl rfl rfl rfl rfl (rSort_ok (Ke.textOf (Ke.first fs [50, 52, 53]) [97, 98]) _ (by omega) _) ?_)
    refine J.z (yl_assign rfl rfl) ?_
    refine J.nil (Ej.seq (Cj.ret (Ej.bare ?_)))
    refine Ej.ret1 rfl rfl rfl ?_
    have hsk := (skip_at hget).trans (by rw [if_neg]; intro e; have := Ke.digit_iff.1 (show Ke.digit c = true by simpa [Ke.digits] using e); omega)
    unfold Ke.title
    rw [hsk]
    exact ⟨rfl, rfl⟩
  ·
   have hg9p := of_decide_eq_false hg9
   refine J.skip 10 21 22 true _ rfl rfl rfl hg9 rfl rfl ?_
   refine J.skip 10 21 23 true _ rfl rfl rfl hg9 rfl rfl ?_
   refine J.skip 10 21 24 true _ rfl rfl rfl hg9 rfl rfl ?_
   refine J.skip 10 21 25 true _ rfl rfl rfl hg9 rfl rfl ?_
   refine J.z (yl_pick0 rfl rfl hg9 rfl) ?_
   refine J.nil (Ej.seq (Cj.cond rfl (fun hc11 => Bool.noConfusion (Eq.trans (Eq.symm rfl) hc11)) (fun hc11 => ?_)))
   refine Cj.skip (Ej.seq (Cj.seq (Cj.region (J.z (yl_loadAgg rfl rfl Tryz.isAgg35 Tryz.sizeOf35 (Blk.at 0 rfl) rfl rfl) ?_))))
   refine J.op rfl (op_pure rfl rfl rfl rfl rfl (rText_ok (Ke.first fs [50, 52, 53]) [97, 98] (by decide) hfo.1 hfo.2.1 _ hsr) ?_)
   refine J.z (yl_move rfl rfl) ?_
   refine J.op rfl (op_pure rfl rfl rfl rfl rfl (rSort_ok (Ke.textOf (Ke.first fs [50, 52, 53]) [97, 98]) _ (by omega) _) ?_)
   refine J.z (yl_assign rfl rfl) ?_
   refine J.nil (Ej.seq (Cj.ret (Ej.bare ?_)))
   refine Ej.ret1 rfl rfl rfl ?_
   have hsk := (skip_at hget).trans (by rw [if_neg]; intro e; have := Ke.digit_iff.1 (show Ke.digit c = true by simpa [Ke.digits] using e); omega)
   unfold Ke.title
   rw [hsk]
   exact ⟨rfl, rfl⟩
 ·
  have hg8p := of_decide_eq_false hg8
  refine J.skip 4 15 16 true _ rfl rfl rfl hg8 rfl rfl ?_
  refine J.skip 4 15 17 true _ rfl rfl rfl hg8 rfl rfl ?_
  refine J.skip 4 15 18 true _ rfl rfl rfl hg8 rfl rfl ?_
  refine J.skip 4 15 19 true _ rfl rfl rfl hg8 rfl rfl ?_
  refine J.z (yl_pick0 rfl rfl hg8 rfl) ?_
  refine J.z (yl_move rfl rfl) ?_
  refine J.skip 10 21 22 true _ rfl rfl rfl rfl rfl rfl ?_
  refine J.skip 10 21 23 true _ rfl rfl rfl rfl rfl rfl ?_
  refine J.skip 10 21 24 true _ rfl rfl rfl rfl rfl rfl ?_
  refine J.skip 10 21 25 true _ rfl rfl rfl rfl rfl rfl ?_
  refine J.z (yl_pick0 rfl rfl rfl rfl) ?_
  refine J.nil (Ej.seq (Cj.cond rfl (fun hc12 => Bool.noConfusion (Eq.trans (Eq.symm rfl) hc12)) (fun hc12 => ?_)))
  refine Cj.skip (Ej.seq (Cj.seq (Cj.region (J.z (yl_loadAgg rfl rfl Tryz.isAgg35 Tryz.sizeOf35 (Blk.at 0 rfl) rfl rfl) ?_))))
  refine J.op rfl (op_pure rfl rfl rfl rfl rfl (rText_ok (Ke.first fs [50, 52, 53]) [97, 98] (by decide) hfo.1 hfo.2.1 _ hsr) ?_)
  refine J.z (yl_move rfl rfl) ?_
  refine J.op rfl (op_pure rfl rfl rfl rfl rfl (rSort_ok (Ke.textOf (Ke.first fs [50, 52, 53]) [97, 98]) _ (by omega) _) ?_)
  refine J.z (yl_assign rfl rfl) ?_
  refine J.nil (Ej.seq (Cj.ret (Ej.bare ?_)))
  refine Ej.ret1 rfl rfl rfl ?_
  have hsk := skip_no (f := (Ke.first fs [50, 52, 53])) (by omega)
  unfold Ke.title
  rw [hsk]
  exact ⟨rfl, rfl⟩
set_option maxRecDepth 20000 in
theorem rput_ok (l : List (List UInt8)) (v : Value) (s : List UInt8) (hl : l.length ≤ 4300000000000) (I : Heap) (hv0 : StrP I l v) : Ctr Tryz.prog 93 [v, str s] I [] (fun e I' H' => ∃ w, e = .returned w ∧ StrP I' (Ke.put l s) w ∧ H' = []) := by
 have hl0 := hv0
 obtain ⟨p, c, rfl, hc, hp⟩ := hv0
 refine Ctr.of_body Tryz.func93 rfl (by decide) (Nat.le_of_ble_eq_true rfl) ?_
 intro w0 hw0
 refine Cj.seq (Cj.region (J.z (yl_assign rfl rfl) ?_))
 refine J.nil (Ej.seq (Cj.seq (Cj.region (J.z (yl_assign rfl rfl) ?_))))
 refine J.nil (Ej.seq (Cj.seq (Cj.region (J.z (yl_assign rfl rfl) ?_))))
 refine J.nil (Ej.seq (Cj.seq (Cj.seq (Cj.region (J.z (yl_assign rfl rfl) ?_)))))
 refine J.nil (Ej.seq (Cj.block (Cj.loop (ι := Nat × Bool × List (List UInt8) × Gs) (fun y => y.1 ≤ l.length ∧ s ∉ l.take y.1 ∧ Ke.pg s false l = y.2.2.1 ++ Ke.pg s y.2.1 (l.drop y.1) ∧ y.2.2.1.length ≤ 2 * y.1 ∧ gOk w0.heap.size 1 y.2.2.1.length (y.2.2.1.map str) y.2.2.2) (fun y => l.length - y.1) (fun y => [(0, .slice p l.length c), (1, str s), (5, gV y.2.2.1.length y.2.2.2), (6, .bool y.2.1), (7, i64 (y.1 : Int))]) (fun y => _) (fun y => gH 9 (y.2.2.1.map str) y.2.2.2) (0, false, [], none) ⟨Nat.zero_le _, by simp, rfl, Nat.zero_le _, rfl, rfl⟩ ⟨rfl, rfl, rfl, rfl, rfl, trivial⟩ rfl rfl ?_)))
 rintro ⟨k, d, acc, g⟩ ⟨hk, hno, hpg, hal, hg⟩
 dsimp only at hk hno hpg hal hg ⊢
 refine Cj.seq (Cj.seq (Cj.region (J.z (yl_move rfl rfl) ?_)))
 refine J.z (yl_move rfl rfl) ?_
 refine J.z (yl_lenSlice rfl rfl Tryz.underlying31) ?_
 refine J.z (yl_lss rfl rfl rfl) ?_
 refine J.nil (Ej.seq (Cj.cond rfl (fun hc1 => ?_) (fun hc1 => ?_)))
 ·
  have hc1p := of_decide_eq_true hc1
  refine Cj.skip (Ej.seq (Cj.seq (Cj.block (Cj.seq (Cj.seq ?_)))))
  have hlt : k < l.length := by omega
  obtain ⟨x, hget⟩ : ∃ x, l[k]? = some x := ⟨_, List.getElem?_eq_getElem hlt⟩
  have hdr := drop_cons hget
  obtain ⟨lb, lo, lcs, lty, lfr, sp, rfl, hlb, hld⟩ := hp (ne_nil_of hlt)
  refine Cj.region (J.z (yl_move rfl rfl) ?_)
  refine J.z (yl_move rfl rfl) ?_
  refine J.z (yl_indexAddr (off' := lo + k) rfl rfl rfl Tryz.underlying31 Tryz.sizeOf9 (by omega) (by omega) (by simp)) ?_
  refine J.z (yl_load rfl rfl Tryz.isAgg9 (Blk.imm hlb) (str_from hld hget)) ?_
  refine J.z (yl_move rfl rfl) ?_
  refine J.z (yl_eqlStr rfl rfl rfl) ?_
  refine J.nil (Ej.seq (Cj.cond rfl (fun hc2 => ?_) (fun hc2 => ?_)))
  ·
   have hc2p := eq_of_beq hc2
   have hxs : x = s := eq_of_beq hc2
   refine Cj.seq (Cj.region (J.z (yl_move rfl rfl) ?_))
   refine J.z (yl_assign rfl rfl) ?_
   refine J.nil (Ej.seq (Cj.ret (Ej.seqRet (Ej.blkRet (Ej.seqRet (Ej.loopRet (Ej.blkRet (Ej.seqRet (Ej.bare ?_)))))))))
   refine Ej.ret1 rfl rfl rfl ?_
   rw [put_in (hxs ▸ hget)]
   exact ⟨_, rfl, hl0, rfl⟩
  ·
   have hc2p := ne_of_beq_false hc2
   have hne : x ≠ s := ne_of_beq_false hc2
   refine Cj.skip (Ej.seq (Cj.seq (Cj.seq (Cj.region (J.z (yl_move rfl rfl) ?_)))))
   refine J.z (yl_move rfl rfl) ?_
   refine J.z (yl_move rfl rfl) ?_
   refine J.z (yl_indexAddr (off' := lo + k) rfl rfl rfl Tryz.underlying31 Tryz.sizeOf9 (by omega) (by omega) (by simp)) ?_
   refine J.z (yl_load rfl rfl Tryz.isAgg9 (Blk.imm hlb) (str_from hld hget)) ?_
   refine J.z (yl_lssStr rfl rfl rfl) ?_
   refine J.z (yl_move rfl rfl) ?_
   refine J.split 27 rfl (fun hg3 => ?_) (fun hg3 => ?_)
   ·
    have hlx : s < x := of_decide_eq_true hg3
    refine J.opG 6 27 true _ rfl rfl rfl hg3 (op_yld (yl_move rfl rfl) rfl rfl ?_)
    refine J.opG 6 27 true _ rfl rfl rfl hg3 (op_yld (yl_not rfl rfl) rfl rfl ?_)
    refine J.z (yl_pick1 rfl rfl hg3 rfl) ?_
    refine J.nil (Ej.seq (Cj.cond rfl (fun hc4 => ?_) (fun hc4 => ?_)))
    ·
     have hd0 : d = false := by have h := hc4; simpa using h
     have hsx : s < x ∧ d = false := ⟨hlx, hd0⟩
     refine Cj.seq (Cj.region (J.z (yl_move rfl rfl) ?_))
     refine J.z (yl_move rfl rfl) ?_
     refine J.op rfl (op_buildSlice rfl rfl rfl Tryz.underlying31 Tryz.sizeOf9 Tryz.zeroValue9 rfl rfl rfl rfl (LCat.one rfl LCat.none) ?_)
     intro b5 hb5
     refine J.op rfl (op_append (by' := 15) [_] rfl rfl rfl rfl rfl Tryz.underlying31 (.inr ⟨_, Tryz.underlying31⟩) (by kernel_rfl) Tryz.sizeOf9 Tryz.zeroValue9 rfl hg rfl (Src.slice (Blk.at 0 rfl) rfl rfl rfl) (by omega) ?_)
     intro g6 hg6
     refine J.z (yl_assign rfl rfl) ?_
     refine J.nil (Ej.seq (Cj.region (J.z (yl_assign rfl rfl) ?_)))
     refine J.nil (Ej.seq (Cj.region (J.z (yl_move rfl rfl) ?_)))
     refine J.z (yl_move rfl rfl) ?_
     refine J.z (yl_move rfl rfl) ?_
     refine J.z (yl_indexAddr (off' := lo + k) rfl rfl rfl Tryz.underlying31 Tryz.sizeOf9 (by omega) (by omega) (by simp)) ?_
     refine J.z (yl_load rfl rfl Tryz.isAgg9 (Blk.imm hlb) (str_from hld hget)) ?_
     refine J.op rfl (op_buildSlice rfl rfl rfl Tryz.underlying31 Tryz.sizeOf9 Tryz.zeroValue9 rfl rfl rfl rfl (LCat.one rfl LCat.none) ?_)
     intro b7 hb7
     refine J.op rfl (op_append (by' := 15) [_, _] rfl rfl rfl rfl rfl Tryz.underlying31 (.inr ⟨_, Tryz.underlying31⟩) (by kernel_rfl) Tryz.sizeOf9 Tryz.zeroValue9 rfl hg6 rfl (Src.slice (Blk.at 0 rfl) rfl rfl rfl) (by omega) ?_)
     intro g8 hg8
     refine J.z (yl_assign rfl rfl) ?_
     refine J.nil (Ej.blkNormal (Ej.seq (Cj.region (J.z (yl_move rfl rfl) ?_))))
     refine J.z (yl_add rfl rfl rfl (w64 (by omega))) ?_
     refine J.z (yl_assign rfl rfl) ?_
     refine J.nil (Ej.keep (Keeps.d (Keeps.d Keeps.r)) ?_)
     refine Ej.round (k + 1, true, acc ++ [s] ++ [x], g8) ⟨by dsimp only; omega, mem_next hno hget hne, by dsimp only; rw [hpg, hdr, pg_next, if_pos hsx, hsx.2, decide_eq_true hsx.1, List.append_assoc, List.append_assoc]; rfl, by simp; omega, by dsimp only; rw [List.map_append, List.map_append, List.length_append, List.length_append]; exact hg8⟩ (by dsimp only; omega) ⟨rfl, rfl, by dsimp only; rw [List.length_append, List.length_append]; rfl, rfl, rfl, trivial⟩ rfl (by dsimp only; rw [List.map_append, List.map_append]; rfl)
    ·
     have hd1 : d = true := by have h := hc4; simpa using h
     have hsx : ¬ (s < x ∧ d = false) := fun g => by rw [hd1] at g; cases g.2
     have hdx : (d || decide (s < x)) = d := by rw [hd1]; rfl
     refine Cj.skip (Ej.seq (Cj.region (J.z (yl_move rfl rfl) ?_)))
     refine J.z (yl_move rfl rfl) ?_
     refine J.z (yl_move rfl rfl) ?_
     refine J.z (yl_indexAddr (off' := lo + k) rfl rfl rfl Tryz.underlying31 Tryz.sizeOf9 (by omega) (by omega) (by simp)) ?_
     refine J.z (yl_load rfl rfl Tryz.isAgg9 (Blk.imm hlb) (str_from hld hget)) ?_
     refine J.op rfl (op_buildSlice rfl rfl rfl Tryz.underlying31 Tryz.sizeOf9 Tryz.zeroValue9 rfl rfl rfl rfl (LCat.one rfl LCat.none) ?_)
     intro b9 hb9
     refine J.op rfl (op_append (by' := 15) [_] rfl rfl rfl rfl rfl Tryz.underlying31 (.inr ⟨_, Tryz.underlying31⟩) (by kernel_rfl) Tryz.sizeOf9 Tryz.zeroValue9 rfl hg rfl (Src.slice (Blk.at 0 rfl) rfl rfl rfl) (by omega) ?_)
     intro g10 hg10
     refine J.z (yl_assign rfl rfl) ?_
     refine J.nil (Ej.blkNormal (Ej.seq (Cj.region (J.z (yl_move rfl rfl) ?_))))
     refine J.z (yl_add rfl rfl rfl (w64 (by omega))) ?_
     refine J.z (yl_assign rfl rfl) ?_
     refine J.nil (Ej.keep (Keeps.d Keeps.r) ?_)
     refine Ej.round (k + 1, d, acc ++ [x], g10) ⟨by dsimp only; omega, mem_next hno hget hne, by dsimp only; rw [hpg, hdr, pg_next, if_neg hsx, hdx, List.append_assoc], by simp; omega, by dsimp only; rw [List.map_append, List.length_append]; exact hg10⟩ (by dsimp only; omega) ⟨rfl, rfl, by dsimp only; rw [List.length_append]; rfl, rfl, rfl, trivial⟩ rfl (by dsimp only; rw [List.map_append]; rfl)
   ·
    have hlx : ¬ s < x := of_decide_eq_false hg3
    have hsx : ¬ (s < x ∧ d = false) := fun g => hlx g.1
    have hdx : (d || decide (s < x)) = d := by rw [decide_eq_false hlx, Bool.or_false]
    refine J.skip 6 27 28 true _ rfl rfl rfl hg3 rfl rfl ?_
    refine J.skip 6 27 29 true _ rfl rfl rfl hg3 rfl rfl ?_
    refine J.z (yl_pick0 rfl rfl hg3 rfl) ?_
    refine J.nil (Ej.seq (Cj.cond rfl (fun hc11 => Bool.noConfusion (Eq.trans (Eq.symm rfl) hc11)) (fun hc11 => ?_)))
    refine Cj.skip (Ej.seq (Cj.region (J.z (yl_move rfl rfl) ?_)))
    refine J.z (yl_move rfl rfl) ?_
    refine J.z (yl_move rfl rfl) ?_
    refine J.z (yl_indexAddr (off' := lo + k) rfl rfl rfl Tryz.underlying31 Tryz.sizeOf9 (by omega) (by omega) (by simp)) ?_
    refine J.z (yl_load rfl rfl Tryz.isAgg9 (Blk.imm hlb) (str_from hld hget)) ?_
    refine J.op rfl (op_buildSlice rfl rfl rfl Tryz.underlying31 Tryz.sizeOf9 Tryz.zeroValue9 rfl rfl rfl rfl (LCat.one rfl LCat.none) ?_)
    intro b12 hb12
    refine J.op rfl (op_append (by' := 15) [_] rfl rfl rfl rfl rfl Tryz.underlying31 (.inr ⟨_, Tryz.underlying31⟩) (by kernel_rfl) Tryz.sizeOf9 Tryz.zeroValue9 rfl hg rfl (Src.slice (Blk.at 0 rfl) rfl rfl rfl) (by omega) ?_)
    intro g13 hg13
    refine J.z (yl_assign rfl rfl) ?_
    refine J.nil (Ej.blkNormal (Ej.seq (Cj.region (J.z (yl_move rfl rfl) ?_))))
    refine J.z (yl_add rfl rfl rfl (w64 (by omega))) ?_
    refine J.z (yl_assign rfl rfl) ?_
    refine J.nil (Ej.keep (Keeps.d Keeps.r) ?_)
    refine Ej.round (k + 1, d, acc ++ [x], g13) ⟨by dsimp only; omega, mem_next hno hget hne, by dsimp only; rw [hpg, hdr, pg_next, if_neg hsx, hdx, List.append_assoc], by simp; omega, by dsimp only; rw [List.map_append, List.length_append]; exact hg13⟩ (by dsimp only; omega) ⟨rfl, rfl, by dsimp only; rw [List.length_append]; rfl, rfl, rfl, trivial⟩ rfl (by dsimp only; rw [List.map_append]; rfl)
 ·
  have hc1p := of_decide_eq_false hc1
  refine Cj.exit (Ej.seqExit (Ej.loopExit (Ej.blkExit (Ej.seq (Cj.seq (Cj.seq (Cj.region (J.z (yl_move rfl rfl) ?_))))))))
  refine J.z (yl_not rfl rfl) ?_
  refine J.nil (Ej.seq (Cj.cond rfl (fun hc14 => ?_) (fun hc14 => ?_)))
  ·
   have hd : d = false := by have h := hc14; simpa using h
   refine Cj.region (J.z (yl_move rfl rfl) ?_)
   refine J.z (yl_move rfl rfl) ?_
   refine J.op rfl (op_buildSlice rfl rfl rfl Tryz.underlying31 Tryz.sizeOf9 Tryz.zeroValue9 rfl rfl rfl rfl (LCat.one rfl LCat.none) ?_)
   intro b15 hb15
   refine J.op rfl (op_append (by' := 15) [_] rfl rfl rfl rfl rfl Tryz.underlying31 (.inr ⟨_, Tryz.underlying31⟩) (by kernel_rfl) Tryz.sizeOf9 Tryz.zeroValue9 rfl hg rfl (Src.slice (Blk.at 0 rfl) rfl rfl rfl) (by omega) ?_)
   intro g16 hg16
   refine J.z (yl_assign rfl rfl) ?_
   refine J.nil (Ej.seq (Cj.seq (Cj.keep (Keeps.d Keeps.r) ?_)))
   have hres : Ke.put l s = acc ++ [s] := by rw [put_end (k := k) (by omega) hno, hpg, pg_end (by omega), if_neg (by rw [hd]; decide)]
   refine Cj.perm (H' := gH 9 ((acc ++ [s]).map str) g16 ++ []) (.of_eq (by rw [List.append_nil, List.map_append]; rfl)) ?_
   refine Cj.keepS (show gOk w0.heap.size 1 (acc ++ [s]).length ((acc ++ [s]).map str) g16 by rw [List.map_append, List.length_append]; exact hg16) (fun I8 hle8 hv => ?_)
   replace hv : StrS 9 I8 (Ke.put l s) (gV (acc.length + 1) g16) := by rw [hres]; rw [List.length_append] at hv; exact hv
   refine Cj.region (J.z (yl_move rfl rfl) ?_)
   refine J.z (yl_assign rfl rfl) ?_
   refine J.nil (Ej.seq (Cj.ret (Ej.ret1 rfl rfl rfl ?_)))
   exact ⟨_, rfl, StrP.of hv, rfl⟩
  ·
   have hd : d = true := by have h := hc14; simpa using h
   refine Cj.skip (Ej.seq (Cj.seq ?_))
   have hres : Ke.put l s = acc := by rw [put_end (k := k) (by omega) hno, hpg, pg_end (by omega), if_pos hd, List.append_nil]
   refine Cj.perm (H' := gH 9 ((acc).map str) g ++ []) (.of_eq (by rw [List.append_nil])) ?_
   refine Cj.keepS hg (fun I8 hle8 hv => ?_)
   replace hv : StrS 9 I8 (Ke.put l s) (gV (acc.length) g) := by rw [hres]; exact hv
   refine Cj.region (J.z (yl_move rfl rfl) ?_)
   refine J.z (yl_assign rfl rfl) ?_
   refine J.nil (Ej.seq (Cj.ret (Ej.ret1 rfl rfl rfl ?_)))
   exact ⟨_, rfl, StrP.of hv, rfl⟩
set_option maxRecDepth 20000 in
set_option maxHeartbeats 1000000 in
theorem rAll_ok (fs : List Ke.Fld) (v : Value) (rk rl : UInt8) (hok : FOK fs) (I0 : Heap) (hr0 : RecS I0 fs v) : Ctr Tryz.prog 55 [recV rk rl v] I0 [] (fun e I' H' => ∃ w, e = .returned w ∧ StrP I' (Ke.all fs) w ∧ H' = []) := by
 have hfs := hok.1
 obtain ⟨p, c, rfl, hc, -⟩ := id hr0.1
 have hTl := title_len hok
 have hfo := first_ok [49, 48, 48] hok
 have hal0 := textOf_len (Ke.first fs [49, 48, 48]) [97]
 obtain ⟨p1, n1, c1, hsv1⟩ := first_sv [49, 48, 48] hr0
 refine Ctr.of_body Tryz.func55 rfl (by decide) (Nat.le_of_ble_eq_true rfl) ?_
 intro w0 hw0
 refine Cj.seq (Cj.region (J.op rfl (op_box rfl rfl rfl rfl rfl ?_)))
 intro b1 hb1
 refine J.z (yl_assign rfl rfl) ?_
 refine J.nil (Ej.seq (Cj.seq (Cj.region (J.z (yl_assign rfl rfl) ?_))))
 refine J.nil (Ej.seq (Cj.seq (Cj.seq (Cj.region (J.z (yl_assign rfl rfl) ?_)))))
 refine J.nil (Ej.seq (Cj.block (Cj.loop (ι := Nat × Heap × Value) (fun y => y.1 ≤ fs.length ∧ Le I0 y.2.1 ∧ StrP y.2.1 ((rawB (fs.take y.1)).foldl Ke.put []) y.2.2) (fun y => fs.length - y.1) (fun y => [(1, ptr b1 0), (3, y.2.2), (4, i64 (y.1 : Int))]) (fun y => y.2.1) (fun y => [(b1, cel 26 [u8 rk, u8 rl, .slice p fs.length c])]) (0, _, _) ⟨Nat.zero_le _, Le.refl _, ⟨none, 0, rfl, Nat.le_refl _, fun h => absurd rfl h⟩⟩ ⟨rfl, rfl, rfl, trivial⟩ rfl rfl ?_)))
 rintro ⟨k, J1, w⟩ ⟨hk, hIJ, hv⟩
 dsimp only at hk hIJ hv ⊢
 have hr := hr0.mono hIJ
 have hrl := rawB_len (l := fs.take k) fun f hf => (hok.2 f (List.mem_of_mem_take hf)).1
 rw [List.length_take, Nat.min_eq_left hk] at hrl
 refine Cj.seq (Cj.seq (Cj.region (J.z (yl_move rfl rfl) ?_)))
 refine J.z (yl_fieldAddr (off' := 2) rfl rfl Tryz.underlying26 rfl Tryz.sizeOf23 rfl) ?_
 refine J.z (yl_load rfl rfl Tryz.isAgg23 (Blk.at 0 rfl) rfl) ?_
 refine J.z (yl_lenSlice rfl rfl Tryz.underlying23) ?_
 refine J.z (yl_lss rfl rfl rfl) ?_
 refine J.nil (Ej.seq (Cj.cond rfl (fun hc2 => ?_) (fun hc2 => ?_)))
 ·
  have hc2p := of_decide_eq_true hc2
  refine Cj.skip (Ej.seq (Cj.seq (Cj.block (Cj.seq ?_))))
  have hlt : k < fs.length := by omega
  obtain ⟨f, hget⟩ : ∃ f, fs[k]? = some f := ⟨_, List.getElem?_eq_getElem hlt⟩
  have hnx := rawB_next hget
  have hfm := List.mem_of_getElem? hget
  have hfk := hok.2 f hfm
  obtain ⟨⟨p1, c1, hpe, hc1, hp⟩, hsub⟩ := id hr
  cases hpe
  obtain ⟨fb, fo, fcs, fty, ffr, sp, rfl, hfb, hfd⟩ := hp (ne_nil_of hlt)
  obtain ⟨p2, c2, hsv, hc2, hp2⟩ := hsub f hfm
  refine Cj.region (J.z (yl_fieldAddr (off' := 2) rfl rfl Tryz.underlying26 rfl Tryz.sizeOf23 rfl) ?_)
  refine J.z (yl_load rfl rfl Tryz.isAgg23 (Blk.at 0 rfl) rfl) ?_
  refine J.z (yl_move rfl rfl) ?_
  refine J.z (yl_indexAddr (off' := fo + k * 4) rfl rfl rfl Tryz.underlying23 Tryz.sizeOf35 (by omega) (by omega) (by simp)) ?_
  refine J.z (yl_loadAgg rfl rfl Tryz.isAgg35 Tryz.sizeOf35 (Blk.imm hfb) (row_from fldC_len hfd hget) rfl) ?_
  refine J.op rfl (op_alloc rfl rfl rfl Tryz.zeroValue35 rfl ?_)
  intro b3 hb3
  refine J.op rfl (op_store 0 rfl rfl rfl rfl rfl (fldC_one hsv) Tryz.sizeOf35 rfl rfl (LSpl.c (LSpl.c (LSpl.c (LSpl.c LSpl.z)))) LSet.z ?_)
  refine J.nil (Ej.seq (Cj.seq (Cj.region (J.z (yl_assign rfl rfl) ?_))))
  refine J.nil (Ej.seq (Cj.block (Cj.loop (ι := Nat × Heap × Value) (fun y => y.1 ≤ f.subs.length ∧ Le I0 y.2.1 ∧ StrP y.2.1 ((rawB (fs.take k) ++ bk (f.subs.take y.1)).foldl Ke.put []) y.2.2 ∧ (y.1 = 0 ∨ f.tag = [48, 50, 48])) (fun y => f.subs.length - y.1) (fun y => [(1, ptr b1 0), (3, y.2.2), (4, i64 (k : Int)), (5, ptr b3 0), (6, i64 (y.1 : Int))]) (fun y => y.2.1) (fun y => [(b3, cel 35 (fldC f)), (b1, cel 26 [u8 rk, u8 rl, .slice (some ⟨fb, fo, none⟩) fs.length c])]) (0, _, _) ⟨Nat.zero_le _, hIJ, by rw [show bk (f.subs.take 0) = [] from rfl, List.append_nil]; exact hv, .inl rfl⟩ ⟨rfl, rfl, rfl, rfl, rfl, trivial⟩ rfl rfl ?_)))
  rintro ⟨j, J2, w2⟩ ⟨hj, hIJ, hv, hj0⟩
  dsimp only at hj hIJ hv hj0 ⊢
  have hr := hr0.mono hIJ
  have hbl := bk_len (f.subs.take j)
  rw [List.length_take, Nat.min_eq_left hj] at hbl
  have hal : (rawB (fs.take k) ++ bk (f.subs.take j)).length = (rawB (fs.take k)).length + (bk (f.subs.take j)).length := List.length_append
  have hpl := puts_len (rawB (fs.take k) ++ bk (f.subs.take j)) []
  rw [List.length_nil] at hpl
  refine Cj.seq (Cj.seq (Cj.region (J.z (yl_move rfl rfl) ?_)))
  refine J.z (yl_fieldAddr (off' := 3) rfl rfl Tryz.underlying35 rfl Tryz.sizeOf33 rfl) ?_
  refine J.z (yl_load rfl rfl Tryz.isAgg33 (Blk.at 0 rfl) rfl) ?_
  refine J.eqv 28 rfl (show _ = .slice p2 f.subs.length c2 from hsv) ?_
  refine J.z (yl_lenSlice rfl rfl Tryz.underlying33) ?_
  refine J.z (yl_lss rfl rfl rfl) ?_
  refine J.z (yl_move rfl rfl) ?_
  refine J.split 31 rfl (fun hg4 => ?_) (fun hg4 => ?_)
  ·
   have hg4p := of_decide_eq_true hg4
   refine J.opG 5 31 true _ rfl rfl rfl hg4 (op_yld (yl_fieldAddr (off' := 0) rfl rfl Tryz.underlying35 rfl Tryz.sizeOf9 rfl) rfl rfl ?_)
   refine J.opG 5 31 true _ rfl rfl rfl hg4 (op_yld (yl_load rfl rfl Tryz.isAgg9 (Blk.at 0 rfl) rfl) rfl rfl ?_)
   refine J.opG 5 31 true _ rfl rfl rfl hg4 (op_yld (yl_eqlStr rfl rfl rfl) rfl rfl ?_)
   refine J.z (yl_pick1 rfl rfl hg4 rfl) ?_
   refine J.nil (Ej.seq (Cj.cond rfl (fun hc5 => ?_) (fun hc5 => ?_)))
   ·
    have hc5p := eq_of_beq hc5
    have htg : f.tag = [48, 50, 48] := eq_of_beq hc5
    refine Cj.skip (Ej.seq (Cj.seq (Cj.block (Cj.seq ?_))))
    have hjlt : j < f.subs.length := by omega
    obtain ⟨x, hsget⟩ : ∃ x, f.subs[j]? = some x := ⟨_, List.getElem?_eq_getElem hjlt⟩
    obtain ⟨p3, c3, hsv3, hc3, hp3⟩ := hr.2 f hfm
    obtain ⟨rfl, rfl⟩ : p2 = p3 ∧ c2 = c3 := by rw [hsv] at hsv3; cases hsv3; exact ⟨rfl, rfl⟩
    obtain ⟨sbk, so, scs, sty, sfr, sp2, rfl, hsbk, hsd⟩ := hp3 (ne_nil_of hjlt)
    have hbn := bk_next hsget
    have hxl := text_le (List.mem_of_getElem? hsget)
    have hil := isbn_len x.text
    refine Cj.region (J.z (yl_fieldAddr (off' := 3) rfl rfl Tryz.underlying35 rfl Tryz.sizeOf33 rfl) ?_)
    refine J.z (yl_load rfl rfl Tryz.isAgg33 (Blk.at 0 rfl) rfl) ?_
    refine J.eqv 40 rfl (show _ = .slice (some ⟨sbk, so, none⟩) f.subs.length c2 from hsv) ?_
    refine J.z (yl_move rfl rfl) ?_
    refine J.z (yl_indexAddr (off' := so + j * 2) rfl rfl rfl Tryz.underlying33 Tryz.sizeOf47 (by omega) (by omega) (by simp)) ?_
    refine J.z (yl_fieldAddr rfl rfl Tryz.underlying47 rfl Tryz.sizeOf9 rfl) ?_
    refine J.z (yl_load rfl rfl Tryz.isAgg9 (Blk.imm hsbk) (row_fcell subC_len hsd hsget 1 (by decide))) ?_
    refine J.op rfl (op_pure rfl rfl rfl rfl rfl (rIsbn_ok x.text (by omega) _) ?_)
    refine J.z (yl_move rfl rfl) ?_
    refine J.z (yl_extract rfl rfl rfl) ?_
    refine J.z (yl_extract rfl rfl rfl) ?_
    refine J.z (yl_assign rfl rfl) ?_
    refine J.z (yl_assign rfl rfl) ?_
    refine J.nil (Ej.seq (Cj.seq (Cj.region (J.z (yl_move rfl rfl) ?_))))
    refine J.z (yl_move rfl rfl) ?_
    refine J.split 49 rfl (fun hg6 => ?_) (fun hg6 => ?_)
    ·
     have hi : (Ke.isbn x.text).2 = true := hg6
     refine J.opG 1 49 true _ rfl rfl rfl hg6 (op_yld (yl_fieldAddr (off' := 3) rfl rfl Tryz.underlying35 rfl Tryz.sizeOf33 rfl) rfl rfl ?_)
     refine J.opG 1 49 true _ rfl rfl rfl hg6 (op_yld (yl_load rfl rfl Tryz.isAgg33 (Blk.at 0 rfl) rfl) rfl rfl ?_)
     refine J.eqv 51 rfl (show _ = .slice (some ⟨sbk, so, none⟩) f.subs.length c2 from hsv) ?_
     refine J.opG 1 49 true _ rfl rfl rfl hg6 (op_yld (yl_move rfl rfl) rfl rfl ?_)
     refine J.opG 1 49 true _ rfl rfl rfl hg6 (op_yld (yl_indexAddr (off' := so + j * 2) rfl rfl rfl Tryz.underlying33 Tryz.sizeOf47 (by omega) (by omega) (by simp)) rfl rfl ?_)
     refine J.opG 1 49 true _ rfl rfl rfl hg6 (op_yld (yl_fieldAddr rfl rfl Tryz.underlying47 rfl Tryz.sizeOf5 rfl) rfl rfl ?_)
     refine J.opG 1 49 true _ rfl rfl rfl hg6 (op_yld (yl_load rfl rfl Tryz.isAgg5 (Blk.imm hsbk) (row_fcell subC_len hsd hsget 0 (by decide))) rfl rfl ?_)
     refine J.opG 1 49 true _ rfl rfl rfl hg6 (op_yld (yl_eql rfl rfl rfl) rfl rfl ?_)
     refine J.z (yl_pick1 rfl rfl hg6 rfl) ?_
     refine J.nil (Ej.seq (Cj.cond rfl (fun hc7 => ?_) (fun hc7 => ?_)))
     ·
      have hc7p := eq_of_beq hc7
      have hbs := book_some hi hc7
      refine Cj.region (J.z (yl_move rfl rfl) ?_)
      refine J.z (yl_move rfl rfl) ?_
      refine J.z (yl_cat rfl rfl rfl (by simp only [List.length_cons, List.length_nil]; omega)) ?_
      refine J.op rfl (op_call (H1 := []) rfl rfl rfl rfl rfl (rput_ok _ _ (Ke.isbnPre ++ (Ke.isbn x.text).1) (by omega) _ hv) ?_ (fun _ _ _ _ h => by obtain ⟨_, h, _⟩ := h; cases h) (fun _ _ h => by obtain ⟨_, h, _⟩ := h; cases h))
      intro v8 I9 H10 hle11 hp12
      have hIJ := hIJ.mono hle11
      have hr := hr.mono hle11
      have hv := hv.mono hle11
      have hsbk := hle11 _ _ hsbk
      obtain ⟨wv, h, hv2, rfl⟩ := hp12; cases h
      replace hv := hv2
      refine J.z (yl_assign rfl rfl) ?_
      refine J.nil (Ej.blkNormal (Ej.seq (Cj.region (J.z (yl_move rfl rfl) ?_))))
      refine J.z (yl_add rfl rfl rfl (w64 (by omega))) ?_
      refine J.z (yl_assign rfl rfl) ?_
      refine J.nil (Ej.round (j + 1, _, _) ⟨by dsimp only; omega, hIJ, by dsimp only; rw [hbn, hbs, Option.toList, ← List.append_assoc, puts_one]; exact hv, .inr htg⟩ (by dsimp only; omega) ⟨rfl, rfl, rfl, rfl, rfl, trivial⟩ rfl rfl)
     ·
      have hc7p := ne_of_beq_false hc7
      have hbs : Ke.book x = none := book_none (by rw [hi]; exact hc7)
      refine Cj.skip (Ej.blkNormal (Ej.seq (Cj.region (J.z (yl_move rfl rfl) ?_))))
      refine J.z (yl_add rfl rfl rfl (w64 (by omega))) ?_
      refine J.z (yl_assign rfl rfl) ?_
      refine J.nil (Ej.round (j + 1, _, _) ⟨by dsimp only; omega, hIJ, by dsimp only; rw [hbn, hbs, Option.toList, List.append_nil]; exact hv, .inr htg⟩ (by dsimp only; omega) ⟨rfl, rfl, rfl, rfl, rfl, trivial⟩ rfl rfl)
    ·
     have hi : (Ke.isbn x.text).2 = false := hg6
     have hbs : Ke.book x = none := book_none (by rw [hi]; rfl)
     refine J.skip 1 49 50 true _ rfl rfl rfl hg6 rfl rfl ?_
     refine J.skip 1 49 51 true _ rfl rfl rfl hg6 rfl rfl ?_
     refine J.skip 1 49 52 true _ rfl rfl rfl hg6 rfl rfl ?_
     refine J.skip 1 49 53 true _ rfl rfl rfl hg6 rfl rfl ?_
     refine J.skip 1 49 54 true _ rfl rfl rfl hg6 rfl rfl ?_
     refine J.skip 1 49 55 true _ rfl rfl rfl hg6 rfl rfl ?_
     refine J.skip 1 49 56 true _ rfl rfl rfl hg6 rfl rfl ?_
     refine J.z (yl_pick0 rfl rfl hg6 rfl) ?_
     refine J.nil (Ej.seq (Cj.cond rfl (fun hc13 => Bool.noConfusion (Eq.trans (Eq.symm rfl) hc13)) (fun hc13 => ?_)))
     refine Cj.skip (Ej.blkNormal (Ej.seq (Cj.region (J.z (yl_move rfl rfl) ?_))))
     refine J.z (yl_add rfl rfl rfl (w64 (by omega))) ?_
     refine J.z (yl_assign rfl rfl) ?_
     refine J.nil (Ej.round (j + 1, _, _) ⟨by dsimp only; omega, hIJ, by dsimp only; rw [hbn, hbs, Option.toList, List.append_nil]; exact hv, .inr htg⟩ (by dsimp only; omega) ⟨rfl, rfl, rfl, rfl, rfl, trivial⟩ rfl rfl)
   ·
    have hc5p := ne_of_beq_false hc5
    have hnt : f.tag ≠ [48, 50, 48] := ne_of_beq_false hc5
    refine Cj.exit (Ej.seqExit (Ej.loopExit (Ej.blkExit (Ej.blkNormal (Ej.seq ?_)))))
    have hj00 : j = 0 := hj0.resolve_right hnt
    subst hj00
    have hbs : rawB (fs.take k) ++ Ke.books f = rawB (fs.take k) ++ bk (f.subs.take 0) := by unfold Ke.books; rw [if_neg hnt]; rfl
    refine Cj.region (J.z (yl_move rfl rfl) ?_)
    refine J.z (yl_add rfl rfl rfl (w64 (by omega))) ?_
    refine J.z (yl_assign rfl rfl) ?_
    refine J.nil (Ej.keep (Keeps.d (Keeps.k Keeps.n)) ?_)
    refine Ej.round (k + 1, _, _) ⟨by dsimp only; omega, hIJ, by dsimp only; rw [hnx, hbs]; exact hv⟩ (by dsimp only; omega) ⟨rfl, rfl, rfl, trivial⟩ rfl rfl
  ·
   have hg4p := of_decide_eq_false hg4
   refine J.skip 5 31 32 true _ rfl rfl rfl hg4 rfl rfl ?_
   refine J.skip 5 31 33 true _ rfl rfl rfl hg4 rfl rfl ?_
   refine J.skip 5 31 34 true _ rfl rfl rfl hg4 rfl rfl ?_
   refine J.z (yl_pick0 rfl rfl hg4 rfl) ?_
   refine J.nil (Ej.seq (Cj.cond rfl (fun hc14 => Bool.noConfusion (Eq.trans (Eq.symm rfl) hc14)) (fun hc14 => ?_)))
   refine Cj.exit (Ej.seqExit (Ej.loopExit (Ej.blkExit (Ej.blkNormal (Ej.seq ?_)))))
   have hsf : f.subs.take j = f.subs := List.take_of_length_le (by omega)
   have hbs : rawB (fs.take k) ++ Ke.books f = rawB (fs.take k) ++ bk (f.subs.take j) := by
     rw [hsf]; unfold Ke.books
     by_cases htg : f.tag = [48, 50, 48]
     · rw [if_pos htg]; rfl
     · rw [if_neg htg]; have h0 := hj0.resolve_right htg; have : f.subs = [] := List.length_eq_zero_iff.1 (by omega); rw [this]; rfl
   refine Cj.region (J.z (yl_move rfl rfl) ?_)
   refine J.z (yl_add rfl rfl rfl (w64 (by omega))) ?_
   refine J.z (yl_assign rfl rfl) ?_
   refine J.nil (Ej.keep (Keeps.d (Keeps.k Keeps.n)) ?_)
   refine Ej.round (k + 1, _, _) ⟨by dsimp only; omega, hIJ, by dsimp only; rw [hnx, hbs]; exact hv⟩ (by dsimp only; omega) ⟨rfl, rfl, rfl, trivial⟩ rfl rfl
 ·
  have hc2p := of_decide_eq_false hc2
  refine Cj.exit (Ej.seqExit (Ej.loopExit (Ej.blkExit (Ej.seq (Cj.seq ?_)))))
  have hfull : fs.take k = fs := List.take_of_length_le (by omega)
  rw [hfull] at hv hrl
  have hpl := puts_len (rawB fs) []
  rw [List.length_nil] at hpl
  refine Cj.region (J.z (yl_loadAgg rfl rfl Tryz.isAgg26 Tryz.sizeOf26 (Blk.at 0 rfl) rfl rfl) ?_)
  refine J.op rfl (op_pure rfl rfl rfl rfl rfl (rTitle_ok fs _ rk rl hok _ hr) ?_)
  refine J.z (yl_assign rfl rfl) ?_
  refine J.nil (Ej.seq (Cj.seq (Cj.seq (Cj.region (J.z (yl_move rfl rfl) ?_)))))
  refine J.z (yl_eqlStr rfl rfl rfl) ?_
  refine J.nil (Ej.seq (Cj.cond rfl (fun hc15 => ?_) (fun hc15 => ?_)))
  ·
   have hc15p := eq_of_beq hc15
   have hT : Ke.title fs = [] := eq_of_beq hc15
   have hall0 : (rawB fs).foldl Ke.put [] = Ke.all fs := by unfold Ke.all Ke.raw Ke.titles; rw [if_pos hT, List.append_nil]; rfl
   refine Cj.seq (Cj.region (J.z (yl_move rfl rfl) ?_))
   refine J.z (yl_assign rfl rfl) ?_
   refine J.nil (Ej.seq (Cj.ret (Ej.seqRet (Ej.bare ?_))))
   refine Ej.ret1 rfl rfl rfl ?_
   exact ⟨_, rfl, hall0 ▸ hv, rfl⟩
  ·
   have hc15p := ne_of_beq_false hc15
   have hT : Ke.title fs ≠ [] := ne_of_beq_false hc15
   have hall1 : Ke.put ((rawB fs).foldl Ke.put []) ([116, 105, 116, 108, 101, 32] ++ Ke.title fs ++ [32, 47, 32] ++ ((Ke.words (Ke.textOf (Ke.first fs [49, 48, 48]) [97])).head?.getD [])) = Ke.all fs := by unfold Ke.all Ke.raw Ke.titles; rw [if_neg hT]; exact (puts_one _ _).symm
   refine Cj.skip (Ej.seq (Cj.seq (Cj.region (J.z (yl_loadAgg rfl rfl Tryz.isAgg26 Tryz.sizeOf26 (Blk.at 0 rfl) rfl rfl) ?_))))
   refine J.op rfl (op_call (H1 := []) rfl rfl rfl rfl rfl (rFirst_ok fs _ rk rl [49, 48, 48] hfs _ hr) ?_ (fun _ _ _ _ h => by cases h.1) (fun _ _ h => by cases h.1))
   intro v16 I17 H18 hle19 hp20
   have hIJ := hIJ.mono hle19
   have hr := hr.mono hle19
   have hv := hv.mono hle19
   obtain ⟨h, rfl⟩ := hp20; cases h
   refine J.z (yl_move rfl rfl) ?_
   refine J.z (yl_extract rfl rfl rfl) ?_
   refine J.z (yl_extract rfl rfl rfl) ?_
   refine J.op rfl (op_alloc rfl rfl rfl Tryz.zeroValue35 rfl ?_)
   intro b21 hb21
   refine J.op rfl (op_store 0 rfl rfl rfl rfl rfl (fldC_one hsv1) Tryz.sizeOf35 rfl rfl (LSpl.c (LSpl.c (LSpl.c (LSpl.c LSpl.z)))) LSet.z ?_)
   refine J.z (yl_assign rfl rfl) ?_
   refine J.nil (Ej.seq (Cj.seq (Cj.region (J.z (yl_loadAgg rfl rfl Tryz.isAgg35 Tryz.sizeOf35 (Blk.at 0 rfl) rfl rfl) ?_))))
   refine J.op rfl (op_pure rfl rfl rfl rfl rfl (rText_ok (Ke.first fs [49, 48, 48]) [97] (by decide) hfo.1 hfo.2.1 _ (first_row [49, 48, 48] hr)) ?_)
   refine J.op rfl (op_callN rfl rfl rfl rfl rfl (rWords_ok (Ke.textOf (Ke.first fs [49, 48, 48]) [97]) (by omega) _) ?_ (fun _ _ _ _ h => by obtain ⟨_, _, h, _⟩ := h; cases h) (fun _ _ h => by obtain ⟨_, _, h, _⟩ := h; cases h))
   intro v23 I24 H25 hle26 hn22 hp27
   have hIJ := hIJ.mono hle26
   have hr := hr.mono hle26
   have hv := hv.mono hle26
   obtain ⟨gw, hgw, h, rfl⟩ := hp27; cases h
   refine J.keepS (hgw.base hn22) (fun Iw hlew hw => ?_)
   have hIJ := hIJ.mono hlew
   have hr := hr.mono hlew
   have hv := hv.mono hlew
   replace hw := StrP.of hw
   obtain ⟨pw, cw, hwe, hcw, hpw⟩ := hw
   refine J.eqv 74 rfl (show _ = .slice pw _ cw from hwe) ?_
   refine J.z (yl_assign rfl rfl) ?_
   refine J.nil (Ej.seq (Cj.seq (Cj.region (J.z (yl_assign rfl rfl) ?_))))
   refine J.nil (Ej.seq (Cj.seq (Cj.seq (Cj.region (J.z (yl_move rfl rfl) ?_)))))
   refine J.z (yl_lenSlice rfl rfl Tryz.underlying31) ?_
   refine J.z (yl_gtr rfl rfl rfl) ?_
   refine J.nil (Ej.seq (Cj.cond rfl (fun hc28 => ?_) (fun hc28 => ?_)))
   ·
    have hc28p := of_decide_eq_true hc28
    have hwn : 0 < (Ke.words (Ke.textOf (Ke.first fs [49, 48, 48]) [97])).length := by omega
    obtain ⟨x, hxw⟩ : ∃ x, (Ke.words (Ke.textOf (Ke.first fs [49, 48, 48]) [97]))[0]? = some x := ⟨_, List.getElem?_eq_getElem hwn⟩
    obtain ⟨wb, wo, wcs, wty, wfr, spw, rfl, hwb, hwd⟩ := hpw (ne_nil_of hwn)
    have hau : ((Ke.words (Ke.textOf (Ke.first fs [49, 48, 48]) [97])).head?.getD []) = x := by rw [head_of hxw]; rfl
    have hxl := Ke.words_each _ x (List.mem_of_getElem? hxw)
    refine Cj.region (J.z (yl_move rfl rfl) ?_)
    refine J.z (yl_indexAddr (off' := wo) rfl rfl rfl Tryz.underlying31 Tryz.sizeOf9 (by omega) (by omega) (by simp)) ?_
    refine J.z (yl_load rfl rfl Tryz.isAgg9 (Blk.imm hwb) (str_from (k := 0) hwd hxw)) ?_
    refine J.z (yl_assign rfl rfl) ?_
    refine J.nil (Ej.seq (Cj.seq (Cj.region (J.z (yl_move rfl rfl) ?_))))
    refine J.z (yl_move rfl rfl) ?_
    refine J.z (yl_cat rfl rfl rfl (by simp only [List.length_cons, List.length_nil]; omega)) ?_
    refine J.z (yl_cat rfl rfl rfl (by simp only [List.length_append, List.length_cons, List.length_nil]; omega)) ?_
    refine J.z (yl_move rfl rfl) ?_
    refine J.z (yl_cat rfl rfl rfl (by simp only [List.length_append, List.length_cons, List.length_nil]; omega)) ?_
    refine J.eqv 86 rfl (show _ = str ([116, 105, 116, 108, 101, 32] ++ Ke.title fs ++ [32, 47, 32] ++ ((Ke.words (Ke.textOf (Ke.first fs [49, 48, 48]) [97])).head?.getD [])) from (by rw [hau])) ?_
    refine J.op rfl (op_call (H1 := []) rfl rfl rfl rfl rfl (rput_ok _ _ ([116, 105, 116, 108, 101, 32] ++ Ke.title fs ++ [32, 47, 32] ++ ((Ke.words (Ke.textOf (Ke.first fs [49, 48, 48]) [97])).head?.getD [])) (by omega) _ hv) ?_ (fun _ _ _ _ h => by obtain ⟨_, h, _⟩ := h; cases h) (fun _ _ h => by obtain ⟨_, h, _⟩ := h; cases h))
    intro v29 I30 H31 hle32 hp33
    have hIJ := hIJ.mono hle32
    have hr := hr.mono hle32
    have hv := hv.mono hle32
    have hwb := hle32 _ _ hwb
    obtain ⟨wv, h, hv2, rfl⟩ := hp33; cases h
    replace hv := hv2
    refine J.z (yl_assign rfl rfl) ?_
    refine J.nil (Ej.seq (Cj.ret (Ej.bare ?_)))
    refine Ej.ret1 rfl rfl rfl ?_
    exact ⟨_, rfl, hall1 ▸ hv, rfl⟩
   ·
    have hc28p := of_decide_eq_false hc28
    refine Cj.skip (Ej.seq (Cj.seq ?_))
    have hau : ((Ke.words (Ke.textOf (Ke.first fs [49, 48, 48]) [97])).head?.getD []) = [] := by have h0 : Ke.words (Ke.textOf (Ke.first fs [49, 48, 48]) [97]) = [] := List.length_eq_zero_iff.1 (by omega); rw [h0]; rfl
    refine Cj.region (J.z (yl_move rfl rfl) ?_)
    refine J.z (yl_move rfl rfl) ?_
    refine J.z (yl_cat rfl rfl rfl (by simp only [List.length_cons, List.length_nil]; omega)) ?_
    refine J.z (yl_cat rfl rfl rfl (by simp only [List.length_append, List.length_cons, List.length_nil]; omega)) ?_
    refine J.z (yl_move rfl rfl) ?_
    refine J.z (yl_cat rfl rfl rfl (by simp only [List.length_append, List.length_cons, List.length_nil]; omega)) ?_
    refine J.eqv 86 rfl (show _ = str ([116, 105, 116, 108, 101, 32] ++ Ke.title fs ++ [32, 47, 32] ++ ((Ke.words (Ke.textOf (Ke.first fs [49, 48, 48]) [97])).head?.getD [])) from (by rw [hau])) ?_
    refine J.op rfl (op_call (H1 := []) rfl rfl rfl rfl rfl (rput_ok _ _ ([116, 105, 116, 108, 101, 32] ++ Ke.title fs ++ [32, 47, 32] ++ ((Ke.words (Ke.textOf (Ke.first fs [49, 48, 48]) [97])).head?.getD [])) (by omega) _ hv) ?_ (fun _ _ _ _ h => by obtain ⟨_, h, _⟩ := h; cases h) (fun _ _ h => by obtain ⟨_, h, _⟩ := h; cases h))
    intro v34 I35 H36 hle37 hp38
    have hIJ := hIJ.mono hle37
    have hr := hr.mono hle37
    have hv := hv.mono hle37
    obtain ⟨wv, h, hv2, rfl⟩ := hp38; cases h
    replace hv := hv2
    refine J.z (yl_assign rfl rfl) ?_
    refine J.nil (Ej.seq (Cj.ret (Ej.bare ?_)))
    refine Ej.ret1 rfl rfl rfl ?_
    exact ⟨_, rfl, hall1 ▸ hv, rfl⟩
end Go.Proofs.YtadnofaleepkmaaGreatDoor
end
section
namespace Go.Proofs.YtadnofaleepkmaaGreatDoor
open Go Go.Sx
theorem tx_one (code : UInt8) {ss : List Ke.Sub} {k : Nat} {s : Ke.Sub} (h : ss[k]? = some s) : tx [code] (ss.take (k + 1)) = tx [code] (ss.take k) ++ (if s.code = code then [s.text] else []) := by
  rw [tx_next h]
  by_cases hc : s.code = code
  · rw [if_pos hc, if_pos (by simp [hc])]
  · rw [if_neg hc, if_neg (by simpa using hc)]
/-- The number that four digits denote. -/
def numS (s : List UInt8) : Int := if s.length = 4 ∧ Ke.digits s = true then (Ke.val4 s : Int) else -1
theorem numS_cut {s : List UInt8} (h : 4 ≤ s.length) : numS (s.take 4) = Ke.num4 s := by
  unfold numS Ke.num4
  rw [List.length_take, Nat.min_eq_left h]
  have hv : Ke.val4 (s.take 4) = Ke.val4 (s.take 4) := rfl
  by_cases hd : Ke.digits (s.take 4) = true
  · rw [if_pos ⟨rfl, hd⟩, if_pos ⟨h, hd⟩]
  · rw [if_neg (fun g => hd g.2), if_neg (fun g => hd g.2)]
theorem val4_next {s : List UInt8} {k : Nat} {c : UInt8} (h : s[k]? = some c) : Ke.val4 (s.take (k + 1)) = 10 * Ke.val4 (s.take k) + (c.toNat - 48) := by
  obtain ⟨hlt, hg⟩ := List.getElem?_eq_some_iff.1 h
  unfold Ke.val4
  rw [List.take_succ_eq_append_getElem hlt, hg, List.foldl_append]; rfl
theorem digits_take {s : List UInt8} (h : Ke.digits s = true) (k : Nat) : Ke.digits (s.take k) = true := List.all_eq_true.2 fun c hc => List.all_eq_true.1 h c (List.mem_of_mem_take hc)
theorem year_at {s : List UInt8} {i : Nat} (h : i + 4 ≤ s.length) : Ke.yearIn (s.drop i) = if 0 ≤ Ke.num4 (s.drop i) then Ke.num4 (s.drop i) else Ke.yearIn (s.drop (i + 1)) := by
  obtain ⟨c, hc⟩ : ∃ c, s[i]? = some c := ⟨_, List.getElem?_eq_getElem (by omega)⟩
  rw [drop_cons hc]; rfl
theorem cut4 {s : List UInt8} {i : Nat} : (s.take (i + 4)).drop i = (s.drop i).take 4 := by
  rw [List.drop_take]; congr 1; omega
set_option maxRecDepth 20000 in
theorem first1_ok (f : Ke.Fld) (tb : Nat) (tag : List UInt8) (I : Heap) (htb : I tb = some (cel 9 [str tag])) : Pure Tryz.prog 95 [.agg (fldC f).toArray, ptr tb 0] I (.bool (f.tag == tag)) := by
 refine Ctr.of_body Tryz.func95 rfl (by decide) (Nat.le_of_ble_eq_true rfl) ?_
 intro w0 hw0
 refine Cj.seq (Cj.region (J.op rfl (op_box rfl rfl rfl rfl rfl ?_)))
 intro b1 hb1
 refine J.z (yl_assign rfl rfl) ?_
 refine J.nil (Ej.seq (Cj.seq (Cj.region (J.z (yl_fieldAddr (off' := 0) rfl rfl Tryz.underlying35 rfl Tryz.sizeOf9 rfl) ?_))))
 refine J.z (yl_load rfl rfl Tryz.isAgg9 (Blk.at 0 rfl) rfl) ?_
 refine J.z (yl_load rfl rfl Tryz.isAgg9 (Blk.imm htb) rfl) ?_
 refine J.z (yl_eqlStr rfl rfl rfl) ?_
 refine J.z (yl_assign rfl rfl) ?_
 refine J.nil (Ej.seq (Cj.ret (Ej.bare ?_)))
 refine Ej.ret1 rfl rfl rfl ?_
 exact ⟨rfl, rfl, rfl⟩
set_option maxRecDepth 20000 in
theorem IndexFuncM_ok (fs : List Ke.Fld) (v : Value) (hfs : fs.length ≤ 2000000) (tb : Nat) (tag : List UInt8) (I : Heap) (hr : RecS I fs v) (htb : I tb = some (cel 9 [str tag])) : Ctr Tryz.prog 75 [v, .func (.func 95) #[] #[ptr tb 0]] I []
    (fun e _I' H' => ∃ n, e = .returned (i64 n) ∧ foundAt fs tag n ∧ H' = []) := by
 obtain ⟨⟨p, c, rfl, hc, hp⟩, hsub⟩ := hr
 refine Ctr.of_body Tryz.func75 rfl (by decide) (Nat.le_of_ble_eq_true rfl) ?_
 intro w0 hw0
 refine Cj.seq (Cj.region (J.z (yl_assign rfl rfl) ?_))
 refine J.nil (Ej.seq (Cj.seq (Cj.seq (Cj.region (J.z (yl_move rfl rfl) ?_)))))
 refine J.z (yl_lenSlice rfl rfl Tryz.underlying23) ?_
 refine J.z (yl_move rfl rfl) ?_
 refine J.nil (Ej.seq (Cj.block (Cj.loop (ι := Nat) (fun j => j ≤ fs.length ∧ ∀ g ∈ fs.take j, g.tag ≠ tag) (fun j => fs.length - j) (fun j => [(0, .slice p fs.length c), (1, .func (.func 95) #[] #[ptr tb 0]), (7, i64 (fs.length : Int)), (8, i64 (j : Int))]) (fun j => I) (fun j => []) 0 ⟨Nat.zero_le _, fun g hg => by simp at hg⟩ ⟨rfl, rfl, rfl, rfl, trivial⟩ rfl rfl ?_)))
 rintro j ⟨hj, hall⟩
 refine Cj.seq (Cj.region (J.z (yl_lss rfl rfl rfl) ?_))
 refine J.nil (Ej.seq (Cj.seq (Cj.cond rfl (fun hc1 => ?_) (fun hc1 => ?_))))
 ·
  have hc1p := of_decide_eq_true hc1
  have hlt : j < fs.length := by omega
  obtain ⟨f, hget⟩ : ∃ f, fs[j]? = some f := ⟨_, List.getElem?_eq_getElem hlt⟩
  obtain ⟨fb, fo, fcs, fty, ffr, sp, rfl, hfb, hfd⟩ := hp (ne_nil_of hlt)
  refine Cj.skip (Ej.seq (Cj.seq (Cj.block (Cj.seq (Cj.region (J.z (yl_move rfl rfl) ?_))))))
  refine J.z (yl_assign rfl rfl) ?_
  refine J.nil (Ej.seq (Cj.seq (Cj.region (J.z (yl_move rfl rfl) ?_))))
  refine J.z (yl_move rfl rfl) ?_
  refine J.z (yl_move rfl rfl) ?_
  refine J.z (yl_indexAddr (off' := fo + j * 4) rfl rfl rfl Tryz.underlying23 Tryz.sizeOf35 (by omega) (by omega) (by simp)) ?_
  refine J.z (yl_loadAgg rfl rfl Tryz.isAgg35 Tryz.sizeOf35 (Blk.imm hfb) (row_from fldC_len hfd hget) rfl) ?_
  refine J.op rfl (op_pure rfl rfl rfl rfl rfl (first1_ok f tb tag _ htb) ?_)
  refine J.nil (Ej.seq (Cj.cond rfl (fun hc2 => ?_) (fun hc2 => ?_)))
  ·
   have ht : f.tag = tag := eq_of_beq hc2
   refine Cj.seq (Cj.region (J.z (yl_move rfl rfl) ?_))
   refine J.z (yl_assign rfl rfl) ?_
   refine J.nil (Ej.seq (Cj.ret (Ej.blkRet (Ej.seqRet (Ej.loopRet (Ej.blkRet (Ej.seqRet (Ej.ret1 rfl rfl rfl ?_))))))))
   exact ⟨_, rfl, .inr ⟨j, f, rfl, hget, find_some hall hget ht⟩, rfl⟩
  ·
   have hnt : f.tag ≠ tag := ne_of_beq_false hc2
   refine Cj.skip (Ej.blkNormal (Ej.seq (Cj.region (J.z (yl_add rfl rfl rfl (w64 (by omega))) ?_))))
   refine J.z (yl_move rfl rfl) ?_
   refine J.nil (Ej.round (j + 1) ⟨by omega, tags_next hall hget hnt⟩ (by omega) ⟨rfl, rfl, rfl, rfl, trivial⟩ rfl rfl)
 ·
  have hc1p := of_decide_eq_false hc1
  have hfull : fs.take j = fs := List.take_of_length_le (by omega)
  rw [hfull] at hall
  refine Cj.exit (Ej.seqExit (Ej.loopExit (Ej.blkExit (Ej.seq (Cj.seq (Cj.region (J.z (yl_assign rfl rfl) ?_)))))))
  refine J.nil (Ej.seq (Cj.ret (Ej.ret1 rfl rfl rfl ?_)))
  exact ⟨_, rfl, .inl ⟨rfl, find_none hall⟩, rfl⟩
set_option maxRecDepth 20000 in
theorem mfirst_ok (fs : List Ke.Fld) (v : Value) (rk rl : UInt8) (tag : List UInt8) (hfs : fs.length ≤ 2000000) (I : Heap) (hr : RecS I fs v) : Ctr Tryz.prog 61 [recV rk rl v, str tag] I []
    (fun e _ H' => e = .returned (.tuple #[.agg (fldC (Ke.first fs tag)).toArray, .bool (Ke.find fs tag).isSome]) ∧ H' = []) := by
 obtain ⟨p, c, rfl, hc, -⟩ := id hr.1
 refine Ctr.of_body Tryz.func61 rfl (by decide) (Nat.le_of_ble_eq_true rfl) ?_
 intro w0 hw0
 refine Cj.seq (Cj.region (J.op rfl (op_box rfl rfl rfl rfl rfl ?_)))
 intro b1 hb1
 refine J.op rfl (op_box rfl rfl rfl rfl rfl ?_)
 intro b2 hb2
 refine J.op rfl (op_alloc rfl rfl rfl Tryz.zeroValue35 rfl ?_)
 intro b3 hb3
 refine J.z (yl_assign rfl rfl) ?_
 refine J.nil (Ej.seq (Cj.seq (Cj.pull (Pull.s Pull.z) ?_)))
 refine Cj.persist hb2 (fun I9 hle9 htb => ?_)
 have hr := hr.mono hle9
 refine Cj.region (J.z (yl_fieldAddr (off' := 2) rfl rfl Tryz.underlying26 rfl Tryz.sizeOf23 rfl) ?_)
 refine J.z (yl_load rfl rfl Tryz.isAgg23 (Blk.at 1 rfl) rfl) ?_
 refine J.z (yl_makeFunc rfl rfl rfl) ?_
 refine J.op rfl (op_call (H1 := []) rfl rfl rfl rfl rfl (IndexFuncM_ok fs _ hfs b2 tag _ hr htb) ?_ (fun _ _ _ _ h => by obtain ⟨_, h, _⟩ := h; cases h) (fun _ _ h => by obtain ⟨_, h, _⟩ := h; cases h))
 intro v4 I5 H6 hle7 hp8
 have hr := hr.mono hle7
 have htb := hle7 _ _ htb
 obtain ⟨n, h, hn, rfl⟩ := hp8; cases h
 refine J.z (yl_assign rfl rfl) ?_
 refine J.nil (Ej.seq (Cj.seq (Cj.seq (Cj.region (J.z (yl_move rfl rfl) ?_)))))
 refine J.z (yl_lss rfl rfl rfl) ?_
 refine J.nil (Ej.seq (Cj.cond rfl (fun hc9 => ?_) (fun hc9 => ?_)))
 ·
  have hc9p := of_decide_eq_true hc9
  have hn0 := of_decide_eq_true hc9
  have hfind : Ke.find fs tag = none := (hn.resolve_right (fun ⟨k, f, h, _⟩ => by rw [h] at hn0; omega)).2
  refine Cj.seq (Cj.region (J.z (yl_buildS (pl := #[(0, 1), (1, 1), (2, 1), (3, 1)]) rfl rfl Tryz.zeroValue35 rfl Tryz.underlying35 (fun w => by simp [Tryz.sizeOf33, Tryz.sizeOf9]) LBld.none) ?_))
  refine J.op rfl (op_store 0 rfl rfl rfl rfl rfl rfl Tryz.sizeOf35 rfl rfl (LSpl.c (LSpl.c (LSpl.c (LSpl.c LSpl.z)))) LSet.z ?_)
  refine J.z (yl_assign rfl rfl) ?_
  refine J.nil (Ej.seq (Cj.ret (Ej.seqRet ?_)))
  have hfirst : Ke.first fs tag = Ke.zf := by unfold Ke.first; rw [hfind]; rfl
  rw [hfirst, hfind]
  refine Ej.retCT (Keeps.d (Keeps.d Keeps.n)) rfl rfl rfl (Blk.at 0 rfl) Tryz.isAgg35 Tryz.sizeOf35 rfl rfl ?_
  exact ⟨rfl, rfl⟩
 ·
  have hc9p := of_decide_eq_false hc9
  have hn0 := of_decide_eq_false hc9
  obtain ⟨k, f, rfl, hget, hfind⟩ := hn.resolve_left (fun h => hn0 (by rw [h.1]; decide))
  have hklt := (List.getElem?_eq_some_iff.1 hget).1
  obtain ⟨⟨p1, c1, hpe, hc1, hp⟩, hsub⟩ := id hr
  cases hpe
  obtain ⟨fb, fo, fcs, fty, ffr, sp, rfl, hfb, hfd⟩ := hp (ne_nil_of hklt)
  obtain ⟨p2, c2, hsv, hc2, hp2⟩ := hsub f (List.mem_of_getElem? hget)
  refine Cj.skip (Ej.seq (Cj.seq (Cj.region (J.z (yl_fieldAddr (off' := 2) rfl rfl Tryz.underlying26 rfl Tryz.sizeOf23 rfl) ?_))))
  refine J.z (yl_load rfl rfl Tryz.isAgg23 (Blk.at 1 rfl) rfl) ?_
  refine J.z (yl_move rfl rfl) ?_
  refine J.z (yl_indexAddr (off' := fo + k * 4) rfl rfl rfl Tryz.underlying23 Tryz.sizeOf35 (by omega) (by omega) (by simp)) ?_
  refine J.z (yl_loadAgg rfl rfl Tryz.isAgg35 Tryz.sizeOf35 (Blk.imm hfb) (row_from fldC_len hfd hget) rfl) ?_
  refine J.op rfl (op_store 0 rfl rfl rfl rfl rfl (fldC_one hsv) Tryz.sizeOf35 rfl rfl (LSpl.c (LSpl.c (LSpl.c (LSpl.c LSpl.z)))) LSet.z ?_)
  refine J.z (yl_assign rfl rfl) ?_
  refine J.nil (Ej.seq (Cj.ret ?_))
  have hfirst : Ke.first fs tag = f := by unfold Ke.first; rw [hfind]; rfl
  rw [hfirst, hfind]
  refine Ej.retCT (Keeps.d (Keeps.d Keeps.n)) rfl rfl rfl (Blk.at 0 rfl) Tryz.isAgg35 Tryz.sizeOf35 rfl rfl ?_
  exact ⟨rfl, rfl⟩
set_option maxRecDepth 20000 in
theorem mtext_ok (f : Ke.Fld) (code : UInt8) (hn : f.subs.length ≤ 2000000) (htx : textsLen f.subs ≤ 2000000) (I : Heap) (hr : RowS subC I f.subs f.sv) : Pure Tryz.prog 63 [.agg (fldC f).toArray, u8 code] I (str (Ke.textOf f [code])) := by
 refine Ctr.toPure ?_
 obtain ⟨p2, c2, hsv, hc2, hp2⟩ := hr
 refine Ctr.of_body Tryz.func63 rfl (by decide) (Nat.le_of_ble_eq_true rfl) ?_
 intro w0 hw0
 refine Cj.seq (Cj.region (J.op rfl (op_box rfl rfl rfl rfl rfl ?_)))
 intro b1 hb1
 refine J.z (yl_assign rfl rfl) ?_
 refine J.nil (Ej.seq (Cj.seq (Cj.region (J.z (yl_assign rfl rfl) ?_))))
 refine J.nil (Ej.seq (Cj.seq (Cj.seq (Cj.region (J.z (yl_fieldAddr (off' := 3) rfl rfl Tryz.underlying35 rfl Tryz.sizeOf33 rfl) ?_)))))
 refine J.z (yl_load rfl rfl Tryz.isAgg33 (Blk.at 0 rfl) rfl) ?_
 refine J.eqv 9 rfl (show _ = .slice p2 f.subs.length c2 from hsv) ?_
 refine J.z (yl_lenSlice rfl rfl Tryz.underlying33) ?_
 refine J.z (yl_move rfl rfl) ?_
 refine J.nil (Ej.seq (Cj.block (Cj.keep (Keeps.d Keeps.n) ?_)))
 refine Cj.loop (ι := Nat × Gs) (fun j => j.1 ≤ f.subs.length ∧ gOk w0.heap.size 1 (tx [code] (f.subs.take j.1)).length ((tx [code] (f.subs.take j.1)).map str) j.2) (fun j => f.subs.length - j.1) (fun j => [(1, u8 code), (5, gV (tx [code] (f.subs.take j.1)).length j.2), (9, .slice p2 f.subs.length c2), (10, i64 (f.subs.length : Int)), (11, i64 (j.1 : Int))]) (fun j => _) (fun j => gH 9 ((tx [code] (f.subs.take j.1)).map str) j.2) (0, none) ⟨Nat.zero_le _, rfl, rfl⟩ ⟨rfl, rfl, rfl, rfl, rfl, trivial⟩ rfl rfl ?_
 rintro ⟨j, g⟩ ⟨hj, hg⟩
 dsimp only at hj hg ⊢
 have htl := tx_len [code] (f.subs.take j)
 rw [List.length_take, Nat.min_eq_left hj] at htl
 refine Cj.seq (Cj.region (J.z (yl_lss rfl rfl rfl) ?_))
 refine J.nil (Ej.seq (Cj.seq (Cj.cond rfl (fun hc2 => ?_) (fun hc2 => ?_))))
 ·
  have hc2p := of_decide_eq_true hc2
  refine Cj.skip (Ej.seq (Cj.seq (Cj.block (Cj.seq ?_))))
  have hlt : j < f.subs.length := by omega
  obtain ⟨sb, hsget⟩ : ∃ x, f.subs[j]? = some x := ⟨_, List.getElem?_eq_getElem hlt⟩
  obtain ⟨sbk, so, scs, sty, sfr, sp2, rfl, hsbk, hsd⟩ := hp2 (ne_nil_of hlt)
  have hnx := tx_one code hsget
  refine Cj.region (J.z (yl_indexAddr (off' := so + j * 2) rfl rfl rfl Tryz.underlying33 Tryz.sizeOf47 (by omega) (by omega) (by simp)) ?_)
  refine J.z (yl_loadAgg rfl rfl Tryz.isAgg47 Tryz.sizeOf47 (Blk.imm hsbk) (row_from subC_len hsd hsget) rfl) ?_
  refine J.op rfl (op_alloc rfl rfl rfl Tryz.zeroValue47 rfl ?_)
  intro b3 hb3
  refine J.op rfl (op_store 0 rfl rfl rfl rfl rfl rfl Tryz.sizeOf47 rfl rfl (LSpl.c (LSpl.c LSpl.z)) LSet.z ?_)
  refine J.nil (Ej.seq (Cj.seq (Cj.region (J.z (yl_fieldAddr (off' := 0) rfl rfl Tryz.underlying47 rfl Tryz.sizeOf5 rfl) ?_))))
  refine J.z (yl_load rfl rfl Tryz.isAgg5 (Blk.at 0 rfl) rfl) ?_
  refine J.z (yl_move rfl rfl) ?_
  refine J.z (yl_eql rfl rfl rfl) ?_
  refine J.nil (Ej.seq (Cj.cond rfl (fun hc4 => ?_) (fun hc4 => ?_)))
  ·
   have hc4p := eq_of_beq hc4
   have hcd : sb.code = code := UInt8.toNat_inj.1 (by have h := eq_of_beq hc4; omega)
   rw [if_pos hcd] at hnx
   refine Cj.region (J.z (yl_move rfl rfl) ?_)
   refine J.z (yl_fieldAddr (off' := 1) rfl rfl Tryz.underlying47 rfl Tryz.sizeOf9 rfl) ?_
   refine J.z (yl_load rfl rfl Tryz.isAgg9 (Blk.at 0 rfl) rfl) ?_
   refine J.op rfl (op_buildSlice rfl rfl rfl Tryz.underlying31 Tryz.sizeOf9 Tryz.zeroValue9 rfl rfl rfl rfl (LCat.one rfl LCat.none) ?_)
   intro b5 hb5
   refine J.op rfl (op_append (by' := 15) [_, _] rfl rfl rfl rfl rfl Tryz.underlying31 (.inr ⟨_, Tryz.underlying31⟩) (by kernel_rfl) Tryz.sizeOf9 Tryz.zeroValue9 rfl hg rfl (Src.slice (Blk.at 0 rfl) rfl rfl rfl) (by omega) ?_)
   intro g6 hg6
   refine J.z (yl_assign rfl rfl) ?_
   refine J.nil (Ej.blkNormal (Ej.seq (Cj.region (J.z (yl_add rfl rfl rfl (w64 (by omega))) ?_))))
   refine J.z (yl_move rfl rfl) ?_
   refine J.nil (Ej.keep (Keeps.d (Keeps.d Keeps.r)) ?_)
   refine Ej.round (j + 1, g6) ⟨by dsimp only; omega, by dsimp only; rw [hnx, List.map_append, List.length_append]; exact hg6⟩ (by dsimp only; omega) ⟨rfl, by dsimp only; rw [hnx, List.length_append]; rfl, rfl, rfl, rfl, trivial⟩ rfl (by dsimp only; rw [hnx, List.map_append]; rfl)
  ·
   have hc4p := ne_of_beq_false hc4
   have hcd : sb.code ≠ code := fun e => ne_of_beq_false hc4 (by rw [e])
   rw [if_neg hcd] at hnx
   refine Cj.skip (Ej.blkNormal (Ej.seq (Cj.region (J.z (yl_add rfl rfl rfl (w64 (by omega))) ?_))))
   refine J.z (yl_move rfl rfl) ?_
   refine J.nil (Ej.keep (Keeps.d Keeps.r) ?_)
   refine Ej.round (j + 1, g) ⟨by dsimp only; omega, by dsimp only; rw [hnx, List.append_nil]; exact hg⟩ (by dsimp only; omega) ⟨rfl, by dsimp only; rw [hnx, List.append_nil]; rfl, rfl, rfl, rfl, trivial⟩ rfl (by dsimp only; rw [hnx, List.append_nil])
 ·
  have hc2p := of_decide_eq_false hc2
  refine Cj.exit (Ej.seqExit (Ej.loopExit (Ej.blkExit (Ej.seq (Cj.seq ?_)))))
  have hfull : f.subs.take j = f.subs := List.take_of_length_le (by omega)
  rw [hfull] at hg ⊢
  have htl2 := textOf_len f [code]
  refine Cj.perm (H' := gH _ _ _ ++ []) (.of_eq (List.append_nil _)) ?_
  refine Cj.keepS hg (fun I8 hle8 hv => ?_)
  refine Cj.region (J.z (yl_move rfl rfl) ?_)
  refine J.op rfl (op_pure rfl rfl rfl rfl rfl (Join_ok (tx [code] f.subs) _ (by have := tx_len [code] f.subs; omega) (by have e : Ke.join (tx [code] f.subs) = Ke.textOf f [code] := rfl; rw [e]; omega) _ hv) ?_)
  refine J.z (yl_assign rfl rfl) ?_
  refine J.nil (Ej.seq (Cj.ret (Ej.ret1 rfl rfl rfl ?_)))
  exact ⟨rfl, rfl⟩
set_option maxRecDepth 20000 in
theorem mnumber_ok (s : List UInt8) (hs : s.length ≤ 1000000000000) (I : Heap) : Pure Tryz.prog 94 [str s] I (i64 (numS s)) := by
 refine Ctr.of_body Tryz.func94 rfl (by decide) (Nat.le_of_ble_eq_true rfl) ?_
 intro w0 hw0
 refine Cj.seq (Cj.region (J.z (yl_assign rfl rfl) ?_))
 refine J.nil (Ej.seq (Cj.seq (Cj.seq (Cj.region (J.z (yl_move rfl rfl) ?_)))))
 refine J.z (yl_lenStr rfl rfl Tryz.underlying9) ?_
 refine J.z (yl_neq rfl rfl rfl) ?_
 refine J.z (yl_move rfl rfl) ?_
 refine J.split 9 rfl (fun hg1 => ?_) (fun hg1 => ?_)
 ·
  have hg1p := bne_iff_ne.1 hg1
  have h4 : s.length ≠ 4 := by have h := bne_iff_ne.1 hg1; omega
  refine J.skip 3 9 10 false _ rfl rfl rfl hg1 rfl rfl ?_
  refine J.skip 3 9 11 false _ rfl rfl rfl hg1 rfl rfl ?_
  refine J.skip 3 9 12 false _ rfl rfl rfl hg1 rfl rfl ?_
  refine J.z (yl_pick1 rfl rfl hg1 rfl) ?_
  refine J.nil (Ej.seq (Cj.cond rfl (fun hc2 => ?_) (fun hc2 => Bool.noConfusion (Eq.trans (Eq.symm rfl) hc2))))
  refine Cj.seq (Cj.region (J.z (yl_assign rfl rfl) ?_))
  refine J.nil (Ej.seq (Cj.ret (Ej.seqRet (Ej.ret1 rfl rfl rfl ?_))))
  rw [show numS s = -1 from if_neg (fun g => h4 g.1)]
  exact ⟨rfl, rfl, rfl⟩
 ·
  have hg1p := bne_f hg1
  have h4 : s.length = 4 := by have h := bne_f hg1; omega
  refine J.opG 3 9 false _ rfl rfl rfl hg1 (op_yld (yl_move rfl rfl) rfl rfl ?_)
  refine J.opG 3 9 false _ rfl rfl rfl hg1 (op_pure rfl rfl rfl rfl rfl (Trim_ok s hs _) ?_)
  refine J.opG 3 9 false _ rfl rfl rfl hg1 (op_yld (yl_neqStr rfl rfl rfl) rfl rfl ?_)
  refine J.z (yl_pick0 rfl rfl hg1 rfl) ?_
  refine J.nil (Ej.seq (Cj.cond rfl (fun hc3 => ?_) (fun hc3 => ?_)))
  ·
   have hc3p := bne_iff_ne.1 hc3
   have hd : ¬ Ke.digits s = true := fun e => bne_iff_ne.1 hc3 (eq_of_beq ((Ke.trim_digits s).trans e))
   refine Cj.seq (Cj.region (J.z (yl_assign rfl rfl) ?_))
   refine J.nil (Ej.seq (Cj.ret (Ej.seqRet (Ej.ret1 rfl rfl rfl ?_))))
   rw [show numS s = -1 from if_neg (fun g => hd g.2)]
   exact ⟨rfl, rfl, rfl⟩
  ·
   have hc3p := bne_f hc3
   have hd : Ke.digits s = true := (Ke.trim_digits s).symm.trans (beq_iff_eq.2 (bne_f hc3))
   refine Cj.skip (Ej.seq (Cj.seq (Cj.region (J.z (yl_assign rfl rfl) ?_))))
   refine J.nil (Ej.seq (Cj.seq (Cj.seq (Cj.region (J.z (yl_move rfl rfl) ?_)))))
   refine J.op rfl (op_toBytes rfl rfl rfl rfl Tryz.underlying9 Tryz.underlying86 Tryz.underlying5 ?_)
   intro b4 c5 sp6 fr7 hb4 hfr7
   refine J.z (yl_lenSlice rfl rfl Tryz.underlying86) ?_
   refine J.z (yl_move rfl rfl) ?_
   refine J.nil (Ej.seq (Cj.block (Cj.loop (ι := Nat) (fun j => j ≤ 4) (fun j => 4 - j) (fun j => [(3, i64 ((Ke.val4 (s.take j) : Nat) : Int)), (15, .slice (some ⟨b4, 0, none⟩) s.length c5), (16, i64 (s.length : Int)), (17, i64 (j : Int))]) (fun j => I) (fun j => [(b4, .cells (bcs s ++ sp6).toArray 5 (fr7, fr7 + 1))]) 0 (Nat.zero_le _) ⟨rfl, rfl, rfl, rfl, trivial⟩ rfl rfl ?_)))
   intro j hj
   have hvl := Ke.val4_le (s := s.take j) (by rw [List.length_take]; omega) (digits_take hd j)
   refine Cj.seq (Cj.region (J.z (yl_lss rfl rfl rfl) ?_))
   refine J.nil (Ej.seq (Cj.seq (Cj.cond rfl (fun hc8 => ?_) (fun hc8 => ?_))))
   ·
    have hc8p := of_decide_eq_true hc8
    refine Cj.skip (Ej.seq (Cj.seq (Cj.block (Cj.seq ?_))))
    have hlt : j < s.length := by omega
    obtain ⟨c, hget⟩ : ∃ c, s[j]? = some c := ⟨_, List.getElem?_eq_getElem hlt⟩
    have hcd := digits_at hd hget
    refine Cj.region (J.z (yl_indexAddr (off' := j) rfl rfl rfl Tryz.underlying86 Tryz.sizeOf5 (by omega) (by omega) (by simp)) ?_)
    refine J.z (yl_load rfl rfl Tryz.isAgg5 (Blk.at 0 rfl) (bcs_get s _ j c hget)) ?_
    refine J.z (yl_assign rfl rfl) ?_
    refine J.nil (Ej.seq (Cj.region (J.z (yl_move rfl rfl) ?_)))
    refine J.z (yl_mul rfl rfl rfl (w64 (by omega))) ?_
    refine J.z (yl_move rfl rfl) ?_
    refine J.z (yl_sub rfl rfl rfl (w8 (by omega))) ?_
    refine J.z (yl_convInt rfl rfl Tryz.underlying5 Tryz.underlying3) ?_
    refine J.eqv 25 rfl (show _ = i64 ((c.toNat - 48 : Nat) : Int) from (congrArg i64 ((w64 (by omega)).trans (by omega)))) ?_
    refine J.z (yl_add rfl rfl rfl (w64 (by omega))) ?_
    refine J.z (yl_assign rfl rfl) ?_
    refine J.nil (Ej.blkNormal (Ej.seq (Cj.region (J.z (yl_add rfl rfl rfl (w64 (by omega))) ?_))))
    refine J.z (yl_move rfl rfl) ?_
    refine J.nil (Ej.round (j + 1) (by omega) (by omega) ⟨by rw [val4_next hget]; exact congrArg (fun z => some (Value.int .i64 z)) (by omega), rfl, rfl, rfl, trivial⟩ rfl rfl)
   ·
    have hc8p := of_decide_eq_false hc8
    refine Cj.exit (Ej.seqExit (Ej.loopExit (Ej.blkExit (Ej.seq (Cj.seq (Cj.region (J.z (yl_move rfl rfl) ?_)))))))
    refine J.z (yl_assign rfl rfl) ?_
    refine J.nil (Ej.seq (Cj.ret (Ej.bare ?_)))
    refine Ej.ret1 rfl rfl rfl ?_
    have hfull : s.take j = s := List.take_of_length_le (by omega)
    rw [show numS s = (Ke.val4 s : Int) from if_pos ⟨h4, hd⟩, hfull]
    exact ⟨rfl, rfl, rfl⟩
theorem first_data {fs : List Ke.Fld} (tag : List UInt8) (h : ∀ f ∈ fs, f.data.length ≤ 2000000) : (Ke.first fs tag).data.length ≤ 2000000 := by
  rcases first_in fs tag with e | e
  · rw [e]; exact Nat.zero_le _
  · exact h _ e
set_option maxRecDepth 20000 in
set_option maxHeartbeats 1000000 in
theorem myear_ok (fs : List Ke.Fld) (v : Value) (rk rl : UInt8) (hok : FOK fs) (hdl : ∀ f ∈ fs, f.data.length ≤ 2000000) (I : Heap) (hr : RecS I fs v) : Pure Tryz.prog 60 [recV rk rl v] I (i64 (Ke.year fs)) := by
 refine Ctr.toPure ?_
 have hfs := hok.1
 obtain ⟨p, c, rfl, hc, -⟩ := id hr.1
 have hfo := first_ok [50, 54, 48] hok
 have htl := textOf_len (Ke.first fs [50, 54, 48]) [99]
 obtain ⟨p8, n8, c8, hsv8⟩ := first_sv [48, 48, 56] hr
 obtain ⟨p6, n6, c6, hsv6⟩ := first_sv [50, 54, 48] hr
 have hd8 := first_data [48, 48, 56] hdl
 refine Ctr.of_body Tryz.func60 rfl (by decide) (Nat.le_of_ble_eq_true rfl) ?_
 intro w0 hw0
 refine Cj.seq (Cj.region (J.op rfl (op_box rfl rfl rfl rfl rfl ?_)))
 intro b1 hb1
 refine J.z (yl_assign rfl rfl) ?_
 refine J.nil (Ej.seq (Cj.join (ι := Heap) (fun J9 => RecS J9 fs (.slice p fs.length c) ∧ ¬ (11 ≤ (Ke.first fs [48, 48, 56]).data.length ∧ 0 ≤ Ke.num4 ((Ke.first fs [48, 48, 56]).data.drop 7))) (fun J9 => [(1, ptr b1 0)]) (fun J9 => J9) (fun J9 => [(b1, cel 26 [u8 rk, u8 rl, .slice p fs.length c])]) ?_ (fun hcut => ?_)))
 ·
  rintro J9 ⟨hr, hno⟩
  refine Cj.seq (Cj.region (J.z (yl_loadAgg rfl rfl Tryz.isAgg26 Tryz.sizeOf26 (Blk.at 0 rfl) rfl rfl) ?_))
  refine J.op rfl (op_call (H1 := []) rfl rfl rfl rfl rfl (mfirst_ok fs _ rk rl [50, 54, 48] hfs _ hr) ?_ (fun _ _ _ _ h => by cases h.1) (fun _ _ h => by cases h.1))
  intro v2 I3 H4 hle5 hp6
  have hr := hr.mono hle5
  obtain ⟨h, rfl⟩ := hp6; cases h
  refine J.z (yl_move rfl rfl) ?_
  refine J.z (yl_extract rfl rfl rfl) ?_
  refine J.z (yl_extract rfl rfl rfl) ?_
  refine J.op rfl (op_alloc rfl rfl rfl Tryz.zeroValue35 rfl ?_)
  intro b7 hb7
  refine J.op rfl (op_store 0 rfl rfl rfl rfl rfl (fldC_one hsv6) Tryz.sizeOf35 rfl rfl (LSpl.c (LSpl.c (LSpl.c (LSpl.c LSpl.z)))) LSet.z ?_)
  refine J.z (yl_assign rfl rfl) ?_
  refine J.nil (Ej.seq (Cj.seq (Cj.region (J.z (yl_loadAgg rfl rfl Tryz.isAgg35 Tryz.sizeOf35 (Blk.at 0 rfl) rfl rfl) ?_))))
  refine J.op rfl (op_pure rfl rfl rfl rfl rfl (mtext_ok (Ke.first fs [50, 54, 48]) 99 hfo.1 hfo.2.1 _ (first_row [50, 54, 48] hr)) ?_)
  refine J.z (yl_assign rfl rfl) ?_
  refine J.nil (Ej.seq (Cj.seq (Cj.seq (Cj.region (J.z (yl_assign rfl rfl) ?_)))))
  refine J.nil (Ej.seq (Cj.block (Cj.keep (Keeps.d (Keeps.d Keeps.n)) ?_)))
  refine Cj.loop (ι := Nat) (fun i => Ke.yearIn ((Ke.textOf (Ke.first fs [50, 54, 48]) [99]).drop i) = Ke.y260 fs ∧ i ≤ (Ke.textOf (Ke.first fs [50, 54, 48]) [99]).length) (fun i => (Ke.textOf (Ke.first fs [50, 54, 48]) [99]).length - i) (fun i => [(8, str (Ke.textOf (Ke.first fs [50, 54, 48]) [99])), (9, i64 (i : Int))]) (fun i => _) (fun i => []) 0 ⟨rfl, Nat.zero_le _⟩ ⟨rfl, rfl, trivial⟩ rfl rfl ?_
  rintro i ⟨hy, hi⟩
  refine Cj.seq (Cj.seq (Cj.region (J.z (yl_move rfl rfl) ?_)))
  refine J.z (yl_add rfl rfl rfl (w64 (by omega))) ?_
  refine J.z (yl_move rfl rfl) ?_
  refine J.z (yl_lenStr rfl rfl Tryz.underlying9) ?_
  refine J.z (yl_leq rfl rfl rfl) ?_
  refine J.nil (Ej.seq (Cj.cond rfl (fun hc8 => ?_) (fun hc8 => ?_)))
  ·
   have hc8p := of_decide_eq_true hc8
   have h4 : i + 4 ≤ (Ke.textOf (Ke.first fs [50, 54, 48]) [99]).length := by have h := of_decide_eq_true hc8; omega
   refine Cj.skip (Ej.seq (Cj.seq (Cj.block (Cj.seq (Cj.region (J.z (yl_move rfl rfl) ?_))))))
   refine J.z (yl_move rfl rfl) ?_
   refine J.z (yl_move rfl rfl) ?_
   refine J.z (yl_add rfl rfl rfl (w64 (by omega))) ?_
   refine J.z (yl_sliceStr (p := i) (q := i + 4) rfl rfl Tryz.underlying9 ⟨_, rfl⟩ ⟨_, rfl⟩ (by omega) (by omega)) ?_
   refine J.eqv 48 rfl (show _ = str (((Ke.textOf (Ke.first fs [50, 54, 48]) [99]).drop i).take 4) from (congrArg str cut4)) ?_
   refine J.op rfl (op_pure rfl rfl rfl rfl rfl (mnumber_ok (((Ke.textOf (Ke.first fs [50, 54, 48]) [99]).drop i).take 4) (by rw [List.length_take]; omega) _) ?_)
   refine J.eqv 49 rfl (show _ = i64 (Ke.num4 ((Ke.textOf (Ke.first fs [50, 54, 48]) [99]).drop i)) from (congrArg i64 (numS_cut (by rw [List.length_drop]; omega)))) ?_
   refine J.z (yl_assign rfl rfl) ?_
   refine J.nil (Ej.seq (Cj.seq (Cj.region (J.z (yl_move rfl rfl) ?_))))
   refine J.z (yl_geq rfl rfl rfl) ?_
   refine J.nil (Ej.seq (Cj.cond rfl (fun hc9 => ?_) (fun hc9 => ?_)))
   ·
    have hc9p := of_decide_eq_true hc9
    have hpos : 0 ≤ Ke.num4 ((Ke.textOf (Ke.first fs [50, 54, 48]) [99]).drop i) := of_decide_eq_true hc9
    refine Cj.seq (Cj.region (J.z (yl_move rfl rfl) ?_))
    refine J.z (yl_assign rfl rfl) ?_
    refine J.nil (Ej.seq (Cj.ret (Ej.blkRet (Ej.seqRet (Ej.loopRet (Ej.blkRet (Ej.seqRet (Ej.ret1 rfl rfl rfl ?_))))))))
    rw [show Ke.year fs = _ from if_neg hno, ← hy, year_at h4, if_pos hpos]
    exact ⟨rfl, rfl⟩
   ·
    have hc9p := of_decide_eq_false hc9
    have hneg : ¬ 0 ≤ Ke.num4 ((Ke.textOf (Ke.first fs [50, 54, 48]) [99]).drop i) := of_decide_eq_false hc9
    refine Cj.skip (Ej.blkNormal (Ej.seq (Cj.region (J.z (yl_move rfl rfl) ?_))))
    refine J.z (yl_add rfl rfl rfl (w64 (by omega))) ?_
    refine J.z (yl_assign rfl rfl) ?_
    refine J.nil (Ej.round (i + 1) ⟨by rw [← hy, year_at h4, if_neg hneg], by omega⟩ (by omega) ⟨rfl, rfl, trivial⟩ rfl rfl)
  ·
   have hc8p := of_decide_eq_false hc8
   refine Cj.exit (Ej.seqExit (Ej.loopExit (Ej.blkExit (Ej.seq (Cj.seq (Cj.region (J.z (yl_assign rfl rfl) ?_)))))))
   refine J.nil (Ej.seq (Cj.ret (Ej.ret1 rfl rfl rfl ?_)))
   rw [show Ke.year fs = _ from if_neg hno, ← hy, Ke.yearIn_short (by rw [List.length_drop]; omega)]
   exact ⟨rfl, rfl⟩
 ·
  refine Cj.seq (Cj.region (J.z (yl_loadAgg rfl rfl Tryz.isAgg26 Tryz.sizeOf26 (Blk.at 0 rfl) rfl rfl) ?_))
  refine J.op rfl (op_call (H1 := []) rfl rfl rfl rfl rfl (mfirst_ok fs _ rk rl [48, 48, 56] hfs _ hr) ?_ (fun _ _ _ _ h => by cases h.1) (fun _ _ h => by cases h.1))
  intro v10 I11 H12 hle13 hp14
  have hr := hr.mono hle13
  obtain ⟨h, rfl⟩ := hp14; cases h
  refine J.z (yl_move rfl rfl) ?_
  refine J.z (yl_extract rfl rfl rfl) ?_
  refine J.z (yl_extract rfl rfl rfl) ?_
  refine J.op rfl (op_alloc rfl rfl rfl Tryz.zeroValue35 rfl ?_)
  intro b15 hb15
  refine J.op rfl (op_store 0 rfl rfl rfl rfl rfl (fldC_one hsv8) Tryz.sizeOf35 rfl rfl (LSpl.c (LSpl.c (LSpl.c (LSpl.c LSpl.z)))) LSet.z ?_)
  refine J.z (yl_assign rfl rfl) ?_
  refine J.nil (Ej.seq (Cj.seq (Cj.region (J.z (yl_move rfl rfl) ?_))))
  refine J.z (yl_move rfl rfl) ?_
  refine J.split 17 rfl (fun hg16 => ?_) (fun hg16 => ?_)
  ·
   refine J.opG 1 17 true _ rfl rfl rfl hg16 (op_yld (yl_fieldAddr (off' := 2) rfl rfl Tryz.underlying35 rfl Tryz.sizeOf9 rfl) rfl rfl ?_)
   refine J.opG 1 17 true _ rfl rfl rfl hg16 (op_yld (yl_load rfl rfl Tryz.isAgg9 (Blk.at 0 rfl) rfl) rfl rfl ?_)
   refine J.opG 1 17 true _ rfl rfl rfl hg16 (op_yld (yl_lenStr rfl rfl Tryz.underlying9) rfl rfl ?_)
   refine J.opG 1 17 true _ rfl rfl rfl hg16 (op_yld (yl_geq rfl rfl rfl) rfl rfl ?_)
   refine J.z (yl_pick1 rfl rfl hg16 rfl) ?_
   refine J.nil (Ej.seq (Cj.cond rfl (fun hc17 => ?_) (fun hc17 => ?_)))
   ·
    have hc17p := of_decide_eq_true hc17
    have h11 : 11 ≤ (Ke.first fs [48, 48, 56]).data.length := by have h := of_decide_eq_true hc17; omega
    refine Cj.seq (Cj.region (J.z (yl_fieldAddr (off' := 2) rfl rfl Tryz.underlying35 rfl Tryz.sizeOf9 rfl) ?_))
    refine J.z (yl_load rfl rfl Tryz.isAgg9 (Blk.at 0 rfl) rfl) ?_
    refine J.z (yl_sliceStr (p := 7) (q := 11) rfl rfl Tryz.underlying9 ⟨_, rfl⟩ ⟨_, rfl⟩ (by decide) (by omega)) ?_
    refine J.eqv 25 rfl (show _ = str (((Ke.first fs [48, 48, 56]).data.drop 7).take 4) from (congrArg str cut4)) ?_
    refine J.op rfl (op_pure rfl rfl rfl rfl rfl (mnumber_ok (((Ke.first fs [48, 48, 56]).data.drop 7).take 4) (by rw [List.length_take]; omega) _) ?_)
    refine J.eqv 26 rfl (show _ = i64 (Ke.num4 ((Ke.first fs [48, 48, 56]).data.drop 7)) from (congrArg i64 (numS_cut (by rw [List.length_drop]; omega)))) ?_
    refine J.z (yl_assign rfl rfl) ?_
    refine J.nil (Ej.seq (Cj.seq (Cj.region (J.z (yl_move rfl rfl) ?_))))
    refine J.z (yl_geq rfl rfl rfl) ?_
    refine J.nil (Ej.seq (Cj.cond rfl (fun hc18 => ?_) (fun hc18 => ?_)))
    ·
     have hc18p := of_decide_eq_true hc18
     have hpos : 0 ≤ Ke.num4 ((Ke.first fs [48, 48, 56]).data.drop 7) := of_decide_eq_true hc18
     refine Cj.seq (Cj.region (J.z (yl_move rfl rfl) ?_))
     refine J.z (yl_assign rfl rfl) ?_
     refine J.nil (Ej.seq (Cj.ret (Ej.seqRet (Ej.bare ?_))))
     refine Ej.ret1 rfl rfl rfl ?_
     rw [show Ke.year fs = _ from if_pos ⟨h11, hpos⟩]
     exact ⟨rfl, rfl⟩
    ·
     have hc18p := of_decide_eq_false hc18
     have hpos : ¬ 0 ≤ Ke.num4 ((Ke.first fs [48, 48, 56]).data.drop 7) := of_decide_eq_false hc18
     refine Cj.skip (Ej.keep (Keeps.d (Keeps.k Keeps.n)) ?_)
     exact hcut _ _ _ _ ⟨hr, fun g => hpos g.2⟩ ⟨rfl, trivial⟩ rfl rfl
   ·
    have hc17p := of_decide_eq_false hc17
    have h11 : ¬ 11 ≤ (Ke.first fs [48, 48, 56]).data.length := by have h := of_decide_eq_false hc17; omega
    refine Cj.skip (Ej.keep (Keeps.d (Keeps.k Keeps.n)) ?_)
    exact hcut _ _ _ _ ⟨hr, fun g => h11 g.1⟩ ⟨rfl, trivial⟩ rfl rfl
  ·
   have hfind : Ke.find fs [48, 48, 56] = none := by have h := hg16; simpa using h
   have hdz : (Ke.first fs [48, 48, 56]).data.length = 0 := by unfold Ke.first; rw [hfind]; rfl
   refine J.skip 1 17 18 true _ rfl rfl rfl hg16 rfl rfl ?_
   refine J.skip 1 17 19 true _ rfl rfl rfl hg16 rfl rfl ?_
   refine J.skip 1 17 20 true _ rfl rfl rfl hg16 rfl rfl ?_
   refine J.skip 1 17 21 true _ rfl rfl rfl hg16 rfl rfl ?_
   refine J.z (yl_pick0 rfl rfl hg16 rfl) ?_
   refine J.nil (Ej.seq (Cj.cond rfl (fun hc19 => Bool.noConfusion (Eq.trans (Eq.symm rfl) hc19)) (fun hc19 => ?_)))
   refine Cj.skip (Ej.keep (Keeps.d (Keeps.k Keeps.n)) ?_)
   exact hcut _ _ _ _ ⟨hr, fun g => by rw [hdz] at g; exact absurd g.1 (by decide)⟩ ⟨rfl, trivial⟩ rfl rfl
end Go.Proofs.YtadnofaleepkmaaGreatDoor
end
