/-
  The program's keys.text and keys.Title. Own text, printed by a program. Conditions: none.
-/
import Derived.Test.YtnogdccoekfnoaaGreatDoorIsb
import Derived.Test.YtnogdccoekfnoaaGreatDoorSxRow
import Derived.Test.YtnogdccoekfnoaaGreatDoorKeRec
namespace Go.Proofs.YtnogdccoekfnoaaGreatDoor
open Go Go.Sx
def subC (s : Ke.Sub) : List Value := [u8 s.code, str s.text]
def fldC (f : Ke.Fld) : List Value := [str f.tag, str f.ind, str f.data, f.sv]
theorem subC_len (s : Ke.Sub) : (subC s).length = 2 := rfl
theorem fldC_len (f : Ke.Fld) : (fldC f).length = 4 := rfl
/-- A record's fields, as they lie in blocks that stand for good. -/
def RecS (I : Heap) (fs : List Ke.Fld) (v : Value) : Prop := RowS fldC I fs v ∧ ∀ f ∈ fs, RowS subC I f.subs f.sv
theorem RecS.mono {I I' : Heap} {fs : List Ke.Fld} {v : Value} (h : RecS I fs v) (hle : Le I I') : RecS I' fs v := ⟨h.1.mono hle, fun f hf => (h.2 f hf).mono hle⟩
def recV (k l : UInt8) (v : Value) : Value := .agg #[u8 k, u8 l, v]
def textsLen (ss : List Ke.Sub) : Nat := (ss.map (·.text.length)).sum
def FOK (fs : List Ke.Fld) : Prop := fs.length ≤ 2000000 ∧ ∀ f ∈ fs, f.subs.length ≤ 2000000 ∧ textsLen f.subs ≤ 2000000 ∧ f.ind.length ≤ 2000000
theorem find_none {fs : List Ke.Fld} {tag : List UInt8} (h : ∀ f ∈ fs, f.tag ≠ tag) : Ke.find fs tag = none := List.find?_eq_none.2 fun f hf => by simp [h f hf]
theorem find_some {fs : List Ke.Fld} {tag : List UInt8} {k : Nat} {f : Ke.Fld} (h : ∀ g ∈ fs.take k, g.tag ≠ tag) (hf : fs[k]? = some f) (ht : f.tag = tag) : Ke.find fs tag = some f := by
  obtain ⟨hlt, hg⟩ := List.getElem?_eq_some_iff.1 hf
  unfold Ke.find
  rw [List.find?_eq_some_iff_append]
  refine ⟨decide_eq_true ht, fs.take k, fs.drop (k + 1), ?_, fun g hg' => by simp [h g hg']⟩
  rw [← hg, List.getElem_cons_drop, List.take_append_drop]
/-- Where the first field with a tag is. -/
def foundAt (fs : List Ke.Fld) (tag : List UInt8) (n : Int) : Prop := (n = -1 ∧ Ke.find fs tag = none) ∨ ∃ (k : Nat) (f : Ke.Fld), n = k ∧ fs[k]? = some f ∧ Ke.find fs tag = some f
theorem tags_next {fs : List Ke.Fld} {tag : List UInt8} {k : Nat} {f : Ke.Fld} (h : ∀ g ∈ fs.take k, g.tag ≠ tag) (hf : fs[k]? = some f) (ht : f.tag ≠ tag) : ∀ g ∈ fs.take (k + 1), g.tag ≠ tag := fun g hg => by
  obtain ⟨hlt, hg'⟩ := List.getElem?_eq_some_iff.1 hf
  rw [List.take_succ_eq_append_getElem hlt, List.mem_append, List.mem_singleton] at hg
  rcases hg with hg | rfl
  · exact h g hg
  · rw [hg']; exact ht
set_option maxRecDepth 20000 in
theorem text1_ok (f : Ke.Fld) (tb : Nat) (tag : List UInt8) (I : Heap) (htb : I tb = some (cel 9 [str tag])) : Pure Tryz.prog 80 [.agg (fldC f).toArray, ptr tb 0] I (.bool (f.tag == tag)) := by
 refine Ctr.of_body Tryz.func80 rfl (by decide) (Nat.le_of_ble_eq_true rfl) ?_
 intro w0 hw0
 refine Cj.seq (Cj.region (J.op rfl (op_box rfl rfl rfl rfl rfl ?_)))
 intro b1 hb1
 refine J.z (yl_assign rfl rfl) ?_
 refine J.nil (Ej.seq (Cj.seq (Cj.region (J.z (yl_fieldAddr (off' := 0) rfl rfl Tryz.underlying58 rfl Tryz.sizeOf9 rfl) ?_))))
 refine J.z (yl_load rfl rfl Tryz.isAgg9 (Blk.at 0 rfl) rfl) ?_
 refine J.z (yl_load rfl rfl Tryz.isAgg9 (Blk.imm htb) rfl) ?_
 refine J.z (yl_eqlStr rfl rfl rfl) ?_
 refine J.z (yl_assign rfl rfl) ?_
 refine J.nil (Ej.seq (Cj.ret (Ej.bare ?_)))
 refine Ej.ret1 rfl rfl rfl ?_
 exact ⟨rfl, rfl, rfl⟩

set_option maxRecDepth 20000 in
theorem IndexFuncF_ok (fs : List Ke.Fld) (v : Value) (hfs : fs.length ≤ 2000000) (tb : Nat) (tag : List UInt8) (I : Heap) (hr : RecS I fs v) (htb : I tb = some (cel 9 [str tag])) : Ctr Tryz.prog 79 [v, .func (.func 80) #[] #[ptr tb 0]] I []
    (fun e _I' H' => ∃ n, e = .returned (i64 n) ∧ foundAt fs tag n ∧ H' = []) := by
 obtain ⟨⟨p, c, rfl, hc, hp⟩, hsub⟩ := hr
 refine Ctr.of_body Tryz.func79 rfl (by decide) (Nat.le_of_ble_eq_true rfl) ?_
 intro w0 hw0
 refine Cj.seq (Cj.region (J.z (yl_assign rfl rfl) ?_))
 refine J.nil (Ej.seq (Cj.seq (Cj.seq (Cj.region (J.z (yl_move rfl rfl) ?_)))))
 refine J.z (yl_lenSlice rfl rfl Tryz.underlying49) ?_
 refine J.z (yl_move rfl rfl) ?_
 refine J.nil (Ej.seq (Cj.block (Cj.loop (ι := Nat) (fun j => j ≤ fs.length ∧ ∀ g ∈ fs.take j, g.tag ≠ tag) (fun j => fs.length - j) (fun j => [(0, .slice p fs.length c), (1, .func (.func 80) #[] #[ptr tb 0]), (7, i64 (fs.length : Int)), (8, i64 (j : Int))]) (fun j => I) (fun j => []) 0 ⟨Nat.zero_le _, fun g hg => by simp at hg⟩ ⟨rfl, rfl, rfl, rfl, trivial⟩ rfl rfl ?_)))
 rintro j ⟨hj, hall⟩
 refine Cj.seq (Cj.region (J.z (yl_lss rfl rfl rfl) ?_))
 refine J.nil (Ej.seq (Cj.seq (Cj.cond rfl (fun hc1 => ?_) (fun hc1 => ?_))))
 ·
  have hc1p := of_decide_eq_true hc1
  have hlt : j < fs.length := by omega
  obtain ⟨f, hget⟩ : ∃ f, fs[j]? = some f := ⟨_, List.getElem?_eq_getElem hlt⟩
  obtain ⟨fb, fo, fcs, fty, ffr, sp, rfl, hfb, hfd⟩ := hp (ne_nil_of hlt)
  refine Cj.skip (Ej.seq (Cj.seq (Cj.block (Cj.seq (Cj.region (J.z (yl_move rfl rfl) ?_))))))
  refine J.z (yl_assign rfl rfl) ?_
  refine J.nil (Ej.seq (Cj.seq (Cj.region (J.z (yl_move rfl rfl) ?_))))
  refine J.z (yl_move rfl rfl) ?_
  refine J.z (yl_move rfl rfl) ?_
  refine J.z (yl_indexAddr (off' := fo + j * 4) rfl rfl rfl Tryz.underlying49 Tryz.sizeOf58 (by omega) (by omega) (by simp)) ?_
  refine J.z (yl_loadAgg rfl rfl Tryz.isAgg58 Tryz.sizeOf58 (Blk.imm hfb) (row_from fldC_len hfd hget) rfl) ?_
  refine J.op rfl (op_pure rfl rfl rfl rfl rfl (text1_ok f tb tag _ htb) ?_)
  refine J.nil (Ej.seq (Cj.cond rfl (fun hc2 => ?_) (fun hc2 => ?_)))
  ·
   have ht : f.tag = tag := eq_of_beq hc2
   refine Cj.seq (Cj.region (J.z (yl_move rfl rfl) ?_))
   refine J.z (yl_assign rfl rfl) ?_
   refine J.nil (Ej.seq (Cj.ret (Ej.blkRet (Ej.seqRet (Ej.loopRet (Ej.blkRet (Ej.seqRet (Ej.ret1 rfl rfl rfl ?_))))))))
   exact ⟨_, rfl, .inr ⟨j, f, rfl, hget, find_some hall hget ht⟩, rfl⟩
  ·
   have hnt : f.tag ≠ tag := ne_of_beq_false hc2
   refine Cj.skip (Ej.blkNormal (Ej.seq (Cj.region (J.z (yl_add rfl rfl rfl (w64 (by omega))) ?_))))
   refine J.z (yl_move rfl rfl) ?_
   refine J.nil (Ej.round (j + 1) ⟨by omega, tags_next hall hget hnt⟩ (by omega) ⟨rfl, rfl, rfl, rfl, trivial⟩ rfl rfl)
 ·
  have hc1p := of_decide_eq_false hc1
  have hfull : fs.take j = fs := List.take_of_length_le (by omega)
  rw [hfull] at hall
  refine Cj.exit (Ej.seqExit (Ej.loopExit (Ej.blkExit (Ej.seq (Cj.seq (Cj.region (J.z (yl_assign rfl rfl) ?_)))))))
  refine J.nil (Ej.seq (Cj.ret (Ej.ret1 rfl rfl rfl ?_)))
  exact ⟨_, rfl, .inl ⟨rfl, find_none hall⟩, rfl⟩

theorem fldC_one {f : Ke.Fld} {p : Option Addr} {n c : Nat} (h : f.sv = .slice p n c) : (fldC f).all Value.oneCell' = true := by
  unfold fldC; rw [h]; rfl
def tx (codes : List UInt8) (ss : List Ke.Sub) : List (List UInt8) := (ss.filter fun s => codes.contains s.code).map (·.text)
theorem tx_next {codes : List UInt8} {ss : List Ke.Sub} {k : Nat} {s : Ke.Sub} (h : ss[k]? = some s) : tx codes (ss.take (k + 1)) = tx codes (ss.take k) ++ (if codes.contains s.code then [s.text] else []) := by
  obtain ⟨hlt, hg⟩ := List.getElem?_eq_some_iff.1 h
  unfold tx
  rw [List.take_succ_eq_append_getElem hlt, hg, List.filter_append, List.map_append]
  by_cases hc : codes.contains s.code = true
  · rw [if_pos hc, List.filter_cons_of_pos (p := fun s : Ke.Sub => codes.contains s.code) hc]; rfl
  · rw [if_neg hc, List.filter_cons_of_neg (p := fun s : Ke.Sub => codes.contains s.code) hc]; rfl
theorem tx_len (codes : List UInt8) (ss : List Ke.Sub) : (tx codes ss).length ≤ ss.length := by
  unfold tx; rw [List.length_map]; exact List.length_filter_le _ _
theorem join_len : ∀ l : List (List UInt8), (Ke.join l).length ≤ (l.map List.length).sum + l.length
  | [] => by simp [Ke.join]
  | [a] => by simp [Ke.join]
  | a :: b :: r => by
    have := join_len (b :: r)
    simp only [Ke.join, List.length_append, List.map_cons, List.sum_cons, List.length_cons, List.length_nil] at this ⊢
    omega
theorem tx_sum (codes : List UInt8) : ∀ ss : List Ke.Sub, ((tx codes ss).map List.length).sum ≤ textsLen ss
  | [] => by simp [tx]
  | s :: r => by
    have := tx_sum codes r
    unfold tx textsLen at this ⊢
    rw [List.filter_cons]
    split
    · simp only [List.map_cons, List.sum_cons]; omega
    · simp only [List.map_cons, List.sum_cons]; omega
theorem textOf_len (f : Ke.Fld) (codes : List UInt8) : (Ke.textOf f codes).length ≤ textsLen f.subs + f.subs.length := by
  have h1 := join_len (tx codes f.subs); have h2 := tx_sum codes f.subs; have h3 := tx_len codes f.subs
  have : Ke.textOf f codes = Ke.join (tx codes f.subs) := rfl
  rw [this]; omega
theorem index_has (l : List UInt8) (c : UInt8) : decide (0 ≤ Lib.indexByte l c) = l.contains c := by
  induction l with
  | nil => rfl
  | cons d r ih =>
    rw [Lib.indexByte, List.contains_cons]
    simp only [beq_iff_eq]
    by_cases h : d = c
    · subst h; simp
    · rw [if_neg h, show (c == d) = false from beq_eq_false_iff_ne.2 (Ne.symm h), Bool.false_or, ← ih]
      by_cases h0 : Lib.indexByte r c < 0
      · have : ¬ 0 ≤ Lib.indexByte r c := by omega
        rw [decide_eq_false this]
        exact decide_eq_false (by split <;> omega)
      · have : 0 ≤ Lib.indexByte r c := by omega
        rw [decide_eq_true this]
        exact decide_eq_true (by split <;> omega)

set_option maxRecDepth 20000 in
theorem text_ok (fs : List Ke.Fld) (v : Value) (rk rl : UInt8) (tag codes : List UInt8) (hok : FOK fs) (I : Heap) (hr : RecS I fs v) : Ctr Tryz.prog 51 [recV rk rl v, str tag, str codes] I []
    (fun e _I' H' => e = .returned (.tuple #[str (Ke.textOf (Ke.first fs tag) codes), .agg (fldC (Ke.first fs tag)).toArray]) ∧ H' = []) := by
 have hfs := hok.1
 refine Ctr.of_body Tryz.func51 rfl (by decide) (Nat.le_of_ble_eq_true rfl) ?_
 intro w0 hw0
 refine Cj.seq (Cj.region (J.op rfl (op_box rfl rfl rfl rfl rfl ?_)))
 intro b1 hb1
 refine J.op rfl (op_box rfl rfl rfl rfl rfl ?_)
 intro b2 hb2
 refine J.z (yl_assign rfl rfl) ?_
 refine J.op rfl (op_alloc rfl rfl rfl Tryz.zeroValue58 rfl ?_)
 intro b3 hb3
 refine J.nil (Ej.seq (Cj.seq (Cj.pull (Pull.s Pull.z) ?_)))
 refine Cj.persist hb2 (fun I9 hle9 htb => ?_)
 have hr := hr.mono hle9
 refine Cj.region (J.z (yl_fieldAddr (off' := 2) rfl rfl Tryz.underlying51 rfl Tryz.sizeOf49 rfl) ?_)
 refine J.z (yl_load rfl rfl Tryz.isAgg49 (Blk.at 1 rfl) rfl) ?_
 refine J.z (yl_makeFunc rfl rfl rfl) ?_
 refine J.op rfl (op_call (H1 := []) rfl rfl rfl rfl rfl (IndexFuncF_ok fs v hfs b2 tag _ hr htb) ?_ (fun _ _ _ _ h => by obtain ⟨_, h, _⟩ := h; cases h) (fun _ _ h => by obtain ⟨_, h, _⟩ := h; cases h))
 intro v4 I5 H6 hle7 hp8
 have hr := hr.mono hle7
 have htb := hle7 _ _ htb
 obtain ⟨n, h, hn, rfl⟩ := hp8; cases h
 refine J.z (yl_assign rfl rfl) ?_
 refine J.nil (Ej.seq (Cj.seq (Cj.seq (Cj.region (J.z (yl_move rfl rfl) ?_)))))
 refine J.z (yl_lss rfl rfl rfl) ?_
 refine J.nil (Ej.seq (Cj.cond rfl (fun hc9 => ?_) (fun hc9 => ?_)))
 ·
  have hc9p := of_decide_eq_true hc9
  have hn0 := of_decide_eq_true hc9
  have hfind : Ke.find fs tag = none := (hn.resolve_right (fun ⟨k, f, h, _⟩ => by rw [h] at hn0; omega)).2
  refine Cj.seq (Cj.region (J.z (yl_buildS (pl := #[(0, 1), (1, 1), (2, 1), (3, 1)]) rfl rfl Tryz.zeroValue58 rfl Tryz.underlying58 (fun w => by simp [Tryz.sizeOf56, Tryz.sizeOf9]) LBld.none) ?_))
  refine J.z (yl_assign rfl rfl) ?_
  refine J.op rfl (op_store 0 rfl rfl rfl rfl rfl rfl Tryz.sizeOf58 rfl rfl (LSpl.c (LSpl.c (LSpl.c (LSpl.c LSpl.z)))) LSet.z ?_)
  refine J.nil (Ej.seq (Cj.ret (Ej.seqRet ?_)))
  have hfirst : Ke.first fs tag = Ke.zf := by unfold Ke.first; rw [hfind]; rfl
  rw [hfirst]
  refine Ej.retTC (Keeps.d (Keeps.d Keeps.n)) rfl rfl rfl (Blk.at 0 rfl) Tryz.isAgg58 Tryz.sizeOf58 rfl rfl ?_
  exact ⟨rfl, rfl⟩
 ·
  have hc9p := of_decide_eq_false hc9
  have hn0 := of_decide_eq_false hc9
  obtain ⟨k, f, rfl, hget, hfind⟩ := hn.resolve_left (fun h => hn0 (by rw [h.1]; decide))
  have hfm := List.mem_of_getElem? hget
  have hklt := (List.getElem?_eq_some_iff.1 hget).1
  have hsub := hr.2 f hfm
  have hfk := hok.2 f hfm
  obtain ⟨⟨p, c, rfl, hc, hp⟩, -⟩ := hr
  obtain ⟨fb, fo, fcs, fty, ffr, sp, rfl, hfb, hfd⟩ := hp (ne_nil_of hklt)
  obtain ⟨p2, c2, hsv, hc2, hp2⟩ := hsub
  refine Cj.skip (Ej.seq (Cj.seq (Cj.region (J.z (yl_assign rfl rfl) ?_))))
  refine J.nil (Ej.seq (Cj.seq (Cj.seq (Cj.region (J.z (yl_fieldAddr (off' := 2) rfl rfl Tryz.underlying51 rfl Tryz.sizeOf49 rfl) ?_)))))
  refine J.z (yl_load rfl rfl Tryz.isAgg49 (Blk.at 1 rfl) rfl) ?_
  refine J.z (yl_move rfl rfl) ?_
  refine J.z (yl_indexAddr (off' := fo + k * 4) rfl rfl rfl Tryz.underlying49 Tryz.sizeOf58 (by omega) (by omega) (by simp)) ?_
  refine J.z (yl_fieldAddr rfl rfl Tryz.underlying58 rfl Tryz.sizeOf56 rfl) ?_
  refine J.z (yl_load rfl rfl Tryz.isAgg56 (Blk.imm hfb) (row_fcell fldC_len hfd hget 3 (by decide))) ?_
  refine J.eqv 24 rfl (show _ = .slice p2 f.subs.length c2 from hsv) ?_
  refine J.z (yl_lenSlice rfl rfl Tryz.underlying56) ?_
  refine J.z (yl_move rfl rfl) ?_
  refine J.nil (Ej.seq (Cj.block (Cj.loop (ι := Nat × Gs) (fun j => j.1 ≤ f.subs.length ∧ gOk w0.heap.size 1 (tx codes (f.subs.take j.1)).length ((tx codes (f.subs.take j.1)).map str) j.2) (fun j => f.subs.length - j.1) (fun j => [(2, str codes), (3, ptr b1 0), (7, ptr b3 0), (8, i64 (k : Int)), (9, gV (tx codes (f.subs.take j.1)).length j.2), (24, .slice p2 f.subs.length c2), (25, i64 (f.subs.length : Int)), (26, i64 (j.1 : Int))]) (fun j => _) (fun j => (b3, cel 58 (fldC Ke.zf)) :: (b1, cel 51 [u8 rk, u8 rl, .slice (some ⟨fb, fo, none⟩) fs.length c]) :: gH 9 ((tx codes (f.subs.take j.1)).map str) j.2) (0, none) ⟨Nat.zero_le _, rfl, rfl⟩ ⟨rfl, rfl, rfl, rfl, rfl, rfl, rfl, rfl, trivial⟩ rfl rfl ?_)))
  rintro ⟨j, g⟩ ⟨hj, hg⟩
  dsimp only at hj hg ⊢
  have htl := tx_len codes (f.subs.take j)
  rw [List.length_take, Nat.min_eq_left hj] at htl
  refine Cj.seq (Cj.region (J.z (yl_lss rfl rfl rfl) ?_))
  refine J.nil (Ej.seq (Cj.seq (Cj.cond rfl (fun hc10 => ?_) (fun hc10 => ?_))))
  ·
   have hc10p := of_decide_eq_true hc10
   have hlt : j < f.subs.length := by omega
   obtain ⟨sb, hsget⟩ : ∃ x, f.subs[j]? = some x := ⟨_, List.getElem?_eq_getElem hlt⟩
   obtain ⟨sbk, so, scs, sty, sfr, sp2, rfl, hsbk, hsd⟩ := hp2 (ne_nil_of hlt)
   have hnx := tx_next (codes := codes) hsget
   refine Cj.skip (Ej.seq (Cj.seq (Cj.block (Cj.seq (Cj.region (J.z (yl_indexAddr (off' := so + j * 2) rfl rfl rfl Tryz.underlying56 Tryz.sizeOf60 (by omega) (by omega) (by simp)) ?_))))))
   refine J.z (yl_loadAgg rfl rfl Tryz.isAgg60 Tryz.sizeOf60 (Blk.imm hsbk) (row_from subC_len hsd hsget) rfl) ?_
   refine J.op rfl (op_alloc rfl rfl rfl Tryz.zeroValue60 rfl ?_)
   intro b11 hb11
   refine J.op rfl (op_store 0 rfl rfl rfl rfl rfl rfl Tryz.sizeOf60 rfl rfl (LSpl.c (LSpl.c LSpl.z)) LSet.z ?_)
   refine J.nil (Ej.seq (Cj.seq (Cj.region (J.z (yl_move rfl rfl) ?_))))
   refine J.z (yl_fieldAddr (off' := 0) rfl rfl Tryz.underlying60 rfl Tryz.sizeOf5 rfl) ?_
   refine J.z (yl_load rfl rfl Tryz.isAgg5 (Blk.at 0 rfl) rfl) ?_
   refine J.op rfl (op_pure rfl rfl rfl rfl rfl (IndexByte_ok _ _ _) ?_)
   refine J.z (yl_geq rfl rfl rfl) ?_
   refine J.nil (Ej.seq (Cj.cond rfl (fun hc12 => ?_) (fun hc12 => ?_)))
   ·
    have hc12p := of_decide_eq_true hc12
    have hcd : codes.contains sb.code = true := (index_has _ _).symm.trans hc12
    rw [if_pos hcd] at hnx
    refine Cj.region (J.z (yl_move rfl rfl) ?_)
    refine J.z (yl_fieldAddr (off' := 1) rfl rfl Tryz.underlying60 rfl Tryz.sizeOf9 rfl) ?_
    refine J.z (yl_load rfl rfl Tryz.isAgg9 (Blk.at 0 rfl) rfl) ?_
    refine J.op rfl (op_buildSlice rfl rfl rfl Tryz.underlying27 Tryz.sizeOf9 Tryz.zeroValue9 rfl rfl rfl rfl (LCat.one rfl LCat.none) ?_)
    intro b13 hb13
    refine J.op rfl (op_append (by' := 15) [_, _, _, _] rfl rfl rfl rfl rfl Tryz.underlying27 (.inr ⟨_, Tryz.underlying27⟩) (by kernel_rfl) Tryz.sizeOf9 Tryz.zeroValue9 rfl hg rfl (Src.slice (Blk.at 0 rfl) rfl rfl rfl) (by omega) ?_)
    intro g14 hg14
    refine J.z (yl_assign rfl rfl) ?_
    refine J.nil (Ej.blkNormal (Ej.seq (Cj.region (J.z (yl_add rfl rfl rfl (w64 (by omega))) ?_))))
    refine J.z (yl_move rfl rfl) ?_
    refine J.nil (Ej.keep (Keeps.d (Keeps.d (Keeps.k (Keeps.k Keeps.r)))) ?_)
    refine Ej.round (j + 1, g14) ⟨by dsimp only; omega, by dsimp only; rw [hnx, List.map_append, List.length_append]; exact hg14⟩ (by dsimp only; omega) ⟨rfl, rfl, rfl, rfl, by dsimp only; rw [hnx, List.length_append]; rfl, rfl, rfl, rfl, trivial⟩ rfl (by dsimp only; rw [hnx, List.map_append]; rfl)
   ·
    have hc12p := of_decide_eq_false hc12
    have hcd : ¬ codes.contains sb.code = true := fun e => Bool.noConfusion (e.symm.trans ((index_has _ _).symm.trans hc12))
    rw [if_neg hcd] at hnx
    refine Cj.skip (Ej.blkNormal (Ej.seq (Cj.region (J.z (yl_add rfl rfl rfl (w64 (by omega))) ?_))))
    refine J.z (yl_move rfl rfl) ?_
    refine J.nil (Ej.keep (Keeps.d (Keeps.k (Keeps.k Keeps.r))) ?_)
    refine Ej.round (j + 1, g) ⟨by dsimp only; omega, by dsimp only; rw [hnx, List.append_nil]; exact hg⟩ (by dsimp only; omega) ⟨rfl, rfl, rfl, rfl, by dsimp only; rw [hnx, List.append_nil]; rfl, rfl, rfl, rfl, trivial⟩ rfl (by dsimp only; rw [hnx, List.append_nil])
  ·
   have hc10p := of_decide_eq_false hc10
   refine Cj.exit (Ej.seqExit (Ej.loopExit (Ej.blkExit (Ej.seq (Cj.seq ?_)))))
   have hfull : f.subs.take j = f.subs := List.take_of_length_le (by omega)
   rw [hfull] at hg ⊢
   have htl2 := textOf_len f codes
   refine Cj.perm (H' := gH _ _ _ ++ [_, _]) List.perm_append_comm ?_
   refine Cj.keepS hg (fun I8 hle8 hv => ?_)
   have hfb := hle8 _ _ hfb
   refine Cj.drawSel [1] [] 9 (by kernel_rfl) ?_
   have htb_11 := htb
   have hfb_11 := hfb
   refine JA.fix ⟨(HSub.c 1 rfl HSub.n), CSub.n, (Le.refl _)⟩ (fun fx15 => ?_)
   refine JA.tk 0 rfl fx15 (yl_move rfl rfl) ?_
   refine JA.tk 2 rfl fx15 (yl_fieldAddr (off' := 2) rfl rfl Tryz.underlying51 rfl Tryz.sizeOf49 rfl) ?_
   refine JA.tk 3 rfl fx15 (yl_load rfl rfl Tryz.isAgg49 (Blk.atC 0 rfl) rfl) ?_
   refine JA.tk 4 rfl fx15 (yl_move rfl rfl) ?_
   refine JA.tk 5 rfl fx15 (yl_indexAddr (off' := fo + k * 4) rfl rfl rfl Tryz.underlying49 Tryz.sizeOf58 (by omega) (by omega) (by simp)) ?_
   refine JA.tk 6 rfl fx15 (yl_loadAgg rfl rfl Tryz.isAgg58 Tryz.sizeOf58 (Blk.immC hfb_11) (row_from fldC_len hfd hget) rfl) ?_
   refine JA.step 1 (by kernel_rfl) rfl rfl (op_pure rfl rfl rfl rfl rfl (Join_ok (tx codes f.subs) _ (by have := tx_len codes f.subs; omega) (by have e : Ke.join (tx codes f.subs) = Ke.textOf f codes := rfl; rw [e]; omega) _ hv) ?_)
   refine ⟨⟨(Le.refl _), (HSub.c 1 rfl HSub.n), CSub.n⟩, ?_⟩
   refine JA.fix ⟨(HSub.c 1 rfl HSub.n), CSub.n, (Le.refl _)⟩ (fun fx16 => ?_)
   refine JA.tk 7 rfl fx16 (yl_assign rfl rfl) ?_
   refine JA.step 8 (by kernel_rfl) rfl rfl (op_store 0 rfl rfl rfl rfl rfl (fldC_one hsv) Tryz.sizeOf58 rfl rfl (LSpl.c (LSpl.c (LSpl.c (LSpl.c LSpl.z)))) LSet.z ?_)
   refine ⟨⟨(Le.refl _), (HSub.c 1 rfl HSub.n), CSub.n⟩, ?_⟩
   refine JA.done (by kernel_rfl) ?_
   refine Ej.seq (Cj.ret ?_)
   have hfirst : Ke.first fs tag = f := by unfold Ke.first; rw [hfind]; rfl
   rw [hfirst]
   refine Ej.retTC (Keeps.d (Keeps.d Keeps.n)) rfl rfl rfl (Blk.at 0 rfl) Tryz.isAgg58 Tryz.sizeOf58 rfl rfl ?_
   exact ⟨rfl, rfl⟩

theorem first_in (fs : List Ke.Fld) (tag : List UInt8) : Ke.first fs tag = Ke.zf ∨ Ke.first fs tag ∈ fs := by
  unfold Ke.first
  cases h : Ke.find fs tag with
  | none => exact .inl rfl
  | some f => exact .inr (List.mem_of_find?_eq_some h)
theorem first_sv {I : Heap} {fs : List Ke.Fld} {v : Value} (tag : List UInt8) (h : RecS I fs v) : ∃ p n c, (Ke.first fs tag).sv = .slice p n c := by
  rcases first_in fs tag with e | e
  · rw [e]; exact ⟨_, _, _, rfl⟩
  · obtain ⟨p, c, h1, _⟩ := h.2 _ e
    exact ⟨p, _, c, h1⟩
theorem first_ok {fs : List Ke.Fld} (tag : List UInt8) (h : FOK fs) : (Ke.first fs tag).subs.length ≤ 2000000 ∧ textsLen (Ke.first fs tag).subs ≤ 2000000 ∧ (Ke.first fs tag).ind.length ≤ 2000000 := by
  rcases first_in fs tag with e | e
  · rw [e]; exact ⟨Nat.zero_le _, Nat.zero_le _, Nat.zero_le _⟩
  · exact h.2 _ e
theorem one_at {l : List UInt8} {c : UInt8} (h : l[1]? = some c) : (l.take 2).drop 1 = [c] := by
  obtain ⟨hlt, hg⟩ := List.getElem?_eq_some_iff.1 h
  rw [List.drop_take, drop_cons h]; rfl
theorem skip_at {f : Ke.Fld} {c : UInt8} (h : f.ind[1]? = some c) : Ke.skip f = if Ke.digits [c] = true then c.toNat - 48 else 0 := by
  unfold Ke.skip; rw [h]
  simp [Ke.digits]
theorem skip_no {f : Ke.Fld} (h : ¬ 1 < f.ind.length) : Ke.skip f = 0 := by
  unfold Ke.skip; rw [List.getElem?_eq_none (by omega)]

set_option maxRecDepth 20000 in
theorem Title_ok (fs : List Ke.Fld) (v : Value) (rk rl : UInt8) (hok : FOK fs) (I : Heap) (hr : RecS I fs v) : Pure Tryz.prog 28 [recV rk rl v] I (str (Ke.title fs)) := by
 refine Ctr.toPure ?_
 have hfo := first_ok [50, 52, 53] hok
 have htl := textOf_len (Ke.first fs [50, 52, 53]) [97, 98]
 obtain ⟨p, n, c0, hsv⟩ := first_sv [50, 52, 53] hr
 refine Ctr.of_body Tryz.func28 rfl (by decide) (Nat.le_of_ble_eq_true rfl) ?_
 intro w0 hw0
 refine Cj.seq (Cj.region (J.op rfl (op_box rfl rfl rfl rfl rfl ?_)))
 intro b1 hb1
 refine J.z (yl_assign rfl rfl) ?_
 refine J.nil (Ej.seq (Cj.seq (Cj.region (J.z (yl_loadAgg rfl rfl Tryz.isAgg51 Tryz.sizeOf51 (Blk.at 0 rfl) rfl rfl) ?_))))
 refine J.op rfl (op_call (H1 := []) rfl rfl rfl rfl rfl (text_ok fs v rk rl [50, 52, 53] [97, 98] hok _ hr) ?_ (fun _ _ _ _ h => by cases h.1) (fun _ _ h => by cases h.1))
 intro v2 I3 H4 hle5 hp6
 have hr := hr.mono hle5
 obtain ⟨h, rfl⟩ := hp6; cases h
 refine J.z (yl_move rfl rfl) ?_
 refine J.z (yl_extract rfl rfl rfl) ?_
 refine J.z (yl_extract rfl rfl rfl) ?_
 refine J.op rfl (op_alloc rfl rfl rfl Tryz.zeroValue58 rfl ?_)
 intro b7 hb7
 refine J.z (yl_assign rfl rfl) ?_
 refine J.op rfl (op_store 0 rfl rfl rfl rfl rfl (fldC_one hsv) Tryz.sizeOf58 rfl rfl (LSpl.c (LSpl.c (LSpl.c (LSpl.c LSpl.z)))) LSet.z ?_)
 refine J.nil (Ej.seq (Cj.seq (Cj.region (J.z (yl_assign rfl rfl) ?_))))
 refine J.nil (Ej.seq (Cj.seq (Cj.seq (Cj.region (J.z (yl_fieldAddr (off' := 1) rfl rfl Tryz.underlying58 rfl Tryz.sizeOf9 rfl) ?_)))))
 refine J.z (yl_load rfl rfl Tryz.isAgg9 (Blk.at 0 rfl) rfl) ?_
 refine J.z (yl_lenStr rfl rfl Tryz.underlying9) ?_
 refine J.z (yl_gtr rfl rfl rfl) ?_
 refine J.z (yl_move rfl rfl) ?_
 refine J.split 15 rfl (fun hg8 => ?_) (fun hg8 => ?_)
 ·
  have hl1 : 1 < (Ke.first fs [50, 52, 53]).ind.length := by have h := of_decide_eq_true hg8; omega
  obtain ⟨c, hget⟩ : ∃ c, (Ke.first fs [50, 52, 53]).ind[1]? = some c := ⟨_, List.getElem?_eq_getElem hl1⟩
  refine J.opG 4 15 true _ rfl rfl rfl hg8 (op_yld (yl_fieldAddr (off' := 1) rfl rfl Tryz.underlying58 rfl Tryz.sizeOf9 rfl) rfl rfl ?_)
  refine J.opG 4 15 true _ rfl rfl rfl hg8 (op_yld (yl_load rfl rfl Tryz.isAgg9 (Blk.at 0 rfl) rfl) rfl rfl ?_)
  refine J.opG 4 15 true _ rfl rfl rfl hg8 (op_yld (yl_sliceStr (p := 1) (q := 2) rfl rfl Tryz.underlying9 ⟨_, rfl⟩ ⟨_, rfl⟩ (by omega) (by omega)) rfl rfl ?_)
  refine J.eqv 18 rfl (show _ = str [c] from (by rw [one_at hget])) ?_
  refine J.opG 4 15 true _ rfl rfl rfl hg8 (op_pure rfl rfl rfl rfl rfl (isDigits_ok [c] (by simp) _) ?_)
  refine J.z (yl_pick1 rfl rfl hg8 rfl) ?_
  refine J.nil (Ej.seq (Cj.cond rfl (fun hc9 => ?_) (fun hc9 => ?_)))
  ·
   have hd : Ke.digits [c] = true := hc9
   have hcd := digits_at (k := 0) hd rfl
   refine Cj.region (J.z (yl_fieldAddr (off' := 1) rfl rfl Tryz.underlying58 rfl Tryz.sizeOf9 rfl) ?_)
   refine J.z (yl_load rfl rfl Tryz.isAgg9 (Blk.at 0 rfl) rfl) ?_
   refine J.z (yl_index rfl rfl rfl Tryz.underlying9 (by omega) hget) ?_
   refine J.z (yl_sub rfl rfl rfl (w8 (by omega))) ?_
   refine J.z (yl_convInt rfl rfl Tryz.underlying5 Tryz.underlying3) ?_
   refine J.eqv 25 rfl (show _ = i64 ((c.toNat - 48 : Nat) : Int) from (congrArg i64 ((w64 (by omega)).trans (by omega)))) ?_
   refine J.z (yl_assign rfl rfl) ?_
   refine J.nil (Ej.seq (Cj.seq (Cj.region (J.z (yl_move rfl rfl) ?_))))
   refine J.z (yl_move rfl rfl) ?_
   refine J.op rfl (op_pure rfl rfl rfl rfl rfl (Sort_ok (Ke.textOf (Ke.first fs [50, 52, 53]) [97, 98]) _ (by omega) _) ?_)
   refine J.z (yl_assign rfl rfl) ?_
   refine J.nil (Ej.seq (Cj.ret (Ej.bare ?_)))
   refine Ej.ret1 rfl rfl rfl ?_
   have hsk := (skip_at hget).trans (if_pos hd)
   unfold Ke.title
   rw [hsk]
   exact ⟨rfl, rfl⟩
  ·
   have hd : ¬ Ke.digits [c] = true := fun e => Bool.noConfusion (e.symm.trans hc9)
   refine Cj.skip (Ej.seq (Cj.seq (Cj.region (J.z (yl_move rfl rfl) ?_))))
   refine J.z (yl_move rfl rfl) ?_
   refine J.op rfl (op_pure rfl rfl rfl rfl rfl (Sort_ok (Ke.textOf (Ke.first fs [50, 52, 53]) [97, 98]) _ (by omega) _) ?_)
   refine J.z (yl_assign rfl rfl) ?_
   refine J.nil (Ej.seq (Cj.ret (Ej.bare ?_)))
   refine Ej.ret1 rfl rfl rfl ?_
   have hsk := (skip_at hget).trans (if_neg hd)
   unfold Ke.title
   rw [hsk]
   exact ⟨rfl, rfl⟩
 ·
  have hl1 : ¬ 1 < (Ke.first fs [50, 52, 53]).ind.length := by have h := of_decide_eq_false hg8; omega
  refine J.skip 4 15 16 true _ rfl rfl rfl hg8 rfl rfl ?_
  refine J.skip 4 15 17 true _ rfl rfl rfl hg8 rfl rfl ?_
  refine J.skip 4 15 18 true _ rfl rfl rfl hg8 rfl rfl ?_
  refine J.skip 4 15 19 true _ rfl rfl rfl hg8 rfl rfl ?_
  refine J.z (yl_pick0 rfl rfl hg8 rfl) ?_
  refine J.nil (Ej.seq (Cj.cond rfl (fun hc10 => Bool.noConfusion (Eq.trans (Eq.symm rfl) hc10)) (fun hc10 => ?_)))
  refine Cj.skip (Ej.seq (Cj.seq (Cj.region (J.z (yl_move rfl rfl) ?_))))
  refine J.z (yl_move rfl rfl) ?_
  refine J.op rfl (op_pure rfl rfl rfl rfl rfl (Sort_ok (Ke.textOf (Ke.first fs [50, 52, 53]) [97, 98]) _ (by omega) _) ?_)
  refine J.z (yl_assign rfl rfl) ?_
  refine J.nil (Ej.seq (Cj.ret (Ej.bare ?_)))
  refine Ej.ret1 rfl rfl rfl ?_
  have hsk := skip_no hl1
  unfold Ke.title
  rw [hsk]
  exact ⟨rfl, rfl⟩

end Go.Proofs.YtnogdccoekfnoaaGreatDoor
