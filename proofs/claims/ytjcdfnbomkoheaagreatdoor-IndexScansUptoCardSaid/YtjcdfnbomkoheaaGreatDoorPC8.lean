/-
  Own texts on the laws of the seat, joined: the logic, and contracts of functions. Conditions: none.
-/
import Derived.Test.YtjcdfnbomkoheaaGreatDoorPC7
import Derived.Test.YtjcdfnbomkoheaaGreatDoorPC6
import Derived.Maps.RangeRun
import Derived.Laws.StructEq
set_option maxRecDepth 100000
set_option maxHeartbeats 4000000
section
namespace Go.Proofs.YtjcdfnbomkoheaaGreatDoor
open _root_.Go.Proofs.Tryz
open Go Go.Sx
def pickU (u : List UInt8 → List UInt8 × Bool) (code : UInt8) (s : Ke.Sub) : Option (List UInt8) := if (u s.text).2 = true ∧ s.code = code then some (u s.text).1 else none
def uy (s : List UInt8) : List UInt8 × Bool := ((Ix.yearOf s).getD [], (Ix.yearOf s).isSome)
theorem pick_yr : pickU uy 99 = Ix.yr := by
  funext s
  unfold pickU uy Ix.yr
  by_cases h : s.code = 99
  · rw [if_pos h]
    cases hy : Ix.yearOf s.text with
    | none => simp
    | some y => simp [h]
  rw [if_neg h, if_neg (fun g => h g.2)]
theorem fm_next {u : List UInt8 → List UInt8 × Bool} {code : UInt8} {ss : List Ke.Sub} {k : Nat} {s : Ke.Sub} (h : ss[k]? = some s) : (ss.take (k + 1)).filterMap (pickU u code) = (ss.take k).filterMap (pickU u code) ++ (if (u s.text).2 = true ∧ s.code = code then [(u s.text).1] else []) := by
  obtain ⟨hlt, hg⟩ := List.getElem?_eq_some_iff.1 h
  rw [List.take_succ_eq_append_getElem hlt, hg, List.filterMap_append]
  by_cases hc : (u s.text).2 = true ∧ s.code = code
  · rw [if_pos hc]; simp [pickU, hc]
  rw [if_neg hc]; simp [pickU, hc]
theorem pre_eq {s p : List UInt8} (_h : p.length ≤ s.length) : p.isPrefixOf s = ((s.take p.length).drop 0 == p) := by
  rw [List.drop_zero, Bool.eq_iff_iff, List.isPrefixOf_iff_prefix, beq_iff_eq, List.prefix_iff_eq_take]
  exact ⟨fun e => e.symm, fun e => e.symm⟩
theorem pre_no {s p : List UInt8} (h : ¬ p.length ≤ s.length) : p.isPrefixOf s = false := by
  rw [Bool.eq_false_iff, Ne, List.isPrefixOf_iff_prefix]
  exact fun e => h e.length_le
theorem StrS_sl {T : TypeId} {I : Heap} {l : List (List UInt8)} {v : Value} (h : StrS T I l v) : ∃ p c, v = .slice p l.length c := by
  rcases h with ⟨rfl, rfl⟩ | ⟨b, c, sp, rfl, _, _⟩
  · exact ⟨none, 0, rfl⟩
  exact ⟨_, c, rfl⟩
theorem vw_one {I : Heap} {l : List (List UInt8)} {a b w : Value} (h : StrS 9 I l w) (ha : Value.oneCell' a = true) (hb : Value.oneCell' b = true) : [a, b, w].all Value.oneCell' = true := by
  obtain ⟨p, c, rfl⟩ := StrS_sl h
  simp only [List.all_cons, List.all_nil, ha, hb, Bool.and_true, Bool.true_and]; rfl
def EOK (fs : List Ke.Fld) : Prop := fs.length ≤ 1000 ∧ ∀ f ∈ fs, f.subs.length ≤ 1000 ∧ textsLen f.subs ≤ 3000000 ∧ f.ind.length ≤ 2000000
abbrev VW := Ix.V × Value
def vwC (x : VW) : List Value := [str x.1.name, str x.1.key, x.2]
theorem vwC_len (x : VW) : (vwC x).length = 3 := rfl
def ValsX (I : Heap) (xs : List VW) (vs : List Ix.V) : Prop := xs.map (·.1) = vs ∧ ∀ x ∈ xs, StrS 9 I x.1.ws x.2
theorem ValsX.mono {I I' : Heap} {xs : List VW} {vs : List Ix.V} (h : ValsX I xs vs) (hle : Le I I') : ValsX I' xs vs := ⟨h.1, fun x hx => (h.2 x hx).mono hle⟩
theorem ValsX.len {I : Heap} {xs : List VW} {vs : List Ix.V} (h : ValsX I xs vs) : xs.length = vs.length := by rw [← h.1, List.length_map]
theorem ValsX.add {I : Heap} {xs : List VW} {vs : List Ix.V} (h : ValsX I xs vs) {v : Ix.V} {w : Value} (hw : StrS 9 I v.ws w) : ValsX I (xs ++ [(v, w)]) (vs ++ [v]) :=
  ⟨by rw [List.map_append, h.1]; rfl, fun x hx => by
    rcases List.mem_append.1 hx with g | g
    · exact h.2 x g
    rw [List.mem_singleton.1 g]; exact hw⟩
def ValsS (I : Heap) (vs : List Ix.V) (v : Value) : Prop := ∃ xs, RowT 98 vwC I xs v ∧ ValsX I xs vs
theorem ValsS.mono {I I' : Heap} {vs : List Ix.V} {v : Value} (h : ValsS I vs v) (hle : Le I I') : ValsS I' vs v := let ⟨xs, h1, h2⟩ := h; ⟨xs, h1.mono hle, h2.mono hle⟩
theorem named_len (f : Ke.Fld) (h : f.subs.length ≤ 1000) : (Ix.named f).2.length ≤ 1000 := by
  unfold Ix.named
  repeat' split
  all_goals first
    | exact Nat.le_trans (List.length_filterMap_le _ _) h
    | simp
theorem fm_text {p : Ke.Sub → Option (List UInt8)} {ss : List Ke.Sub} {s : List UInt8} {n : Nat} (hp : ∀ x ∈ ss, ∀ y, p x = some y → y.length ≤ n) (h : s ∈ ss.filterMap p) : s.length ≤ n := by
  obtain ⟨x, hx, he⟩ := List.mem_filterMap.1 h
  exact hp x hx s he
theorem isbn_len (s : List UInt8) : (Ke.isbn s).1.length ≤ 13 := by
  unfold Ke.isbn Ke.isbnN
  split
  · simp only [List.length_append, List.length_take, List.length_cons, List.length_nil]; omega
  split
  · rename_i h; have := h.1; dsimp only; omega
  simp
theorem yearOf_len {s y : List UInt8} (h : Ix.yearOf s = some y) : y.length = 4 := by
  have h1 := List.find?_some h
  exact of_decide_eq_true h1
theorem named_text {f : Ke.Fld} {s : List UInt8} (h : s ∈ (Ix.named f).2) : s.length ≤ textsLen f.subs + f.subs.length + 13 := by
  have ht : ∀ c : List UInt8, (Ke.textOf f c).length ≤ textsLen f.subs + f.subs.length := textOf_len f
  unfold Ix.named at h
  repeat' split at h
  all_goals first
    | (rw [List.mem_singleton] at h; rw [h]; have := ht [97, 98]; have := ht [97]; have := ht [97, 120]; omega)
    | (refine Nat.le_trans (fm_text (n := 13) (fun x _ y hy => ?_) h) (by omega); unfold Ke.isb at hy; split at hy; (cases hy; exact isbn_len _); cases hy)
    | (refine Nat.le_trans (fm_text (n := 13) (fun x _ y hy => ?_) h) (by omega); unfold Ix.yr at hy; split at hy; (have := yearOf_len hy; omega); cases hy)
    | cases h
theorem vals1_len (f : Ke.Fld) (h : f.subs.length ≤ 1000) : (Ix.vals1 f).length ≤ 1001 := by
  have := named_len f h
  unfold Ix.vals1
  rw [List.length_append, List.length_map]
  split <;> simp <;> omega
theorem vals_take (fs : List Ke.Fld) (h : EOK fs) (j : Nat) : (Ix.vals (fs.take j)).length ≤ j * 1001 := by
  induction j with
  | zero => simp [Ix.vals]
  | succ j ih =>
    rcases Nat.lt_or_ge j fs.length with hj | hj
    · rw [List.take_succ_eq_append_getElem hj]
      unfold Ix.vals at ih ⊢
      rw [List.flatMap_append, List.length_append]
      have := vals1_len fs[j] (h.2 _ (List.getElem_mem hj)).1
      simp only [List.flatMap_cons, List.flatMap_nil, List.append_nil]
      omega
    rw [List.take_of_length_le hj] at ih
    rw [List.take_of_length_le (show fs.length ≤ j + 1 by omega)]
    exact Nat.le_trans ih (Nat.mul_le_mul_right _ (Nat.le_succ j))
theorem vals_next {fs : List Ke.Fld} {j : Nat} {f : Ke.Fld} (h : fs[j]? = some f) : Ix.vals (fs.take (j + 1)) = Ix.vals (fs.take j) ++ Ix.vals1 f := by
  obtain ⟨hlt, hg⟩ := List.getElem?_eq_some_iff.1 h
  rw [List.take_succ_eq_append_getElem hlt, hg]
  unfold Ix.vals
  rw [List.flatMap_append]; simp
abbrev nv (f : Ke.Fld) (s : List UInt8) : Ix.V := ⟨(Ix.named f).1, s, Ix.skipT f⟩
theorem map_next {α β : Type} (g : α → β) {l : List α} {k : Nat} {x : α} (h : l[k]? = some x) : (l.take (k + 1)).map g = (l.take k).map g ++ [g x] := by
  obtain ⟨hlt, hg⟩ := List.getElem?_eq_some_iff.1 h
  rw [List.take_succ_eq_append_getElem hlt, hg, List.map_append]; rfl
structure VA where
  j : Nat
  J : Heap
  xs : List VW
  g : Gs
theorem sHasPrefix_ok (s p : List UInt8) (hp : p.length ≤ 1000000) (I : Heap) : Pure Tryz.prog 150 [str s, str p] I (.bool (p.isPrefixOf s)) := by
 refine Ctr.toPure ?_
 refine Ctr.ob func150 ?_
 intro w0 hw0
 refine Cj.sr (J.z q1 ?_)
 refine J.nssr (J.z q0 ?_)
 refine J.z (q23 underlying9) ?_
 refine J.z q0 ?_
 refine J.z (q23 underlying9) ?_
 refine J.z (yl_geq rfl rfl rfl) ?_
 refine J.z q0 ?_
 refine J.split 10 rfl (fun hg1 => ?_) (fun hg1 => ?_)
 ·
  have hg1p := of_decide_eq_true hg1
  have hge : p.length ≤ s.length := by have h := of_decide_eq_true hg1; omega
  refine q5 5 10 true hg1 (q2 q0 ?_)
  refine q5 5 10 true hg1 (q2 q0 ?_)
  refine q5 5 10 true hg1 (q2 (q23 underlying9) ?_)
  refine J.opG 5 10 true _ rfl rfl rfl hg1 (op_yld (yl_sliceStr (p := 0) (q := p.length) rfl rfl underlying9 rfl ⟨_, rfl⟩ (by omega) (by omega)) rfl rfl ?_)
  refine q5 5 10 true hg1 (q2 q0 ?_)
  refine q5 5 10 true hg1 (q2 (yl_eqlStr rfl rfl rfl) ?_)
  refine J.z (q11 hg1) ?_
  refine J.z q1 ?_
  refine J.ns (Cj.ret (q6 ?_))
  refine ⟨?_, rfl⟩
  rw [pre_eq hge]
 have hg1p := of_decide_eq_false hg1
 have hge : ¬ p.length ≤ s.length := by have h := of_decide_eq_false hg1; omega
 refine q4 5 10 11 true hg1 ?_
 refine q4 5 10 12 true hg1 ?_
 refine q4 5 10 13 true hg1 ?_
 refine q4 5 10 14 true hg1 ?_
 refine q4 5 10 15 true hg1 ?_
 refine q4 5 10 16 true hg1 ?_
 refine J.z (q10 hg1) ?_
 refine J.z q1 ?_
 refine J.ns (Cj.ret (q6 ?_))
 rw [pre_no hge]
 exact ⟨rfl, rfl⟩
theorem HasPrefix_ok (s p : List UInt8) (hp : p.length ≤ 1000000) (I : Heap) : Pure Tryz.prog 103 [str s, str p] I (.bool (p.isPrefixOf s)) := by
 refine Ctr.toPure ?_
 refine Ctr.ob func103 ?_
 intro w0 hw0
 refine Cj.sr (J.z q1 ?_)
 refine J.nssr (J.z q0 ?_)
 refine J.z q0 ?_
 refine J.op rfl (op_pure rfl rfl rfl rfl rfl (sHasPrefix_ok s p hp _) ?_)
 refine J.z q1 ?_
 refine J.ns (Cj.ret (q6 ?_))
 exact ⟨rfl, rfl⟩
theorem subfields_ok (f : Ke.Fld) (code : UInt8) (g0 : Nat) (u : List UInt8 → List UInt8 × Bool) (hn : f.subs.length ≤ 2000000) (htx : textsLen f.subs ≤ 3000000) (hu : ∀ s J, s.length ≤ 100000000 → Pure Tryz.prog g0 [str s] J (.tuple #[str (u s).1, .bool (u s).2])) (I : Heap) (hr : RowS subC I f.subs f.sv) : Ctr Tryz.prog 148 [.agg (fldC f).toArray, u8 code, .func (.func g0) #[] #[]] I []
    (fun e I' H' => ∃ v, e = .returned v ∧ StrS 9 I' (f.subs.filterMap (pickU u code)) v ∧ H' = []) := by
 obtain ⟨p2, c2, hsv, hc2, hp2⟩ := hr
 refine Ctr.ob func148 ?_
 intro w0 hw0
 refine Cj.sr (J.op rfl (q25 ?_))
 intro b1 hb1
 refine J.z q1 ?_
 refine J.nssr (J.z q1 ?_)
 refine J.nsss (Cj.region (J.z (q3 (off' := 3) underlying31 sizeOf29) ?_))
 refine J.z (q7 isAgg29 (Blk.at 0 rfl)) ?_
 refine J.eqv 13 rfl (show _ = .slice p2 f.subs.length c2 from hsv) ?_
 refine J.z (q16 underlying29) ?_
 refine J.z q0 ?_
 refine J.ns (Cj.block (Cj.keep (Keeps.d Keeps.n) ?_))
 refine Cj.loop (ι := Nat × Gs) (fun j => j.1 ≤ f.subs.length ∧ gOk w0.heap.size 1 ((f.subs.take j.1).filterMap (pickU u code)).length (((f.subs.take j.1).filterMap (pickU u code)).map str) j.2) (fun j => f.subs.length - j.1) (fun j => [(1, u8 code), (2, .func (.func g0) #[] #[]), (7, gV ((f.subs.take j.1).filterMap (pickU u code)).length j.2), (13, .slice p2 f.subs.length c2), (14, i64 (f.subs.length : Int)), (15, i64 (j.1 : Int))]) (fun j => _) (fun j => gH 9 (((f.subs.take j.1).filterMap (pickU u code)).map str) j.2) (0, none) ⟨Nat.zero_le _, rfl, rfl⟩ ⟨rfl, rfl, rfl, rfl, rfl, rfl, trivial⟩ rfl rfl ?_
 rintro ⟨j, g⟩ ⟨hj, hg⟩
 dsimp only at hj hg ⊢
 have htl := List.length_filterMap_le (pickU u code) (f.subs.take j)
 rw [List.length_take, Nat.min_eq_left hj] at htl
 refine Cj.sr (J.z q17 ?_)
 refine J.nss (Cj.cond rfl (fun hc2 => ?_) (fun hc2 => ?_))
 ·
  have hc2p := of_decide_eq_true hc2
  refine Cj.skip (Ej.seq (Cj.seq (Cj.block (Cj.seq ?_))))
  have hlt : j < f.subs.length := by omega
  obtain ⟨sb, hsget⟩ : ∃ x, f.subs[j]? = some x := ⟨_, List.getElem?_eq_getElem hlt⟩
  obtain ⟨sbk, so, scs, sty, sfr, sp2, rfl, hsbk, hsd⟩ := hp2 (ne_nil_of hlt)
  have hsl := text_mem (List.mem_of_getElem? hsget)
  have hnx := fm_next (u := u) (code := code) hsget
  refine Cj.region (J.z (q24 (off' := so + j * 2) underlying29 sizeOf65) ?_)
  refine J.z (yl_loadAgg rfl rfl isAgg65 sizeOf65 (Blk.imm hsbk) (row_from subC_len hsd hsget) rfl) ?_
  refine J.op rfl (op_alloc rfl rfl rfl zeroValue65 rfl ?_)
  intro b3 hb3
  refine J.op rfl (q18 0 sizeOf65 (LSpl.c (LSpl.c LSpl.z)) LSet.z ?_)
  refine J.nssr (J.z q0 ?_)
  refine J.z (q3 (off' := 1) underlying65 sizeOf9) ?_
  refine J.z (q7 isAgg9 (Blk.at 0 rfl)) ?_
  refine J.op rfl (op_pure rfl rfl rfl rfl rfl (hu sb.text _ (by omega)) ?_)
  refine J.z q0 ?_
  refine J.z q22 ?_
  refine J.z q22 ?_
  refine J.z q1 ?_
  refine J.z q1 ?_
  refine J.nssr (J.z (q3 (off' := 0) underlying65 sizeOf5) ?_)
  refine J.z (q7 isAgg5 (Blk.at 0 rfl)) ?_
  refine J.z q0 ?_
  refine J.z q20 ?_
  refine J.z q0 ?_
  refine J.split 30 rfl (fun hg4 => ?_) (fun hg4 => ?_)
  rotate_left
  ·
   have hg4p := ne_of_beq_false hg4
   have hcd : sb.code ≠ code := fun e => ne_of_beq_false hg4 (by rw [e])
   rw [if_neg (fun g => hcd g.2)] at hnx
   refine q4 4 30 31 true hg4 ?_
   refine J.z (q10 hg4) ?_
   refine J.c0 (fun hc8 => ?_)
   refine Cj.skip (Ej.blkNormal (Ej.seq (Cj.region (J.z (yl_add rfl rfl rfl (w64 (by omega))) ?_))))
   refine J.z q0 ?_
   refine J.nil (Ej.keep (Keeps.d Keeps.r) ?_)
   refine Ej.round (j + 1, g) ⟨by dsimp only; omega, by dsimp only; rw [hnx, List.append_nil]; exact hg⟩ (by dsimp only; omega) ⟨rfl, rfl, by dsimp only; rw [hnx, List.append_nil]; rfl, rfl, rfl, rfl, trivial⟩ rfl (by dsimp only; rw [hnx, List.append_nil])
  have hg4p := eq_of_beq hg4
  have hcd : sb.code = code := UInt8.toNat_inj.1 (by have h := eq_of_beq hg4; omega)
  refine q5 4 30 true hg4 (q2 q0 ?_)
  refine J.z (q11 hg4) ?_
  refine J.cd (fun hc5 => ?_) (fun hc5 => ?_)
  ·
   rw [if_pos ⟨hc5, hcd⟩] at hnx
   refine Cj.region (J.z q0 ?_)
   refine J.z q0 ?_
   refine J.op rfl (q13 underlying28 sizeOf9 zeroValue9 (LCat.one rfl LCat.none) ?_)
   intro b6 hb6
   refine J.op rfl (op_append (by' := 15) [_, _] rfl rfl rfl rfl rfl underlying28 (.inr ⟨_, underlying28⟩) (by kernel_rfl) sizeOf9 zeroValue9 rfl hg rfl (Src.slice (Blk.at 0 rfl) rfl rfl rfl) (by omega) ?_)
   intro g7 hg7
   refine J.z q1 ?_
   refine J.nil (Ej.blkNormal (Ej.seq (Cj.region (J.z (yl_add rfl rfl rfl (w64 (by omega))) ?_))))
   refine J.z q0 ?_
   refine J.nil (Ej.keep (Keeps.d (Keeps.d Keeps.r)) ?_)
   refine Ej.round (j + 1, g7) ⟨by dsimp only; omega, by dsimp only; rw [hnx, List.map_append, List.length_append]; exact hg7⟩ (by dsimp only; omega) ⟨rfl, rfl, by dsimp only; rw [hnx, List.length_append]; rfl, rfl, rfl, rfl, trivial⟩ rfl (by dsimp only; rw [hnx, List.map_append]; rfl)
  ·
   rw [if_neg (fun g => Bool.noConfusion (g.1.symm.trans hc5))] at hnx
   refine Cj.skip (Ej.blkNormal (Ej.seq (Cj.region (J.z (yl_add rfl rfl rfl (w64 (by omega))) ?_))))
   refine J.z q0 ?_
   refine J.nil (Ej.keep (Keeps.d Keeps.r) ?_)
   refine Ej.round (j + 1, g) ⟨by dsimp only; omega, by dsimp only; rw [hnx, List.append_nil]; exact hg⟩ (by dsimp only; omega) ⟨rfl, rfl, by dsimp only; rw [hnx, List.append_nil]; rfl, rfl, rfl, rfl, trivial⟩ rfl (by dsimp only; rw [hnx, List.append_nil])
 have hc2p := of_decide_eq_false hc2
 refine Cj.exit (Ej.seqExit (Ej.loopExit (Ej.blkExit (Ej.seq (Cj.seq ?_)))))
 have hfull : f.subs.take j = f.subs := List.take_of_length_le (by omega)
 rw [hfull] at hg ⊢
 refine Cj.perm (H' := gH _ _ _ ++ []) (.of_eq (List.append_nil _)) ?_
 refine Cj.keepS hg (fun I8 hle8 hv => ?_)
 refine Cj.region (J.z q0 ?_)
 refine J.z q1 ?_
 refine J.ns (Cj.ret (q6 ?_))
 exact ⟨_, rfl, hv, rfl⟩
theorem named_ok (f : Ke.Fld) (hn : f.subs.length ≤ 2000000) (htx : textsLen f.subs ≤ 3000000) (I : Heap) (hr : RowS subC I f.subs f.sv) : Ctr Tryz.prog 101 [.agg (fldC f).toArray] I []
    (fun e I' H' => ∃ v, e = .returned (.tuple #[str (Ix.named f).1, v]) ∧ StrS 9 I' (Ix.named f).2 v ∧ H' = []) := by
 refine Ctr.ob func101 ?_
 intro w0 hw0
 refine Cj.sr (J.op rfl (q25 ?_))
 intro b1 hb1
 refine J.z q1 ?_
 refine J.z q1 ?_
 refine J.nsss (Cj.region (J.z (q3 (off' := 0) underlying31 sizeOf9) ?_))
 refine J.z (q7 isAgg9 (Blk.at 0 rfl)) ?_
 refine J.ns (Cj.block (Cj.seq (Cj.sr (J.z (yl_eqlStr rfl rfl rfl) ?_))))
 refine J.z q1 ?_
 refine J.cd (fun hc2 => ?_) (fun hc2 => ?_)
 ·
  have hc2p := eq_of_beq hc2
  refine Cj.skip (Ej.seq (Cj.cond rfl (fun hc3 => ?_) (fun hc3 => Bool.noConfusion (Eq.trans (Eq.symm hc2) hc3))))
  refine Cj.sr (J.z (q14 isAgg31 sizeOf31 (Blk.at 0 rfl)) ?_)
  refine J.op rfl (op_pure rfl rfl rfl rfl rfl (itext_ok f [97, 98] hn htx _ hr) ?_)
  refine J.eqv 10 rfl (show _ = str (Ke.textOf f [97, 98]) from (congrArg str (textX_of (List.cons_ne_nil _ _)))) ?_
  refine J.op rfl (q13 underlying28 sizeOf9 zeroValue9 (LCat.one rfl LCat.none) ?_)
  intro b4 hb4
  refine J.z q1 ?_
  refine J.z q1 ?_
  refine J.ns (Cj.ret (Ej.blkRet (Ej.seqRet ?_)))
  have hnm : Ix.named f = (Ix.nTitle, [Ke.textOf f [97, 98]]) := by simp [Ix.named, *]
  rw [hnm]
  refine Ej.persist hb4 (fun I6 hle5 hb4i => ?_)
  have hr := hr.mono hle5
  refine Ej.bare ?_
  refine q19 ?_
  exact ⟨_, rfl, .inr ⟨b4, 1, [], rfl, Nat.le_refl _, hb4i⟩, rfl⟩
 have hc2p := ne_of_beq_false hc2
 refine Cj.region (J.z (yl_eqlStr rfl rfl rfl) ?_)
 refine J.z q1 ?_
 refine J.cd (fun hc7 => ?_) (fun hc7 => ?_)
 ·
  have hc7p := eq_of_beq hc7
  refine Cj.sr (J.z (q14 isAgg31 sizeOf31 (Blk.at 0 rfl)) ?_)
  refine J.op rfl (op_pure rfl rfl rfl rfl rfl (itext_ok f [97, 98] hn htx _ hr) ?_)
  refine J.eqv 10 rfl (show _ = str (Ke.textOf f [97, 98]) from (congrArg str (textX_of (List.cons_ne_nil _ _)))) ?_
  refine J.op rfl (q13 underlying28 sizeOf9 zeroValue9 (LCat.one rfl LCat.none) ?_)
  intro b8 hb8
  refine J.z q1 ?_
  refine J.z q1 ?_
  refine J.ns (Cj.ret (Ej.blkRet (Ej.seqRet ?_)))
  have hnm : Ix.named f = (Ix.nTitle, [Ke.textOf f [97, 98]]) := by simp [Ix.named, *]
  rw [hnm]
  refine Ej.persist hb8 (fun I10 hle9 hb8i => ?_)
  have hr := hr.mono hle9
  refine Ej.bare ?_
  refine q19 ?_
  exact ⟨_, rfl, .inr ⟨b8, 1, [], rfl, Nat.le_refl _, hb8i⟩, rfl⟩
 have hc7p := ne_of_beq_false hc7
 refine Cj.seq (Cj.sr (J.z (yl_eqlStr rfl rfl rfl) ?_))
 refine J.z q1 ?_
 refine J.cd (fun hc11 => ?_) (fun hc11 => ?_)
 ·
  have hc11p := eq_of_beq hc11
  refine Cj.skip (Ej.seq (Cj.cond rfl (fun hc12 => ?_) (fun hc12 => Bool.noConfusion (Eq.trans (Eq.symm hc11) hc12))))
  refine Cj.sr (J.z (q14 isAgg31 sizeOf31 (Blk.at 0 rfl)) ?_)
  refine J.op rfl (op_pure rfl rfl rfl rfl rfl (itext_ok f [97] hn htx _ hr) ?_)
  refine J.eqv 17 rfl (show _ = str (Ke.textOf f [97]) from (congrArg str (textX_of (List.cons_ne_nil _ _)))) ?_
  refine J.op rfl (q13 underlying28 sizeOf9 zeroValue9 (LCat.one rfl LCat.none) ?_)
  intro b13 hb13
  refine J.z q1 ?_
  refine J.z q1 ?_
  refine J.ns (Cj.ret (Ej.blkRet (Ej.seqRet ?_)))
  have hnm : Ix.named f = (Ix.nAuthor, [Ke.textOf f [97]]) := by simp [Ix.named, *]
  rw [hnm]
  refine Ej.persist hb13 (fun I15 hle14 hb13i => ?_)
  have hr := hr.mono hle14
  refine Ej.bare ?_
  refine q19 ?_
  exact ⟨_, rfl, .inr ⟨b13, 1, [], rfl, Nat.le_refl _, hb13i⟩, rfl⟩
 have hc11p := ne_of_beq_false hc11
 refine Cj.sr (J.z (yl_eqlStr rfl rfl rfl) ?_)
 refine J.z q1 ?_
 refine J.cd (fun hc16 => ?_) (fun hc16 => ?_)
 ·
  have hc16p := eq_of_beq hc16
  refine Cj.skip (Ej.seq (Cj.cond rfl (fun hc17 => ?_) (fun hc17 => Bool.noConfusion (Eq.trans (Eq.symm hc16) hc17))))
  refine Cj.sr (J.z (q14 isAgg31 sizeOf31 (Blk.at 0 rfl)) ?_)
  refine J.op rfl (op_pure rfl rfl rfl rfl rfl (itext_ok f [97] hn htx _ hr) ?_)
  refine J.eqv 17 rfl (show _ = str (Ke.textOf f [97]) from (congrArg str (textX_of (List.cons_ne_nil _ _)))) ?_
  refine J.op rfl (q13 underlying28 sizeOf9 zeroValue9 (LCat.one rfl LCat.none) ?_)
  intro b18 hb18
  refine J.z q1 ?_
  refine J.z q1 ?_
  refine J.ns (Cj.ret (Ej.blkRet (Ej.seqRet ?_)))
  have hnm : Ix.named f = (Ix.nAuthor, [Ke.textOf f [97]]) := by simp [Ix.named, *]
  rw [hnm]
  refine Ej.persist hb18 (fun I20 hle19 hb18i => ?_)
  have hr := hr.mono hle19
  refine Ej.bare ?_
  refine q19 ?_
  exact ⟨_, rfl, .inr ⟨b18, 1, [], rfl, Nat.le_refl _, hb18i⟩, rfl⟩
 have hc16p := ne_of_beq_false hc16
 refine Cj.region (J.z (yl_eqlStr rfl rfl rfl) ?_)
 refine J.z q1 ?_
 refine J.cd (fun hc21 => ?_) (fun hc21 => ?_)
 ·
  have hc21p := eq_of_beq hc21
  refine Cj.sr (J.z (q14 isAgg31 sizeOf31 (Blk.at 0 rfl)) ?_)
  refine J.op rfl (op_pure rfl rfl rfl rfl rfl (itext_ok f [97] hn htx _ hr) ?_)
  refine J.eqv 17 rfl (show _ = str (Ke.textOf f [97]) from (congrArg str (textX_of (List.cons_ne_nil _ _)))) ?_
  refine J.op rfl (q13 underlying28 sizeOf9 zeroValue9 (LCat.one rfl LCat.none) ?_)
  intro b22 hb22
  refine J.z q1 ?_
  refine J.z q1 ?_
  refine J.ns (Cj.ret (Ej.blkRet (Ej.seqRet ?_)))
  have hnm : Ix.named f = (Ix.nAuthor, [Ke.textOf f [97]]) := by simp [Ix.named, *]
  rw [hnm]
  refine Ej.persist hb22 (fun I24 hle23 hb22i => ?_)
  have hr := hr.mono hle23
  refine Ej.bare ?_
  refine q19 ?_
  exact ⟨_, rfl, .inr ⟨b22, 1, [], rfl, Nat.le_refl _, hb22i⟩, rfl⟩
 have hc21p := ne_of_beq_false hc21
 refine Cj.seq (Cj.sr (J.z (yl_eqlStr rfl rfl rfl) ?_))
 refine J.z q1 ?_
 refine J.cd (fun hc25 => ?_) (fun hc25 => ?_)
 ·
  have hc25p := eq_of_beq hc25
  refine Cj.skip (Ej.seq (Cj.cond rfl (fun hc26 => ?_) (fun hc26 => Bool.noConfusion (Eq.trans (Eq.symm hc25) hc26))))
  refine Cj.sr (J.z (q14 isAgg31 sizeOf31 (Blk.at 0 rfl)) ?_)
  refine J.op rfl (op_pure rfl rfl rfl rfl rfl (itext_ok f [97, 120] hn htx _ hr) ?_)
  refine J.eqv 23 rfl (show _ = str (Ke.textOf f [97, 120]) from (congrArg str (textX_of (List.cons_ne_nil _ _)))) ?_
  refine J.op rfl (q13 underlying28 sizeOf9 zeroValue9 (LCat.one rfl LCat.none) ?_)
  intro b27 hb27
  refine J.z q1 ?_
  refine J.z q1 ?_
  refine J.ns (Cj.ret (Ej.blkRet (Ej.seqRet ?_)))
  have hnm : Ix.named f = (Ix.nSubject, [Ke.textOf f [97, 120]]) := by simp [Ix.named, *]
  rw [hnm]
  refine Ej.persist hb27 (fun I29 hle28 hb27i => ?_)
  have hr := hr.mono hle28
  refine Ej.bare ?_
  refine q19 ?_
  exact ⟨_, rfl, .inr ⟨b27, 1, [], rfl, Nat.le_refl _, hb27i⟩, rfl⟩
 have hc25p := ne_of_beq_false hc25
 refine Cj.region (J.z (yl_eqlStr rfl rfl rfl) ?_)
 refine J.z q1 ?_
 refine J.cd (fun hc30 => ?_) (fun hc30 => ?_)
 ·
  have hc30p := eq_of_beq hc30
  refine Cj.sr (J.z (q14 isAgg31 sizeOf31 (Blk.at 0 rfl)) ?_)
  refine J.op rfl (op_pure rfl rfl rfl rfl rfl (itext_ok f [97, 120] hn htx _ hr) ?_)
  refine J.eqv 23 rfl (show _ = str (Ke.textOf f [97, 120]) from (congrArg str (textX_of (List.cons_ne_nil _ _)))) ?_
  refine J.op rfl (q13 underlying28 sizeOf9 zeroValue9 (LCat.one rfl LCat.none) ?_)
  intro b31 hb31
  refine J.z q1 ?_
  refine J.z q1 ?_
  refine J.ns (Cj.ret (Ej.blkRet (Ej.seqRet ?_)))
  have hnm : Ix.named f = (Ix.nSubject, [Ke.textOf f [97, 120]]) := by simp [Ix.named, *]
  rw [hnm]
  refine Ej.persist hb31 (fun I33 hle32 hb31i => ?_)
  have hr := hr.mono hle32
  refine Ej.bare ?_
  refine q19 ?_
  exact ⟨_, rfl, .inr ⟨b31, 1, [], rfl, Nat.le_refl _, hb31i⟩, rfl⟩
 have hc30p := ne_of_beq_false hc30
 refine Cj.sr (J.z (yl_eqlStr rfl rfl rfl) ?_)
 refine J.z q1 ?_
 refine J.cd (fun hc34 => ?_) (fun hc34 => ?_)
 ·
  have hc34p := eq_of_beq hc34
  refine Cj.sr (J.z (q14 isAgg31 sizeOf31 (Blk.at 0 rfl)) ?_)
  refine J.op rfl (op_call (H1 := []) rfl rfl rfl rfl rfl (subfields_ok f 97 86 Ke.isbn hn htx (fun s J h => Isbn_ok s h J) _ hr) ?_ (fun _ _ _ _ ⟨_, h, _⟩ => nomatch h) (fun _ _ ⟨_, h, _⟩ => nomatch h))
  intro v35 I36 H37 hle38 hp39
  have hr := hr.mono hle38
  obtain ⟨vl, h, hv, rfl⟩ := hp39; cases h
  refine J.z q1 ?_
  refine J.z q1 ?_
  refine J.ns (Cj.ret (Ej.blkRet (Ej.seqRet ?_)))
  have hnm : Ix.named f = (Ix.nIsbn, f.subs.filterMap Ke.isb) := by simp [Ix.named, *]
  rw [hnm]
  refine Ej.bare ?_
  refine q19 ?_
  exact ⟨_, rfl, hv, rfl⟩
 have hc34p := ne_of_beq_false hc34
 refine Cj.sr (J.z (yl_eqlStr rfl rfl rfl) ?_)
 refine J.z q1 ?_
 refine J.cd (fun hc40 => ?_) (fun hc40 => ?_)
 ·
  have hc40p := eq_of_beq hc40
  refine Cj.sr (J.z (q14 isAgg31 sizeOf31 (Blk.at 0 rfl)) ?_)
  refine J.op rfl (op_call (H1 := []) rfl rfl rfl rfl rfl (subfields_ok f 99 149 uy hn htx (fun s J h => iyear_ok s h J) _ hr) ?_ (fun _ _ _ _ ⟨_, h, _⟩ => nomatch h) (fun _ _ ⟨_, h, _⟩ => nomatch h))
  intro v41 I42 H43 hle44 hp45
  have hr := hr.mono hle44
  obtain ⟨vl, h, hv, rfl⟩ := hp45; cases h
  refine J.z q1 ?_
  refine J.z q1 ?_
  refine J.ns (Cj.ret (Ej.blkRet (Ej.seqRet ?_)))
  have hnm : Ix.named f = (Ix.nYear, f.subs.filterMap Ix.yr) := by simp [Ix.named, *]
  rw [hnm]
  refine Ej.bare ?_
  refine q19 ?_
  rw [← pick_yr]
  exact ⟨_, rfl, hv, rfl⟩
 have hc40p := ne_of_beq_false hc40
 refine Cj.skip (Ej.blkNormal (Ej.seq (Cj.sr (J.z q1 ?_))))
 refine J.z q1 ?_
 refine J.ns (Cj.ret ?_)
 have hnm : Ix.named f = ([], []) := by simp [Ix.named, *]
 rw [hnm]
 refine Ej.bare ?_
 refine q19 ?_
 exact ⟨_, rfl, .inl ⟨rfl, rfl⟩, rfl⟩
theorem valuesOf_ok (fs : List Ke.Fld) (v : Value) (rk rl : UInt8) (hok : EOK fs) (I : Heap) (hr0 : RecS I fs v) : Ctr Tryz.prog 72 [recV rk rl v] I []
    (fun e I' H' => ∃ w, e = .returned w ∧ ValsS I' (Ix.vals fs) w ∧ H' = []) := by
 have hfs := hok.1
 obtain ⟨p, c, rfl, hc, -⟩ := id hr0.1
 refine Ctr.ob func72 ?_
 intro w0 hw0
 refine Cj.sr (J.op rfl (q25 ?_))
 intro b1 hb1
 refine J.z q1 ?_
 refine J.nssr (J.z q1 ?_)
 refine J.nsss (Cj.region (J.z (q3 (off' := 2) underlying35 sizeOf33) ?_))
 refine J.z (q7 isAgg33 (Blk.at 0 rfl)) ?_
 refine J.z (q16 underlying33) ?_
 refine J.z q0 ?_
 refine J.ns (Cj.block (Cj.keep (Keeps.d Keeps.n) ?_))
 refine Cj.loop (ι := VA) (fun y => y.j ≤ fs.length ∧ Le I y.J ∧ ValsX y.J y.xs (Ix.vals (fs.take y.j)) ∧ gOk w0.heap.size 3 y.xs.length (y.xs.flatMap vwC) y.g) (fun y => fs.length - y.j) (fun y => [(3, gV y.xs.length y.g), (12, .slice p fs.length c), (13, i64 (fs.length : Int)), (14, i64 (y.j : Int))]) (fun y => y.J) (fun y => gH 98 (y.xs.flatMap vwC) y.g) ⟨0, _, [], none⟩ ⟨Nat.zero_le _, Le.refl _, ⟨rfl, fun x hx => by cases hx⟩, rfl, rfl⟩ ⟨rfl, rfl, rfl, rfl, trivial⟩ rfl rfl ?_
 rintro ⟨j, Jh, xs, g⟩ ⟨hj, hIJ, hX, hg⟩
 dsimp only at hj hIJ hX hg ⊢
 have hr := hr0.mono hIJ
 have hxl := hX.len
 have hvl := vals_take fs hok j
 refine Cj.sr (J.z q17 ?_)
 refine J.nss (Cj.cond rfl (fun hc2 => ?_) (fun hc2 => ?_))
 ·
  have hc2p := of_decide_eq_true hc2
  have hlt : j < fs.length := by omega
  obtain ⟨f, hget⟩ : ∃ f, fs[j]? = some f := ⟨_, List.getElem?_eq_getElem hlt⟩
  have hfm := List.mem_of_getElem? hget
  obtain ⟨hk1, hk2, hk3⟩ := hok.2 f hfm
  obtain ⟨⟨p1, c1, hpe, hc1, hp⟩, hsub⟩ := id hr
  cases hpe
  obtain ⟨fb, fo, fcs, fty, ffr, sp, rfl, hfb, hfd⟩ := hp (ne_nil_of hlt)
  have hrf := hsub f hfm
  clear hsub
  obtain ⟨p2, c2, hsv, -, -⟩ := id hrf
  have hnl := named_len f hk1
  have htl3 := textX_len f []
  rw [textX_all] at htl3
  refine Cj.skip (Ej.seq (Cj.seq (Cj.block (Cj.sr (J.z (q24 (off' := fo + j * 4) underlying33 sizeOf31) ?_)))))
  refine J.z (yl_loadAgg rfl rfl isAgg31 sizeOf31 (Blk.imm hfb) (row_from fldC_len hfd hget) rfl) ?_
  refine J.op rfl (op_alloc rfl rfl rfl zeroValue31 rfl ?_)
  intro b3 hb3
  refine J.op rfl (op_store 0 rfl rfl rfl rfl rfl (fldC_one hsv) sizeOf31 rfl rfl (LSpl.c (LSpl.c (LSpl.c (LSpl.c LSpl.z)))) LSet.z ?_)
  refine J.nssr (J.z (q14 isAgg31 sizeOf31 (Blk.at 0 rfl)) ?_)
  refine J.op rfl (op_call (H1 := []) rfl rfl rfl rfl rfl (named_ok f (by omega) hk2 _ hrf) ?_ (fun _ _ _ _ ⟨_, h, _⟩ => nomatch h) (fun _ _ ⟨_, h, _⟩ => nomatch h))
  intro v4 I5 H6 hle7 hp8
  have hr := hr.mono hle7
  have hX := hX.mono hle7
  have hIJ := hIJ.mono hle7
  have hfb := hle7 _ _ hfb
  have hrf := hrf.mono hle7
  obtain ⟨vl, h, hls, rfl⟩ := hp8; cases h
  obtain ⟨lp, lc, rfl⟩ := StrS_sl hls
  refine J.z q0 ?_
  refine J.z q22 ?_
  refine J.z q22 ?_
  refine J.z q1 ?_
  refine J.z q1 ?_
  refine J.nsss (Cj.region (J.z q0 ?_))
  refine J.z (q16 underlying28) ?_
  refine J.z q0 ?_
  refine J.ns (Cj.block (Cj.keep (Keeps.k Keeps.r) ?_))
  refine Cj.loop (ι := VA) (fun y => y.j ≤ (Ix.named f).2.length ∧ Le I5 y.J ∧ ValsX y.J y.xs (Ix.vals (fs.take j) ++ ((Ix.named f).2.take y.j).map (nv f)) ∧ gOk w0.heap.size 3 y.xs.length (y.xs.flatMap vwC) y.g) (fun y => (Ix.named f).2.length - y.j) (fun y => [(3, gV y.xs.length y.g), (5, ptr b3 0), (6, str (Ix.named f).1), (12, .slice (some ⟨fb, fo, none⟩) fs.length c), (13, i64 (fs.length : Int)), (14, i64 (j : Int)), (23, .slice lp (Ix.named f).2.length lc), (24, i64 ((Ix.named f).2.length : Int)), (25, i64 (y.j : Int))]) (fun y => y.J) (fun y => (b3, cel 31 (fldC f)) :: gH 98 (y.xs.flatMap vwC) y.g) ⟨0, _, xs, g⟩ ⟨Nat.zero_le _, Le.refl _, by dsimp only; rw [List.take_zero, List.map_nil, List.append_nil]; exact hX, hg⟩ ⟨rfl, rfl, rfl, rfl, rfl, rfl, rfl, rfl, rfl, trivial⟩ rfl rfl ?_
  rintro ⟨q, Kh, xs, g⟩ ⟨hq, hIK, hX, hg⟩
  dsimp only at hq hIK hX hg ⊢
  have hIJ := hIJ.mono hIK
  have hr := hr.mono hIK
  have hrf := hrf.mono hIK
  have hls := hls.mono hIK
  have hfb := hIK _ _ hfb
  have hxl := hX.len
  rw [List.length_append, List.length_map, List.length_take, Nat.min_eq_left hq] at hxl
  refine Cj.sr (J.z q17 ?_)
  refine J.nss (Cj.cond rfl (fun hc9 => ?_) (fun hc9 => ?_))
  ·
   have hc9p := of_decide_eq_true hc9
   have hqlt : q < (Ix.named f).2.length := by omega
   obtain ⟨s, hqget⟩ : ∃ s, (Ix.named f).2[q]? = some s := ⟨_, List.getElem?_eq_getElem hqlt⟩
   have hsl := named_text (List.mem_of_getElem? hqget)
   obtain ⟨lb, lc1, lsp, hle1, hlb⟩ := hls.some (ne_nil_of hqlt)
   cases hle1
   refine Cj.skip (Ej.seq (Cj.seq (Cj.block (Cj.sr (J.z (q24 (off' := q) underlying28 sizeOf9) ?_)))))
   refine J.z (yl_load rfl rfl isAgg9 (Blk.imm hlb) (str_get hqget)) ?_
   refine J.z q1 ?_
   refine J.nsr (J.z q0 ?_)
   refine J.z q0 ?_
   refine J.z q0 ?_
   refine J.z (q14 isAgg31 sizeOf31 (Blk.at 0 rfl)) ?_
   refine J.op rfl (op_pure rfl rfl rfl rfl rfl (skip_ok f hk3 _) ?_)
   refine J.op rfl (op_pure rfl rfl rfl rfl rfl (Sort_ok s ((Ix.skipT f : Nat) : Int) (by omega) _) ?_)
   refine J.z q0 ?_
   refine J.op rfl (op_call (H1 := []) rfl rfl rfl rfl rfl (Words_ok s (by omega) _) ?_ (fun _ _ _ _ ⟨_, h, _⟩ => nomatch h) (fun _ _ ⟨_, h, _⟩ => nomatch h))
   intro v10 I11 H12 hle13 hp14
   have hr := hr.mono hle13
   have hX := hX.mono hle13
   have hrf := hrf.mono hle13
   have hls := hls.mono hle13
   have hfb := hle13 _ _ hfb
   have hIJ := hIJ.mono hle13
   have hIK := hIK.mono hle13
   have hlb := hle13 _ _ hlb
   obtain ⟨vw1, h, hw1, rfl⟩ := hp14; cases h
   obtain ⟨pvw1, cvw1, rfl⟩ := StrS_sl hw1
   refine J.z (yl_buildS (pl := #[(0, 1), (1, 1), (2, 1)]) rfl rfl zeroValue98 rfl underlying98 (fun w => by simp [sizeOf28, sizeOf9]) (LBld.part rfl rfl rfl (LSpl.c LSpl.z) (LBld.part rfl rfl rfl (LSpl.s (LSpl.c LSpl.z)) (LBld.part rfl rfl rfl (LSpl.s (LSpl.s (LSpl.c LSpl.z))) LBld.none)))) ?_
   refine J.op rfl (q13 underlying96 sizeOf98 zeroValue98 (LCat.agg rfl LCat.none) ?_)
   intro b15 hb15
   refine J.op rfl (op_append (by' := 55) [_, _] rfl rfl rfl rfl rfl underlying96 (.inr ⟨_, underlying96⟩) (by kernel_rfl) sizeOf98 zeroValue98 rfl hg rfl (Src.slice (Blk.at 0 rfl) rfl rfl (vw_one hw1 rfl rfl)) (by omega) ?_)
   intro g16 hg16
   refine J.z q1 ?_
   refine J.nil (Ej.blkNormal (Ej.seq (Cj.region (J.z (yl_add rfl rfl rfl (w64 (by omega))) ?_))))
   refine J.z q0 ?_
   refine J.nil (Ej.keep (Keeps.d (Keeps.k Keeps.r)) ?_)
   refine Ej.round ⟨q + 1, _, xs ++ [(nv f s, _)], g16⟩ ⟨by dsimp only; omega, hIK, by dsimp only; rw [map_next (nv f) hqget, ← List.append_assoc]; exact hX.add hw1, by dsimp only; rw [List.length_append, List.flatMap_append]; exact hg16⟩ (by dsimp only; omega) ⟨by dsimp only; rw [List.length_append]; rfl, rfl, rfl, rfl, rfl, rfl, rfl, rfl, rfl, trivial⟩ rfl (by dsimp only; rw [List.flatMap_append]; rfl)
  have hc9p := of_decide_eq_false hc9
  rw [List.take_of_length_le (by omega : (Ix.named f).2.length ≤ q)] at hX
  refine Cj.exit (Ej.seqExit (Ej.loopExit (Ej.blkExit (Ej.seq (Cj.sr (J.z (q3 (off' := 0) underlying31 sizeOf9) ?_))))))
  refine J.z (q7 isAgg9 (Blk.at 0 rfl)) ?_
  refine J.op rfl (op_pure rfl rfl rfl rfl rfl (HasPrefix_ok f.tag [48, 48] (by decide) _) ?_)
  refine J.z (yl_not rfl rfl) ?_
  refine J.z q0 ?_
  refine J.split 45 rfl (fun hg17 => ?_) (fun hg17 => ?_)
  rotate_left
  ·
   have hany : ¬ Ix.anyOk f = true := by unfold Ix.anyOk; rw [Bool.and_eq_true]; exact fun e => Bool.noConfusion (e.1.symm.trans hg17)
   refine q4 4 45 46 true hg17 ?_
   refine q4 4 45 47 true hg17 ?_
   refine q4 4 45 48 true hg17 ?_
   refine q4 4 45 49 true hg17 ?_
   refine J.z (q10 hg17) ?_
   refine J.c0 (fun hc26 => ?_)
   refine Cj.skip (Ej.blkNormal (Ej.seq (Cj.region (J.z (yl_add rfl rfl rfl (w64 (by omega))) ?_))))
   refine J.z q0 ?_
   refine J.nil (Ej.keep (Keeps.d Keeps.r) ?_)
   refine Ej.round ⟨j + 1, _, xs, g⟩ ⟨by dsimp only; omega, hIJ, by dsimp only; rw [vals_next hget]; unfold Ix.vals1; rw [if_neg hany, List.append_nil]; exact hX, by dsimp only; exact hg⟩ (by dsimp only; omega) ⟨rfl, rfl, rfl, rfl, trivial⟩ rfl rfl
  refine q5 4 45 true hg17 (q2 (q3 (off' := 0) underlying31 sizeOf9) ?_)
  refine q5 4 45 true hg17 (q2 (q7 isAgg9 (Blk.at 0 rfl)) ?_)
  refine J.opG 4 45 true _ rfl rfl rfl hg17 (op_pure rfl rfl rfl rfl rfl (HasPrefix_ok f.tag [57] (by decide) _) ?_)
  refine q5 4 45 true hg17 (q2 (yl_not rfl rfl) ?_)
  refine J.z (q11 hg17) ?_
  refine J.cd (fun hc18 => ?_) (fun hc18 => ?_)
  ·
   have hany : Ix.anyOk f = true := by unfold Ix.anyOk; rw [Bool.and_eq_true]; exact ⟨hg17, hc18⟩
   refine Cj.sr (J.z (q14 isAgg31 sizeOf31 (Blk.at 0 rfl)) ?_)
   refine J.op rfl (op_pure rfl rfl rfl rfl rfl (itext_ok f [] (by omega) hk2 _ hrf) ?_)
   refine J.eqv 52 rfl (show _ = str (Ix.allText f) from (congrArg str (textX_all f))) ?_
   refine J.z q1 ?_
   refine J.nsr (J.z q0 ?_)
   refine J.z q0 ?_
   refine J.op rfl (op_pure rfl rfl rfl rfl rfl (Sort_ok (Ix.allText f) 0 (by omega) _) ?_)
   refine J.z q0 ?_
   refine J.op rfl (op_call (H1 := []) rfl rfl rfl rfl rfl (Words_ok (Ix.allText f) (by omega) _) ?_ (fun _ _ _ _ ⟨_, h, _⟩ => nomatch h) (fun _ _ ⟨_, h, _⟩ => nomatch h))
   intro v19 I20 H21 hle22 hp23
   have hr := hr.mono hle22
   have hX := hX.mono hle22
   have hrf := hrf.mono hle22
   have hls := hls.mono hle22
   have hfb := hle22 _ _ hfb
   have hIJ := hIJ.mono hle22
   have hIK := hIK.mono hle22
   obtain ⟨vw2, h, hw2, rfl⟩ := hp23; cases h
   obtain ⟨pvw2, cvw2, rfl⟩ := StrS_sl hw2
   refine J.z (yl_buildS (pl := #[(0, 1), (1, 1), (2, 1)]) rfl rfl zeroValue98 rfl underlying98 (fun w => by simp [sizeOf28, sizeOf9]) (LBld.part rfl rfl rfl (LSpl.c LSpl.z) (LBld.part rfl rfl rfl (LSpl.s (LSpl.c LSpl.z)) (LBld.part rfl rfl rfl (LSpl.s (LSpl.s (LSpl.c LSpl.z))) LBld.none)))) ?_
   refine J.op rfl (q13 underlying96 sizeOf98 zeroValue98 (LCat.agg rfl LCat.none) ?_)
   intro b24 hb24
   refine J.op rfl (op_append (by' := 55) [_, _] rfl rfl rfl rfl rfl underlying96 (.inr ⟨_, underlying96⟩) (by kernel_rfl) sizeOf98 zeroValue98 rfl hg rfl (Src.slice (Blk.at 0 rfl) rfl rfl (vw_one hw2 rfl rfl)) (by omega) ?_)
   intro g25 hg25
   refine J.z q1 ?_
   refine J.nil (Ej.blkNormal (Ej.seq (Cj.region (J.z (yl_add rfl rfl rfl (w64 (by omega))) ?_))))
   refine J.z q0 ?_
   refine J.nil (Ej.keep (Keeps.d (Keeps.d Keeps.r)) ?_)
   refine Ej.round ⟨j + 1, _, xs ++ [(⟨Ix.nAny, Ix.allText f, 0⟩, _)], g25⟩ ⟨by dsimp only; omega, hIJ, by dsimp only; rw [vals_next hget]; unfold Ix.vals1; rw [if_pos hany, ← List.append_assoc]; exact hX.add hw2, by dsimp only; rw [List.length_append, List.flatMap_append]; exact hg25⟩ (by dsimp only; omega) ⟨by dsimp only; rw [List.length_append]; rfl, rfl, rfl, rfl, trivial⟩ rfl (by dsimp only; rw [List.flatMap_append]; rfl)
  ·
   have hany : ¬ Ix.anyOk f = true := by unfold Ix.anyOk; rw [Bool.and_eq_true]; exact fun e => Bool.noConfusion (e.2.symm.trans hc18)
   refine Cj.skip (Ej.blkNormal (Ej.seq (Cj.region (J.z (yl_add rfl rfl rfl (w64 (by omega))) ?_))))
   refine J.z q0 ?_
   refine J.nil (Ej.keep (Keeps.d Keeps.r) ?_)
   refine Ej.round ⟨j + 1, _, xs, g⟩ ⟨by dsimp only; omega, hIJ, by dsimp only; rw [vals_next hget]; unfold Ix.vals1; rw [if_neg hany, List.append_nil]; exact hX, by dsimp only; exact hg⟩ (by dsimp only; omega) ⟨rfl, rfl, rfl, rfl, trivial⟩ rfl rfl
 have hc2p := of_decide_eq_false hc2
 refine Cj.exit (Ej.seqExit (Ej.loopExit (Ej.blkExit (Ej.seq (Cj.seq ?_)))))
 have hfull : fs.take j = fs := List.take_of_length_le (by omega)
 rw [hfull] at hX
 refine Cj.perm (H' := gH _ _ _ ++ []) (.of_eq (List.append_nil _)) ?_
 refine Cj.keepT vwC_len (by decide) hg rfl (fun I8 hle8 hv => ?_)
 have hX := hX.mono hle8
 refine Cj.region (J.z q0 ?_)
 refine J.z q1 ?_
 refine J.ns (Cj.ret (q6 ?_))
 exact ⟨_, rfl, ⟨xs, hv, hX⟩, rfl⟩
end Go.Proofs.YtjcdfnbomkoheaaGreatDoor
end
section
namespace Go.Sx
open Go
section
variable {cx : Cx} {Q : Qt} {o : Oper} {e : Env} {I : Heap} {H : HL} {C : Ct} {S : World → Prop} {α : Type} [BEq α] [LawfulBEq α]
def mit (m since : Nat) (vis : ML α) (last : Nat) : Obj := .mapIter (some m) since (vis.map (·.2.2)).toArray last
omit [BEq α] [LawfulBEq α] in
theorem op_rangeMap {T K E d m c : Nat} {x : Operand} {kv : α → Value} {l : ML α} (ho : o.op = .range T x) (hd : o.dst = some d) (hn : Nat.blt d cx.n = true) (hx : ev e x = some (.map (some m))) (hu : cx.P.underlying T = some (.map K E)) (hb : Blk (SS I H) m (mobj kv l c))
    (k : ∀ b, cx.w0.heap.size ≤ b → C ((d, ptr b 0) :: e) I ((b, mit m c ([] : ML α) c) :: H)) : OpJ cx Q o e I H C := by
  intro Kk hK a w ha hs
  unfold Oper.wp
  have : (execOp a.eval o).run cx.P w = .ok (.value (ptr w.heap.size 0)) { w with heap := w.heap.push (mit m c ([] : ML α) c) } := by
    have hr := run_range_map (P := cx.P) w T K E m _ c hu (hb w hs.ss)
    simp only [execOp, ho, ha.eval hx, Sem.run_bind, hr, Result.andThen_ok, Sem.run_pure]
    rfl
  rw [this]
  simp only [Oper.upon, hd]
  exact hK _ _ _ (k _ hs.size) _ _ (ha.put hn) (hs.alloc _)
theorem op_rangeNil {T K E d : Nat} {x : Operand} (ho : o.op = .range T x) (hd : o.dst = some d) (hn : Nat.blt d cx.n = true) (hx : ev e x = some (.map none)) (hu : cx.P.underlying T = some (.map K E))
    (k : ∀ b, cx.w0.heap.size ≤ b → C ((d, ptr b 0) :: e) I ((b, .mapIter none 0 #[] 0) :: H)) : OpJ cx Q o e I H C := by
  intro Kk hK a w ha hs
  unfold Oper.wp
  have : (execOp a.eval o).run cx.P w = .ok (.value (ptr w.heap.size 0)) { w with heap := w.heap.push (.mapIter none 0 #[] 0) } := by
    have hr := run_range_nilMap (P := cx.P) w T K E hu
    simp only [execOp, ho, ha.eval hx, Sem.run_bind, hr, Result.andThen_ok, Sem.run_pure]
    rfl
  rw [this]
  simp only [Oper.upon, hd]
  exact hK _ _ _ (k _ hs.size) _ _ (ha.put hn) (hs.alloc _)
theorem op_nextNil {d b : Nat} {x : Operand} (i : Nat) (ho : o.op = .next x false) (hd : o.dst = some d) (hn : Nat.blt d cx.n = true) (hx : ev e x = some (ptr b 0)) (hH : H[i]? = some (b, .mapIter none 0 #[] 0))
    (k : C ((d, .tuple #[.bool false]) :: e) I H) : OpJ cx Q o e I H C := by
  intro Kk hK a w ha hs
  unfold Oper.wp
  have hb := hs.own _ (List.mem_of_getElem? hH)
  have : (execOp a.eval o).run cx.P w = .ok (.value (.tuple #[.bool false])) w := by
    simp only [execOp, ho, ha.eval hx, Instr.next, getObj, Sem.run_bind, Sem.run, hb, Result.andThen]
    rfl
  rw [this]
  simp only [Oper.upon, hd]
  exact hK _ _ _ k _ _ (ha.put hn) hs
omit [BEq α] [LawfulBEq α] in
theorem op_nextMap {d b m since last c : Nat} {x : Operand} {kv : α → Value} {l vis rest : ML α} (i : Nat) (ho : o.op = .next x false) (hd : o.dst = some d) (hn : Nat.blt d cx.n = true) (hx : ev e x = some (ptr b 0)) (hH : H[i]? = some (b, mit m since vis last)) (hm : Blk (SS I H) m (mobj kv l c))
    (hold : ∀ p ∈ l, p.2.2 < since) (hsc : since ≤ last) (hnd : (l.map (·.2.2)).Nodup) (hp : (vis ++ rest).Perm l)
    (k1 : ∀ (p : α × Value × Nat) (r : ML α) (H' : HL), rest.Perm (p :: r) → (vis ++ [p] ++ r).Perm l → LSet H i (b, mit m since (vis ++ [p]) c) H' → C ((d, .tuple #[.bool true, kv p.1, p.2.1]) :: e) I H')
    (k0 : rest = [] → C ((d, .tuple #[.bool false]) :: e) I H) : OpJ cx Q o e I H C := by
  intro Kk hK a w ha hs
  unfold Oper.wp
  have hb := hs.own _ (List.mem_of_getElem? hH)
  have hmw := hm w hs.ss
  have hrun := run_next_at (P := cx.P) w o.type b m since last _ _ c hb hmw (by
    intro y hy
    simp only [List.mem_map] at hy
    obtain ⟨p, hp, rfl⟩ := hy
    exact hold p hp) hsc
  have hnd2 : ((vis ++ rest).map (·.2.2)).Nodup := (hp.map _).nodup_iff.2 hnd
  have hexec : (execOp a.eval o).run cx.P w = ((Instr.next (.pointer (some ⟨b, 0, none⟩)) false o.type).run cx.P w).andThen fun v w' => .ok (.value v) w' := by
    simp only [execOp, ho, ha.eval hx, Sem.run_bind]
    rfl
  have hin : ∀ p : α × Value × Nat, p ∈ l → ((vis.map (·.2.2)).toArray.contains p.2.2 = true ↔ p ∈ vis) := fun p hpl => by
    have hpm : p ∈ vis ++ rest := hp.mem_iff.2 hpl
    rw [Array.contains_iff_mem]
    simp only [List.mem_toArray, List.mem_map]
    constructor
    · rintro ⟨q, hq, he⟩
      rcases List.mem_append.1 hpm with h | h
      · exact h
      rw [List.map_append, List.nodup_append] at hnd2
      exact absurd he (hnd2.2.2 _ (List.mem_map_of_mem hq) _ (List.mem_map_of_mem h))
    exact fun h => ⟨p, h, rfl⟩
  rcases hrun with ⟨h0, hr⟩ | ⟨en, hen, w1, hw1, hr⟩
  · rw [hexec, hr]
    simp only [Result.andThen_ok, Oper.upon, hd]
    refine hK _ _ _ (k0 ?_) _ _ (ha.put hn) hs
    rcases rest with _ | ⟨p, r⟩
    · rfl
    exfalso
    have hpl : p ∈ l := hp.mem_iff.1 (List.mem_append_right _ (.head _))
    have hpv : p ∉ vis := fun h => by
      rw [List.map_append, List.nodup_append] at hnd2
      exact hnd2.2.2 _ (List.mem_map_of_mem h) _ (List.mem_map_of_mem (.head _)) rfl
    have : ment kv p ∈ leftOf (l.map (ment kv)).toArray (vis.map (·.2.2)).toArray := by
      unfold leftOf
      rw [Array.mem_filter]
      refine ⟨by simp only [List.mem_toArray]; exact List.mem_map_of_mem hpl, ?_⟩
      have := (not_congr (hin p hpl)).2 hpv
      simp only [Bool.not_eq_true] at this
      show (!Array.contains _ p.2.2) = true
      rw [this]; rfl
    have h1 := Array.eq_empty_of_size_eq_zero h0
    rw [h1] at this
    simp at this
  rw [hexec, hr]
  simp only [Result.andThen_ok, Oper.upon, hd]
  have hen2 : en ∈ leftOf (l.map (ment kv)).toArray (vis.map (·.2.2)).toArray := by simpa using hen
  unfold leftOf at hen2
  rw [Array.mem_filter] at hen2
  obtain ⟨hel, hns⟩ := hen2
  simp only [List.mem_toArray, List.mem_map] at hel
  obtain ⟨p, hpl, rfl⟩ := hel
  have hpv : p ∉ vis := fun h => by
    have := (hin p hpl).2 h
    change (!Array.contains _ p.2.2) = true at hns
    rw [this] at hns; cases hns
  have hpr : p ∈ rest := (List.mem_append.1 (hp.mem_iff.2 hpl)).resolve_left hpv
  obtain ⟨r1, r2, hrr⟩ := List.append_of_mem hpr
  have hperm : rest.Perm (p :: (r1 ++ r2)) := by rw [hrr]; exact List.perm_middle
  have hperm2 : (vis ++ [p] ++ (r1 ++ r2)).Perm l := by
    refine List.Perm.trans ?_ hp
    rw [List.append_assoc]
    exact List.Perm.append_left _ hperm.symm
  have hset : LSet H i (b, mit m since (vis ++ [p]) c) (H.set i (b, mit m since (vis ++ [p]) c)) := ⟨(List.getElem?_eq_some_iff.1 hH).1, rfl⟩
  have hk := k1 p (r1 ++ r2) _ hperm hperm2 hset
  have hst : St cx.w0 cx.D cx.I0 I (H.set i (b, mit m since (vis ++ [p]) c)) (ChangeMaps.setBlock w1 b (.mapIter (some m) since ((vis.map (·.2.2)).toArray.push p.2.2) c)) := by
    have he : (.mapIter (some m) since ((vis.map (·.2.2)).toArray.push p.2.2) c : Obj) = mit m since (vis ++ [p]) c := by simp [mit]
    rw [show (ment kv p).born = p.2.2 from rfl] at *
    rw [he]
    rcases hw1 with rfl | rfl
    · exact hs.block hH hset
    exact (hs.drewN (w.drawn + 1)).block hH hset
  exact hK _ _ _ hk _ _ (ha.put hn) hst
omit [LawfulBEq α] in
theorem yl_lookupNil1 {T K E : Nat} {m x : Operand} {kv : α → Value} {a : α} {z : Value} {kx : Value} (ho : o.op = .lookup T m x false) (hm : ev e m = some (.map none)) (hx : ev e x = some kx) (hkx : kx = kv a) (hT : cx.P.underlying T = some (.map K E)) (hK : KeyK cx.P K kv) (hz : ∀ w, (zeroValue E).run cx.P w = .ok z w) : Yld cx o e S z := by
  intro w0 w ha _
  subst hkx
  have h1 := hK.1 a [] w
  have h2 : (Instr.findKey K (kv a) []).run cx.P w = .ok none w := h1
  simp [execOp, ho, ha.eval hm, ha.eval hx, Instr.lookup, run_underlying hT, hK.2.1, h2, hz]
omit [BEq α] [LawfulBEq α] in
theorem yl_lenMap {x : Operand} {T K E b c : Nat} {kv : α → Value} {l : ML α} (ho : o.op = .call ⟨.builtin .len, #[x], #[T]⟩) (hx : ev e x = some (.map (some b))) (hu : cx.P.underlying T = some (.map K E)) (hb : Blk S b (mobj kv l c)) : Yld cx o e S (i64 (l.length : Int)) := by
  intro a w ha hs
  have h := hb w hs
  simp [execOp, ho, resolve, invoke, builtin, Builtin.len_, ha.eval hx, run_underlying hu, goInt, getObj, Sem.run, h, mobj]
end
end Go.Sx
namespace Go.Sx
open Go
section
variable {P : Program} {K i : TypeId} {f0 f1 : Field}
theorem run_part0 {xs : Array Value} {t off : Nat} {v : Value} {w : World} (ha : ∀ w, (isAgg t).run P w = .ok false w) (hv : xs[off]? = some v) : (part t xs off).run P w = .ok v w := by
  simp [part, ha, hv]
theorem stru_equal2 (hu : P.underlying K = some (.struct #[f0, f1])) (hp : P.stoodInHeld K = false) (n0 : f0.name ≠ "_") (n1 : f1.name ≠ "_") (o0 : f0.offset = 0) (o1 : f1.offset = 1) (a0 : ∀ w, (isAgg f0.type).run P w = .ok false w) (a1 : ∀ w, (isAgg f1.type).run P w = .ok false w)
    {x0 x1 y0 y1 : Value} {b0 b1 : Bool} (w : World) (e0 : ∀ d w, (Op.equalIn (d + 1) f0.type x0 y0).run P w = .ok b0 w) (e1 : ∀ d w, (Op.equalIn (d + 1) f1.type x1 y1).run P w = .ok b1 w) : ∀ d, (Op.equalIn (d + 2) K (.agg #[x0, x1]) (.agg #[y0, y1])).run P w = .ok (b0 && b1) w := by
  intro d
  have hf : P.fieldsOf K = #[f0, f1] := by simp [Program.fieldsOf, hu]
  rw [run_equalIn_struct w (d + 1) K _ _ (by rw [hf]; exact hu) hp, hf]
  have p0 : ∀ (a b : Value) w, (part f0.type #[a, b] f0.offset).run P w = .ok a w := fun a b w => run_part0 a0 (by rw [o0]; rfl)
  have p1 : ∀ (a b : Value) w, (part f1.type #[a, b] f1.offset).run P w = .ok b w := fun a b w => run_part0 a1 (by rw [o1]; rfl)
  simp only [Op.eqFields, n0, n1, ne_eq, not_false_eq_true, if_true, Sem.run_bind, p0, e0, Result.andThen_ok]
  cases b0
  · simp
  cases b1 <;> simp [Sem.run_bind, p1, e1]
theorem stru_check2 (hu : P.underlying K = some (.struct #[f0, f1])) (n0 : f0.name ≠ "_") (n1 : f1.name ≠ "_") (o0 : f0.offset = 0) (o1 : f1.offset = 1) (a0 : ∀ w, (isAgg f0.type).run P w = .ok false w) (a1 : ∀ w, (isAgg f1.type).run P w = .ok false w)
    {x0 x1 : Value} (b : Bool) (w : World) (e0 : ∀ d w, (Instr.checkKey b (d + 1) f0.type x0).run P w = .ok () w) (e1 : ∀ d w, (Instr.checkKey b (d + 1) f1.type x1).run P w = .ok () w) : ∀ d, (Instr.checkKey b (d + 2) K (.agg #[x0, x1])).run P w = .ok () w := by
  intro d
  have p0 : ∀ w, (part f0.type #[x0, x1] f0.offset).run P w = .ok x0 w := fun w => run_part0 a0 (by rw [o0]; rfl)
  have p1 : ∀ w, (part f1.type #[x0, x1] f1.offset).run P w = .ok x1 w := fun w => run_part0 a1 (by rw [o1]; rfl)
  have e0' := e0 d
  have e1' := e1 d
  generalize hc : Instr.checkKey b (d + 1) = ck at e0' e1'
  rw [show d + 2 = (d + 1) + 1 from rfl, Instr.checkKey]
  rw [hc]
  simp [Sem.run_bind, run_underlying hu, n0, n1, p0, p1, e0', e1']
theorem check_int {b : Bool} {t : TypeId} {k : IntKind} (hu : P.underlying t = some (.int k)) (a : Int) (d : Nat) (w : World) : (Instr.checkKey b (d + 1) t (.int k a)).run P w = .ok () w := by simp [Instr.checkKey, run_underlying hu]
theorem KeyK.ints2 (hu : P.underlying K = some (.struct #[f0, f1])) (hp : P.stoodInHeld K = false) (n0 : f0.name ≠ "_") (n1 : f1.name ≠ "_") (o0 : f0.offset = 0) (o1 : f1.offset = 1) (t0 : f0.type = i) (t1 : f1.type = i) (hi : P.underlying i = some (.int .i64)) (ha : ∀ w, (isAgg i).run P w = .ok false w) :
    KeyK P K (fun a : Int × Int => .agg #[i64 a.1, i64 a.2]) := by
  subst t0
  refine KeyK.equal hu (fun a b => rfl) (fun a b w => ?_) (fun b a w => ?_) (fun a => ?_)
  · have h := stru_equal2 hu hp n0 n1 o0 o1 ha (t1 ▸ ha) (x0 := i64 a.1) (x1 := i64 a.2) (y0 := i64 b.1) (y1 := i64 b.2) w (fun d w => run_equalIn_int w d _ .i64 .i64 a.1 b.1 hi) (fun d w => run_equalIn_int w d _ .i64 .i64 a.2 b.2 (t1 ▸ hi)) 9998
    exact h
  · exact stru_check2 hu n0 n1 o0 o1 ha (t1 ▸ ha) b w (fun d w => check_int hi _ d w) (fun d w => check_int (t1 ▸ hi) _ d w) 9998
  show Instr.sameBits (9999 + 1) _ _ = true
  simp [Instr.sameBits]
end
end Go.Sx
end
section
namespace Go.Sx
open Go
section
variable {α : Type} [BEq α] [LawfulBEq α]
def MS (l : ML α) (c : Nat) : Prop := (l.map (·.1)).Nodup ∧ (l.map (·.2.2)).Nodup ∧ ∀ p ∈ l, p.2.2 < c
omit [BEq α] [LawfulBEq α] in
theorem MS.nil : MS ([] : ML α) 0 := ⟨.nil, .nil, fun _ h => by simp at h⟩
theorem mget_iff {l : ML α} {a : α} (h : (l.map (·.1)).Nodup) {v : Value} : mget l a = some v ↔ ∃ n, (a, v, n) ∈ l := by
  induction l with
  | nil => simp [mget]
  | cons p r ih =>
    obtain ⟨b, u, n⟩ := p
    rw [List.map_cons, List.nodup_cons] at h
    unfold mget
    by_cases hab : a = b
    · subst hab
      simp only [BEq.rfl, if_true, Option.some.injEq]
      constructor
      · rintro rfl; exact ⟨n, .head _⟩
      rintro ⟨k, hk⟩
      rcases List.mem_cons.1 hk with e | e
      · exact (congrArg (fun x => x.2.1) e).symm
      exact absurd (List.mem_map_of_mem (f := (·.1)) e) h.1
    rw [if_neg (by simpa using hab), ih h.2]
    constructor
    · rintro ⟨k, hk⟩; exact ⟨k, .tail _ hk⟩
    rintro ⟨k, hk⟩
    rcases List.mem_cons.1 hk with e | e
    · exact absurd (congrArg (·.1) e) hab
    exact ⟨k, e⟩
theorem mget_none {l : ML α} {a : α} : mget l a = none ↔ a ∉ l.map (·.1) := by
  induction l with
  | nil => simp [mget]
  | cons p r ih =>
    obtain ⟨b, u, n⟩ := p
    unfold mget
    by_cases hab : a = b
    · subst hab; simp
    rw [if_neg (by simpa using hab), ih]; simp [hab]
theorem mget_mset (l : ML α) (a b : α) (v : Value) (c : Nat) : mget (mset l a v c) b = if b == a then some v else mget l b := by
  induction l with
  | nil => unfold mset mget; by_cases h : b = a <;> simp [h, mget]
  | cons p r ih =>
    obtain ⟨d, u, n⟩ := p
    unfold mset
    by_cases had : a = d
    · subst had
      rw [if_pos (by simp)]
      by_cases h : b = a
      · subst h; simp [mget]
      have h' : (b == a) = false := by simpa using h
      simp [mget, h']
    rw [if_neg (by simpa using had)]
    by_cases hbd : b = d
    · subst hbd
      have h' : (b == a) = false := by simpa using fun e : b = a => had e.symm
      simp [mget, h']
    have h' : (b == d) = false := by simpa using hbd
    simp only [mget, h', Bool.false_eq_true, if_false, ih]
theorem mset_keys {l : ML α} {a : α} {v : Value} {c : Nat} : (mset l a v c).map (·.1) = if a ∈ l.map (·.1) then l.map (·.1) else l.map (·.1) ++ [a] := by
  induction l with
  | nil => simp [mset]
  | cons p r ih =>
    obtain ⟨d, u, n⟩ := p
    unfold mset
    by_cases had : a = d
    · subst had; simp
    rw [if_neg (by simpa using had), List.map_cons, ih]
    by_cases h : a ∈ r.map (·.1)
    · simp [h]
    rw [if_neg h, if_neg (by simp only [List.map_cons, List.mem_cons, not_or]; exact ⟨had, h⟩)]; rfl
theorem mset_mem {l : ML α} {a x : α} {v : Value} {c : Nat} : x ∈ (mset l a v c).map (·.1) ↔ x ∈ l.map (·.1) ∨ x = a := by
  rw [mset_keys]
  split
  · rename_i h
    exact ⟨.inl, fun g => g.elim id (fun e => e ▸ h)⟩
  simp
theorem MS.set {l : ML α} {c : Nat} (h : MS l c) (a : α) (v : Value) : MS (mset l a v c) (mclk l a c) := by
  obtain ⟨h1, h2, h3⟩ := h
  cases hm : mget l a with
  | none =>
    obtain ⟨-, hs⟩ := midx_none l 0 hm
    have ha := mget_none.1 hm
    rw [hs, mclk, hm]
    refine ⟨?_, ?_, ?_⟩
    · rw [List.map_append, List.nodup_append]
      refine ⟨h1, by simp, fun x hx y hy e => ?_⟩
      rw [List.map_cons, List.map_nil, List.mem_singleton] at hy
      exact ha (by have : x = a := e.trans hy; exact this ▸ hx)
    · rw [List.map_append, List.nodup_append]
      refine ⟨h2, by simp, fun x hx y hy e => ?_⟩
      rw [List.map_cons, List.map_nil, List.mem_singleton] at hy
      obtain ⟨p, hp, rfl⟩ := List.mem_map.1 hx
      have := h3 p hp
      dsimp only at hy e
      omega
    intro p hp
    simp only [Option.isSome_none, Bool.false_eq_true, if_false]
    rcases List.mem_append.1 hp with g | g
    · exact Nat.lt_succ_of_lt (h3 p g)
    rw [List.mem_singleton] at g; subst g; exact Nat.lt_succ_self _
  | some u =>
    obtain ⟨j, u', n, -, hj, hs⟩ := midx_some l 0 hm
    have he : ∀ f : α × Value × Nat → Nat ⊕ α, f (a, v, n) = f (a, u', n) → (l.set j (a, v, n)).map f = l.map f := fun f hf => by
      apply List.ext_getElem?
      intro i
      rw [List.getElem?_map, List.getElem?_map, List.getElem?_set]
      by_cases hi : j = i
      · subst hi
        rw [if_pos rfl, hj, if_pos (List.getElem?_eq_some_iff.1 hj).1]
        simp [hf]
      rw [if_neg hi]
    have e1 : (l.set j (a, v, n)).map (·.1) = l.map (·.1) := by
      have := congrArg (List.map (fun s : Nat ⊕ α => match s with | .inr x => x | .inl _ => a)) (he (fun p => .inr p.1) rfl)
      simpa [List.map_map, Function.comp_def] using this
    have e2 : (l.set j (a, v, n)).map (·.2.2) = l.map (·.2.2) := by
      have := congrArg (List.map (fun s : Nat ⊕ α => match s with | .inl x => x | .inr _ => 0)) (he (fun p => .inl p.2.2) rfl)
      simpa [List.map_map, Function.comp_def] using this
    rw [hs, mclk, hm]
    refine ⟨by rw [e1]; exact h1, by rw [e2]; exact h2, fun p hp => ?_⟩
    have : p.2.2 ∈ l.map (·.2.2) := e2 ▸ List.mem_map_of_mem hp
    obtain ⟨q, hq, e⟩ := List.mem_map.1 this
    exact e ▸ h3 q hq
end
section
variable {cx : Cx} {Q : Qt} {o : Oper} {e : Env} {S : World → Prop} {α : Type} [BEq α] [LawfulBEq α]
omit [BEq α] [LawfulBEq α] in
theorem yl_entry {b m since c : Nat} {x : Operand} {kv : α → Value} {l vis : ML α} {p : α × Value × Nat} (ho : o.op = .entry x) (hx : ev e x = some (ptr b 0)) (hb : Blk S b (mit m since (vis ++ [p]) c)) (hm : Blk S m (mobj kv l c)) (hp : p ∈ l) (hn : (l.map (·.2.2)).Nodup) : Yld cx o e S (.tuple #[kv p.1, p.2.1]) := by
  intro w0 w ha hs
  have h1 := hb w hs
  have h2 := hm w hs
  have h3 : w.heap[b]? = some (.mapIter (some m) since ((vis.map (·.2.2)).toArray.push (ment kv p).born) c) := by
    rw [h1]; simp [mit]
  have hr := run_entry_at (P := cx.P) w b m since _ _ c (ment kv p) h3 h2 (by simp only [List.mem_map]; exact ⟨p, hp, rfl⟩) (by
    rw [List.map_map]
    exact hn)
  have : (execOp w0.eval o).run cx.P w = .ok (.value (.tuple #[kv p.1, p.2.1])) w := by
    simp only [execOp, ho, ha.eval hx, Sem.run_bind, hr, Result.andThen_ok, Sem.run_pure]
  exact this
end
end Go.Sx
end
section
namespace Go.Sx
open Go
section
variable {α β : Type}
variable {cx : Cx} {Q : Qt} {en : Env} {f : β → List Value} {sz : Nat} {T : TypeId} {R : HL} {c : Code}
end
end Go.Sx
end
section
namespace Go.Sx
open Go
section
variable {α β : Type} [BEq α] [LawfulBEq α]
abbrev kvp (p : α × Value × Nat) : α × Value := (p.1, p.2.1)
def pget (l : List (α × Value)) (a : α) : Option Value := match l with
  | [] => none
  | (b, v) :: r => if a == b then some v else pget r a
def pset (l : List (α × Value)) (a : α) (v : Value) : List (α × Value) := match l with
  | [] => [(a, v)]
  | (b, u) :: r => if a == b then (b, v) :: r else (b, u) :: pset r a v
omit [LawfulBEq α] in
theorem mget_kvp (a : α) : ∀ l : ML α, mget l a = pget (l.map kvp) a
  | [] => rfl
  | (b, v, n) :: r => by simp only [mget, List.map_cons, pget, mget_kvp a r]
omit [LawfulBEq α] in
theorem mset_kvp (a : α) (v : Value) (c : Nat) : ∀ l : ML α, (mset l a v c).map kvp = pset (l.map kvp) a v
  | [] => rfl
  | (b, u, n) :: r => by
    simp only [mset, List.map_cons, pset]
    split
    · rfl
    rw [List.map_cons, mset_kvp a v c r]
theorem pset_at {a : α} {u v : Value} {B : List (α × Value)} : ∀ {A : List (α × Value)}, a ∉ A.map (·.1) → pset (A ++ (a, u) :: B) a v = A ++ (a, v) :: B ∧ pget (A ++ (a, u) :: B) a = some u
  | [], _ => by simp [pset, pget]
  | (b, w) :: A, h => by
    rw [List.map_cons, List.mem_cons, not_or] at h
    obtain ⟨h1, h2⟩ := pset_at (u := u) (v := v) (B := B) h.2
    have hb : (a == b) = false := by simpa using h.1
    simp only [List.cons_append, pset, pget, hb, Bool.false_eq_true, if_false, h1, h2, and_self]
theorem pset_new {a : α} {v : Value} : ∀ {A : List (α × Value)}, a ∉ A.map (·.1) → pset A a v = A ++ [(a, v)] ∧ pget A a = none
  | [], _ => ⟨rfl, rfl⟩
  | (b, w) :: A, h => by
    rw [List.map_cons, List.mem_cons, not_or] at h
    obtain ⟨h1, h2⟩ := pset_new (v := v) h.2
    have hb : (a == b) = false := by simpa using h.1
    simp only [List.cons_append, pset, pget, hb, Bool.false_eq_true, if_false, h1, h2, and_self]
variable {cx : Cx} {Q : Qt} {e : Env} {I : Heap} {H H' : HL}
theorem JA.perm {l : List Oper} {I1 : Heap} {A : HL} {Z : CL} {z fuel : Nat} {listed : Array Bool} (hs : H'.Perm H) (k : JA cx Q l I1 A Z z fuel listed e I H') : JA cx Q l I1 A Z z fuel listed e I H := fun a w ha h1 => k a w ha (h1.perm hs)
end
end Go.Sx
end
section
namespace Go.Sx
open Go
section
variable {α : Type} [BEq α] [LawfulBEq α]
def mdel (l : ML α) (a : α) : ML α := match l with
  | [] => []
  | (b, v, n) :: r => if a == b then r else (b, v, n) :: mdel r a
omit [LawfulBEq α] in
theorem midx_del {a : α} : ∀ (l : ML α) (i : Nat), (midx l a i = none ∧ mdel l a = l) ∨ ∃ j v, midx l a i = some (i + j, v) ∧ mdel l a = l.eraseIdx j ∧ j < l.length
  | [], _ => .inl ⟨rfl, rfl⟩
  | (b, v, n) :: r, i => by
    unfold midx mdel
    by_cases h : (a == b) = true
    · rw [if_pos h, if_pos h]; exact .inr ⟨0, v, rfl, rfl, by simp⟩
    rw [if_neg h, if_neg h]
    rcases midx_del (a := a) r (i + 1) with ⟨h1, h2⟩ | ⟨j, u, h1, h2, h3⟩
    · exact .inl ⟨h1, by rw [h2]⟩
    refine .inr ⟨j + 1, u, ?_, by rw [h2]; rfl, by simpa using h3⟩
    rw [h1, Nat.add_assoc, Nat.add_comm 1 j]
theorem mdel_filter {a : α} : ∀ {l : ML α}, (l.map (·.1)).Nodup → mdel l a = l.filter fun p => !(p.1 == a)
  | [], _ => rfl
  | (b, v, n) :: r, h => by
    rw [List.map_cons, List.nodup_cons] at h
    unfold mdel
    by_cases hb : (a == b) = true
    · have he := eq_of_beq hb
      subst he
      rw [if_pos hb, List.filter_cons_of_neg (by simp)]
      rw [List.filter_eq_self.2]
      intro p hp
      have : p.1 ≠ a := fun g => h.1 (List.mem_map.2 ⟨p, hp, g⟩)
      simpa using this
    have hne : (b == a) = false := by
      rw [Bool.eq_false_iff]; intro g; exact hb (by rw [eq_of_beq g]; simp)
    rw [if_neg hb, List.filter_cons_of_pos (by simp [hne]), mdel_filter h.2]
theorem MS.del {l : ML α} {c : Nat} (h : MS l c) (a : α) : MS (mdel l a) c := by
  rw [mdel_filter h.1]
  refine ⟨h.1.sublist (List.filter_sublist.map _), h.2.1.sublist (List.filter_sublist.map _), fun p hp => h.2.2 p (List.mem_filter.1 hp).1⟩
theorem mget_mdel {l : ML α} (h : (l.map (·.1)).Nodup) (a b : α) : mget (mdel l a) b = if b == a then none else mget l b := by
  by_cases hb : (b == a) = true
  · rw [if_pos hb, mget_none, mdel_filter h]
    have := eq_of_beq hb
    subst this
    simp
  rw [if_neg hb]
  cases hm : mget l b with
  | none =>
    rw [mget_none] at hm ⊢
    rw [mdel_filter h]
    exact fun g => hm ((List.filter_sublist.map _).subset g)
  | some v =>
    have h2 : ((mdel l a).map (·.1)).Nodup := by rw [mdel_filter h]; exact h.sublist (List.filter_sublist.map _)
    rw [mget_iff h] at hm
    obtain ⟨n, hn⟩ := hm
    rw [mget_iff h2, mdel_filter h]
    exact ⟨n, List.mem_filter.2 ⟨hn, by simpa using hb⟩⟩
variable {cx : Cx} {Q : Qt} {e : Env} {I : Heap} {H : HL} {o : Oper} {C : Ct} {S : World → Prop}
omit [LawfulBEq α] in
theorem run_delete {P : Program} {T U K E b c : Nat} {t : TypeId} {kv : α → Value} {l : ML α} {a : α} {w : World} (hT : P.underlying T = some (.map K E)) (hk : KeyK P K kv) (hb : w.heap[b]? = some (mobj kv l c)) :
    (Builtin.delete_ #[T, U] t #[.map (some b), kv a]).run P w = .ok (.tuple #[]) (World.block w b (mobj kv (mdel l a) c)) := by
  obtain ⟨hf, hc, _⟩ := hk
  have hg : (getObj b).run P w = .ok (mobj kv l c) w := by simp [getObj, Sem.run, hb, mobj]
  have hset : ∀ o', (setObj b o').run P w = .ok () (World.block w b o') := fun o' => by simp [setObj, Sem.run, hb, World.block, mobj]
  rcases midx_del (a := a) l 0 with ⟨h1, h2⟩ | ⟨j, v, h1, h2, h3⟩
  · have h4 : (Instr.findKey K (kv a) (l.map (ment kv))).run P w = .ok none w := by rw [hf, h1]
    simp [Builtin.delete_, run_underlying hT, hg, mobj, hc, h4, hset, h2]
  rw [Nat.zero_add] at h1
  have he : ∀ (q : ML α) (k : Nat), (q.map (ment kv)).eraseIdx k = (q.eraseIdx k).map (ment kv) := by
    intro q
    induction q with
    | nil => intro k; rfl
    | cons x r ih => intro k; cases k with
      | zero => rfl
      | succ k => simp [ih]
  have h4 : (Instr.findKey K (kv a) (l.map (ment kv))).run P w = .ok (some (j, v)) w := by rw [hf, h1]
  have h5 : (l.map (ment kv)).toArray.eraseIdxIfInBounds j = (((l.eraseIdx j).map (ment kv)).toArray : Array MapEntry) := by
    rw [Array.eraseIdxIfInBounds, dif_pos (by simpa using h3), List.eraseIdx_toArray, he]
  simp [Builtin.delete_, run_underlying hT, hg, mobj, hc, h4, hset, h2, he]
omit [LawfulBEq α] in
theorem op_delete0 {T U K E b c : Nat} {m x : Operand} {kv : α → Value} {l : ML α} {a : α} {kx : Value} {H' : HL} (i : Nat) (ho : o.op = .call ⟨.builtin .delete, #[m, x], #[T, U]⟩) (hd : o.dst = none) (hm : ev e m = some (.map (some b))) (hx : ev e x = some kx) (hkx : kx = kv a) (hT : cx.P.underlying T = some (.map K E)) (hK : KeyK cx.P K kv)
    (hH : H[i]? = some (b, mobj kv l c)) (hH' : LSet H i (b, mobj kv (mdel l a) c) H') (kk : C e I H') : OpJ cx Q o e I H C := by
  intro Kk hKk w0 w ha hs
  unfold Oper.wp
  subst hkx
  have hb := hs.own _ (List.mem_of_getElem? hH)
  have hr := run_delete (U := U) (t := o.type) (a := a) hT hK hb
  have : (execOp w0.eval o).run cx.P w = .ok (.value (.tuple #[])) (World.block w b (mobj kv (mdel l a) c)) := by
    simp [execOp, ho, resolve, invoke, builtin, ha.eval hm, ha.eval hx, hr]
  rw [this]
  simp only [Oper.upon, hd]
  exact hKk _ _ _ kk _ _ ha.putNone (hs.block hH hH')
end
section
variable {cx : Cx} {o : Oper} {e : Env} {S : World → Prop}
theorem run_mapNil {P : Program} {w : World} {T K E : Nat} (p : Option Nat) (hT : P.underlying T = some (.map K E)) : (binOp .neq T (.map p) (.map none)).run P w = .ok (.bool p.isSome) w ∧ (binOp .eql T (.map p) (.map none)).run P w = .ok (.bool p.isNone) w := by
  have h1 : ∀ d : Nat, (Op.equalIn (d + 1) T (.map p) (.map none)).run P w = .ok p.isNone w := fun d => by cases p <;> simp [Op.equalIn, run_underlying hT]
  simp only [binOp]
  cases p <;> simp [Op.equal, Op.maxDepth, h1 9999]
theorem yl_eqlMap {x y : Operand} {T U K E : Nat} (p : Option Nat) (ho : o.op = .binOp .eql T x y U) (hx : ev e x = some (.map p)) (hy : ev e y = some (.map none)) (hT : cx.P.underlying T = some (.map K E)) : Yld cx o e S (.bool p.isNone) := by
  intro a w ha _
  have hb := (run_mapNil (P := cx.P) (w := w) p hT).2
  have hg : eqGuard .eql T x y (.map p) (.map none) = pure () := rfl
  simp [execOp, ho, ha.eval hx, ha.eval hy, hb, hg]
end
end Go.Sx
end
section
namespace Go.Sx
open Go
section
variable {α β : Type} [BEq α] [LawfulBEq α] [BEq β] [LawfulBEq β]
abbrev Nest (α β : Type) := List (α × Nat × ML β × Nat)
abbrev nvp (e : α × Nat × ML β × Nat) : α × Value := (e.1, .map (some e.2.1))
def nestH (kv : β → Value) (N : Nest α β) : HL := N.map fun e => (e.2.1, mobj kv e.2.2.1 e.2.2.2)
omit [BEq α] [LawfulBEq α] [BEq β] [LawfulBEq β] in
theorem nestH_app (kv : β → Value) (A B : Nest α β) : nestH kv (A ++ B) = nestH kv A ++ nestH kv B := by unfold nestH; rw [List.map_append]
omit [BEq α] [LawfulBEq α] [BEq β] [LawfulBEq β] in
theorem nestH_out (kv : β → Value) (A B : Nest α β) (a : α) (b : Nat) (m : ML β) (c : Nat) : ((b, mobj kv m c) :: nestH kv (A ++ B)).Perm (nestH kv (A ++ (a, b, m, c) :: B)) := by
  rw [nestH_app, nestH_app]
  exact (List.perm_middle).symm
def cv (n : Nat) : Option Value := if n = 0 then none else some (i64 (n : Int))
def bump (f : α → β → Nat) (a : α) (b : β) (d : Nat → Nat) (x : α) (y : β) : Nat := if x == a && y == b then d (f x y) else f x y
structure NestS (l : ML α) (c : Nat) (N : Nest α β) (f : α → β → Nat) : Prop where
  ms : MS l c
  vals : l.map kvp = N.map nvp
  inn : ∀ e ∈ N, MS e.2.2.1 e.2.2.2 ∧ e.2.2.1 ≠ [] ∧ ∀ t, mget e.2.2.1 t = cv (f e.1 t)
  out : ∀ a, a ∉ N.map (·.1) → ∀ t, f a t = 0
omit [BEq α] [LawfulBEq α] [LawfulBEq β] in
theorem NestS.nil : NestS ([] : ML α) 0 ([] : Nest α β) (fun _ _ => 0) := ⟨MS.nil, rfl, fun _ h => (by cases h), fun _ _ _ => rfl⟩
omit [BEq α] [LawfulBEq α] [BEq β] [LawfulBEq β] in
theorem nvp_keys (N : Nest α β) : (N.map nvp).map (·.1) = N.map (·.1) := by rw [List.map_map]; rfl
omit [BEq α] [LawfulBEq α] [LawfulBEq β] in
theorem NestS.keys {l : ML α} {c : Nat} {N : Nest α β} {f : α → β → Nat} (h : NestS l c N f) : l.map (·.1) = N.map (·.1) := by
  rw [← nvp_keys N, ← h.vals, List.map_map]; rfl
omit [BEq α] [LawfulBEq α] [LawfulBEq β] in
theorem NestS.nodup {l : ML α} {c : Nat} {N : Nest α β} {f : α → β → Nat} (h : NestS l c N f) : (N.map (·.1)).Nodup := h.keys ▸ h.ms.1
omit [LawfulBEq β] in
theorem NestS.find {l : ML α} {c : Nat} {N : Nest α β} {f : α → β → Nat} (h : NestS l c N f) (a : α) :
    (a ∉ N.map (·.1) ∧ mget l a = none ∧ ∀ t, f a t = 0) ∨ ∃ A b m k B, N = A ++ (a, b, m, k) :: B ∧ mget l a = some (.map (some b)) ∧ MS m k ∧ m ≠ [] ∧ (∀ t, mget m t = cv (f a t)) ∧ a ∉ A.map (·.1) ∧ a ∉ B.map (·.1) := by
  by_cases ha : a ∈ N.map (·.1)
  · obtain ⟨⟨a', b, m, k⟩, he, rfl⟩ := List.mem_map.1 ha
    obtain ⟨A, B, rfl⟩ := List.append_of_mem he
    have hn := h.nodup
    rw [List.map_append, List.map_cons, List.nodup_append, List.nodup_cons] at hn
    have h1 : a' ∉ A.map (·.1) := fun g => hn.2.2 _ g _ (.head _) rfl
    have h2 : mget l a' = some (.map (some b)) := by
      rw [mget_kvp, h.vals, List.map_append, List.map_cons]
      exact (pset_at (v := .map none) (by rw [nvp_keys]; exact h1)).2
    obtain ⟨h3, h4, h5⟩ := h.inn _ he
    exact .inr ⟨A, b, m, k, B, rfl, h2, h3, h4, h5, h1, hn.2.1.1⟩
  refine .inl ⟨ha, ?_, h.out a ha⟩
  rw [mget_none, h.keys]; exact ha
theorem NestS.set {l : ML α} {c : Nat} {A B : Nest α β} {f : α → β → Nat} {a : α} {b k k' : Nat} {m m' : ML β} {t : β} {d : Nat → Nat} (h : NestS l c (A ++ (a, b, m, k) :: B) f)
    (h1 : MS m' k') (h2 : m' ≠ []) (h3 : ∀ s, mget m' s = if s == t then cv (d (f a t)) else mget m s) : NestS l c (A ++ (a, b, m', k') :: B) (bump f a t d) := by
  have hn := h.nodup
  rw [List.map_append, List.map_cons, List.nodup_append, List.nodup_cons] at hn
  have hA : ∀ e ∈ A ++ B, e.1 ≠ a := by
    intro e he g
    rcases List.mem_append.1 he with he | he
    · exact hn.2.2 _ (List.mem_map_of_mem he) _ (.head _) g
    exact hn.2.1.1 (List.mem_map.2 ⟨e, he, g⟩)
  refine ⟨h.ms, ?_, fun e he => ?_, fun x hx s => ?_⟩
  · rw [h.vals]; simp
  · have hcase : e ∈ A ++ B ∨ e = (a, b, m', k') := by
      rcases List.mem_append.1 he with he | he
      · exact .inl (List.mem_append_left _ he)
      rcases List.mem_cons.1 he with he | he
      · exact .inr he
      exact .inl (List.mem_append_right _ he)
    rcases hcase with he | rfl
    · obtain ⟨g1, g2, g3⟩ := h.inn e (by rcases List.mem_append.1 he with he | he; exact List.mem_append_left _ he; exact List.mem_append_right _ (.tail _ he))
      refine ⟨g1, g2, fun s => ?_⟩
      have : (e.1 == a) = false := by simpa using hA e he
      rw [g3]; unfold bump; rw [this]; rfl
    refine ⟨h1, h2, fun s => ?_⟩
    dsimp only
    rw [h3]
    obtain ⟨_, _, g3⟩ := h.inn (a, b, m, k) (by simp)
    unfold bump
    by_cases hs : (s == t) = true
    · have := eq_of_beq hs; subst this; simp
    simp only [hs, if_false, beq_self_eq_true, Bool.true_and, Bool.false_eq_true]; exact g3 s
  have hx' : x ∉ (A ++ (a, b, m, k) :: B).map (·.1) := by simpa using hx
  have hxa : (x == a) = false := by
    have : x ≠ a := fun g => hx (by rw [g]; simp)
    simpa using this
  unfold bump
  rw [hxa]; exact h.out x hx' s
theorem NestS.add {l : ML α} {c : Nat} {N : Nest α β} {f : α → β → Nat} {a : α} {b k' : Nat} {m' : ML β} {t : β} {d : Nat → Nat} (h : NestS l c N f) (ha : a ∉ N.map (·.1))
    (h1 : MS m' k') (h2 : m' ≠ []) (h3 : ∀ s, mget m' s = if s == t then cv (d 0) else none) : NestS (mset l a (.map (some b)) c) (mclk l a c) (N ++ [(a, b, m', k')]) (bump f a t d) := by
  refine ⟨h.ms.set a _, ?_, fun e he => ?_, fun x hx s => ?_⟩
  · rw [mset_kvp, h.vals, (pset_new (by rw [nvp_keys]; exact ha)).1, List.map_append]; rfl
  · rcases List.mem_append.1 he with he | he
    · obtain ⟨g1, g2, g3⟩ := h.inn e he
      refine ⟨g1, g2, fun s => ?_⟩
      have : (e.1 == a) = false := by
        have : e.1 ≠ a := fun g => ha (g ▸ List.mem_map_of_mem he)
        simpa using this
      rw [g3]; unfold bump; rw [this]; rfl
    rw [List.mem_singleton.1 he]
    refine ⟨h1, h2, fun s => ?_⟩
    dsimp only
    rw [h3, ← h.out a ha t]
    unfold bump
    by_cases hs : (s == t) = true
    · have := eq_of_beq hs; subst this; simp
    simp only [hs, if_false, beq_self_eq_true, Bool.true_and, Bool.false_eq_true]
    rw [h.out a ha s]; rfl
  rw [List.map_append, List.mem_append, not_or] at hx
  have hxa : (x == a) = false := by
    have : x ≠ a := by simpa using hx.2
    simpa using this
  unfold bump
  rw [hxa]; exact h.out x hx.1 s
theorem NestS.drop {l : ML α} {c : Nat} {A B : Nest α β} {f : α → β → Nat} {a : α} {b k : Nat} {m : ML β} {t : β} {d : Nat → Nat} (h : NestS l c (A ++ (a, b, m, k) :: B) f)
    (h1 : ∀ s, s ≠ t → f a s = 0) (h2 : d (f a t) = 0) : NestS (mdel l a) c (A ++ B) (bump f a t d) := by
  have hn := h.nodup
  rw [List.map_append, List.map_cons, List.nodup_append, List.nodup_cons] at hn
  have hA : ∀ e ∈ A ++ B, e.1 ≠ a := by
    intro e he g
    rcases List.mem_append.1 he with he | he
    · exact hn.2.2 _ (List.mem_map_of_mem he) _ (.head _) g
    exact hn.2.1.1 (List.mem_map.2 ⟨e, he, g⟩)
  refine ⟨h.ms.del a, ?_, fun e he => ?_, fun x hx s => ?_⟩
  · have h3 : (mdel l a).map kvp = (l.map kvp).filter fun p => !(p.1 == a) := by
      rw [mdel_filter h.ms.1, List.filter_map]; rfl
    rw [h3, h.vals, List.map_append, List.map_cons, List.filter_append, List.filter_cons_of_neg (by simp), ← List.filter_append, ← List.map_append]
    rw [List.filter_eq_self.2]
    intro p hp
    obtain ⟨e, he, rfl⟩ := List.mem_map.1 hp
    have := hA e he
    simpa using this
  · obtain ⟨g1, g2, g3⟩ := h.inn e (by rcases List.mem_append.1 he with he | he; exact List.mem_append_left _ he; exact List.mem_append_right _ (.tail _ he))
    refine ⟨g1, g2, fun s => ?_⟩
    have : (e.1 == a) = false := by simpa using hA e he
    rw [g3]; unfold bump; rw [this]; rfl
  unfold bump
  by_cases hxa : x = a
  · subst hxa
    by_cases hs : s = t
    · subst hs; simp [h2]
    have : (s == t) = false := by simpa using hs
    simp only [this, Bool.and_false, Bool.false_eq_true, if_false]; exact h1 s hs
  have hxb : (x == a) = false := by simpa using hxa
  rw [hxb]
  refine h.out x ?_ s
  rw [List.map_append, List.map_cons, List.mem_append, List.mem_cons, not_or, not_or]
  rw [List.map_append, List.mem_append, not_or] at hx
  exact ⟨hx.1, hxa, hx.2⟩
theorem cv_set {m : ML β} {g : β → Nat} (_hm : ∀ s, mget m s = cv (g s)) (t : β) (n : Nat) (hn : n ≠ 0) (k : Nat) : ∀ s, mget (mset m t (i64 (n : Int)) k) s = if s == t then cv n else mget m s := by
  intro s
  rw [mget_mset]; unfold cv; rw [if_neg hn]
omit [LawfulBEq β] in
theorem cv_get {m : ML β} {g : β → Nat} (hm : ∀ s, mget m s = cv (g s)) (t : β) : (mget m t).getD (i64 0) = i64 (g t : Int) := by
  rw [hm]; unfold cv
  split
  · rename_i h; rw [h]; rfl
  rfl
end
end Go.Sx
end
section
namespace Go.Sx
open Go
section
variable {P : Program} {K i : TypeId} {f0 f1 : Field}
theorem check_str {b : Bool} {t : TypeId} (hu : P.underlying t = some .string) (a : List UInt8) (d : Nat) (w : World) : (Instr.checkKey b (d + 1) t (str a)).run P w = .ok () w := by simp [Instr.checkKey, run_underlying hu]
theorem equal_str {t : TypeId} (hu : P.underlying t = some .string) (a b : List UInt8) (d : Nat) (w : World) : (Op.equalIn (d + 1) t (str a) (str b)).run P w = .ok (a == b) w := by
  have h : ((⟨a.toArray⟩ : ByteArray) == ⟨b.toArray⟩) = (a == b) := by
    show (a.toArray == b.toArray) = (a == b)
    simp
  simp [Op.equalIn, run_underlying hu, str, h]
theorem KeyK.texts2 (hu : P.underlying K = some (.struct #[f0, f1])) (hp : P.stoodInHeld K = false) (n0 : f0.name ≠ "_") (n1 : f1.name ≠ "_") (o0 : f0.offset = 0) (o1 : f1.offset = 1) (t0 : f0.type = i) (t1 : f1.type = i) (hi : P.underlying i = some .string) (ha : ∀ w, (isAgg i).run P w = .ok false w) :
    KeyK P K (fun a : List UInt8 × List UInt8 => .agg #[str a.1, str a.2]) := by
  subst t0
  refine KeyK.equal hu (fun a b => rfl) (fun a b w => ?_) (fun b a w => ?_) (fun a => ?_)
  · have h := stru_equal2 hu hp n0 n1 o0 o1 ha (t1 ▸ ha) (x0 := str a.1) (x1 := str a.2) (y0 := str b.1) (y1 := str b.2) w (fun d w => equal_str hi a.1 b.1 d w) (fun d w => equal_str (t1 ▸ hi) a.2 b.2 d w) 9998
    exact h
  · exact stru_check2 hu n0 n1 o0 o1 ha (t1 ▸ ha) b w (fun d w => check_str hi _ d w) (fun d w => check_str (t1 ▸ hi) _ d w) 9998
  show Instr.sameBits (9999 + 1) _ _ = true
  have h := fun x n => sameBits_str x n
  simp [Instr.sameBits, h]
end
end Go.Sx
end
section
namespace Go.Sx
open Go
section
variable {α : Type} [BEq α] [LawfulBEq α]
def mst (l : ML α) (a : α) (c : Nat) : Nat := match l with
  | [] => c
  | (b, _, n) :: r => if a == b then n else mst r a c
omit [LawfulBEq α] in
theorem mst_none {l : ML α} {a : α} {c : Nat} (h : mget l a = none) : mst l a c = c := by
  induction l with
  | nil => rfl
  | cons p r ih =>
    obtain ⟨b, u, n⟩ := p
    unfold mget at h
    unfold mst
    split at h
    · cases h
    rename_i hne
    rw [if_neg hne]; exact ih h
theorem mst_some {a : α} {v : Value} : ∀ (l : ML α) (c i : Nat), mget l a = some v → ∃ j, midx l a i = some (i + j, v) ∧ l[j]? = some (a, v, mst l a c) ∧ ∀ x c', mset l a x c' = l.set j (a, x, mst l a c)
  | [], _, _, h => by cases h
  | (b, u, n) :: r, c, i, h => by
    unfold mget at h
    split at h
    · rename_i he
      have he' := eq_of_beq he
      subst he'
      cases h
      exact ⟨0, by simp [midx], by simp [mst], fun x c' => by simp [mset, mst]⟩
    rename_i hne
    have hb : (a == b) = false := by simpa using hne
    obtain ⟨j, h1, h2, h3⟩ := mst_some r c (i + 1) h
    refine ⟨j + 1, ?_, ?_, fun x c' => by simp [mset, mst, hb, h3]⟩
    · simp only [midx, hb, Bool.false_eq_true, if_false]
      rw [h1, Nat.add_assoc, Nat.add_comm 1 j]
    simp only [List.getElem?_cons_succ, mst, hb, Bool.false_eq_true, if_false]; exact h2
variable {cx : Cx} {Q : Qt} {e : Env} {I : Heap} {H : HL} {o : Oper} {C : Ct} {S : World → Prop}
theorem run_mapEntry {P : Program} {T K E b c : Nat} {kv : α → Value} {l : ML α} {a : α} {z : Value} {w : World} (hT : P.underlying T = some (.map K E)) (hk : KeyK P K kv) (hz : ∀ w, (zeroValue E).run P w = .ok z w) (hb : w.heap[b]? = some (mobj kv l c)) :
    (Instr.mapEntry T (.map (some b)) (kv a)).run P w = .ok (.tuple #[(mget l a).getD z, i64 (mst l a c : Int)]) (World.block w b (mobj kv (mset l a ((mget l a).getD z) c) (mclk l a c))) := by
  obtain ⟨hf, hc, hbits⟩ := hk
  have hg : (getObj b).run P w = .ok (mobj kv l c) w := by simp [getObj, Sem.run, hb, mobj]
  have hset : ∀ o', (setObj b o').run P w = .ok () (World.block w b o') := fun o' => by simp [setObj, Sem.run, hb, World.block, mobj]
  cases hm : mget l a with
  | none =>
    obtain ⟨h1, h2⟩ := midx_none l 0 hm
    have h3 : (Instr.findKey K (kv a) (l.map (ment kv))).run P w = .ok none w := by rw [hf, h1]
    simp only [Instr.mapEntry, Sem.run_bind, run_underlying hT, Result.andThen_ok, hg, mobj, hc, h3, hz, hset, h2, mclk, hm, mst_none hm]
    simp [goInt]
  | some u =>
    obtain ⟨j, h1, h2, h3⟩ := mst_some l c 0 hm
    rw [Nat.zero_add] at h1
    have h4 : (Instr.findKey K (kv a) (l.map (ment kv))).run P w = .ok (some (j, u)) w := by rw [hf, h1]
    have hj : (l.map (ment kv)).toArray[j]? = some { key := kv a, val := u, born := mst l a c } := by simp [h2, ment]
    have hkeep : ∀ w, (Instr.keyThatStays (kv a) (kv a)).run P w = .ok (kv a) w := fun w => by simp [Instr.keyThatStays, hbits]
    simp only [Instr.mapEntry, Sem.run_bind, run_underlying hT, Result.andThen_ok, hg, mobj, hc, h4, hj, Option.map_some, Option.getD_some, hkeep, hset, h3, mclk, hm, Option.isSome_some, if_true, goInt, Sem.run_pure]
    refine congrArg (fun A => Result.ok (Value.tuple #[u, Value.int .i64 (mst l a c : Int)]) (World.block w b (Obj.map A c))) ?_
    apply Array.ext_getElem?
    intro i
    rw [Array.getElem?_modify]
    simp only [List.getElem?_toArray, List.getElem?_map, List.getElem?_set]
    by_cases hi : j = i
    · subst hi
      have hlt : j < l.length := by
        rcases Nat.lt_or_ge j l.length with h' | h'
        · exact h'
        simp [List.getElem?_eq_none h'] at h2
      have h5 : l[j] = (a, u, mst l a c) := by
        have := List.getElem?_eq_getElem hlt
        rw [h2] at this; exact (Option.some.inj this).symm
      simp [hlt, h5]
    simp [hi]
theorem op_mapEntry {T K E b c d : Nat} {m x : Operand} {kv : α → Value} {l : ML α} {a : α} {kx z : Value} {H' : HL} (i : Nat) (ho : o.op = .mapEntry T m x) (hd : o.dst = some d) (hn : Nat.blt d cx.n = true) (hm : ev e m = some (.map (some b))) (hx : ev e x = some kx) (hkx : kx = kv a) (hT : cx.P.underlying T = some (.map K E)) (hK : KeyK cx.P K kv) (hz : ∀ w, (zeroValue E).run cx.P w = .ok z w)
    (hH : H[i]? = some (b, mobj kv l c)) (hH' : LSet H i (b, mobj kv (mset l a ((mget l a).getD z) c) (mclk l a c)) H') (kk : C ((d, .tuple #[(mget l a).getD z, i64 (mst l a c : Int)]) :: e) I H') : OpJ cx Q o e I H C := by
  intro Kk hKk w0 w ha hs
  unfold Oper.wp
  subst hkx
  have hb := hs.own _ (List.mem_of_getElem? hH)
  have hr := run_mapEntry (a := a) hT hK hz hb
  have : (execOp w0.eval o).run cx.P w = .ok (.value (.tuple #[(mget l a).getD z, i64 (mst l a c : Int)])) (World.block w b (mobj kv (mset l a ((mget l a).getD z) c) (mclk l a c))) := by
    simp [execOp, ho, ha.eval hm, ha.eval hx, hr]
  rw [this]
  simp only [Oper.upon, hd]
  exact hKk _ _ _ kk _ _ (ha.put hn) (hs.block hH hH')
theorem mset_two {l : ML α} {a : α} {x v : Value} {c : Nat} (_h : MS l c) : ∃ j, (mset l a x c)[j]? = some (a, x, mst l a c) ∧ mset l a v c = (mset l a x c).set j (a, v, mst l a c) := by
  cases hm : mget l a with
  | none =>
    obtain ⟨_, h2⟩ := midx_none l 0 hm
    refine ⟨l.length, ?_, ?_⟩
    · rw [h2, mst_none hm]; simp
    rw [h2, h2, mst_none hm]; simp
  | some u =>
    obtain ⟨j, _, h2, h3⟩ := mst_some l c 0 hm
    refine ⟨j, ?_, ?_⟩
    · rw [h3, List.getElem?_set, if_pos rfl, if_pos (List.getElem?_eq_some_iff.1 h2).1]
    rw [h3, h3, List.set_set]
theorem run_entryStore {P : Program} {T b c : Nat} {kv : α → Value} {l : ML α} {a : α} {x v : Value} {w : World} (h : MS l c) (hb : w.heap[b]? = some (mobj kv (mset l a x c) (mclk l a c))) :
    (Instr.entryStore T (.map (some b)) (i64 (mst l a c : Int)) v).run P w = .ok () (World.block w b (mobj kv (mset l a v c) (mclk l a c))) := by
  have hg : (getObj b).run P w = .ok (mobj kv (mset l a x c) (mclk l a c)) w := by simp [getObj, Sem.run, hb, mobj]
  have hset : ∀ o', (setObj b o').run P w = .ok () (World.block w b o') := fun o' => by simp [setObj, Sem.run, hb, World.block, mobj]
  obtain ⟨j, h1, h2⟩ := mset_two (x := x) (v := v) (a := a) h
  have hms := h.set a x
  generalize mset l a x c = L at h1 h2 hms hg
  have hj : j < L.length := (List.getElem?_eq_some_iff.1 h1).1
  have hLj : L[j] = (a, x, mst l a c) := (List.getElem?_eq_some_iff.1 h1).2
  have hf : (L.map (ment kv)).toArray.findIdx? (fun e => (e.born : Int) == (mst l a c : Int)) = some j := by
    rw [List.findIdx?_toArray, List.findIdx?_eq_some_iff_getElem]
    refine ⟨by simpa using hj, by simp [hLj], fun k hk => ?_⟩
    simp only [List.getElem_map, Bool.not_eq_true, beq_eq_false_iff_ne, ne_eq]
    intro he
    have hk' : k < L.length := by omega
    have h3 := hms.2.1
    rw [List.nodup_iff_pairwise_ne, List.pairwise_map, List.pairwise_iff_getElem] at h3
    refine h3 k j hk' hj hk ?_
    rw [hLj]
    exact Int.ofNat_inj.1 he
  have hai : ∀ w, (asInt (i64 (mst l a c : Int))).run P w = .ok (mst l a c : Int) w := fun w => by simp [asInt, asIntOf]
  simp only [Instr.entryStore, Sem.run_bind, hg, mobj, Result.andThen_ok, hai, hf, hset]
  refine congrArg (fun A => Result.ok () (World.block w b (Obj.map A (mclk l a c)))) ?_
  rw [h2]
  apply Array.ext_getElem?
  intro i
  rw [Array.getElem?_modify]
  simp only [List.getElem?_toArray, List.getElem?_map, List.getElem?_set]
  by_cases hi : j = i
  · subst hi
    simp [hj, hLj]
  simp [hi]
theorem op_entryStore {T b c : Nat} {m x y : Operand} {kv : α → Value} {l : ML α} {a : α} {u v : Value} {n : Int} {H' : HL} (i : Nat) (ho : o.op = .entryStore T m x y) (hd : o.dst = none) (hm : ev e m = some (.map (some b))) (hx : ev e x = some (i64 n)) (hnn : n = (mst l a c : Int)) (hy : ev e y = some v) (hMS : MS l c)
    (hH : H[i]? = some (b, mobj kv (mset l a u c) (mclk l a c))) (hH' : LSet H i (b, mobj kv (mset l a v c) (mclk l a c)) H') (kk : C e I H') : OpJ cx Q o e I H C := by
  intro Kk hKk w0 w ha hs
  unfold Oper.wp
  subst hnn
  have hb := hs.own _ (List.mem_of_getElem? hH)
  have hr := run_entryStore (P := cx.P) (T := T) (v := v) hMS hb
  have : (execOp w0.eval o).run cx.P w = .ok .skip (World.block w b (mobj kv (mset l a v c) (mclk l a c))) := by
    simp [execOp, ho, ha.eval hm, ha.eval hx, ha.eval hy, hr]
  rw [this]
  simp only [Oper.upon, hd]
  exact hKk _ _ _ kk _ _ ha.putNone (hs.block hH hH')
end
end Go.Sx
end
