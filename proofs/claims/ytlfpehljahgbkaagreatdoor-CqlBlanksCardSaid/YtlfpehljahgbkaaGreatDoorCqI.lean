/-
  Contracts of the reference's maker.next, maker.query, Made, Soup. Own text, printed by a program. Conditions: none.
-/
import Derived.Test.YtlfpehljahgbkaaGreatDoorCqMade
namespace Go.Proofs.YtlfpehljahgbkaaGreatDoor
open Go Go.Sx
def MH (m : Nat) (v : Value) (k : Nat) : HL := [(m, cel 60 [v, i64 k])]
def MSpec (deep : Nat) : Prop := ∀ (m k : Nat) (v : Value) (l : List Int) (I : Heap), IntSl I l v → k ≤ l.length → deep ≤ 100 →
  Ctr Tryz.prog 27 [ptr m 0, i64 deep] I (MH m v k) (fun e I' H' => (∃ u, e = .returned u ∧ QV I' (Cq.made deep l k).1 u) ∧ H' = MH m v (Cq.made deep l k).2)
set_option maxRecDepth 20000 in
theorem next_ok (m k n : Nat) (v : Value) (l : List Int) (I : Heap) (hl : IntSl I l v) (hk : k ≤ l.length) (hn : 0 < n) (hn2 : n ≤ 1000) :
    Ctr Tryz.prog 28 [ptr m 0, i64 n] I (MH m v k) (fun e _I' H' => e = .returned (i64 (Cq.next l k n).1) ∧ H' = MH m v (Cq.next l k n).2) := by
  obtain ⟨hll, p, c, rfl, hl2⟩ := hl
  refine Ctr.of_body Tryz.func28 rfl (by decide) (Nat.le_of_ble_eq_true rfl) ?_
  intro w0 hw0
  refine Cj.seq ?_
  refine Cj.region ?_
  refine J.y (yl_assign rfl rfl) rfl rfl rfl ?_
  refine J.nil ?_
  refine Ej.seq ?_
  refine Cj.seq ?_
  refine Cj.seq ?_
  refine Cj.drawSel [0] [] 10 (by kernel_rfl) ?_
  refine JA.take 0 rfl rfl (by kernel_rfl) (by kernel_rfl) (by kernel_rfl) (fun _ _ _ h => h) rfl rfl rfl (HSub.c 0 rfl HSub.n) CSub.n (Le.refl _) (yl_move rfl rfl) ?_
  refine JA.take 1 rfl rfl (by kernel_rfl) (by kernel_rfl) (by kernel_rfl) (fun _ _ _ h => h) rfl rfl rfl (HSub.c 0 rfl HSub.n) CSub.n (Le.refl _) (yl_nilCheck rfl rfl) ?_
  refine JA.take 2 rfl rfl (by kernel_rfl) (by kernel_rfl) (by kernel_rfl) (fun _ _ _ h => h) rfl rfl rfl (HSub.c 0 rfl HSub.n) CSub.n (Le.refl _) (yl_fieldAddr (off' := 1) rfl rfl Tryz.underlying60 rfl Tryz.sizeOf3 rfl) ?_
  refine JA.take 3 rfl rfl (by kernel_rfl) (by kernel_rfl) (by kernel_rfl) (fun _ _ _ h => h) rfl rfl rfl (HSub.c 0 rfl HSub.n) CSub.n (Le.refl _) (yl_load rfl rfl Tryz.isAgg3 (Blk.atC 0 rfl) rfl) ?_
  refine JA.take 4 rfl rfl (by kernel_rfl) (by kernel_rfl) (by kernel_rfl) (fun _ _ _ h => h) rfl rfl rfl (HSub.c 0 rfl HSub.n) CSub.n (Le.refl _) (yl_move rfl rfl) ?_
  refine JA.take 5 rfl rfl (by kernel_rfl) (by kernel_rfl) (by kernel_rfl) (fun _ _ _ h => h) rfl rfl rfl (HSub.c 0 rfl HSub.n) CSub.n (Le.refl _) (yl_nilCheck rfl rfl) ?_
  refine JA.take 6 rfl rfl (by kernel_rfl) (by kernel_rfl) (by kernel_rfl) (fun _ _ _ h => h) rfl rfl rfl (HSub.c 0 rfl HSub.n) CSub.n (Le.refl _) (yl_fieldAddr (off' := 0) rfl rfl Tryz.underlying60 rfl Tryz.sizeOf22 rfl) ?_
  refine JA.take 7 rfl rfl (by kernel_rfl) (by kernel_rfl) (by kernel_rfl) (fun _ _ _ h => h) rfl rfl rfl (HSub.c 0 rfl HSub.n) CSub.n (Le.refl _) (yl_load rfl rfl Tryz.isAgg22 (Blk.atC 0 rfl) rfl) ?_
  refine JA.take 8 rfl rfl (by kernel_rfl) (by kernel_rfl) (by kernel_rfl) (fun _ _ _ h => h) rfl rfl rfl (HSub.c 0 rfl HSub.n) CSub.n (Le.refl _) (yl_lenSlice rfl rfl Tryz.underlying22) ?_
  refine JA.take 9 rfl rfl (by kernel_rfl) (by kernel_rfl) (by kernel_rfl) (fun _ _ _ h => h) rfl rfl rfl (HSub.c 0 rfl HSub.n) CSub.n (Le.refl _) (yl_geq rfl rfl rfl) ?_
  refine JA.done (by kernel_rfl) ?_
  refine Ej.seq ?_
  refine Cj.cond rfl (fun hc1 => ?_) (fun hc1 => ?_)
  ·
    have hc1p := of_decide_eq_true hc1
    have hnx : Cq.next l k n = (0, k) := by simp [Cq.next, List.getElem?_eq_none (show l.length ≤ k by omega)]
    refine Cj.seq ?_
    refine Cj.region ?_
    refine J.y (yl_assign rfl rfl) rfl rfl rfl ?_
    refine J.nil ?_
    refine Ej.seq ?_
    refine Cj.ret ?_
    refine Ej.seqRet ?_
    refine Ej.keep (Keeps.k Keeps.n) ?_
    refine Ej.ret1 rfl rfl rfl ?_
    rw [hnx]; exact ⟨rfl, rfl⟩
  ·
    have hc1p := of_decide_eq_false hc1
    have hlt : k < l.length := by omega
    obtain ⟨x, hx⟩ : ∃ x, l[k]? = some x := ⟨_, List.getElem?_eq_getElem hlt⟩
    obtain ⟨bl, off, cs', T, fr, rfl, hbl, hat⟩ := hl2 (by intro h; rw [h] at hlt; simp at hlt)
    have hpk := Cq.pick_eq x hn
    have hnx : Cq.next l k n = (Cq.pickN x n, k + 1) := by simp [Cq.next, hx]
    refine Cj.skip ?_
    refine Ej.seq ?_
    refine Cj.seq ?_
    refine Cj.region ?_
    refine J.y (yl_move rfl rfl) rfl rfl rfl ?_
    refine J.y (yl_nilCheck rfl rfl) rfl rfl rfl ?_
    refine J.y (yl_fieldAddr (off' := 1) rfl rfl Tryz.underlying60 rfl Tryz.sizeOf3 rfl) rfl rfl rfl ?_
    refine J.y (yl_load rfl rfl Tryz.isAgg3 (Blk.at 0 rfl) rfl) rfl rfl rfl ?_
    refine J.y (yl_add rfl rfl rfl (w64 (by omega))) rfl rfl rfl ?_
    refine J.y (yl_nilCheck rfl rfl) rfl rfl rfl ?_
    refine J.y (yl_fieldAddr (off' := 1) rfl rfl Tryz.underlying60 rfl Tryz.sizeOf3 rfl) rfl rfl rfl ?_
    refine J.op rfl (op_store 0 rfl rfl rfl rfl rfl rfl Tryz.sizeOf3 rfl rfl (LSpl.s (LSpl.c LSpl.z)) LSet.z ?_)
    refine J.nil ?_
    refine Ej.seq ?_
    refine Cj.seq ?_
    refine Cj.drawSel [0] [] 18 (by kernel_rfl) ?_
    refine JA.take 0 rfl rfl (by kernel_rfl) (by kernel_rfl) (by kernel_rfl) (fun _ _ _ h => h) rfl rfl rfl (HSub.c 0 rfl HSub.n) CSub.n (Le.refl _) (yl_move rfl rfl) ?_
    refine JA.take 1 rfl rfl (by kernel_rfl) (by kernel_rfl) (by kernel_rfl) (fun _ _ _ h => h) rfl rfl rfl (HSub.c 0 rfl HSub.n) CSub.n (Le.refl _) (yl_nilCheck rfl rfl) ?_
    refine JA.take 2 rfl rfl (by kernel_rfl) (by kernel_rfl) (by kernel_rfl) (fun _ _ _ h => h) rfl rfl rfl (HSub.c 0 rfl HSub.n) CSub.n (Le.refl _) (yl_fieldAddr (off' := 0) rfl rfl Tryz.underlying60 rfl Tryz.sizeOf22 rfl) ?_
    refine JA.take 3 rfl rfl (by kernel_rfl) (by kernel_rfl) (by kernel_rfl) (fun _ _ _ h => h) rfl rfl rfl (HSub.c 0 rfl HSub.n) CSub.n (Le.refl _) (yl_load rfl rfl Tryz.isAgg22 (Blk.atC 0 rfl) rfl) ?_
    refine JA.take 4 rfl rfl (by kernel_rfl) (by kernel_rfl) (by kernel_rfl) (fun _ _ _ h => h) rfl rfl rfl (HSub.c 0 rfl HSub.n) CSub.n (Le.refl _) (yl_move rfl rfl) ?_
    refine JA.take 5 rfl rfl (by kernel_rfl) (by kernel_rfl) (by kernel_rfl) (fun _ _ _ h => h) rfl rfl rfl (HSub.c 0 rfl HSub.n) CSub.n (Le.refl _) (yl_nilCheck rfl rfl) ?_
    refine JA.take 6 rfl rfl (by kernel_rfl) (by kernel_rfl) (by kernel_rfl) (fun _ _ _ h => h) rfl rfl rfl (HSub.c 0 rfl HSub.n) CSub.n (Le.refl _) (yl_fieldAddr (off' := 1) rfl rfl Tryz.underlying60 rfl Tryz.sizeOf3 rfl) ?_
    refine JA.take 7 rfl rfl (by kernel_rfl) (by kernel_rfl) (by kernel_rfl) (fun _ _ _ h => h) rfl rfl rfl (HSub.c 0 rfl HSub.n) CSub.n (Le.refl _) (yl_load rfl rfl Tryz.isAgg3 (Blk.atC 0 rfl) rfl) ?_
    refine JA.take 8 rfl rfl (by kernel_rfl) (by kernel_rfl) (by kernel_rfl) (fun _ _ _ h => h) rfl rfl rfl (HSub.c 0 rfl HSub.n) CSub.n (Le.refl _) (yl_sub rfl rfl rfl (w64 (by omega))) ?_
    refine JA.take 9 rfl rfl (by kernel_rfl) (by kernel_rfl) (by kernel_rfl) (fun _ _ _ h => h) rfl rfl rfl (HSub.c 0 rfl HSub.n) CSub.n (Le.refl _) (yl_indexAddr (off' := off + k) rfl rfl rfl Tryz.underlying22 Tryz.sizeOf3 (by omega) (by omega) (by omega)) ?_
    refine JA.take 10 rfl rfl (by kernel_rfl) (by kernel_rfl) (by kernel_rfl) (fun _ _ _ h => h) rfl rfl rfl (HSub.c 0 rfl HSub.n) CSub.n (Le.refl _) (yl_load rfl rfl Tryz.isAgg3 (Blk.immC hbl) (hat k x hx)) ?_
    refine JA.take 11 rfl rfl (by kernel_rfl) (by kernel_rfl) (by kernel_rfl) (fun _ _ _ h => h) rfl rfl rfl (HSub.c 0 rfl HSub.n) CSub.n (Le.refl _) (yl_move rfl rfl) ?_
    refine JA.take 12 rfl rfl (by kernel_rfl) (by kernel_rfl) (by kernel_rfl) (fun _ _ _ h => h) rfl rfl rfl (HSub.c 0 rfl HSub.n) CSub.n (Le.refl _) (yl_rem rfl rfl rfl (by omega)) ?_
    refine JA.take 13 rfl rfl (by kernel_rfl) (by kernel_rfl) (by kernel_rfl) (fun _ _ _ h => h) rfl rfl rfl (HSub.c 0 rfl HSub.n) CSub.n (Le.refl _) (yl_move rfl rfl) ?_
    refine JA.take 14 rfl rfl (by kernel_rfl) (by kernel_rfl) (by kernel_rfl) (fun _ _ _ h => h) rfl rfl rfl (HSub.c 0 rfl HSub.n) CSub.n (Le.refl _) (yl_add rfl rfl rfl (w64 (by omega))) ?_
    refine JA.take 15 rfl rfl (by kernel_rfl) (by kernel_rfl) (by kernel_rfl) (fun _ _ _ h => h) rfl rfl rfl (HSub.c 0 rfl HSub.n) CSub.n (Le.refl _) (yl_move rfl rfl) ?_
    refine JA.take 16 rfl rfl (by kernel_rfl) (by kernel_rfl) (by kernel_rfl) (fun _ _ _ h => h) rfl rfl rfl (HSub.c 0 rfl HSub.n) CSub.n (Le.refl _) (yl_rem rfl rfl rfl (by omega)) ?_
    refine JA.eqv 38 rfl (show _ = i64 (Cq.pickN x n : Nat) from (by rw [hpk.1])) ?_
    refine JA.take 17 rfl rfl (by kernel_rfl) (by kernel_rfl) (by kernel_rfl) (fun _ _ _ h => h) rfl rfl rfl (HSub.c 0 rfl HSub.n) CSub.n (Le.refl _) (yl_assign rfl rfl) ?_
    refine JA.done (by kernel_rfl) ?_
    refine Ej.seq ?_
    refine Cj.ret ?_
    refine Ej.keep (Keeps.k Keeps.n) ?_
    refine Ej.ret1 rfl rfl rfl ?_
    rw [hnx]; exact ⟨rfl, rfl⟩

theorem at_getD {l : List (List UInt8)} {sp : List Value} {a : Nat} (h : a < l.length) : (l.map str ++ sp)[a]? = some (str (l.getD a [])) :=
  str_get (by rw [List.getD_eq_getElem?_getD, List.getElem?_eq_getElem h]; rfl)
theorem made_le (l : List Int) : ∀ (deep k : Nat), k ≤ l.length → (Cq.made deep l k).2 ≤ l.length
  | 0, k, h => Cq.next_le l 9 (Cq.next_le l 6 (Cq.next_le l 6 (Cq.next_le l 5 h)))
  | deep + 1, k, h => by
    simp only [Cq.made]
    split
    · exact Cq.next_le l 9 (Cq.next_le l 6 (Cq.next_le l 6 (Cq.next_le l 5 h)))
    · exact made_le l deep _ (made_le l deep _ (Cq.next_le l 5 h))

set_option maxRecDepth 20000 in
theorem mquery_step (deep : Nat) (ih : ∀ d, deep = d + 1 → MSpec d) : MSpec deep := by
  intro m k v l I hl hk0 hd
  have hx1 := Cq.next_lt l k (n := 5) (by omega)
  have hk1 : (Cq.next l k 5).2 ≤ l.length := Cq.next_le l 5 hk0
  have hk2 : (Cq.next l (Cq.next l k 5).2 6).2 ≤ l.length := Cq.next_le l 6 hk1
  have hk3 : (Cq.next l (Cq.next l (Cq.next l k 5).2 6).2 6).2 ≤ l.length := Cq.next_le l 6 hk2
  have hk4 : (Cq.next l (Cq.next l (Cq.next l (Cq.next l k 5).2 6).2 6).2 9).2 ≤ l.length := Cq.next_le l 9 hk3
  refine Ctr.of_body Tryz.func27 rfl (by decide) (Nat.le_of_ble_eq_true rfl) ?_
  intro w0 hw0
  refine Cj.seq ?_
  refine Cj.region ?_
  refine J.op rfl (op_alloc rfl rfl rfl Tryz.zeroValue28 rfl ?_)
  intro b1 hb1
  refine J.nil ?_
  refine Ej.seq ?_
  refine Cj.seq ?_
  refine Cj.region ?_
  refine J.y (yl_move rfl rfl) rfl rfl rfl ?_
  refine J.pull (Pull.s Pull.z) ?_
  refine J.op rfl (op_call (H1 := [_]) rfl rfl rfl rfl rfl (next_ok m k 5 v l _ hl hk0 (by omega) (by omega)) ?_ (fun _ _ _ _ h => by cases h.1) (fun _ _ h => by cases h.1))
  intro v2 I3 H4 hle5 hp6
  have hl := hl.mono hle5
  obtain ⟨hv2, rfl⟩ := hp6; cases hv2
  refine J.y (yl_assign rfl rfl) rfl rfl rfl ?_
  refine J.nil ?_
  refine Ej.seq ?_
  refine Cj.seq ?_
  refine Cj.seq ?_
  refine Cj.region ?_
  refine J.y (yl_move rfl rfl) rfl rfl rfl ?_
  refine J.y (yl_eql rfl rfl rfl) rfl rfl rfl ?_
  refine J.y (yl_move rfl rfl) rfl rfl rfl ?_
  refine J.split 12 rfl (fun hg7 => ?_) (fun hg7 => ?_)
  ·
    have hd0 : deep = 0 := by have h := hg7; simp at h; omega
    subst hd0
    have hmd : Cq.made 0 l k = Cq.leaf l (Cq.next l k 5).2 := rfl
    have hx2 := Cq.next_lt l (Cq.next l k 5).2 (n := 6) (by omega)
    have hx3 := Cq.next_lt l (Cq.next l (Cq.next l k 5).2 6).2 (n := 6) (by omega)
    have hx4 := Cq.next_lt l (Cq.next l (Cq.next l (Cq.next l k 5).2 6).2 6).2 (n := 9) (by omega)
    refine J.skip 2 12 13 false _ rfl rfl rfl hg7 rfl rfl ?_
    refine J.skip 2 12 14 false _ rfl rfl rfl hg7 rfl rfl ?_
    refine J.y (yl_pick1 rfl rfl hg7 rfl) rfl rfl rfl ?_
    refine J.nil ?_
    refine Ej.seq ?_
    refine Cj.cond rfl (fun hc8 => ?_) (fun hc8 => Bool.noConfusion (Eq.trans (Eq.symm rfl) hc8))
    refine Cj.seq ?_
    refine Cj.region ?_
    refine J.op rfl (op_buildSlice rfl rfl rfl Tryz.underlying44 Tryz.sizeOf9 Tryz.zeroValue9 rfl rfl rfl rfl (LCat.one rfl (LCat.one rfl (LCat.one rfl (LCat.one rfl (LCat.one rfl (LCat.one rfl (LCat.one rfl (LCat.one rfl (LCat.one rfl LCat.none))))))))) ?_)
    intro b9 hb9
    refine J.y (yl_assign rfl rfl) rfl rfl rfl ?_
    refine J.nil ?_
    refine Ej.seq ?_
    refine Cj.seq ?_
    refine Cj.drawSel [0] [] 17 (by kernel_rfl) ?_
    refine JA.take 1 rfl rfl (by kernel_rfl) (by kernel_rfl) (by kernel_rfl) (fun _ _ _ h => h) rfl rfl rfl (HSub.c 0 rfl HSub.n) CSub.n (Le.refl _) (yl_move rfl rfl) ?_
    refine JA.take 6 rfl rfl (by kernel_rfl) (by kernel_rfl) (by kernel_rfl) (fun _ _ _ h => h) rfl rfl rfl (HSub.c 0 rfl HSub.n) CSub.n (Le.refl _) (yl_move rfl rfl) ?_
    refine JA.take 10 rfl rfl (by kernel_rfl) (by kernel_rfl) (by kernel_rfl) (fun _ _ _ h => h) rfl rfl rfl (HSub.c 0 rfl HSub.n) CSub.n (Le.refl _) (yl_move rfl rfl) ?_
    refine JA.take 11 rfl rfl (by kernel_rfl) (by kernel_rfl) (by kernel_rfl) (fun _ _ _ h => h) rfl rfl rfl (HSub.c 0 rfl HSub.n) CSub.n (Le.refl _) (yl_move rfl rfl) ?_
    refine JA.step 0 (by kernel_rfl) rfl rfl (op_call (H1 := []) rfl rfl rfl rfl rfl (Indexes_ok _) ?_ (fun _ _ _ _ h => by obtain ⟨⟨_, h, _⟩, _⟩ := h; cases h) (fun _ _ h => by obtain ⟨⟨_, h, _⟩, _⟩ := h; cases h))
    intro v10 I11 H12 hle13 hp14
    have hl := hl.mono hle13
    obtain ⟨⟨v10x, hv10, bi, cbi, spbi, rfl, hbi⟩, rfl⟩ := hp14; cases hv10
    refine ⟨⟨(Le.trans (Le.refl _) hle13), (HSub.c 0 rfl HSub.n), CSub.n⟩, ?_⟩
    refine JA.pull (Pull.s Pull.z) ?_
    refine JA.step 2 (by kernel_rfl) rfl rfl (op_call (H1 := [_]) rfl rfl rfl rfl rfl (next_ok m (Cq.next l k 5).2 6 v l _ hl hk1 (by omega) (by omega)) ?_ (fun _ _ _ _ h => by cases h.1) (fun _ _ h => by cases h.1))
    intro v15 I16 H17 hle18 hp19
    have hl := hl.mono hle18
    have hbi := hle18 _ _ hbi
    obtain ⟨hv15, rfl⟩ := hp19; cases hv15
    refine ⟨⟨(Le.trans (Le.trans (Le.refl _) hle13) hle18), (HSub.c 1 rfl HSub.n), CSub.n⟩, ?_⟩
    refine JA.take 3 rfl rfl (by kernel_rfl) (by kernel_rfl) (by kernel_rfl) (fun _ _ _ h => h) rfl rfl rfl (HSub.c 1 rfl HSub.n) CSub.n (Le.trans (Le.trans (Le.refl _) hle13) hle18) (yl_indexAddr (off' := (Cq.next l (Cq.next l k 5).2 6).1) rfl rfl rfl Tryz.underlying44 Tryz.sizeOf9 (by omega) (by have : Cq.indexes.length = 6 := rfl; omega) (by simp)) ?_
    refine JA.all [4, 5] (by kernel_rfl) (by simp) ?_
    intro i hi
    simp only [List.mem_cons, List.not_mem_nil, or_false] at hi
    rcases hi with rfl | rfl
    ·
      refine ⟨_, rfl, rfl, ?_⟩
      refine op_yld (yl_load rfl rfl Tryz.isAgg9 (Blk.imm hbi) (at_getD (by exact hx2))) rfl rfl ?_
      refine ⟨⟨(Le.trans (Le.trans (Le.refl _) hle13) hle18), (HSub.c 1 rfl HSub.n), CSub.n⟩, ?_⟩
      refine JA.step 5 (by kernel_rfl) rfl rfl (op_call (H1 := []) rfl rfl rfl rfl rfl (Relations_ok _) ?_ (fun _ _ _ _ h => by obtain ⟨⟨_, h, _⟩, _⟩ := h; cases h) (fun _ _ h => by obtain ⟨⟨_, h, _⟩, _⟩ := h; cases h))
      intro v20 I21 H22 hle23 hp24
      have hl := hl.mono hle23
      have hbi := hle23 _ _ hbi
      obtain ⟨⟨v20x, hv20, br, cbr, spbr, rfl, hbr⟩, rfl⟩ := hp24; cases hv20
      refine ⟨⟨(Le.trans (Le.trans (Le.trans (Le.refl _) hle13) hle18) hle23), (HSub.c 1 rfl HSub.n), CSub.n⟩, ?_⟩
      refine JA.pull Pull.z ?_
      refine JA.step 7 (by kernel_rfl) rfl rfl (op_call (H1 := [_]) rfl rfl rfl rfl rfl (next_ok m (Cq.next l (Cq.next l k 5).2 6).2 6 v l _ hl hk2 (by omega) (by omega)) ?_ (fun _ _ _ _ h => by cases h.1) (fun _ _ h => by cases h.1))
      intro v25 I26 H27 hle28 hp29
      have hl := hl.mono hle28
      have hbi := hle28 _ _ hbi
      have hbr := hle28 _ _ hbr
      obtain ⟨hv25, rfl⟩ := hp29; cases hv25
      refine ⟨⟨(Le.trans (Le.trans (Le.trans (Le.trans (Le.refl _) hle13) hle18) hle23) hle28), (HSub.c 1 rfl HSub.n), CSub.n⟩, ?_⟩
      refine JA.take 8 rfl rfl (by kernel_rfl) (by kernel_rfl) (by kernel_rfl) (fun _ _ _ h => h) rfl rfl rfl (HSub.c 1 rfl HSub.n) CSub.n (Le.trans (Le.trans (Le.trans (Le.trans (Le.refl _) hle13) hle18) hle23) hle28) (yl_indexAddr (off' := (Cq.next l (Cq.next l (Cq.next l k 5).2 6).2 6).1) rfl rfl rfl Tryz.underlying44 Tryz.sizeOf9 (by omega) (by have : Cq.relations.length = 6 := rfl; omega) (by simp)) ?_
      refine JA.all [9, 12] (by kernel_rfl) (by simp) ?_
      intro i hi
      simp only [List.mem_cons, List.not_mem_nil, or_false] at hi
      rcases hi with rfl | rfl
      ·
        refine ⟨_, rfl, rfl, ?_⟩
        refine op_yld (yl_load rfl rfl Tryz.isAgg9 (Blk.imm hbr) (at_getD (by exact hx3))) rfl rfl ?_
        refine ⟨⟨(Le.trans (Le.trans (Le.trans (Le.trans (Le.refl _) hle13) hle18) hle23) hle28), (HSub.c 1 rfl HSub.n), CSub.n⟩, ?_⟩
        refine JA.pull Pull.z ?_
        refine JA.step 12 (by kernel_rfl) rfl rfl (op_call (H1 := [_]) rfl rfl rfl rfl rfl (next_ok m (Cq.next l (Cq.next l (Cq.next l k 5).2 6).2 6).2 9 v l _ hl hk3 (by omega) (by omega)) ?_ (fun _ _ _ _ h => by cases h.1) (fun _ _ h => by cases h.1))
        intro v30 I31 H32 hle33 hp34
        have hl := hl.mono hle33
        have hbi := hle33 _ _ hbi
        have hbr := hle33 _ _ hbr
        obtain ⟨hv30, rfl⟩ := hp34; cases hv30
        refine ⟨⟨(Le.trans (Le.trans (Le.trans (Le.trans (Le.trans (Le.refl _) hle13) hle18) hle23) hle28) hle33), (HSub.c 1 rfl HSub.n), CSub.n⟩, ?_⟩
        refine JA.take 13 rfl rfl (by kernel_rfl) (by kernel_rfl) (by kernel_rfl) (fun _ _ _ h => h) rfl rfl rfl (HSub.c 1 rfl HSub.n) CSub.n (Le.trans (Le.trans (Le.trans (Le.trans (Le.trans (Le.refl _) hle13) hle18) hle23) hle28) hle33) (yl_indexAddr (off' := (Cq.next l (Cq.next l (Cq.next l (Cq.next l k 5).2 6).2 6).2 9).1) rfl rfl rfl Tryz.underlying44 Tryz.sizeOf9 (by omega) (by omega) (by simp)) ?_
        refine JA.take 14 rfl rfl (by kernel_rfl) (by kernel_rfl) (by kernel_rfl) (fun _ _ _ h => h) rfl rfl rfl (HSub.c 1 rfl HSub.n) CSub.n (Le.trans (Le.trans (Le.trans (Le.trans (Le.trans (Le.refl _) hle13) hle18) hle23) hle28) hle33) (yl_load rfl rfl Tryz.isAgg9 (Blk.atC 0 rfl) (at_getD (l := Cq.texts) (sp := []) (by exact hx4))) ?_
        refine JA.take 15 rfl rfl (by kernel_rfl) (by kernel_rfl) (by kernel_rfl) (fun _ _ _ h => h) rfl rfl rfl (HSub.c 1 rfl HSub.n) CSub.n (Le.trans (Le.trans (Le.trans (Le.trans (Le.trans (Le.refl _) hle13) hle18) hle23) hle28) hle33) (yl_buildS (pl := #[(0, 1), (1, 1), (2, 1), (3, 1), (4, 1)]) rfl rfl Tryz.zeroValue28 rfl Tryz.underlying28 (fun w => by simp [Tryz.sizeOf26, Tryz.sizeOf3, Tryz.sizeOf9]) (LBld.part rfl rfl rfl (LSpl.c LSpl.z) (LBld.part rfl rfl rfl (LSpl.s (LSpl.c LSpl.z)) (LBld.part rfl rfl rfl (LSpl.s (LSpl.s (LSpl.c LSpl.z))) (LBld.part rfl rfl rfl (LSpl.s (LSpl.s (LSpl.s (LSpl.c LSpl.z)))) LBld.none))))) ?_
        refine JA.step 16 (by kernel_rfl) rfl rfl (op_store 2 rfl rfl rfl rfl rfl rfl Tryz.sizeOf28 rfl rfl (LSpl.c (LSpl.c (LSpl.c (LSpl.c (LSpl.c LSpl.z))))) (LSet.s (LSet.s LSet.z)) ?_)
        refine ⟨⟨(Le.trans (Le.trans (Le.trans (Le.trans (Le.trans (Le.refl _) hle13) hle18) hle23) hle28) hle33), (HSub.c 1 rfl HSub.n), CSub.n⟩, ?_⟩
        refine JA.done (by kernel_rfl) ?_
        refine Ej.seq ?_
        refine Cj.ret ?_
        refine Ej.seqRet ?_
        refine Ej.retCellK (Keeps.k (Keeps.d (Keeps.d Keeps.n))) rfl rfl rfl (Blk.at 2 rfl) Tryz.isAgg28 Tryz.sizeOf28 rfl ?_
        rw [hmd]
        exact ⟨⟨_, rfl, none, 0, rfl, .inl rfl⟩, rfl⟩
      ·
        refine ⟨_, rfl, rfl, ?_⟩
        refine OpJ.pull Pull.z ?_
        refine op_call (H1 := [_]) rfl rfl rfl rfl rfl (next_ok m (Cq.next l (Cq.next l (Cq.next l k 5).2 6).2 6).2 9 v l _ hl hk3 (by omega) (by omega)) ?_ (fun _ _ _ _ h => by cases h.1) (fun _ _ h => by cases h.1)
        intro v35 I36 H37 hle38 hp39
        have hl := hl.mono hle38
        have hbi := hle38 _ _ hbi
        have hbr := hle38 _ _ hbr
        obtain ⟨hv35, rfl⟩ := hp39; cases hv35
        refine ⟨⟨(Le.trans (Le.trans (Le.trans (Le.trans (Le.trans (Le.refl _) hle13) hle18) hle23) hle28) hle38), (HSub.c 1 rfl HSub.n), CSub.n⟩, ?_⟩
        refine JA.take 13 rfl rfl (by kernel_rfl) (by kernel_rfl) (by kernel_rfl) (fun _ _ _ h => h) rfl rfl rfl (HSub.c 1 rfl HSub.n) CSub.n (Le.trans (Le.trans (Le.trans (Le.trans (Le.trans (Le.refl _) hle13) hle18) hle23) hle28) hle38) (yl_indexAddr (off' := (Cq.next l (Cq.next l (Cq.next l (Cq.next l k 5).2 6).2 6).2 9).1) rfl rfl rfl Tryz.underlying44 Tryz.sizeOf9 (by omega) (by omega) (by simp)) ?_
        refine JA.take 14 rfl rfl (by kernel_rfl) (by kernel_rfl) (by kernel_rfl) (fun _ _ _ h => h) rfl rfl rfl (HSub.c 1 rfl HSub.n) CSub.n (Le.trans (Le.trans (Le.trans (Le.trans (Le.trans (Le.refl _) hle13) hle18) hle23) hle28) hle38) (yl_load rfl rfl Tryz.isAgg9 (Blk.atC 0 rfl) (at_getD (l := Cq.texts) (sp := []) (by exact hx4))) ?_
        refine JA.step 9 (by kernel_rfl) rfl rfl (op_yld (yl_load rfl rfl Tryz.isAgg9 (Blk.imm hbr) (at_getD (by exact hx3))) rfl rfl ?_)
        refine ⟨⟨(Le.trans (Le.trans (Le.trans (Le.trans (Le.trans (Le.refl _) hle13) hle18) hle23) hle28) hle38), (HSub.c 1 rfl HSub.n), CSub.n⟩, ?_⟩
        refine JA.take 15 rfl rfl (by kernel_rfl) (by kernel_rfl) (by kernel_rfl) (fun _ _ _ h => h) rfl rfl rfl (HSub.c 1 rfl HSub.n) CSub.n (Le.trans (Le.trans (Le.trans (Le.trans (Le.trans (Le.refl _) hle13) hle18) hle23) hle28) hle38) (yl_buildS (pl := #[(0, 1), (1, 1), (2, 1), (3, 1), (4, 1)]) rfl rfl Tryz.zeroValue28 rfl Tryz.underlying28 (fun w => by simp [Tryz.sizeOf26, Tryz.sizeOf3, Tryz.sizeOf9]) (LBld.part rfl rfl rfl (LSpl.c LSpl.z) (LBld.part rfl rfl rfl (LSpl.s (LSpl.c LSpl.z)) (LBld.part rfl rfl rfl (LSpl.s (LSpl.s (LSpl.c LSpl.z))) (LBld.part rfl rfl rfl (LSpl.s (LSpl.s (LSpl.s (LSpl.c LSpl.z)))) LBld.none))))) ?_
        refine JA.step 16 (by kernel_rfl) rfl rfl (op_store 2 rfl rfl rfl rfl rfl rfl Tryz.sizeOf28 rfl rfl (LSpl.c (LSpl.c (LSpl.c (LSpl.c (LSpl.c LSpl.z))))) (LSet.s (LSet.s LSet.z)) ?_)
        refine ⟨⟨(Le.trans (Le.trans (Le.trans (Le.trans (Le.trans (Le.refl _) hle13) hle18) hle23) hle28) hle38), (HSub.c 1 rfl HSub.n), CSub.n⟩, ?_⟩
        refine JA.done (by kernel_rfl) ?_
        refine Ej.seq ?_
        refine Cj.ret ?_
        refine Ej.seqRet ?_
        refine Ej.retCellK (Keeps.k (Keeps.d (Keeps.d Keeps.n))) rfl rfl rfl (Blk.at 2 rfl) Tryz.isAgg28 Tryz.sizeOf28 rfl ?_
        rw [hmd]
        exact ⟨⟨_, rfl, none, 0, rfl, .inl rfl⟩, rfl⟩
    ·
      refine ⟨_, rfl, rfl, ?_⟩
      refine op_call (H1 := []) rfl rfl rfl rfl rfl (Relations_ok _) ?_ (fun _ _ _ _ h => by obtain ⟨⟨_, h, _⟩, _⟩ := h; cases h) (fun _ _ h => by obtain ⟨⟨_, h, _⟩, _⟩ := h; cases h)
      intro v40 I41 H42 hle43 hp44
      have hl := hl.mono hle43
      have hbi := hle43 _ _ hbi
      obtain ⟨⟨v40x, hv40, br, cbr, spbr, rfl, hbr⟩, rfl⟩ := hp44; cases hv40
      refine ⟨⟨(Le.trans (Le.trans (Le.trans (Le.refl _) hle13) hle18) hle43), (HSub.c 1 rfl HSub.n), CSub.n⟩, ?_⟩
      refine JA.all [4, 7] (by kernel_rfl) (by simp) ?_
      intro i hi
      simp only [List.mem_cons, List.not_mem_nil, or_false] at hi
      rcases hi with rfl | rfl
      ·
        refine ⟨_, rfl, rfl, ?_⟩
        refine op_yld (yl_load rfl rfl Tryz.isAgg9 (Blk.imm hbi) (at_getD (by exact hx2))) rfl rfl ?_
        refine ⟨⟨(Le.trans (Le.trans (Le.trans (Le.refl _) hle13) hle18) hle43), (HSub.c 1 rfl HSub.n), CSub.n⟩, ?_⟩
        refine JA.pull Pull.z ?_
        refine JA.step 7 (by kernel_rfl) rfl rfl (op_call (H1 := [_]) rfl rfl rfl rfl rfl (next_ok m (Cq.next l (Cq.next l k 5).2 6).2 6 v l _ hl hk2 (by omega) (by omega)) ?_ (fun _ _ _ _ h => by cases h.1) (fun _ _ h => by cases h.1))
        intro v45 I46 H47 hle48 hp49
        have hl := hl.mono hle48
        have hbi := hle48 _ _ hbi
        have hbr := hle48 _ _ hbr
        obtain ⟨hv45, rfl⟩ := hp49; cases hv45
        refine ⟨⟨(Le.trans (Le.trans (Le.trans (Le.trans (Le.refl _) hle13) hle18) hle43) hle48), (HSub.c 1 rfl HSub.n), CSub.n⟩, ?_⟩
        refine JA.take 8 rfl rfl (by kernel_rfl) (by kernel_rfl) (by kernel_rfl) (fun _ _ _ h => h) rfl rfl rfl (HSub.c 1 rfl HSub.n) CSub.n (Le.trans (Le.trans (Le.trans (Le.trans (Le.refl _) hle13) hle18) hle43) hle48) (yl_indexAddr (off' := (Cq.next l (Cq.next l (Cq.next l k 5).2 6).2 6).1) rfl rfl rfl Tryz.underlying44 Tryz.sizeOf9 (by omega) (by have : Cq.relations.length = 6 := rfl; omega) (by simp)) ?_
        refine JA.all [9, 12] (by kernel_rfl) (by simp) ?_
        intro i hi
        simp only [List.mem_cons, List.not_mem_nil, or_false] at hi
        rcases hi with rfl | rfl
        ·
          refine ⟨_, rfl, rfl, ?_⟩
          refine op_yld (yl_load rfl rfl Tryz.isAgg9 (Blk.imm hbr) (at_getD (by exact hx3))) rfl rfl ?_
          refine ⟨⟨(Le.trans (Le.trans (Le.trans (Le.trans (Le.refl _) hle13) hle18) hle43) hle48), (HSub.c 1 rfl HSub.n), CSub.n⟩, ?_⟩
          refine JA.pull Pull.z ?_
          refine JA.step 12 (by kernel_rfl) rfl rfl (op_call (H1 := [_]) rfl rfl rfl rfl rfl (next_ok m (Cq.next l (Cq.next l (Cq.next l k 5).2 6).2 6).2 9 v l _ hl hk3 (by omega) (by omega)) ?_ (fun _ _ _ _ h => by cases h.1) (fun _ _ h => by cases h.1))
          intro v50 I51 H52 hle53 hp54
          have hl := hl.mono hle53
          have hbi := hle53 _ _ hbi
          have hbr := hle53 _ _ hbr
          obtain ⟨hv50, rfl⟩ := hp54; cases hv50
          refine ⟨⟨(Le.trans (Le.trans (Le.trans (Le.trans (Le.trans (Le.refl _) hle13) hle18) hle43) hle48) hle53), (HSub.c 1 rfl HSub.n), CSub.n⟩, ?_⟩
          refine JA.take 13 rfl rfl (by kernel_rfl) (by kernel_rfl) (by kernel_rfl) (fun _ _ _ h => h) rfl rfl rfl (HSub.c 1 rfl HSub.n) CSub.n (Le.trans (Le.trans (Le.trans (Le.trans (Le.trans (Le.refl _) hle13) hle18) hle43) hle48) hle53) (yl_indexAddr (off' := (Cq.next l (Cq.next l (Cq.next l (Cq.next l k 5).2 6).2 6).2 9).1) rfl rfl rfl Tryz.underlying44 Tryz.sizeOf9 (by omega) (by omega) (by simp)) ?_
          refine JA.take 14 rfl rfl (by kernel_rfl) (by kernel_rfl) (by kernel_rfl) (fun _ _ _ h => h) rfl rfl rfl (HSub.c 1 rfl HSub.n) CSub.n (Le.trans (Le.trans (Le.trans (Le.trans (Le.trans (Le.refl _) hle13) hle18) hle43) hle48) hle53) (yl_load rfl rfl Tryz.isAgg9 (Blk.atC 0 rfl) (at_getD (l := Cq.texts) (sp := []) (by exact hx4))) ?_
          refine JA.take 15 rfl rfl (by kernel_rfl) (by kernel_rfl) (by kernel_rfl) (fun _ _ _ h => h) rfl rfl rfl (HSub.c 1 rfl HSub.n) CSub.n (Le.trans (Le.trans (Le.trans (Le.trans (Le.trans (Le.refl _) hle13) hle18) hle43) hle48) hle53) (yl_buildS (pl := #[(0, 1), (1, 1), (2, 1), (3, 1), (4, 1)]) rfl rfl Tryz.zeroValue28 rfl Tryz.underlying28 (fun w => by simp [Tryz.sizeOf26, Tryz.sizeOf3, Tryz.sizeOf9]) (LBld.part rfl rfl rfl (LSpl.c LSpl.z) (LBld.part rfl rfl rfl (LSpl.s (LSpl.c LSpl.z)) (LBld.part rfl rfl rfl (LSpl.s (LSpl.s (LSpl.c LSpl.z))) (LBld.part rfl rfl rfl (LSpl.s (LSpl.s (LSpl.s (LSpl.c LSpl.z)))) LBld.none))))) ?_
          refine JA.step 16 (by kernel_rfl) rfl rfl (op_store 2 rfl rfl rfl rfl rfl rfl Tryz.sizeOf28 rfl rfl (LSpl.c (LSpl.c (LSpl.c (LSpl.c (LSpl.c LSpl.z))))) (LSet.s (LSet.s LSet.z)) ?_)
          refine ⟨⟨(Le.trans (Le.trans (Le.trans (Le.trans (Le.trans (Le.refl _) hle13) hle18) hle43) hle48) hle53), (HSub.c 1 rfl HSub.n), CSub.n⟩, ?_⟩
          refine JA.done (by kernel_rfl) ?_
          refine Ej.seq ?_
          refine Cj.ret ?_
          refine Ej.seqRet ?_
          refine Ej.retCellK (Keeps.k (Keeps.d (Keeps.d Keeps.n))) rfl rfl rfl (Blk.at 2 rfl) Tryz.isAgg28 Tryz.sizeOf28 rfl ?_
          rw [hmd]
          exact ⟨⟨_, rfl, none, 0, rfl, .inl rfl⟩, rfl⟩
        ·
          refine ⟨_, rfl, rfl, ?_⟩
          refine OpJ.pull Pull.z ?_
          refine op_call (H1 := [_]) rfl rfl rfl rfl rfl (next_ok m (Cq.next l (Cq.next l (Cq.next l k 5).2 6).2 6).2 9 v l _ hl hk3 (by omega) (by omega)) ?_ (fun _ _ _ _ h => by cases h.1) (fun _ _ h => by cases h.1)
          intro v55 I56 H57 hle58 hp59
          have hl := hl.mono hle58
          have hbi := hle58 _ _ hbi
          have hbr := hle58 _ _ hbr
          obtain ⟨hv55, rfl⟩ := hp59; cases hv55
          refine ⟨⟨(Le.trans (Le.trans (Le.trans (Le.trans (Le.trans (Le.refl _) hle13) hle18) hle43) hle48) hle58), (HSub.c 1 rfl HSub.n), CSub.n⟩, ?_⟩
          refine JA.take 13 rfl rfl (by kernel_rfl) (by kernel_rfl) (by kernel_rfl) (fun _ _ _ h => h) rfl rfl rfl (HSub.c 1 rfl HSub.n) CSub.n (Le.trans (Le.trans (Le.trans (Le.trans (Le.trans (Le.refl _) hle13) hle18) hle43) hle48) hle58) (yl_indexAddr (off' := (Cq.next l (Cq.next l (Cq.next l (Cq.next l k 5).2 6).2 6).2 9).1) rfl rfl rfl Tryz.underlying44 Tryz.sizeOf9 (by omega) (by omega) (by simp)) ?_
          refine JA.take 14 rfl rfl (by kernel_rfl) (by kernel_rfl) (by kernel_rfl) (fun _ _ _ h => h) rfl rfl rfl (HSub.c 1 rfl HSub.n) CSub.n (Le.trans (Le.trans (Le.trans (Le.trans (Le.trans (Le.refl _) hle13) hle18) hle43) hle48) hle58) (yl_load rfl rfl Tryz.isAgg9 (Blk.atC 0 rfl) (at_getD (l := Cq.texts) (sp := []) (by exact hx4))) ?_
          refine JA.step 9 (by kernel_rfl) rfl rfl (op_yld (yl_load rfl rfl Tryz.isAgg9 (Blk.imm hbr) (at_getD (by exact hx3))) rfl rfl ?_)
          refine ⟨⟨(Le.trans (Le.trans (Le.trans (Le.trans (Le.trans (Le.refl _) hle13) hle18) hle43) hle48) hle58), (HSub.c 1 rfl HSub.n), CSub.n⟩, ?_⟩
          refine JA.take 15 rfl rfl (by kernel_rfl) (by kernel_rfl) (by kernel_rfl) (fun _ _ _ h => h) rfl rfl rfl (HSub.c 1 rfl HSub.n) CSub.n (Le.trans (Le.trans (Le.trans (Le.trans (Le.trans (Le.refl _) hle13) hle18) hle43) hle48) hle58) (yl_buildS (pl := #[(0, 1), (1, 1), (2, 1), (3, 1), (4, 1)]) rfl rfl Tryz.zeroValue28 rfl Tryz.underlying28 (fun w => by simp [Tryz.sizeOf26, Tryz.sizeOf3, Tryz.sizeOf9]) (LBld.part rfl rfl rfl (LSpl.c LSpl.z) (LBld.part rfl rfl rfl (LSpl.s (LSpl.c LSpl.z)) (LBld.part rfl rfl rfl (LSpl.s (LSpl.s (LSpl.c LSpl.z))) (LBld.part rfl rfl rfl (LSpl.s (LSpl.s (LSpl.s (LSpl.c LSpl.z)))) LBld.none))))) ?_
          refine JA.step 16 (by kernel_rfl) rfl rfl (op_store 2 rfl rfl rfl rfl rfl rfl Tryz.sizeOf28 rfl rfl (LSpl.c (LSpl.c (LSpl.c (LSpl.c (LSpl.c LSpl.z))))) (LSet.s (LSet.s LSet.z)) ?_)
          refine ⟨⟨(Le.trans (Le.trans (Le.trans (Le.trans (Le.trans (Le.refl _) hle13) hle18) hle43) hle48) hle58), (HSub.c 1 rfl HSub.n), CSub.n⟩, ?_⟩
          refine JA.done (by kernel_rfl) ?_
          refine Ej.seq ?_
          refine Cj.ret ?_
          refine Ej.seqRet ?_
          refine Ej.retCellK (Keeps.k (Keeps.d (Keeps.d Keeps.n))) rfl rfl rfl (Blk.at 2 rfl) Tryz.isAgg28 Tryz.sizeOf28 rfl ?_
          rw [hmd]
          exact ⟨⟨_, rfl, none, 0, rfl, .inl rfl⟩, rfl⟩
      ·
        refine ⟨_, rfl, rfl, ?_⟩
        refine OpJ.pull Pull.z ?_
        refine op_call (H1 := [_]) rfl rfl rfl rfl rfl (next_ok m (Cq.next l (Cq.next l k 5).2 6).2 6 v l _ hl hk2 (by omega) (by omega)) ?_ (fun _ _ _ _ h => by cases h.1) (fun _ _ h => by cases h.1)
        intro v60 I61 H62 hle63 hp64
        have hl := hl.mono hle63
        have hbi := hle63 _ _ hbi
        have hbr := hle63 _ _ hbr
        obtain ⟨hv60, rfl⟩ := hp64; cases hv60
        refine ⟨⟨(Le.trans (Le.trans (Le.trans (Le.trans (Le.refl _) hle13) hle18) hle43) hle63), (HSub.c 1 rfl HSub.n), CSub.n⟩, ?_⟩
        refine JA.take 8 rfl rfl (by kernel_rfl) (by kernel_rfl) (by kernel_rfl) (fun _ _ _ h => h) rfl rfl rfl (HSub.c 1 rfl HSub.n) CSub.n (Le.trans (Le.trans (Le.trans (Le.trans (Le.refl _) hle13) hle18) hle43) hle63) (yl_indexAddr (off' := (Cq.next l (Cq.next l (Cq.next l k 5).2 6).2 6).1) rfl rfl rfl Tryz.underlying44 Tryz.sizeOf9 (by omega) (by have : Cq.relations.length = 6 := rfl; omega) (by simp)) ?_
        refine JA.all [4, 9, 12] (by kernel_rfl) (by simp) ?_
        intro i hi
        simp only [List.mem_cons, List.not_mem_nil, or_false] at hi
        rcases hi with rfl | rfl | rfl
        ·
          refine ⟨_, rfl, rfl, ?_⟩
          refine op_yld (yl_load rfl rfl Tryz.isAgg9 (Blk.imm hbi) (at_getD (by exact hx2))) rfl rfl ?_
          refine ⟨⟨(Le.trans (Le.trans (Le.trans (Le.trans (Le.refl _) hle13) hle18) hle43) hle63), (HSub.c 1 rfl HSub.n), CSub.n⟩, ?_⟩
          refine JA.all [9, 12] (by kernel_rfl) (by simp) ?_
          intro i hi
          simp only [List.mem_cons, List.not_mem_nil, or_false] at hi
          rcases hi with rfl | rfl
          ·
            refine ⟨_, rfl, rfl, ?_⟩
            refine op_yld (yl_load rfl rfl Tryz.isAgg9 (Blk.imm hbr) (at_getD (by exact hx3))) rfl rfl ?_
            refine ⟨⟨(Le.trans (Le.trans (Le.trans (Le.trans (Le.refl _) hle13) hle18) hle43) hle63), (HSub.c 1 rfl HSub.n), CSub.n⟩, ?_⟩
            refine JA.pull Pull.z ?_
            refine JA.step 12 (by kernel_rfl) rfl rfl (op_call (H1 := [_]) rfl rfl rfl rfl rfl (next_ok m (Cq.next l (Cq.next l (Cq.next l k 5).2 6).2 6).2 9 v l _ hl hk3 (by omega) (by omega)) ?_ (fun _ _ _ _ h => by cases h.1) (fun _ _ h => by cases h.1))
            intro v65 I66 H67 hle68 hp69
            have hl := hl.mono hle68
            have hbi := hle68 _ _ hbi
            have hbr := hle68 _ _ hbr
            obtain ⟨hv65, rfl⟩ := hp69; cases hv65
            refine ⟨⟨(Le.trans (Le.trans (Le.trans (Le.trans (Le.trans (Le.refl _) hle13) hle18) hle43) hle63) hle68), (HSub.c 1 rfl HSub.n), CSub.n⟩, ?_⟩
            refine JA.take 13 rfl rfl (by kernel_rfl) (by kernel_rfl) (by kernel_rfl) (fun _ _ _ h => h) rfl rfl rfl (HSub.c 1 rfl HSub.n) CSub.n (Le.trans (Le.trans (Le.trans (Le.trans (Le.trans (Le.refl _) hle13) hle18) hle43) hle63) hle68) (yl_indexAddr (off' := (Cq.next l (Cq.next l (Cq.next l (Cq.next l k 5).2 6).2 6).2 9).1) rfl rfl rfl Tryz.underlying44 Tryz.sizeOf9 (by omega) (by omega) (by simp)) ?_
            refine JA.take 14 rfl rfl (by kernel_rfl) (by kernel_rfl) (by kernel_rfl) (fun _ _ _ h => h) rfl rfl rfl (HSub.c 1 rfl HSub.n) CSub.n (Le.trans (Le.trans (Le.trans (Le.trans (Le.trans (Le.refl _) hle13) hle18) hle43) hle63) hle68) (yl_load rfl rfl Tryz.isAgg9 (Blk.atC 0 rfl) (at_getD (l := Cq.texts) (sp := []) (by exact hx4))) ?_
            refine JA.take 15 rfl rfl (by kernel_rfl) (by kernel_rfl) (by kernel_rfl) (fun _ _ _ h => h) rfl rfl rfl (HSub.c 1 rfl HSub.n) CSub.n (Le.trans (Le.trans (Le.trans (Le.trans (Le.trans (Le.refl _) hle13) hle18) hle43) hle63) hle68) (yl_buildS (pl := #[(0, 1), (1, 1), (2, 1), (3, 1), (4, 1)]) rfl rfl Tryz.zeroValue28 rfl Tryz.underlying28 (fun w => by simp [Tryz.sizeOf26, Tryz.sizeOf3, Tryz.sizeOf9]) (LBld.part rfl rfl rfl (LSpl.c LSpl.z) (LBld.part rfl rfl rfl (LSpl.s (LSpl.c LSpl.z)) (LBld.part rfl rfl rfl (LSpl.s (LSpl.s (LSpl.c LSpl.z))) (LBld.part rfl rfl rfl (LSpl.s (LSpl.s (LSpl.s (LSpl.c LSpl.z)))) LBld.none))))) ?_
            refine JA.step 16 (by kernel_rfl) rfl rfl (op_store 2 rfl rfl rfl rfl rfl rfl Tryz.sizeOf28 rfl rfl (LSpl.c (LSpl.c (LSpl.c (LSpl.c (LSpl.c LSpl.z))))) (LSet.s (LSet.s LSet.z)) ?_)
            refine ⟨⟨(Le.trans (Le.trans (Le.trans (Le.trans (Le.trans (Le.refl _) hle13) hle18) hle43) hle63) hle68), (HSub.c 1 rfl HSub.n), CSub.n⟩, ?_⟩
            refine JA.done (by kernel_rfl) ?_
            refine Ej.seq ?_
            refine Cj.ret ?_
            refine Ej.seqRet ?_
            refine Ej.retCellK (Keeps.k (Keeps.d (Keeps.d Keeps.n))) rfl rfl rfl (Blk.at 2 rfl) Tryz.isAgg28 Tryz.sizeOf28 rfl ?_
            rw [hmd]
            exact ⟨⟨_, rfl, none, 0, rfl, .inl rfl⟩, rfl⟩
          ·
            refine ⟨_, rfl, rfl, ?_⟩
            refine OpJ.pull Pull.z ?_
            refine op_call (H1 := [_]) rfl rfl rfl rfl rfl (next_ok m (Cq.next l (Cq.next l (Cq.next l k 5).2 6).2 6).2 9 v l _ hl hk3 (by omega) (by omega)) ?_ (fun _ _ _ _ h => by cases h.1) (fun _ _ h => by cases h.1)
            intro v70 I71 H72 hle73 hp74
            have hl := hl.mono hle73
            have hbi := hle73 _ _ hbi
            have hbr := hle73 _ _ hbr
            obtain ⟨hv70, rfl⟩ := hp74; cases hv70
            refine ⟨⟨(Le.trans (Le.trans (Le.trans (Le.trans (Le.trans (Le.refl _) hle13) hle18) hle43) hle63) hle73), (HSub.c 1 rfl HSub.n), CSub.n⟩, ?_⟩
            refine JA.take 13 rfl rfl (by kernel_rfl) (by kernel_rfl) (by kernel_rfl) (fun _ _ _ h => h) rfl rfl rfl (HSub.c 1 rfl HSub.n) CSub.n (Le.trans (Le.trans (Le.trans (Le.trans (Le.trans (Le.refl _) hle13) hle18) hle43) hle63) hle73) (yl_indexAddr (off' := (Cq.next l (Cq.next l (Cq.next l (Cq.next l k 5).2 6).2 6).2 9).1) rfl rfl rfl Tryz.underlying44 Tryz.sizeOf9 (by omega) (by omega) (by simp)) ?_
            refine JA.take 14 rfl rfl (by kernel_rfl) (by kernel_rfl) (by kernel_rfl) (fun _ _ _ h => h) rfl rfl rfl (HSub.c 1 rfl HSub.n) CSub.n (Le.trans (Le.trans (Le.trans (Le.trans (Le.trans (Le.refl _) hle13) hle18) hle43) hle63) hle73) (yl_load rfl rfl Tryz.isAgg9 (Blk.atC 0 rfl) (at_getD (l := Cq.texts) (sp := []) (by exact hx4))) ?_
            refine JA.step 9 (by kernel_rfl) rfl rfl (op_yld (yl_load rfl rfl Tryz.isAgg9 (Blk.imm hbr) (at_getD (by exact hx3))) rfl rfl ?_)
            refine ⟨⟨(Le.trans (Le.trans (Le.trans (Le.trans (Le.trans (Le.refl _) hle13) hle18) hle43) hle63) hle73), (HSub.c 1 rfl HSub.n), CSub.n⟩, ?_⟩
            refine JA.take 15 rfl rfl (by kernel_rfl) (by kernel_rfl) (by kernel_rfl) (fun _ _ _ h => h) rfl rfl rfl (HSub.c 1 rfl HSub.n) CSub.n (Le.trans (Le.trans (Le.trans (Le.trans (Le.trans (Le.refl _) hle13) hle18) hle43) hle63) hle73) (yl_buildS (pl := #[(0, 1), (1, 1), (2, 1), (3, 1), (4, 1)]) rfl rfl Tryz.zeroValue28 rfl Tryz.underlying28 (fun w => by simp [Tryz.sizeOf26, Tryz.sizeOf3, Tryz.sizeOf9]) (LBld.part rfl rfl rfl (LSpl.c LSpl.z) (LBld.part rfl rfl rfl (LSpl.s (LSpl.c LSpl.z)) (LBld.part rfl rfl rfl (LSpl.s (LSpl.s (LSpl.c LSpl.z))) (LBld.part rfl rfl rfl (LSpl.s (LSpl.s (LSpl.s (LSpl.c LSpl.z)))) LBld.none))))) ?_
            refine JA.step 16 (by kernel_rfl) rfl rfl (op_store 2 rfl rfl rfl rfl rfl rfl Tryz.sizeOf28 rfl rfl (LSpl.c (LSpl.c (LSpl.c (LSpl.c (LSpl.c LSpl.z))))) (LSet.s (LSet.s LSet.z)) ?_)
            refine ⟨⟨(Le.trans (Le.trans (Le.trans (Le.trans (Le.trans (Le.refl _) hle13) hle18) hle43) hle63) hle73), (HSub.c 1 rfl HSub.n), CSub.n⟩, ?_⟩
            refine JA.done (by kernel_rfl) ?_
            refine Ej.seq ?_
            refine Cj.ret ?_
            refine Ej.seqRet ?_
            refine Ej.retCellK (Keeps.k (Keeps.d (Keeps.d Keeps.n))) rfl rfl rfl (Blk.at 2 rfl) Tryz.isAgg28 Tryz.sizeOf28 rfl ?_
            rw [hmd]
            exact ⟨⟨_, rfl, none, 0, rfl, .inl rfl⟩, rfl⟩
        ·
          refine ⟨_, rfl, rfl, ?_⟩
          refine op_yld (yl_load rfl rfl Tryz.isAgg9 (Blk.imm hbr) (at_getD (by exact hx3))) rfl rfl ?_
          refine ⟨⟨(Le.trans (Le.trans (Le.trans (Le.trans (Le.refl _) hle13) hle18) hle43) hle63), (HSub.c 1 rfl HSub.n), CSub.n⟩, ?_⟩
          refine JA.all [4, 12] (by kernel_rfl) (by simp) ?_
          intro i hi
          simp only [List.mem_cons, List.not_mem_nil, or_false] at hi
          rcases hi with rfl | rfl
          ·
            refine ⟨_, rfl, rfl, ?_⟩
            refine op_yld (yl_load rfl rfl Tryz.isAgg9 (Blk.imm hbi) (at_getD (by exact hx2))) rfl rfl ?_
            refine ⟨⟨(Le.trans (Le.trans (Le.trans (Le.trans (Le.refl _) hle13) hle18) hle43) hle63), (HSub.c 1 rfl HSub.n), CSub.n⟩, ?_⟩
            refine JA.pull Pull.z ?_
            refine JA.step 12 (by kernel_rfl) rfl rfl (op_call (H1 := [_]) rfl rfl rfl rfl rfl (next_ok m (Cq.next l (Cq.next l (Cq.next l k 5).2 6).2 6).2 9 v l _ hl hk3 (by omega) (by omega)) ?_ (fun _ _ _ _ h => by cases h.1) (fun _ _ h => by cases h.1))
            intro v75 I76 H77 hle78 hp79
            have hl := hl.mono hle78
            have hbi := hle78 _ _ hbi
            have hbr := hle78 _ _ hbr
            obtain ⟨hv75, rfl⟩ := hp79; cases hv75
            refine ⟨⟨(Le.trans (Le.trans (Le.trans (Le.trans (Le.trans (Le.refl _) hle13) hle18) hle43) hle63) hle78), (HSub.c 1 rfl HSub.n), CSub.n⟩, ?_⟩
            refine JA.take 13 rfl rfl (by kernel_rfl) (by kernel_rfl) (by kernel_rfl) (fun _ _ _ h => h) rfl rfl rfl (HSub.c 1 rfl HSub.n) CSub.n (Le.trans (Le.trans (Le.trans (Le.trans (Le.trans (Le.refl _) hle13) hle18) hle43) hle63) hle78) (yl_indexAddr (off' := (Cq.next l (Cq.next l (Cq.next l (Cq.next l k 5).2 6).2 6).2 9).1) rfl rfl rfl Tryz.underlying44 Tryz.sizeOf9 (by omega) (by omega) (by simp)) ?_
            refine JA.take 14 rfl rfl (by kernel_rfl) (by kernel_rfl) (by kernel_rfl) (fun _ _ _ h => h) rfl rfl rfl (HSub.c 1 rfl HSub.n) CSub.n (Le.trans (Le.trans (Le.trans (Le.trans (Le.trans (Le.refl _) hle13) hle18) hle43) hle63) hle78) (yl_load rfl rfl Tryz.isAgg9 (Blk.atC 0 rfl) (at_getD (l := Cq.texts) (sp := []) (by exact hx4))) ?_
            refine JA.take 15 rfl rfl (by kernel_rfl) (by kernel_rfl) (by kernel_rfl) (fun _ _ _ h => h) rfl rfl rfl (HSub.c 1 rfl HSub.n) CSub.n (Le.trans (Le.trans (Le.trans (Le.trans (Le.trans (Le.refl _) hle13) hle18) hle43) hle63) hle78) (yl_buildS (pl := #[(0, 1), (1, 1), (2, 1), (3, 1), (4, 1)]) rfl rfl Tryz.zeroValue28 rfl Tryz.underlying28 (fun w => by simp [Tryz.sizeOf26, Tryz.sizeOf3, Tryz.sizeOf9]) (LBld.part rfl rfl rfl (LSpl.c LSpl.z) (LBld.part rfl rfl rfl (LSpl.s (LSpl.c LSpl.z)) (LBld.part rfl rfl rfl (LSpl.s (LSpl.s (LSpl.c LSpl.z))) (LBld.part rfl rfl rfl (LSpl.s (LSpl.s (LSpl.s (LSpl.c LSpl.z)))) LBld.none))))) ?_
            refine JA.step 16 (by kernel_rfl) rfl rfl (op_store 2 rfl rfl rfl rfl rfl rfl Tryz.sizeOf28 rfl rfl (LSpl.c (LSpl.c (LSpl.c (LSpl.c (LSpl.c LSpl.z))))) (LSet.s (LSet.s LSet.z)) ?_)
            refine ⟨⟨(Le.trans (Le.trans (Le.trans (Le.trans (Le.trans (Le.refl _) hle13) hle18) hle43) hle63) hle78), (HSub.c 1 rfl HSub.n), CSub.n⟩, ?_⟩
            refine JA.done (by kernel_rfl) ?_
            refine Ej.seq ?_
            refine Cj.ret ?_
            refine Ej.seqRet ?_
            refine Ej.retCellK (Keeps.k (Keeps.d (Keeps.d Keeps.n))) rfl rfl rfl (Blk.at 2 rfl) Tryz.isAgg28 Tryz.sizeOf28 rfl ?_
            rw [hmd]
            exact ⟨⟨_, rfl, none, 0, rfl, .inl rfl⟩, rfl⟩
          ·
            refine ⟨_, rfl, rfl, ?_⟩
            refine OpJ.pull Pull.z ?_
            refine op_call (H1 := [_]) rfl rfl rfl rfl rfl (next_ok m (Cq.next l (Cq.next l (Cq.next l k 5).2 6).2 6).2 9 v l _ hl hk3 (by omega) (by omega)) ?_ (fun _ _ _ _ h => by cases h.1) (fun _ _ h => by cases h.1)
            intro v80 I81 H82 hle83 hp84
            have hl := hl.mono hle83
            have hbi := hle83 _ _ hbi
            have hbr := hle83 _ _ hbr
            obtain ⟨hv80, rfl⟩ := hp84; cases hv80
            refine ⟨⟨(Le.trans (Le.trans (Le.trans (Le.trans (Le.trans (Le.refl _) hle13) hle18) hle43) hle63) hle83), (HSub.c 1 rfl HSub.n), CSub.n⟩, ?_⟩
            refine JA.take 13 rfl rfl (by kernel_rfl) (by kernel_rfl) (by kernel_rfl) (fun _ _ _ h => h) rfl rfl rfl (HSub.c 1 rfl HSub.n) CSub.n (Le.trans (Le.trans (Le.trans (Le.trans (Le.trans (Le.refl _) hle13) hle18) hle43) hle63) hle83) (yl_indexAddr (off' := (Cq.next l (Cq.next l (Cq.next l (Cq.next l k 5).2 6).2 6).2 9).1) rfl rfl rfl Tryz.underlying44 Tryz.sizeOf9 (by omega) (by omega) (by simp)) ?_
            refine JA.take 14 rfl rfl (by kernel_rfl) (by kernel_rfl) (by kernel_rfl) (fun _ _ _ h => h) rfl rfl rfl (HSub.c 1 rfl HSub.n) CSub.n (Le.trans (Le.trans (Le.trans (Le.trans (Le.trans (Le.refl _) hle13) hle18) hle43) hle63) hle83) (yl_load rfl rfl Tryz.isAgg9 (Blk.atC 0 rfl) (at_getD (l := Cq.texts) (sp := []) (by exact hx4))) ?_
            refine JA.step 4 (by kernel_rfl) rfl rfl (op_yld (yl_load rfl rfl Tryz.isAgg9 (Blk.imm hbi) (at_getD (by exact hx2))) rfl rfl ?_)
            refine ⟨⟨(Le.trans (Le.trans (Le.trans (Le.trans (Le.trans (Le.refl _) hle13) hle18) hle43) hle63) hle83), (HSub.c 1 rfl HSub.n), CSub.n⟩, ?_⟩
            refine JA.take 15 rfl rfl (by kernel_rfl) (by kernel_rfl) (by kernel_rfl) (fun _ _ _ h => h) rfl rfl rfl (HSub.c 1 rfl HSub.n) CSub.n (Le.trans (Le.trans (Le.trans (Le.trans (Le.trans (Le.refl _) hle13) hle18) hle43) hle63) hle83) (yl_buildS (pl := #[(0, 1), (1, 1), (2, 1), (3, 1), (4, 1)]) rfl rfl Tryz.zeroValue28 rfl Tryz.underlying28 (fun w => by simp [Tryz.sizeOf26, Tryz.sizeOf3, Tryz.sizeOf9]) (LBld.part rfl rfl rfl (LSpl.c LSpl.z) (LBld.part rfl rfl rfl (LSpl.s (LSpl.c LSpl.z)) (LBld.part rfl rfl rfl (LSpl.s (LSpl.s (LSpl.c LSpl.z))) (LBld.part rfl rfl rfl (LSpl.s (LSpl.s (LSpl.s (LSpl.c LSpl.z)))) LBld.none))))) ?_
            refine JA.step 16 (by kernel_rfl) rfl rfl (op_store 2 rfl rfl rfl rfl rfl rfl Tryz.sizeOf28 rfl rfl (LSpl.c (LSpl.c (LSpl.c (LSpl.c (LSpl.c LSpl.z))))) (LSet.s (LSet.s LSet.z)) ?_)
            refine ⟨⟨(Le.trans (Le.trans (Le.trans (Le.trans (Le.trans (Le.refl _) hle13) hle18) hle43) hle63) hle83), (HSub.c 1 rfl HSub.n), CSub.n⟩, ?_⟩
            refine JA.done (by kernel_rfl) ?_
            refine Ej.seq ?_
            refine Cj.ret ?_
            refine Ej.seqRet ?_
            refine Ej.retCellK (Keeps.k (Keeps.d (Keeps.d Keeps.n))) rfl rfl rfl (Blk.at 2 rfl) Tryz.isAgg28 Tryz.sizeOf28 rfl ?_
            rw [hmd]
            exact ⟨⟨_, rfl, none, 0, rfl, .inl rfl⟩, rfl⟩
        ·
          refine ⟨_, rfl, rfl, ?_⟩
          refine OpJ.pull Pull.z ?_
          refine op_call (H1 := [_]) rfl rfl rfl rfl rfl (next_ok m (Cq.next l (Cq.next l (Cq.next l k 5).2 6).2 6).2 9 v l _ hl hk3 (by omega) (by omega)) ?_ (fun _ _ _ _ h => by cases h.1) (fun _ _ h => by cases h.1)
          intro v85 I86 H87 hle88 hp89
          have hl := hl.mono hle88
          have hbi := hle88 _ _ hbi
          have hbr := hle88 _ _ hbr
          obtain ⟨hv85, rfl⟩ := hp89; cases hv85
          refine ⟨⟨(Le.trans (Le.trans (Le.trans (Le.trans (Le.trans (Le.refl _) hle13) hle18) hle43) hle63) hle88), (HSub.c 1 rfl HSub.n), CSub.n⟩, ?_⟩
          refine JA.take 13 rfl rfl (by kernel_rfl) (by kernel_rfl) (by kernel_rfl) (fun _ _ _ h => h) rfl rfl rfl (HSub.c 1 rfl HSub.n) CSub.n (Le.trans (Le.trans (Le.trans (Le.trans (Le.trans (Le.refl _) hle13) hle18) hle43) hle63) hle88) (yl_indexAddr (off' := (Cq.next l (Cq.next l (Cq.next l (Cq.next l k 5).2 6).2 6).2 9).1) rfl rfl rfl Tryz.underlying44 Tryz.sizeOf9 (by omega) (by omega) (by simp)) ?_
          refine JA.take 14 rfl rfl (by kernel_rfl) (by kernel_rfl) (by kernel_rfl) (fun _ _ _ h => h) rfl rfl rfl (HSub.c 1 rfl HSub.n) CSub.n (Le.trans (Le.trans (Le.trans (Le.trans (Le.trans (Le.refl _) hle13) hle18) hle43) hle63) hle88) (yl_load rfl rfl Tryz.isAgg9 (Blk.atC 0 rfl) (at_getD (l := Cq.texts) (sp := []) (by exact hx4))) ?_
          refine JA.all [4, 9] (by kernel_rfl) (by simp) ?_
          intro i hi
          simp only [List.mem_cons, List.not_mem_nil, or_false] at hi
          rcases hi with rfl | rfl
          ·
            refine ⟨_, rfl, rfl, ?_⟩
            refine op_yld (yl_load rfl rfl Tryz.isAgg9 (Blk.imm hbi) (at_getD (by exact hx2))) rfl rfl ?_
            refine ⟨⟨(Le.trans (Le.trans (Le.trans (Le.trans (Le.trans (Le.refl _) hle13) hle18) hle43) hle63) hle88), (HSub.c 1 rfl HSub.n), CSub.n⟩, ?_⟩
            refine JA.step 9 (by kernel_rfl) rfl rfl (op_yld (yl_load rfl rfl Tryz.isAgg9 (Blk.imm hbr) (at_getD (by exact hx3))) rfl rfl ?_)
            refine ⟨⟨(Le.trans (Le.trans (Le.trans (Le.trans (Le.trans (Le.refl _) hle13) hle18) hle43) hle63) hle88), (HSub.c 1 rfl HSub.n), CSub.n⟩, ?_⟩
            refine JA.take 15 rfl rfl (by kernel_rfl) (by kernel_rfl) (by kernel_rfl) (fun _ _ _ h => h) rfl rfl rfl (HSub.c 1 rfl HSub.n) CSub.n (Le.trans (Le.trans (Le.trans (Le.trans (Le.trans (Le.refl _) hle13) hle18) hle43) hle63) hle88) (yl_buildS (pl := #[(0, 1), (1, 1), (2, 1), (3, 1), (4, 1)]) rfl rfl Tryz.zeroValue28 rfl Tryz.underlying28 (fun w => by simp [Tryz.sizeOf26, Tryz.sizeOf3, Tryz.sizeOf9]) (LBld.part rfl rfl rfl (LSpl.c LSpl.z) (LBld.part rfl rfl rfl (LSpl.s (LSpl.c LSpl.z)) (LBld.part rfl rfl rfl (LSpl.s (LSpl.s (LSpl.c LSpl.z))) (LBld.part rfl rfl rfl (LSpl.s (LSpl.s (LSpl.s (LSpl.c LSpl.z)))) LBld.none))))) ?_
            refine JA.step 16 (by kernel_rfl) rfl rfl (op_store 2 rfl rfl rfl rfl rfl rfl Tryz.sizeOf28 rfl rfl (LSpl.c (LSpl.c (LSpl.c (LSpl.c (LSpl.c LSpl.z))))) (LSet.s (LSet.s LSet.z)) ?_)
            refine ⟨⟨(Le.trans (Le.trans (Le.trans (Le.trans (Le.trans (Le.refl _) hle13) hle18) hle43) hle63) hle88), (HSub.c 1 rfl HSub.n), CSub.n⟩, ?_⟩
            refine JA.done (by kernel_rfl) ?_
            refine Ej.seq ?_
            refine Cj.ret ?_
            refine Ej.seqRet ?_
            refine Ej.retCellK (Keeps.k (Keeps.d (Keeps.d Keeps.n))) rfl rfl rfl (Blk.at 2 rfl) Tryz.isAgg28 Tryz.sizeOf28 rfl ?_
            rw [hmd]
            exact ⟨⟨_, rfl, none, 0, rfl, .inl rfl⟩, rfl⟩
          ·
            refine ⟨_, rfl, rfl, ?_⟩
            refine op_yld (yl_load rfl rfl Tryz.isAgg9 (Blk.imm hbr) (at_getD (by exact hx3))) rfl rfl ?_
            refine ⟨⟨(Le.trans (Le.trans (Le.trans (Le.trans (Le.trans (Le.refl _) hle13) hle18) hle43) hle63) hle88), (HSub.c 1 rfl HSub.n), CSub.n⟩, ?_⟩
            refine JA.step 4 (by kernel_rfl) rfl rfl (op_yld (yl_load rfl rfl Tryz.isAgg9 (Blk.imm hbi) (at_getD (by exact hx2))) rfl rfl ?_)
            refine ⟨⟨(Le.trans (Le.trans (Le.trans (Le.trans (Le.trans (Le.refl _) hle13) hle18) hle43) hle63) hle88), (HSub.c 1 rfl HSub.n), CSub.n⟩, ?_⟩
            refine JA.take 15 rfl rfl (by kernel_rfl) (by kernel_rfl) (by kernel_rfl) (fun _ _ _ h => h) rfl rfl rfl (HSub.c 1 rfl HSub.n) CSub.n (Le.trans (Le.trans (Le.trans (Le.trans (Le.trans (Le.refl _) hle13) hle18) hle43) hle63) hle88) (yl_buildS (pl := #[(0, 1), (1, 1), (2, 1), (3, 1), (4, 1)]) rfl rfl Tryz.zeroValue28 rfl Tryz.underlying28 (fun w => by simp [Tryz.sizeOf26, Tryz.sizeOf3, Tryz.sizeOf9]) (LBld.part rfl rfl rfl (LSpl.c LSpl.z) (LBld.part rfl rfl rfl (LSpl.s (LSpl.c LSpl.z)) (LBld.part rfl rfl rfl (LSpl.s (LSpl.s (LSpl.c LSpl.z))) (LBld.part rfl rfl rfl (LSpl.s (LSpl.s (LSpl.s (LSpl.c LSpl.z)))) LBld.none))))) ?_
            refine JA.step 16 (by kernel_rfl) rfl rfl (op_store 2 rfl rfl rfl rfl rfl rfl Tryz.sizeOf28 rfl rfl (LSpl.c (LSpl.c (LSpl.c (LSpl.c (LSpl.c LSpl.z))))) (LSet.s (LSet.s LSet.z)) ?_)
            refine ⟨⟨(Le.trans (Le.trans (Le.trans (Le.trans (Le.trans (Le.refl _) hle13) hle18) hle43) hle63) hle88), (HSub.c 1 rfl HSub.n), CSub.n⟩, ?_⟩
            refine JA.done (by kernel_rfl) ?_
            refine Ej.seq ?_
            refine Cj.ret ?_
            refine Ej.seqRet ?_
            refine Ej.retCellK (Keeps.k (Keeps.d (Keeps.d Keeps.n))) rfl rfl rfl (Blk.at 2 rfl) Tryz.isAgg28 Tryz.sizeOf28 rfl ?_
            rw [hmd]
            exact ⟨⟨_, rfl, none, 0, rfl, .inl rfl⟩, rfl⟩
  ·
    have hd0 : deep ≠ 0 := by have h := hg7; simp at h; omega
    obtain ⟨d, rfl⟩ : ∃ d, deep = d + 1 := ⟨deep - 1, by omega⟩
    refine J.opG 2 12 false _ rfl rfl rfl hg7 (op_yld (yl_move rfl rfl) rfl rfl ?_)
    refine J.opG 2 12 false _ rfl rfl rfl hg7 (op_yld (yl_lss rfl rfl rfl) rfl rfl ?_)
    refine J.y (yl_pick0 rfl rfl hg7 rfl) rfl rfl rfl ?_
    refine J.nil ?_
    refine Ej.seq ?_
    refine Cj.cond rfl (fun hc90 => ?_) (fun hc90 => ?_)
    ·
      have hc90p := of_decide_eq_true hc90
      have hmd : Cq.made (d + 1) l k = Cq.leaf l (Cq.next l k 5).2 := by have h := of_decide_eq_true hc90; simp only [Cq.made]; rw [if_pos (by omega)]
      have hx2 := Cq.next_lt l (Cq.next l k 5).2 (n := 6) (by omega)
      have hx3 := Cq.next_lt l (Cq.next l (Cq.next l k 5).2 6).2 (n := 6) (by omega)
      have hx4 := Cq.next_lt l (Cq.next l (Cq.next l (Cq.next l k 5).2 6).2 6).2 (n := 9) (by omega)
      refine Cj.seq ?_
      refine Cj.region ?_
      refine J.op rfl (op_buildSlice rfl rfl rfl Tryz.underlying44 Tryz.sizeOf9 Tryz.zeroValue9 rfl rfl rfl rfl (LCat.one rfl (LCat.one rfl (LCat.one rfl (LCat.one rfl (LCat.one rfl (LCat.one rfl (LCat.one rfl (LCat.one rfl (LCat.one rfl LCat.none))))))))) ?_)
      intro b91 hb91
      refine J.y (yl_assign rfl rfl) rfl rfl rfl ?_
      refine J.nil ?_
      refine Ej.seq ?_
      refine Cj.seq ?_
      refine Cj.drawSel [0] [] 17 (by kernel_rfl) ?_
      refine JA.take 1 rfl rfl (by kernel_rfl) (by kernel_rfl) (by kernel_rfl) (fun _ _ _ h => h) rfl rfl rfl (HSub.c 0 rfl HSub.n) CSub.n (Le.refl _) (yl_move rfl rfl) ?_
      refine JA.take 6 rfl rfl (by kernel_rfl) (by kernel_rfl) (by kernel_rfl) (fun _ _ _ h => h) rfl rfl rfl (HSub.c 0 rfl HSub.n) CSub.n (Le.refl _) (yl_move rfl rfl) ?_
      refine JA.take 10 rfl rfl (by kernel_rfl) (by kernel_rfl) (by kernel_rfl) (fun _ _ _ h => h) rfl rfl rfl (HSub.c 0 rfl HSub.n) CSub.n (Le.refl _) (yl_move rfl rfl) ?_
      refine JA.take 11 rfl rfl (by kernel_rfl) (by kernel_rfl) (by kernel_rfl) (fun _ _ _ h => h) rfl rfl rfl (HSub.c 0 rfl HSub.n) CSub.n (Le.refl _) (yl_move rfl rfl) ?_
      refine JA.step 0 (by kernel_rfl) rfl rfl (op_call (H1 := []) rfl rfl rfl rfl rfl (Indexes_ok _) ?_ (fun _ _ _ _ h => by obtain ⟨⟨_, h, _⟩, _⟩ := h; cases h) (fun _ _ h => by obtain ⟨⟨_, h, _⟩, _⟩ := h; cases h))
      intro v92 I93 H94 hle95 hp96
      have hl := hl.mono hle95
      obtain ⟨⟨v92x, hv92, bi, cbi, spbi, rfl, hbi⟩, rfl⟩ := hp96; cases hv92
      refine ⟨⟨(Le.trans (Le.refl _) hle95), (HSub.c 0 rfl HSub.n), CSub.n⟩, ?_⟩
      refine JA.pull (Pull.s Pull.z) ?_
      refine JA.step 2 (by kernel_rfl) rfl rfl (op_call (H1 := [_]) rfl rfl rfl rfl rfl (next_ok m (Cq.next l k 5).2 6 v l _ hl hk1 (by omega) (by omega)) ?_ (fun _ _ _ _ h => by cases h.1) (fun _ _ h => by cases h.1))
      intro v97 I98 H99 hle100 hp101
      have hl := hl.mono hle100
      have hbi := hle100 _ _ hbi
      obtain ⟨hv97, rfl⟩ := hp101; cases hv97
      refine ⟨⟨(Le.trans (Le.trans (Le.refl _) hle95) hle100), (HSub.c 1 rfl HSub.n), CSub.n⟩, ?_⟩
      refine JA.take 3 rfl rfl (by kernel_rfl) (by kernel_rfl) (by kernel_rfl) (fun _ _ _ h => h) rfl rfl rfl (HSub.c 1 rfl HSub.n) CSub.n (Le.trans (Le.trans (Le.refl _) hle95) hle100) (yl_indexAddr (off' := (Cq.next l (Cq.next l k 5).2 6).1) rfl rfl rfl Tryz.underlying44 Tryz.sizeOf9 (by omega) (by have : Cq.indexes.length = 6 := rfl; omega) (by simp)) ?_
      refine JA.all [4, 5] (by kernel_rfl) (by simp) ?_
      intro i hi
      simp only [List.mem_cons, List.not_mem_nil, or_false] at hi
      rcases hi with rfl | rfl
      ·
        refine ⟨_, rfl, rfl, ?_⟩
        refine op_yld (yl_load rfl rfl Tryz.isAgg9 (Blk.imm hbi) (at_getD (by exact hx2))) rfl rfl ?_
        refine ⟨⟨(Le.trans (Le.trans (Le.refl _) hle95) hle100), (HSub.c 1 rfl HSub.n), CSub.n⟩, ?_⟩
        refine JA.step 5 (by kernel_rfl) rfl rfl (op_call (H1 := []) rfl rfl rfl rfl rfl (Relations_ok _) ?_ (fun _ _ _ _ h => by obtain ⟨⟨_, h, _⟩, _⟩ := h; cases h) (fun _ _ h => by obtain ⟨⟨_, h, _⟩, _⟩ := h; cases h))
        intro v102 I103 H104 hle105 hp106
        have hl := hl.mono hle105
        have hbi := hle105 _ _ hbi
        obtain ⟨⟨v102x, hv102, br, cbr, spbr, rfl, hbr⟩, rfl⟩ := hp106; cases hv102
        refine ⟨⟨(Le.trans (Le.trans (Le.trans (Le.refl _) hle95) hle100) hle105), (HSub.c 1 rfl HSub.n), CSub.n⟩, ?_⟩
        refine JA.pull Pull.z ?_
        refine JA.step 7 (by kernel_rfl) rfl rfl (op_call (H1 := [_]) rfl rfl rfl rfl rfl (next_ok m (Cq.next l (Cq.next l k 5).2 6).2 6 v l _ hl hk2 (by omega) (by omega)) ?_ (fun _ _ _ _ h => by cases h.1) (fun _ _ h => by cases h.1))
        intro v107 I108 H109 hle110 hp111
        have hl := hl.mono hle110
        have hbi := hle110 _ _ hbi
        have hbr := hle110 _ _ hbr
        obtain ⟨hv107, rfl⟩ := hp111; cases hv107
        refine ⟨⟨(Le.trans (Le.trans (Le.trans (Le.trans (Le.refl _) hle95) hle100) hle105) hle110), (HSub.c 1 rfl HSub.n), CSub.n⟩, ?_⟩
        refine JA.take 8 rfl rfl (by kernel_rfl) (by kernel_rfl) (by kernel_rfl) (fun _ _ _ h => h) rfl rfl rfl (HSub.c 1 rfl HSub.n) CSub.n (Le.trans (Le.trans (Le.trans (Le.trans (Le.refl _) hle95) hle100) hle105) hle110) (yl_indexAddr (off' := (Cq.next l (Cq.next l (Cq.next l k 5).2 6).2 6).1) rfl rfl rfl Tryz.underlying44 Tryz.sizeOf9 (by omega) (by have : Cq.relations.length = 6 := rfl; omega) (by simp)) ?_
        refine JA.all [9, 12] (by kernel_rfl) (by simp) ?_
        intro i hi
        simp only [List.mem_cons, List.not_mem_nil, or_false] at hi
        rcases hi with rfl | rfl
        ·
          refine ⟨_, rfl, rfl, ?_⟩
          refine op_yld (yl_load rfl rfl Tryz.isAgg9 (Blk.imm hbr) (at_getD (by exact hx3))) rfl rfl ?_
          refine ⟨⟨(Le.trans (Le.trans (Le.trans (Le.trans (Le.refl _) hle95) hle100) hle105) hle110), (HSub.c 1 rfl HSub.n), CSub.n⟩, ?_⟩
          refine JA.pull Pull.z ?_
          refine JA.step 12 (by kernel_rfl) rfl rfl (op_call (H1 := [_]) rfl rfl rfl rfl rfl (next_ok m (Cq.next l (Cq.next l (Cq.next l k 5).2 6).2 6).2 9 v l _ hl hk3 (by omega) (by omega)) ?_ (fun _ _ _ _ h => by cases h.1) (fun _ _ h => by cases h.1))
          intro v112 I113 H114 hle115 hp116
          have hl := hl.mono hle115
          have hbi := hle115 _ _ hbi
          have hbr := hle115 _ _ hbr
          obtain ⟨hv112, rfl⟩ := hp116; cases hv112
          refine ⟨⟨(Le.trans (Le.trans (Le.trans (Le.trans (Le.trans (Le.refl _) hle95) hle100) hle105) hle110) hle115), (HSub.c 1 rfl HSub.n), CSub.n⟩, ?_⟩
          refine JA.take 13 rfl rfl (by kernel_rfl) (by kernel_rfl) (by kernel_rfl) (fun _ _ _ h => h) rfl rfl rfl (HSub.c 1 rfl HSub.n) CSub.n (Le.trans (Le.trans (Le.trans (Le.trans (Le.trans (Le.refl _) hle95) hle100) hle105) hle110) hle115) (yl_indexAddr (off' := (Cq.next l (Cq.next l (Cq.next l (Cq.next l k 5).2 6).2 6).2 9).1) rfl rfl rfl Tryz.underlying44 Tryz.sizeOf9 (by omega) (by omega) (by simp)) ?_
          refine JA.take 14 rfl rfl (by kernel_rfl) (by kernel_rfl) (by kernel_rfl) (fun _ _ _ h => h) rfl rfl rfl (HSub.c 1 rfl HSub.n) CSub.n (Le.trans (Le.trans (Le.trans (Le.trans (Le.trans (Le.refl _) hle95) hle100) hle105) hle110) hle115) (yl_load rfl rfl Tryz.isAgg9 (Blk.atC 0 rfl) (at_getD (l := Cq.texts) (sp := []) (by exact hx4))) ?_
          refine JA.take 15 rfl rfl (by kernel_rfl) (by kernel_rfl) (by kernel_rfl) (fun _ _ _ h => h) rfl rfl rfl (HSub.c 1 rfl HSub.n) CSub.n (Le.trans (Le.trans (Le.trans (Le.trans (Le.trans (Le.refl _) hle95) hle100) hle105) hle110) hle115) (yl_buildS (pl := #[(0, 1), (1, 1), (2, 1), (3, 1), (4, 1)]) rfl rfl Tryz.zeroValue28 rfl Tryz.underlying28 (fun w => by simp [Tryz.sizeOf26, Tryz.sizeOf3, Tryz.sizeOf9]) (LBld.part rfl rfl rfl (LSpl.c LSpl.z) (LBld.part rfl rfl rfl (LSpl.s (LSpl.c LSpl.z)) (LBld.part rfl rfl rfl (LSpl.s (LSpl.s (LSpl.c LSpl.z))) (LBld.part rfl rfl rfl (LSpl.s (LSpl.s (LSpl.s (LSpl.c LSpl.z)))) LBld.none))))) ?_
          refine JA.step 16 (by kernel_rfl) rfl rfl (op_store 2 rfl rfl rfl rfl rfl rfl Tryz.sizeOf28 rfl rfl (LSpl.c (LSpl.c (LSpl.c (LSpl.c (LSpl.c LSpl.z))))) (LSet.s (LSet.s LSet.z)) ?_)
          refine ⟨⟨(Le.trans (Le.trans (Le.trans (Le.trans (Le.trans (Le.refl _) hle95) hle100) hle105) hle110) hle115), (HSub.c 1 rfl HSub.n), CSub.n⟩, ?_⟩
          refine JA.done (by kernel_rfl) ?_
          refine Ej.seq ?_
          refine Cj.ret ?_
          refine Ej.seqRet ?_
          refine Ej.retCellK (Keeps.k (Keeps.d (Keeps.d Keeps.n))) rfl rfl rfl (Blk.at 2 rfl) Tryz.isAgg28 Tryz.sizeOf28 rfl ?_
          rw [hmd]
          exact ⟨⟨_, rfl, none, 0, rfl, .inl rfl⟩, rfl⟩
        ·
          refine ⟨_, rfl, rfl, ?_⟩
          refine OpJ.pull Pull.z ?_
          refine op_call (H1 := [_]) rfl rfl rfl rfl rfl (next_ok m (Cq.next l (Cq.next l (Cq.next l k 5).2 6).2 6).2 9 v l _ hl hk3 (by omega) (by omega)) ?_ (fun _ _ _ _ h => by cases h.1) (fun _ _ h => by cases h.1)
          intro v117 I118 H119 hle120 hp121
          have hl := hl.mono hle120
          have hbi := hle120 _ _ hbi
          have hbr := hle120 _ _ hbr
          obtain ⟨hv117, rfl⟩ := hp121; cases hv117
          refine ⟨⟨(Le.trans (Le.trans (Le.trans (Le.trans (Le.trans (Le.refl _) hle95) hle100) hle105) hle110) hle120), (HSub.c 1 rfl HSub.n), CSub.n⟩, ?_⟩
          refine JA.take 13 rfl rfl (by kernel_rfl) (by kernel_rfl) (by kernel_rfl) (fun _ _ _ h => h) rfl rfl rfl (HSub.c 1 rfl HSub.n) CSub.n (Le.trans (Le.trans (Le.trans (Le.trans (Le.trans (Le.refl _) hle95) hle100) hle105) hle110) hle120) (yl_indexAddr (off' := (Cq.next l (Cq.next l (Cq.next l (Cq.next l k 5).2 6).2 6).2 9).1) rfl rfl rfl Tryz.underlying44 Tryz.sizeOf9 (by omega) (by omega) (by simp)) ?_
          refine JA.take 14 rfl rfl (by kernel_rfl) (by kernel_rfl) (by kernel_rfl) (fun _ _ _ h => h) rfl rfl rfl (HSub.c 1 rfl HSub.n) CSub.n (Le.trans (Le.trans (Le.trans (Le.trans (Le.trans (Le.refl _) hle95) hle100) hle105) hle110) hle120) (yl_load rfl rfl Tryz.isAgg9 (Blk.atC 0 rfl) (at_getD (l := Cq.texts) (sp := []) (by exact hx4))) ?_
          refine JA.step 9 (by kernel_rfl) rfl rfl (op_yld (yl_load rfl rfl Tryz.isAgg9 (Blk.imm hbr) (at_getD (by exact hx3))) rfl rfl ?_)
          refine ⟨⟨(Le.trans (Le.trans (Le.trans (Le.trans (Le.trans (Le.refl _) hle95) hle100) hle105) hle110) hle120), (HSub.c 1 rfl HSub.n), CSub.n⟩, ?_⟩
          refine JA.take 15 rfl rfl (by kernel_rfl) (by kernel_rfl) (by kernel_rfl) (fun _ _ _ h => h) rfl rfl rfl (HSub.c 1 rfl HSub.n) CSub.n (Le.trans (Le.trans (Le.trans (Le.trans (Le.trans (Le.refl _) hle95) hle100) hle105) hle110) hle120) (yl_buildS (pl := #[(0, 1), (1, 1), (2, 1), (3, 1), (4, 1)]) rfl rfl Tryz.zeroValue28 rfl Tryz.underlying28 (fun w => by simp [Tryz.sizeOf26, Tryz.sizeOf3, Tryz.sizeOf9]) (LBld.part rfl rfl rfl (LSpl.c LSpl.z) (LBld.part rfl rfl rfl (LSpl.s (LSpl.c LSpl.z)) (LBld.part rfl rfl rfl (LSpl.s (LSpl.s (LSpl.c LSpl.z))) (LBld.part rfl rfl rfl (LSpl.s (LSpl.s (LSpl.s (LSpl.c LSpl.z)))) LBld.none))))) ?_
          refine JA.step 16 (by kernel_rfl) rfl rfl (op_store 2 rfl rfl rfl rfl rfl rfl Tryz.sizeOf28 rfl rfl (LSpl.c (LSpl.c (LSpl.c (LSpl.c (LSpl.c LSpl.z))))) (LSet.s (LSet.s LSet.z)) ?_)
          refine ⟨⟨(Le.trans (Le.trans (Le.trans (Le.trans (Le.trans (Le.refl _) hle95) hle100) hle105) hle110) hle120), (HSub.c 1 rfl HSub.n), CSub.n⟩, ?_⟩
          refine JA.done (by kernel_rfl) ?_
          refine Ej.seq ?_
          refine Cj.ret ?_
          refine Ej.seqRet ?_
          refine Ej.retCellK (Keeps.k (Keeps.d (Keeps.d Keeps.n))) rfl rfl rfl (Blk.at 2 rfl) Tryz.isAgg28 Tryz.sizeOf28 rfl ?_
          rw [hmd]
          exact ⟨⟨_, rfl, none, 0, rfl, .inl rfl⟩, rfl⟩
      ·
        refine ⟨_, rfl, rfl, ?_⟩
        refine op_call (H1 := []) rfl rfl rfl rfl rfl (Relations_ok _) ?_ (fun _ _ _ _ h => by obtain ⟨⟨_, h, _⟩, _⟩ := h; cases h) (fun _ _ h => by obtain ⟨⟨_, h, _⟩, _⟩ := h; cases h)
        intro v122 I123 H124 hle125 hp126
        have hl := hl.mono hle125
        have hbi := hle125 _ _ hbi
        obtain ⟨⟨v122x, hv122, br, cbr, spbr, rfl, hbr⟩, rfl⟩ := hp126; cases hv122
        refine ⟨⟨(Le.trans (Le.trans (Le.trans (Le.refl _) hle95) hle100) hle125), (HSub.c 1 rfl HSub.n), CSub.n⟩, ?_⟩
        refine JA.all [4, 7] (by kernel_rfl) (by simp) ?_
        intro i hi
        simp only [List.mem_cons, List.not_mem_nil, or_false] at hi
        rcases hi with rfl | rfl
        ·
          refine ⟨_, rfl, rfl, ?_⟩
          refine op_yld (yl_load rfl rfl Tryz.isAgg9 (Blk.imm hbi) (at_getD (by exact hx2))) rfl rfl ?_
          refine ⟨⟨(Le.trans (Le.trans (Le.trans (Le.refl _) hle95) hle100) hle125), (HSub.c 1 rfl HSub.n), CSub.n⟩, ?_⟩
          refine JA.pull Pull.z ?_
          refine JA.step 7 (by kernel_rfl) rfl rfl (op_call (H1 := [_]) rfl rfl rfl rfl rfl (next_ok m (Cq.next l (Cq.next l k 5).2 6).2 6 v l _ hl hk2 (by omega) (by omega)) ?_ (fun _ _ _ _ h => by cases h.1) (fun _ _ h => by cases h.1))
          intro v127 I128 H129 hle130 hp131
          have hl := hl.mono hle130
          have hbi := hle130 _ _ hbi
          have hbr := hle130 _ _ hbr
          obtain ⟨hv127, rfl⟩ := hp131; cases hv127
          refine ⟨⟨(Le.trans (Le.trans (Le.trans (Le.trans (Le.refl _) hle95) hle100) hle125) hle130), (HSub.c 1 rfl HSub.n), CSub.n⟩, ?_⟩
          refine JA.take 8 rfl rfl (by kernel_rfl) (by kernel_rfl) (by kernel_rfl) (fun _ _ _ h => h) rfl rfl rfl (HSub.c 1 rfl HSub.n) CSub.n (Le.trans (Le.trans (Le.trans (Le.trans (Le.refl _) hle95) hle100) hle125) hle130) (yl_indexAddr (off' := (Cq.next l (Cq.next l (Cq.next l k 5).2 6).2 6).1) rfl rfl rfl Tryz.underlying44 Tryz.sizeOf9 (by omega) (by have : Cq.relations.length = 6 := rfl; omega) (by simp)) ?_
          refine JA.all [9, 12] (by kernel_rfl) (by simp) ?_
          intro i hi
          simp only [List.mem_cons, List.not_mem_nil, or_false] at hi
          rcases hi with rfl | rfl
          ·
            refine ⟨_, rfl, rfl, ?_⟩
            refine op_yld (yl_load rfl rfl Tryz.isAgg9 (Blk.imm hbr) (at_getD (by exact hx3))) rfl rfl ?_
            refine ⟨⟨(Le.trans (Le.trans (Le.trans (Le.trans (Le.refl _) hle95) hle100) hle125) hle130), (HSub.c 1 rfl HSub.n), CSub.n⟩, ?_⟩
            refine JA.pull Pull.z ?_
            refine JA.step 12 (by kernel_rfl) rfl rfl (op_call (H1 := [_]) rfl rfl rfl rfl rfl (next_ok m (Cq.next l (Cq.next l (Cq.next l k 5).2 6).2 6).2 9 v l _ hl hk3 (by omega) (by omega)) ?_ (fun _ _ _ _ h => by cases h.1) (fun _ _ h => by cases h.1))
            intro v132 I133 H134 hle135 hp136
            have hl := hl.mono hle135
            have hbi := hle135 _ _ hbi
            have hbr := hle135 _ _ hbr
            obtain ⟨hv132, rfl⟩ := hp136; cases hv132
            refine ⟨⟨(Le.trans (Le.trans (Le.trans (Le.trans (Le.trans (Le.refl _) hle95) hle100) hle125) hle130) hle135), (HSub.c 1 rfl HSub.n), CSub.n⟩, ?_⟩
            refine JA.take 13 rfl rfl (by kernel_rfl) (by kernel_rfl) (by kernel_rfl) (fun _ _ _ h => h) rfl rfl rfl (HSub.c 1 rfl HSub.n) CSub.n (Le.trans (Le.trans (Le.trans (Le.trans (Le.trans (Le.refl _) hle95) hle100) hle125) hle130) hle135) (yl_indexAddr (off' := (Cq.next l (Cq.next l (Cq.next l (Cq.next l k 5).2 6).2 6).2 9).1) rfl rfl rfl Tryz.underlying44 Tryz.sizeOf9 (by omega) (by omega) (by simp)) ?_
            refine JA.take 14 rfl rfl (by kernel_rfl) (by kernel_rfl) (by kernel_rfl) (fun _ _ _ h => h) rfl rfl rfl (HSub.c 1 rfl HSub.n) CSub.n (Le.trans (Le.trans (Le.trans (Le.trans (Le.trans (Le.refl _) hle95) hle100) hle125) hle130) hle135) (yl_load rfl rfl Tryz.isAgg9 (Blk.atC 0 rfl) (at_getD (l := Cq.texts) (sp := []) (by exact hx4))) ?_
            refine JA.take 15 rfl rfl (by kernel_rfl) (by kernel_rfl) (by kernel_rfl) (fun _ _ _ h => h) rfl rfl rfl (HSub.c 1 rfl HSub.n) CSub.n (Le.trans (Le.trans (Le.trans (Le.trans (Le.trans (Le.refl _) hle95) hle100) hle125) hle130) hle135) (yl_buildS (pl := #[(0, 1), (1, 1), (2, 1), (3, 1), (4, 1)]) rfl rfl Tryz.zeroValue28 rfl Tryz.underlying28 (fun w => by simp [Tryz.sizeOf26, Tryz.sizeOf3, Tryz.sizeOf9]) (LBld.part rfl rfl rfl (LSpl.c LSpl.z) (LBld.part rfl rfl rfl (LSpl.s (LSpl.c LSpl.z)) (LBld.part rfl rfl rfl (LSpl.s (LSpl.s (LSpl.c LSpl.z))) (LBld.part rfl rfl rfl (LSpl.s (LSpl.s (LSpl.s (LSpl.c LSpl.z)))) LBld.none))))) ?_
            refine JA.step 16 (by kernel_rfl) rfl rfl (op_store 2 rfl rfl rfl rfl rfl rfl Tryz.sizeOf28 rfl rfl (LSpl.c (LSpl.c (LSpl.c (LSpl.c (LSpl.c LSpl.z))))) (LSet.s (LSet.s LSet.z)) ?_)
            refine ⟨⟨(Le.trans (Le.trans (Le.trans (Le.trans (Le.trans (Le.refl _) hle95) hle100) hle125) hle130) hle135), (HSub.c 1 rfl HSub.n), CSub.n⟩, ?_⟩
            refine JA.done (by kernel_rfl) ?_
            refine Ej.seq ?_
            refine Cj.ret ?_
            refine Ej.seqRet ?_
            refine Ej.retCellK (Keeps.k (Keeps.d (Keeps.d Keeps.n))) rfl rfl rfl (Blk.at 2 rfl) Tryz.isAgg28 Tryz.sizeOf28 rfl ?_
            rw [hmd]
            exact ⟨⟨_, rfl, none, 0, rfl, .inl rfl⟩, rfl⟩
          ·
            refine ⟨_, rfl, rfl, ?_⟩
            refine OpJ.pull Pull.z ?_
            refine op_call (H1 := [_]) rfl rfl rfl rfl rfl (next_ok m (Cq.next l (Cq.next l (Cq.next l k 5).2 6).2 6).2 9 v l _ hl hk3 (by omega) (by omega)) ?_ (fun _ _ _ _ h => by cases h.1) (fun _ _ h => by cases h.1)
            intro v137 I138 H139 hle140 hp141
            have hl := hl.mono hle140
            have hbi := hle140 _ _ hbi
            have hbr := hle140 _ _ hbr
            obtain ⟨hv137, rfl⟩ := hp141; cases hv137
            refine ⟨⟨(Le.trans (Le.trans (Le.trans (Le.trans (Le.trans (Le.refl _) hle95) hle100) hle125) hle130) hle140), (HSub.c 1 rfl HSub.n), CSub.n⟩, ?_⟩
            refine JA.take 13 rfl rfl (by kernel_rfl) (by kernel_rfl) (by kernel_rfl) (fun _ _ _ h => h) rfl rfl rfl (HSub.c 1 rfl HSub.n) CSub.n (Le.trans (Le.trans (Le.trans (Le.trans (Le.trans (Le.refl _) hle95) hle100) hle125) hle130) hle140) (yl_indexAddr (off' := (Cq.next l (Cq.next l (Cq.next l (Cq.next l k 5).2 6).2 6).2 9).1) rfl rfl rfl Tryz.underlying44 Tryz.sizeOf9 (by omega) (by omega) (by simp)) ?_
            refine JA.take 14 rfl rfl (by kernel_rfl) (by kernel_rfl) (by kernel_rfl) (fun _ _ _ h => h) rfl rfl rfl (HSub.c 1 rfl HSub.n) CSub.n (Le.trans (Le.trans (Le.trans (Le.trans (Le.trans (Le.refl _) hle95) hle100) hle125) hle130) hle140) (yl_load rfl rfl Tryz.isAgg9 (Blk.atC 0 rfl) (at_getD (l := Cq.texts) (sp := []) (by exact hx4))) ?_
            refine JA.step 9 (by kernel_rfl) rfl rfl (op_yld (yl_load rfl rfl Tryz.isAgg9 (Blk.imm hbr) (at_getD (by exact hx3))) rfl rfl ?_)
            refine ⟨⟨(Le.trans (Le.trans (Le.trans (Le.trans (Le.trans (Le.refl _) hle95) hle100) hle125) hle130) hle140), (HSub.c 1 rfl HSub.n), CSub.n⟩, ?_⟩
            refine JA.take 15 rfl rfl (by kernel_rfl) (by kernel_rfl) (by kernel_rfl) (fun _ _ _ h => h) rfl rfl rfl (HSub.c 1 rfl HSub.n) CSub.n (Le.trans (Le.trans (Le.trans (Le.trans (Le.trans (Le.refl _) hle95) hle100) hle125) hle130) hle140) (yl_buildS (pl := #[(0, 1), (1, 1), (2, 1), (3, 1), (4, 1)]) rfl rfl Tryz.zeroValue28 rfl Tryz.underlying28 (fun w => by simp [Tryz.sizeOf26, Tryz.sizeOf3, Tryz.sizeOf9]) (LBld.part rfl rfl rfl (LSpl.c LSpl.z) (LBld.part rfl rfl rfl (LSpl.s (LSpl.c LSpl.z)) (LBld.part rfl rfl rfl (LSpl.s (LSpl.s (LSpl.c LSpl.z))) (LBld.part rfl rfl rfl (LSpl.s (LSpl.s (LSpl.s (LSpl.c LSpl.z)))) LBld.none))))) ?_
            refine JA.step 16 (by kernel_rfl) rfl rfl (op_store 2 rfl rfl rfl rfl rfl rfl Tryz.sizeOf28 rfl rfl (LSpl.c (LSpl.c (LSpl.c (LSpl.c (LSpl.c LSpl.z))))) (LSet.s (LSet.s LSet.z)) ?_)
            refine ⟨⟨(Le.trans (Le.trans (Le.trans (Le.trans (Le.trans (Le.refl _) hle95) hle100) hle125) hle130) hle140), (HSub.c 1 rfl HSub.n), CSub.n⟩, ?_⟩
            refine JA.done (by kernel_rfl) ?_
            refine Ej.seq ?_
            refine Cj.ret ?_
            refine Ej.seqRet ?_
            refine Ej.retCellK (Keeps.k (Keeps.d (Keeps.d Keeps.n))) rfl rfl rfl (Blk.at 2 rfl) Tryz.isAgg28 Tryz.sizeOf28 rfl ?_
            rw [hmd]
            exact ⟨⟨_, rfl, none, 0, rfl, .inl rfl⟩, rfl⟩
        ·
          refine ⟨_, rfl, rfl, ?_⟩
          refine OpJ.pull Pull.z ?_
          refine op_call (H1 := [_]) rfl rfl rfl rfl rfl (next_ok m (Cq.next l (Cq.next l k 5).2 6).2 6 v l _ hl hk2 (by omega) (by omega)) ?_ (fun _ _ _ _ h => by cases h.1) (fun _ _ h => by cases h.1)
          intro v142 I143 H144 hle145 hp146
          have hl := hl.mono hle145
          have hbi := hle145 _ _ hbi
          have hbr := hle145 _ _ hbr
          obtain ⟨hv142, rfl⟩ := hp146; cases hv142
          refine ⟨⟨(Le.trans (Le.trans (Le.trans (Le.trans (Le.refl _) hle95) hle100) hle125) hle145), (HSub.c 1 rfl HSub.n), CSub.n⟩, ?_⟩
          refine JA.take 8 rfl rfl (by kernel_rfl) (by kernel_rfl) (by kernel_rfl) (fun _ _ _ h => h) rfl rfl rfl (HSub.c 1 rfl HSub.n) CSub.n (Le.trans (Le.trans (Le.trans (Le.trans (Le.refl _) hle95) hle100) hle125) hle145) (yl_indexAddr (off' := (Cq.next l (Cq.next l (Cq.next l k 5).2 6).2 6).1) rfl rfl rfl Tryz.underlying44 Tryz.sizeOf9 (by omega) (by have : Cq.relations.length = 6 := rfl; omega) (by simp)) ?_
          refine JA.all [4, 9, 12] (by kernel_rfl) (by simp) ?_
          intro i hi
          simp only [List.mem_cons, List.not_mem_nil, or_false] at hi
          rcases hi with rfl | rfl | rfl
          ·
            refine ⟨_, rfl, rfl, ?_⟩
            refine op_yld (yl_load rfl rfl Tryz.isAgg9 (Blk.imm hbi) (at_getD (by exact hx2))) rfl rfl ?_
            refine ⟨⟨(Le.trans (Le.trans (Le.trans (Le.trans (Le.refl _) hle95) hle100) hle125) hle145), (HSub.c 1 rfl HSub.n), CSub.n⟩, ?_⟩
            refine JA.all [9, 12] (by kernel_rfl) (by simp) ?_
            intro i hi
            simp only [List.mem_cons, List.not_mem_nil, or_false] at hi
            rcases hi with rfl | rfl
            ·
              refine ⟨_, rfl, rfl, ?_⟩
              refine op_yld (yl_load rfl rfl Tryz.isAgg9 (Blk.imm hbr) (at_getD (by exact hx3))) rfl rfl ?_
              refine ⟨⟨(Le.trans (Le.trans (Le.trans (Le.trans (Le.refl _) hle95) hle100) hle125) hle145), (HSub.c 1 rfl HSub.n), CSub.n⟩, ?_⟩
              refine JA.pull Pull.z ?_
              refine JA.step 12 (by kernel_rfl) rfl rfl (op_call (H1 := [_]) rfl rfl rfl rfl rfl (next_ok m (Cq.next l (Cq.next l (Cq.next l k 5).2 6).2 6).2 9 v l _ hl hk3 (by omega) (by omega)) ?_ (fun _ _ _ _ h => by cases h.1) (fun _ _ h => by cases h.1))
              intro v147 I148 H149 hle150 hp151
              have hl := hl.mono hle150
              have hbi := hle150 _ _ hbi
              have hbr := hle150 _ _ hbr
              obtain ⟨hv147, rfl⟩ := hp151; cases hv147
              refine ⟨⟨(Le.trans (Le.trans (Le.trans (Le.trans (Le.trans (Le.refl _) hle95) hle100) hle125) hle145) hle150), (HSub.c 1 rfl HSub.n), CSub.n⟩, ?_⟩
              refine JA.take 13 rfl rfl (by kernel_rfl) (by kernel_rfl) (by kernel_rfl) (fun _ _ _ h => h) rfl rfl rfl (HSub.c 1 rfl HSub.n) CSub.n (Le.trans (Le.trans (Le.trans (Le.trans (Le.trans (Le.refl _) hle95) hle100) hle125) hle145) hle150) (yl_indexAddr (off' := (Cq.next l (Cq.next l (Cq.next l (Cq.next l k 5).2 6).2 6).2 9).1) rfl rfl rfl Tryz.underlying44 Tryz.sizeOf9 (by omega) (by omega) (by simp)) ?_
              refine JA.take 14 rfl rfl (by kernel_rfl) (by kernel_rfl) (by kernel_rfl) (fun _ _ _ h => h) rfl rfl rfl (HSub.c 1 rfl HSub.n) CSub.n (Le.trans (Le.trans (Le.trans (Le.trans (Le.trans (Le.refl _) hle95) hle100) hle125) hle145) hle150) (yl_load rfl rfl Tryz.isAgg9 (Blk.atC 0 rfl) (at_getD (l := Cq.texts) (sp := []) (by exact hx4))) ?_
              refine JA.take 15 rfl rfl (by kernel_rfl) (by kernel_rfl) (by kernel_rfl) (fun _ _ _ h => h) rfl rfl rfl (HSub.c 1 rfl HSub.n) CSub.n (Le.trans (Le.trans (Le.trans (Le.trans (Le.trans (Le.refl _) hle95) hle100) hle125) hle145) hle150) (yl_buildS (pl := #[(0, 1), (1, 1), (2, 1), (3, 1), (4, 1)]) rfl rfl Tryz.zeroValue28 rfl Tryz.underlying28 (fun w => by simp [Tryz.sizeOf26, Tryz.sizeOf3, Tryz.sizeOf9]) (LBld.part rfl rfl rfl (LSpl.c LSpl.z) (LBld.part rfl rfl rfl (LSpl.s (LSpl.c LSpl.z)) (LBld.part rfl rfl rfl (LSpl.s (LSpl.s (LSpl.c LSpl.z))) (LBld.part rfl rfl rfl (LSpl.s (LSpl.s (LSpl.s (LSpl.c LSpl.z)))) LBld.none))))) ?_
              refine JA.step 16 (by kernel_rfl) rfl rfl (op_store 2 rfl rfl rfl rfl rfl rfl Tryz.sizeOf28 rfl rfl (LSpl.c (LSpl.c (LSpl.c (LSpl.c (LSpl.c LSpl.z))))) (LSet.s (LSet.s LSet.z)) ?_)
              refine ⟨⟨(Le.trans (Le.trans (Le.trans (Le.trans (Le.trans (Le.refl _) hle95) hle100) hle125) hle145) hle150), (HSub.c 1 rfl HSub.n), CSub.n⟩, ?_⟩
              refine JA.done (by kernel_rfl) ?_
              refine Ej.seq ?_
              refine Cj.ret ?_
              refine Ej.seqRet ?_
              refine Ej.retCellK (Keeps.k (Keeps.d (Keeps.d Keeps.n))) rfl rfl rfl (Blk.at 2 rfl) Tryz.isAgg28 Tryz.sizeOf28 rfl ?_
              rw [hmd]
              exact ⟨⟨_, rfl, none, 0, rfl, .inl rfl⟩, rfl⟩
            ·
              refine ⟨_, rfl, rfl, ?_⟩
              refine OpJ.pull Pull.z ?_
              refine op_call (H1 := [_]) rfl rfl rfl rfl rfl (next_ok m (Cq.next l (Cq.next l (Cq.next l k 5).2 6).2 6).2 9 v l _ hl hk3 (by omega) (by omega)) ?_ (fun _ _ _ _ h => by cases h.1) (fun _ _ h => by cases h.1)
              intro v152 I153 H154 hle155 hp156
              have hl := hl.mono hle155
              have hbi := hle155 _ _ hbi
              have hbr := hle155 _ _ hbr
              obtain ⟨hv152, rfl⟩ := hp156; cases hv152
              refine ⟨⟨(Le.trans (Le.trans (Le.trans (Le.trans (Le.trans (Le.refl _) hle95) hle100) hle125) hle145) hle155), (HSub.c 1 rfl HSub.n), CSub.n⟩, ?_⟩
              refine JA.take 13 rfl rfl (by kernel_rfl) (by kernel_rfl) (by kernel_rfl) (fun _ _ _ h => h) rfl rfl rfl (HSub.c 1 rfl HSub.n) CSub.n (Le.trans (Le.trans (Le.trans (Le.trans (Le.trans (Le.refl _) hle95) hle100) hle125) hle145) hle155) (yl_indexAddr (off' := (Cq.next l (Cq.next l (Cq.next l (Cq.next l k 5).2 6).2 6).2 9).1) rfl rfl rfl Tryz.underlying44 Tryz.sizeOf9 (by omega) (by omega) (by simp)) ?_
              refine JA.take 14 rfl rfl (by kernel_rfl) (by kernel_rfl) (by kernel_rfl) (fun _ _ _ h => h) rfl rfl rfl (HSub.c 1 rfl HSub.n) CSub.n (Le.trans (Le.trans (Le.trans (Le.trans (Le.trans (Le.refl _) hle95) hle100) hle125) hle145) hle155) (yl_load rfl rfl Tryz.isAgg9 (Blk.atC 0 rfl) (at_getD (l := Cq.texts) (sp := []) (by exact hx4))) ?_
              refine JA.step 9 (by kernel_rfl) rfl rfl (op_yld (yl_load rfl rfl Tryz.isAgg9 (Blk.imm hbr) (at_getD (by exact hx3))) rfl rfl ?_)
              refine ⟨⟨(Le.trans (Le.trans (Le.trans (Le.trans (Le.trans (Le.refl _) hle95) hle100) hle125) hle145) hle155), (HSub.c 1 rfl HSub.n), CSub.n⟩, ?_⟩
              refine JA.take 15 rfl rfl (by kernel_rfl) (by kernel_rfl) (by kernel_rfl) (fun _ _ _ h => h) rfl rfl rfl (HSub.c 1 rfl HSub.n) CSub.n (Le.trans (Le.trans (Le.trans (Le.trans (Le.trans (Le.refl _) hle95) hle100) hle125) hle145) hle155) (yl_buildS (pl := #[(0, 1), (1, 1), (2, 1), (3, 1), (4, 1)]) rfl rfl Tryz.zeroValue28 rfl Tryz.underlying28 (fun w => by simp [Tryz.sizeOf26, Tryz.sizeOf3, Tryz.sizeOf9]) (LBld.part rfl rfl rfl (LSpl.c LSpl.z) (LBld.part rfl rfl rfl (LSpl.s (LSpl.c LSpl.z)) (LBld.part rfl rfl rfl (LSpl.s (LSpl.s (LSpl.c LSpl.z))) (LBld.part rfl rfl rfl (LSpl.s (LSpl.s (LSpl.s (LSpl.c LSpl.z)))) LBld.none))))) ?_
              refine JA.step 16 (by kernel_rfl) rfl rfl (op_store 2 rfl rfl rfl rfl rfl rfl Tryz.sizeOf28 rfl rfl (LSpl.c (LSpl.c (LSpl.c (LSpl.c (LSpl.c LSpl.z))))) (LSet.s (LSet.s LSet.z)) ?_)
              refine ⟨⟨(Le.trans (Le.trans (Le.trans (Le.trans (Le.trans (Le.refl _) hle95) hle100) hle125) hle145) hle155), (HSub.c 1 rfl HSub.n), CSub.n⟩, ?_⟩
              refine JA.done (by kernel_rfl) ?_
              refine Ej.seq ?_
              refine Cj.ret ?_
              refine Ej.seqRet ?_
              refine Ej.retCellK (Keeps.k (Keeps.d (Keeps.d Keeps.n))) rfl rfl rfl (Blk.at 2 rfl) Tryz.isAgg28 Tryz.sizeOf28 rfl ?_
              rw [hmd]
              exact ⟨⟨_, rfl, none, 0, rfl, .inl rfl⟩, rfl⟩
          ·
            refine ⟨_, rfl, rfl, ?_⟩
            refine op_yld (yl_load rfl rfl Tryz.isAgg9 (Blk.imm hbr) (at_getD (by exact hx3))) rfl rfl ?_
            refine ⟨⟨(Le.trans (Le.trans (Le.trans (Le.trans (Le.refl _) hle95) hle100) hle125) hle145), (HSub.c 1 rfl HSub.n), CSub.n⟩, ?_⟩
            refine JA.all [4, 12] (by kernel_rfl) (by simp) ?_
            intro i hi
            simp only [List.mem_cons, List.not_mem_nil, or_false] at hi
            rcases hi with rfl | rfl
            ·
              refine ⟨_, rfl, rfl, ?_⟩
              refine op_yld (yl_load rfl rfl Tryz.isAgg9 (Blk.imm hbi) (at_getD (by exact hx2))) rfl rfl ?_
              refine ⟨⟨(Le.trans (Le.trans (Le.trans (Le.trans (Le.refl _) hle95) hle100) hle125) hle145), (HSub.c 1 rfl HSub.n), CSub.n⟩, ?_⟩
              refine JA.pull Pull.z ?_
              refine JA.step 12 (by kernel_rfl) rfl rfl (op_call (H1 := [_]) rfl rfl rfl rfl rfl (next_ok m (Cq.next l (Cq.next l (Cq.next l k 5).2 6).2 6).2 9 v l _ hl hk3 (by omega) (by omega)) ?_ (fun _ _ _ _ h => by cases h.1) (fun _ _ h => by cases h.1))
              intro v157 I158 H159 hle160 hp161
              have hl := hl.mono hle160
              have hbi := hle160 _ _ hbi
              have hbr := hle160 _ _ hbr
              obtain ⟨hv157, rfl⟩ := hp161; cases hv157
              refine ⟨⟨(Le.trans (Le.trans (Le.trans (Le.trans (Le.trans (Le.refl _) hle95) hle100) hle125) hle145) hle160), (HSub.c 1 rfl HSub.n), CSub.n⟩, ?_⟩
              refine JA.take 13 rfl rfl (by kernel_rfl) (by kernel_rfl) (by kernel_rfl) (fun _ _ _ h => h) rfl rfl rfl (HSub.c 1 rfl HSub.n) CSub.n (Le.trans (Le.trans (Le.trans (Le.trans (Le.trans (Le.refl _) hle95) hle100) hle125) hle145) hle160) (yl_indexAddr (off' := (Cq.next l (Cq.next l (Cq.next l (Cq.next l k 5).2 6).2 6).2 9).1) rfl rfl rfl Tryz.underlying44 Tryz.sizeOf9 (by omega) (by omega) (by simp)) ?_
              refine JA.take 14 rfl rfl (by kernel_rfl) (by kernel_rfl) (by kernel_rfl) (fun _ _ _ h => h) rfl rfl rfl (HSub.c 1 rfl HSub.n) CSub.n (Le.trans (Le.trans (Le.trans (Le.trans (Le.trans (Le.refl _) hle95) hle100) hle125) hle145) hle160) (yl_load rfl rfl Tryz.isAgg9 (Blk.atC 0 rfl) (at_getD (l := Cq.texts) (sp := []) (by exact hx4))) ?_
              refine JA.take 15 rfl rfl (by kernel_rfl) (by kernel_rfl) (by kernel_rfl) (fun _ _ _ h => h) rfl rfl rfl (HSub.c 1 rfl HSub.n) CSub.n (Le.trans (Le.trans (Le.trans (Le.trans (Le.trans (Le.refl _) hle95) hle100) hle125) hle145) hle160) (yl_buildS (pl := #[(0, 1), (1, 1), (2, 1), (3, 1), (4, 1)]) rfl rfl Tryz.zeroValue28 rfl Tryz.underlying28 (fun w => by simp [Tryz.sizeOf26, Tryz.sizeOf3, Tryz.sizeOf9]) (LBld.part rfl rfl rfl (LSpl.c LSpl.z) (LBld.part rfl rfl rfl (LSpl.s (LSpl.c LSpl.z)) (LBld.part rfl rfl rfl (LSpl.s (LSpl.s (LSpl.c LSpl.z))) (LBld.part rfl rfl rfl (LSpl.s (LSpl.s (LSpl.s (LSpl.c LSpl.z)))) LBld.none))))) ?_
              refine JA.step 16 (by kernel_rfl) rfl rfl (op_store 2 rfl rfl rfl rfl rfl rfl Tryz.sizeOf28 rfl rfl (LSpl.c (LSpl.c (LSpl.c (LSpl.c (LSpl.c LSpl.z))))) (LSet.s (LSet.s LSet.z)) ?_)
              refine ⟨⟨(Le.trans (Le.trans (Le.trans (Le.trans (Le.trans (Le.refl _) hle95) hle100) hle125) hle145) hle160), (HSub.c 1 rfl HSub.n), CSub.n⟩, ?_⟩
              refine JA.done (by kernel_rfl) ?_
              refine Ej.seq ?_
              refine Cj.ret ?_
              refine Ej.seqRet ?_
              refine Ej.retCellK (Keeps.k (Keeps.d (Keeps.d Keeps.n))) rfl rfl rfl (Blk.at 2 rfl) Tryz.isAgg28 Tryz.sizeOf28 rfl ?_
              rw [hmd]
              exact ⟨⟨_, rfl, none, 0, rfl, .inl rfl⟩, rfl⟩
            ·
              refine ⟨_, rfl, rfl, ?_⟩
              refine OpJ.pull Pull.z ?_
              refine op_call (H1 := [_]) rfl rfl rfl rfl rfl (next_ok m (Cq.next l (Cq.next l (Cq.next l k 5).2 6).2 6).2 9 v l _ hl hk3 (by omega) (by omega)) ?_ (fun _ _ _ _ h => by cases h.1) (fun _ _ h => by cases h.1)
              intro v162 I163 H164 hle165 hp166
              have hl := hl.mono hle165
              have hbi := hle165 _ _ hbi
              have hbr := hle165 _ _ hbr
              obtain ⟨hv162, rfl⟩ := hp166; cases hv162
              refine ⟨⟨(Le.trans (Le.trans (Le.trans (Le.trans (Le.trans (Le.refl _) hle95) hle100) hle125) hle145) hle165), (HSub.c 1 rfl HSub.n), CSub.n⟩, ?_⟩
              refine JA.take 13 rfl rfl (by kernel_rfl) (by kernel_rfl) (by kernel_rfl) (fun _ _ _ h => h) rfl rfl rfl (HSub.c 1 rfl HSub.n) CSub.n (Le.trans (Le.trans (Le.trans (Le.trans (Le.trans (Le.refl _) hle95) hle100) hle125) hle145) hle165) (yl_indexAddr (off' := (Cq.next l (Cq.next l (Cq.next l (Cq.next l k 5).2 6).2 6).2 9).1) rfl rfl rfl Tryz.underlying44 Tryz.sizeOf9 (by omega) (by omega) (by simp)) ?_
              refine JA.take 14 rfl rfl (by kernel_rfl) (by kernel_rfl) (by kernel_rfl) (fun _ _ _ h => h) rfl rfl rfl (HSub.c 1 rfl HSub.n) CSub.n (Le.trans (Le.trans (Le.trans (Le.trans (Le.trans (Le.refl _) hle95) hle100) hle125) hle145) hle165) (yl_load rfl rfl Tryz.isAgg9 (Blk.atC 0 rfl) (at_getD (l := Cq.texts) (sp := []) (by exact hx4))) ?_
              refine JA.step 4 (by kernel_rfl) rfl rfl (op_yld (yl_load rfl rfl Tryz.isAgg9 (Blk.imm hbi) (at_getD (by exact hx2))) rfl rfl ?_)
              refine ⟨⟨(Le.trans (Le.trans (Le.trans (Le.trans (Le.trans (Le.refl _) hle95) hle100) hle125) hle145) hle165), (HSub.c 1 rfl HSub.n), CSub.n⟩, ?_⟩
              refine JA.take 15 rfl rfl (by kernel_rfl) (by kernel_rfl) (by kernel_rfl) (fun _ _ _ h => h) rfl rfl rfl (HSub.c 1 rfl HSub.n) CSub.n (Le.trans (Le.trans (Le.trans (Le.trans (Le.trans (Le.refl _) hle95) hle100) hle125) hle145) hle165) (yl_buildS (pl := #[(0, 1), (1, 1), (2, 1), (3, 1), (4, 1)]) rfl rfl Tryz.zeroValue28 rfl Tryz.underlying28 (fun w => by simp [Tryz.sizeOf26, Tryz.sizeOf3, Tryz.sizeOf9]) (LBld.part rfl rfl rfl (LSpl.c LSpl.z) (LBld.part rfl rfl rfl (LSpl.s (LSpl.c LSpl.z)) (LBld.part rfl rfl rfl (LSpl.s (LSpl.s (LSpl.c LSpl.z))) (LBld.part rfl rfl rfl (LSpl.s (LSpl.s (LSpl.s (LSpl.c LSpl.z)))) LBld.none))))) ?_
              refine JA.step 16 (by kernel_rfl) rfl rfl (op_store 2 rfl rfl rfl rfl rfl rfl Tryz.sizeOf28 rfl rfl (LSpl.c (LSpl.c (LSpl.c (LSpl.c (LSpl.c LSpl.z))))) (LSet.s (LSet.s LSet.z)) ?_)
              refine ⟨⟨(Le.trans (Le.trans (Le.trans (Le.trans (Le.trans (Le.refl _) hle95) hle100) hle125) hle145) hle165), (HSub.c 1 rfl HSub.n), CSub.n⟩, ?_⟩
              refine JA.done (by kernel_rfl) ?_
              refine Ej.seq ?_
              refine Cj.ret ?_
              refine Ej.seqRet ?_
              refine Ej.retCellK (Keeps.k (Keeps.d (Keeps.d Keeps.n))) rfl rfl rfl (Blk.at 2 rfl) Tryz.isAgg28 Tryz.sizeOf28 rfl ?_
              rw [hmd]
              exact ⟨⟨_, rfl, none, 0, rfl, .inl rfl⟩, rfl⟩
          ·
            refine ⟨_, rfl, rfl, ?_⟩
            refine OpJ.pull Pull.z ?_
            refine op_call (H1 := [_]) rfl rfl rfl rfl rfl (next_ok m (Cq.next l (Cq.next l (Cq.next l k 5).2 6).2 6).2 9 v l _ hl hk3 (by omega) (by omega)) ?_ (fun _ _ _ _ h => by cases h.1) (fun _ _ h => by cases h.1)
            intro v167 I168 H169 hle170 hp171
            have hl := hl.mono hle170
            have hbi := hle170 _ _ hbi
            have hbr := hle170 _ _ hbr
            obtain ⟨hv167, rfl⟩ := hp171; cases hv167
            refine ⟨⟨(Le.trans (Le.trans (Le.trans (Le.trans (Le.trans (Le.refl _) hle95) hle100) hle125) hle145) hle170), (HSub.c 1 rfl HSub.n), CSub.n⟩, ?_⟩
            refine JA.take 13 rfl rfl (by kernel_rfl) (by kernel_rfl) (by kernel_rfl) (fun _ _ _ h => h) rfl rfl rfl (HSub.c 1 rfl HSub.n) CSub.n (Le.trans (Le.trans (Le.trans (Le.trans (Le.trans (Le.refl _) hle95) hle100) hle125) hle145) hle170) (yl_indexAddr (off' := (Cq.next l (Cq.next l (Cq.next l (Cq.next l k 5).2 6).2 6).2 9).1) rfl rfl rfl Tryz.underlying44 Tryz.sizeOf9 (by omega) (by omega) (by simp)) ?_
            refine JA.take 14 rfl rfl (by kernel_rfl) (by kernel_rfl) (by kernel_rfl) (fun _ _ _ h => h) rfl rfl rfl (HSub.c 1 rfl HSub.n) CSub.n (Le.trans (Le.trans (Le.trans (Le.trans (Le.trans (Le.refl _) hle95) hle100) hle125) hle145) hle170) (yl_load rfl rfl Tryz.isAgg9 (Blk.atC 0 rfl) (at_getD (l := Cq.texts) (sp := []) (by exact hx4))) ?_
            refine JA.all [4, 9] (by kernel_rfl) (by simp) ?_
            intro i hi
            simp only [List.mem_cons, List.not_mem_nil, or_false] at hi
            rcases hi with rfl | rfl
            ·
              refine ⟨_, rfl, rfl, ?_⟩
              refine op_yld (yl_load rfl rfl Tryz.isAgg9 (Blk.imm hbi) (at_getD (by exact hx2))) rfl rfl ?_
              refine ⟨⟨(Le.trans (Le.trans (Le.trans (Le.trans (Le.trans (Le.refl _) hle95) hle100) hle125) hle145) hle170), (HSub.c 1 rfl HSub.n), CSub.n⟩, ?_⟩
              refine JA.step 9 (by kernel_rfl) rfl rfl (op_yld (yl_load rfl rfl Tryz.isAgg9 (Blk.imm hbr) (at_getD (by exact hx3))) rfl rfl ?_)
              refine ⟨⟨(Le.trans (Le.trans (Le.trans (Le.trans (Le.trans (Le.refl _) hle95) hle100) hle125) hle145) hle170), (HSub.c 1 rfl HSub.n), CSub.n⟩, ?_⟩
              refine JA.take 15 rfl rfl (by kernel_rfl) (by kernel_rfl) (by kernel_rfl) (fun _ _ _ h => h) rfl rfl rfl (HSub.c 1 rfl HSub.n) CSub.n (Le.trans (Le.trans (Le.trans (Le.trans (Le.trans (Le.refl _) hle95) hle100) hle125) hle145) hle170) (yl_buildS (pl := #[(0, 1), (1, 1), (2, 1), (3, 1), (4, 1)]) rfl rfl Tryz.zeroValue28 rfl Tryz.underlying28 (fun w => by simp [Tryz.sizeOf26, Tryz.sizeOf3, Tryz.sizeOf9]) (LBld.part rfl rfl rfl (LSpl.c LSpl.z) (LBld.part rfl rfl rfl (LSpl.s (LSpl.c LSpl.z)) (LBld.part rfl rfl rfl (LSpl.s (LSpl.s (LSpl.c LSpl.z))) (LBld.part rfl rfl rfl (LSpl.s (LSpl.s (LSpl.s (LSpl.c LSpl.z)))) LBld.none))))) ?_
              refine JA.step 16 (by kernel_rfl) rfl rfl (op_store 2 rfl rfl rfl rfl rfl rfl Tryz.sizeOf28 rfl rfl (LSpl.c (LSpl.c (LSpl.c (LSpl.c (LSpl.c LSpl.z))))) (LSet.s (LSet.s LSet.z)) ?_)
              refine ⟨⟨(Le.trans (Le.trans (Le.trans (Le.trans (Le.trans (Le.refl _) hle95) hle100) hle125) hle145) hle170), (HSub.c 1 rfl HSub.n), CSub.n⟩, ?_⟩
              refine JA.done (by kernel_rfl) ?_
              refine Ej.seq ?_
              refine Cj.ret ?_
              refine Ej.seqRet ?_
              refine Ej.retCellK (Keeps.k (Keeps.d (Keeps.d Keeps.n))) rfl rfl rfl (Blk.at 2 rfl) Tryz.isAgg28 Tryz.sizeOf28 rfl ?_
              rw [hmd]
              exact ⟨⟨_, rfl, none, 0, rfl, .inl rfl⟩, rfl⟩
            ·
              refine ⟨_, rfl, rfl, ?_⟩
              refine op_yld (yl_load rfl rfl Tryz.isAgg9 (Blk.imm hbr) (at_getD (by exact hx3))) rfl rfl ?_
              refine ⟨⟨(Le.trans (Le.trans (Le.trans (Le.trans (Le.trans (Le.refl _) hle95) hle100) hle125) hle145) hle170), (HSub.c 1 rfl HSub.n), CSub.n⟩, ?_⟩
              refine JA.step 4 (by kernel_rfl) rfl rfl (op_yld (yl_load rfl rfl Tryz.isAgg9 (Blk.imm hbi) (at_getD (by exact hx2))) rfl rfl ?_)
              refine ⟨⟨(Le.trans (Le.trans (Le.trans (Le.trans (Le.trans (Le.refl _) hle95) hle100) hle125) hle145) hle170), (HSub.c 1 rfl HSub.n), CSub.n⟩, ?_⟩
              refine JA.take 15 rfl rfl (by kernel_rfl) (by kernel_rfl) (by kernel_rfl) (fun _ _ _ h => h) rfl rfl rfl (HSub.c 1 rfl HSub.n) CSub.n (Le.trans (Le.trans (Le.trans (Le.trans (Le.trans (Le.refl _) hle95) hle100) hle125) hle145) hle170) (yl_buildS (pl := #[(0, 1), (1, 1), (2, 1), (3, 1), (4, 1)]) rfl rfl Tryz.zeroValue28 rfl Tryz.underlying28 (fun w => by simp [Tryz.sizeOf26, Tryz.sizeOf3, Tryz.sizeOf9]) (LBld.part rfl rfl rfl (LSpl.c LSpl.z) (LBld.part rfl rfl rfl (LSpl.s (LSpl.c LSpl.z)) (LBld.part rfl rfl rfl (LSpl.s (LSpl.s (LSpl.c LSpl.z))) (LBld.part rfl rfl rfl (LSpl.s (LSpl.s (LSpl.s (LSpl.c LSpl.z)))) LBld.none))))) ?_
              refine JA.step 16 (by kernel_rfl) rfl rfl (op_store 2 rfl rfl rfl rfl rfl rfl Tryz.sizeOf28 rfl rfl (LSpl.c (LSpl.c (LSpl.c (LSpl.c (LSpl.c LSpl.z))))) (LSet.s (LSet.s LSet.z)) ?_)
              refine ⟨⟨(Le.trans (Le.trans (Le.trans (Le.trans (Le.trans (Le.refl _) hle95) hle100) hle125) hle145) hle170), (HSub.c 1 rfl HSub.n), CSub.n⟩, ?_⟩
              refine JA.done (by kernel_rfl) ?_
              refine Ej.seq ?_
              refine Cj.ret ?_
              refine Ej.seqRet ?_
              refine Ej.retCellK (Keeps.k (Keeps.d (Keeps.d Keeps.n))) rfl rfl rfl (Blk.at 2 rfl) Tryz.isAgg28 Tryz.sizeOf28 rfl ?_
              rw [hmd]
              exact ⟨⟨_, rfl, none, 0, rfl, .inl rfl⟩, rfl⟩
    ·
      have hc90p := of_decide_eq_false hc90
      have hmd : Cq.made (d + 1) l k = (Cq.two (Cq.next l k 5).1 (Cq.made d l (Cq.next l k 5).2).1 (Cq.made d l (Cq.made d l (Cq.next l k 5).2).2).1, (Cq.made d l (Cq.made d l (Cq.next l k 5).2).2).2) := by have h := of_decide_eq_false hc90; simp only [Cq.made]; rw [if_neg (by omega)]
      refine Cj.skip ?_
      refine Ej.seq ?_
      refine Cj.seq ?_
      refine Cj.region ?_
      refine J.y (yl_move rfl rfl) rfl rfl rfl ?_
      refine J.y (yl_move rfl rfl) rfl rfl rfl ?_
      refine J.y (yl_sub rfl rfl rfl (w64 (by omega))) rfl rfl rfl ?_
      refine J.eqv 35 rfl (show _ = i64 (d : Nat) from (by simp)) ?_
      refine J.pull Pull.z ?_
      refine J.op rfl (op_call (H1 := [_]) rfl rfl rfl rfl rfl (ih d rfl m (Cq.next l k 5).2 v l _ hl hk1 (by omega)) ?_ (fun _ _ _ _ h => by obtain ⟨⟨_, h, _⟩, _⟩ := h; cases h) (fun _ _ h => by obtain ⟨⟨_, h, _⟩, _⟩ := h; cases h))
      intro v172 I173 H174 hle175 hp176
      have hl := hl.mono hle175
      obtain ⟨⟨v172x, hv172, pa, ca, rfl, hpa⟩, rfl⟩ := hp176; cases hv172
      refine J.op rfl (op_alloc rfl rfl rfl Tryz.zeroValue28 rfl ?_)
      intro b177 hb177
      refine J.op rfl (op_store 0 rfl rfl rfl rfl rfl rfl Tryz.sizeOf28 rfl rfl (LSpl.c (LSpl.c (LSpl.c (LSpl.c (LSpl.c LSpl.z))))) LSet.z ?_)
      refine J.nil ?_
      refine Ej.seq ?_
      refine Cj.seq ?_
      refine Cj.drawSel [0] [] 9 (by kernel_rfl) ?_
      refine JA.take 0 rfl rfl (by kernel_rfl) (by kernel_rfl) (by kernel_rfl) (fun _ _ _ h => h) rfl rfl rfl (HSub.c 0 rfl HSub.n) CSub.n (Le.refl _) (yl_move rfl rfl) ?_
      refine JA.take 1 rfl rfl (by kernel_rfl) (by kernel_rfl) (by kernel_rfl) (fun _ _ _ h => h) rfl rfl rfl (HSub.c 0 rfl HSub.n) CSub.n (Le.refl _) (yl_loadAgg rfl rfl Tryz.isAgg28 Tryz.sizeOf28 (Blk.atC 0 rfl) rfl rfl) ?_
      refine JA.take 2 rfl rfl (by kernel_rfl) (by kernel_rfl) (by kernel_rfl) (fun _ _ _ h => h) rfl rfl rfl (HSub.c 0 rfl HSub.n) CSub.n (Le.refl _) (yl_move rfl rfl) ?_
      refine JA.take 3 rfl rfl (by kernel_rfl) (by kernel_rfl) (by kernel_rfl) (fun _ _ _ h => h) rfl rfl rfl (HSub.c 0 rfl HSub.n) CSub.n (Le.refl _) (yl_move rfl rfl) ?_
      refine JA.take 4 rfl rfl (by kernel_rfl) (by kernel_rfl) (by kernel_rfl) (fun _ _ _ h => h) rfl rfl rfl (HSub.c 0 rfl HSub.n) CSub.n (Le.refl _) (yl_sub rfl rfl rfl (w64 (by omega))) ?_
      refine JA.eqv 41 rfl (show _ = i64 (d : Nat) from (by simp)) ?_
      refine JA.pull (Pull.s Pull.z) ?_
      refine JA.step 5 (by kernel_rfl) rfl rfl (op_call (H1 := [_]) rfl rfl rfl rfl rfl (ih d rfl m (Cq.made d l (Cq.next l k 5).2).2 v l _ hl (made_le l d _ hk1) (by omega)) ?_ (fun _ _ _ _ h => by obtain ⟨⟨_, h, _⟩, _⟩ := h; cases h) (fun _ _ h => by obtain ⟨⟨_, h, _⟩, _⟩ := h; cases h))
      intro v178 I179 H180 hle181 hp182
      have hl := hl.mono hle181
      have hpa := hpa.mono hle181
      obtain ⟨⟨v178x, hv178, pb, cb, rfl, hpb⟩, rfl⟩ := hp182; cases hv178
      refine ⟨⟨(Le.trans (Le.refl _) hle181), (HSub.c 1 rfl HSub.n), CSub.n⟩, ?_⟩
      refine JA.step 6 (by kernel_rfl) rfl rfl (op_buildSlice rfl rfl rfl Tryz.underlying26 Tryz.sizeOf28 Tryz.zeroValue28 rfl rfl rfl rfl (LCat.agg rfl (LCat.agg rfl LCat.none)) ?_)
      intro b183 hb183
      refine ⟨⟨(Le.trans (Le.refl _) hle181), (HSub.c 2 rfl HSub.n), CSub.n⟩, ?_⟩
      refine JA.persist hb183 (fun I185 hle184 hb183i => ?_)
      have hl := hl.mono hle184
      have hpa := hpa.mono hle184
      have hpb := hpb.mono hle184
      refine JA.take 7 rfl rfl (by kernel_rfl) (by kernel_rfl) (by kernel_rfl) (fun _ _ _ h => h) rfl rfl rfl (HSub.c 1 rfl HSub.n) CSub.n (Le.trans (Le.trans (Le.refl _) hle181) hle184) (yl_buildS (pl := #[(0, 1), (1, 1), (2, 1), (3, 1), (4, 1)]) rfl rfl Tryz.zeroValue28 rfl Tryz.underlying28 (fun w => by simp [Tryz.sizeOf26, Tryz.sizeOf3, Tryz.sizeOf9]) (LBld.part rfl rfl rfl (LSpl.c LSpl.z) (LBld.part rfl rfl rfl (LSpl.s (LSpl.s (LSpl.s (LSpl.s (LSpl.c LSpl.z))))) LBld.none))) ?_
      refine JA.step 8 (by kernel_rfl) rfl rfl (op_store 2 rfl rfl rfl rfl rfl rfl Tryz.sizeOf28 rfl rfl (LSpl.c (LSpl.c (LSpl.c (LSpl.c (LSpl.c LSpl.z))))) (LSet.s (LSet.s LSet.z)) ?_)
      refine ⟨⟨(Le.trans (Le.trans (Le.refl _) hle181) hle184), (HSub.c 1 rfl HSub.n), CSub.n⟩, ?_⟩
      refine JA.done (by kernel_rfl) ?_
      refine Ej.seq ?_
      refine Cj.ret ?_
      refine Ej.retCellK (Keeps.k (Keeps.d (Keeps.d Keeps.n))) rfl rfl rfl (Blk.at 2 rfl) Tryz.isAgg28 Tryz.sizeOf28 rfl ?_
      rw [hmd]
      exact ⟨⟨_, rfl, some ⟨b183, 0, none⟩, 2, rfl, PS.two hpa hpb hb183i⟩, rfl⟩

theorem mquery_ok : ∀ deep, MSpec deep
  | 0 => mquery_step 0 fun d h => by omega
  | deep + 1 => mquery_step (deep + 1) fun d h => by have : d = deep := by omega
                                                     subst this; exact mquery_ok d
theorem tm24 (a : Nat) : (a : Int).tmod 24 = ((a % 24 : Nat) : Int) := (Int.ofNat_tmod a 24).symm
theorem td24 (a : Nat) : (a : Int).tdiv 24 = ((a / 24 : Nat) : Int) := (Int.ofNat_tdiv a 24).symm
theorem gap_at {g : Nat} (h1 : 0 < g) (h4 : g < 4) : [str [32], str [32, 32], str [10]][g - 1]? = some (str (Cq.gaps.getD g [])) := by
  obtain rfl | rfl | rfl : g = 1 ∨ g = 2 ∨ g = 3 := by omega
  all_goals rfl
theorem soup_next {l : List Int} {k : Nat} {x : Int} (h : l[k]? = some x) : (l.take (k + 1)).flatMap Cq.soup1 = (l.take k).flatMap Cq.soup1 ++ Cq.soup1 x := by
  rw [List.take_add_one, h]; simp
theorem soup_part (l : List Int) {k : Nat} (h : k ≤ 40) : ((l.take k).flatMap Cq.soup1).length ≤ 480 := by
  have := Cq.soup_len (l.take k)
  unfold Cq.soup at this
  rwa [List.take_take, Nat.min_eq_right h] at this
theorem soup_done {l : List Int} {k : Nat} (h : k = l.length ∨ k = 40) (hk : k ≤ 40) : (l.take k).flatMap Cq.soup1 = Cq.soup l := by
  unfold Cq.soup
  rcases h with h | h
  · rw [List.take_of_length_le (by omega), List.take_of_length_le (show l.length ≤ 40 by omega)]
  · rw [h]

set_option maxRecDepth 20000 in
theorem Made_ok (v : Value) (l : List Int) (I : Heap) (hl : IntSl I l v) : Ctr Tryz.prog 15 [v] I [] (fun e I' H' => (∃ u, e = .returned u ∧ QV I' (Cq.madeQ l) u) ∧ H' = []) := by
  have hx1 := Cq.next_lt l 0 (n := 7) (by omega)
  obtain ⟨hll, p, c, rfl, hl2⟩ := hl
  have hl : IntSl I l (.slice p l.length c) := ⟨hll, p, c, rfl, hl2⟩
  refine Ctr.of_body Tryz.func15 rfl (by decide) (Nat.le_of_ble_eq_true rfl) ?_
  intro w0 hw0
  refine Cj.seq ?_
  refine Cj.region ?_
  refine J.op rfl (op_alloc rfl rfl rfl Tryz.zeroValue28 rfl ?_)
  intro b1 hb1
  refine J.nil ?_
  refine Ej.seq ?_
  refine Cj.seq ?_
  refine Cj.region ?_
  refine J.y (yl_move rfl rfl) rfl rfl rfl ?_
  refine J.y (yl_buildS (pl := #[(0, 1), (1, 1)]) rfl rfl Tryz.zeroValue60 rfl Tryz.underlying60 (fun w => by simp [Tryz.sizeOf22, Tryz.sizeOf3]) (LBld.part rfl rfl rfl (LSpl.c LSpl.z) LBld.none)) rfl rfl rfl ?_
  refine J.op rfl (op_box rfl rfl rfl rfl rfl ?_)
  intro b2 hb2
  refine J.y (yl_assign rfl rfl) rfl rfl rfl ?_
  refine J.nil ?_
  refine Ej.seq ?_
  refine Cj.seq ?_
  refine Cj.region ?_
  refine J.y (yl_move rfl rfl) rfl rfl rfl ?_
  refine J.y (yl_move rfl rfl) rfl rfl rfl ?_
  refine J.pull Pull.z ?_
  refine J.op rfl (op_call (H1 := [_]) rfl rfl rfl rfl rfl (next_ok b2 0 7 _ l _ hl (Nat.zero_le _) (by omega) (by omega)) ?_ (fun _ _ _ _ h => by cases h.1) (fun _ _ h => by cases h.1))
  intro v3 I4 H5 hle6 hp7
  have hl := hl.mono hle6
  obtain ⟨hv3, rfl⟩ := hp7; cases hv3
  refine J.pull Pull.z ?_
  refine J.op rfl (op_call (H1 := [_]) rfl rfl rfl rfl rfl (mquery_ok (Cq.next l 0 7).1 b2 (Cq.next l 0 7).2 _ l _ hl (Cq.next_le l 7 (Nat.zero_le _)) (by omega)) ?_ (fun _ _ _ _ h => by obtain ⟨⟨_, h, _⟩, _⟩ := h; cases h) (fun _ _ h => by obtain ⟨⟨_, h, _⟩, _⟩ := h; cases h))
  intro v8 I9 H10 hle11 hp12
  have hl := hl.mono hle11
  obtain ⟨⟨v8x, hv8, pq, cq, rfl, hpq⟩, rfl⟩ := hp12; cases hv8
  refine J.op rfl (op_store 1 rfl rfl rfl rfl rfl rfl Tryz.sizeOf28 rfl rfl (LSpl.c (LSpl.c (LSpl.c (LSpl.c (LSpl.c LSpl.z))))) (LSet.s LSet.z) ?_)
  refine J.nil ?_
  refine Ej.seq ?_
  refine Cj.ret ?_
  refine Ej.retCellK (Keeps.d (Keeps.d Keeps.n)) rfl rfl rfl (Blk.at 1 rfl) Tryz.isAgg28 Tryz.sizeOf28 rfl ?_
  exact ⟨⟨_, rfl, pq, cq, rfl, hpq⟩, rfl⟩

theorem parts_len {n : Nat} (h : n < 24) : (Cq.parts.getD n []).length ≤ 9 := by
  revert n; decide
theorem gaps_len {n : Nat} (h : n < 4) : (Cq.gaps.getD n []).length ≤ 2 := by
  revert n; decide

set_option maxRecDepth 20000 in
theorem Soup_ok (v : Value) (l : List Int) (I : Heap) (hl : IntSl I l v) : Pure Tryz.prog 13 [v] I (str (Cq.soup l)) := by
  obtain ⟨hll, p, c, rfl, hl2⟩ := hl
  refine Ctr.toPure ?_
  refine Ctr.of_body Tryz.func13 rfl (by decide) (Nat.le_of_ble_eq_true rfl) ?_
  intro w0 hw0
  refine Cj.seq ?_
  refine Cj.region ?_
  refine J.y (yl_assign rfl rfl) rfl rfl rfl ?_
  refine J.nil ?_
  refine Ej.seq ?_
  refine Cj.seq ?_
  refine Cj.region ?_
  refine J.op rfl (op_buildSlice rfl rfl rfl Tryz.underlying44 Tryz.sizeOf9 Tryz.zeroValue9 rfl rfl rfl rfl (LCat.one rfl (LCat.one rfl (LCat.one rfl (LCat.one rfl (LCat.one rfl (LCat.one rfl (LCat.one rfl (LCat.one rfl (LCat.one rfl (LCat.one rfl (LCat.one rfl (LCat.one rfl (LCat.one rfl (LCat.one rfl (LCat.one rfl (LCat.one rfl (LCat.one rfl (LCat.one rfl (LCat.one rfl (LCat.one rfl (LCat.one rfl (LCat.one rfl (LCat.one rfl (LCat.one rfl LCat.none)))))))))))))))))))))))) ?_)
  intro b1 hb1
  refine J.y (yl_assign rfl rfl) rfl rfl rfl ?_
  refine J.nil ?_
  refine Ej.seq ?_
  refine Cj.seq ?_
  refine Cj.region ?_
  refine J.y (yl_assign rfl rfl) rfl rfl rfl ?_
  refine J.nil ?_
  refine Ej.seq ?_
  refine Cj.seq ?_
  refine Cj.seq ?_
  refine Cj.region ?_
  refine J.y (yl_assign rfl rfl) rfl rfl rfl ?_
  refine J.nil ?_
  refine Ej.seq ?_
  refine Cj.block ?_
  refine Cj.loop (ι := Nat) (fun k => k ≤ l.length ∧ k ≤ 40) (fun k => l.length - k) (fun k => [(0, .slice p l.length c), (3, .slice (some ⟨b1, 0, none⟩) 24 24), (4, str ((l.take k).flatMap Cq.soup1)), (5, i64 (k : Int))]) (fun k => I) (fun k => [(b1, cel 9 (Cq.parts.map str ++ []))]) 0 ⟨Nat.zero_le _, Nat.zero_le _⟩ ⟨rfl, rfl, rfl, rfl, trivial⟩ rfl rfl ?_
  rintro k ⟨hk, hk40⟩
  have hsl := soup_part l hk40
  refine Cj.seq ?_
  refine Cj.seq ?_
  refine Cj.region ?_
  refine J.y (yl_move rfl rfl) rfl rfl rfl ?_
  refine J.y (yl_move rfl rfl) rfl rfl rfl ?_
  refine J.y (yl_lenSlice rfl rfl Tryz.underlying22) rfl rfl rfl ?_
  refine J.y (yl_lss rfl rfl rfl) rfl rfl rfl ?_
  refine J.y (yl_move rfl rfl) rfl rfl rfl ?_
  refine J.split 12 rfl (fun hg2 => ?_) (fun hg2 => ?_)
  ·
    refine J.opG 4 12 true _ rfl rfl rfl hg2 (op_yld (yl_move rfl rfl) rfl rfl ?_)
    refine J.opG 4 12 true _ rfl rfl rfl hg2 (op_yld (yl_lss rfl rfl rfl) rfl rfl ?_)
    refine J.y (yl_pick1 rfl rfl hg2 rfl) rfl rfl rfl ?_
    refine J.nil ?_
    refine Ej.seq ?_
    refine Cj.cond rfl (fun hc3 => ?_) (fun hc3 => ?_)
    ·
      have hc3p := of_decide_eq_true hc3
      have hlt : k < l.length := by have h := hg2; simp at h; omega
      have hlt40 : k < 40 := by have h := hc3; simp at h; omega
      obtain ⟨x, hx⟩ : ∃ x, l[k]? = some x := ⟨_, List.getElem?_eq_getElem hlt⟩
      obtain ⟨bl, off, cs', T, fr, rfl, hbl, hat⟩ := hl2 (by intro h; rw [h] at hlt; simp at hlt)
      have hpk : (x.tmod 96 + 96).tmod 96 = (Cq.pickN x 96 : Int) ∧ Cq.pickN x 96 < 96 ∧ -96 < x.tmod 96 ∧ x.tmod 96 < 96 := Cq.pick_eq x (n := 96) (by omega)
      have hp24 : Cq.pickN x 96 % 24 < 24 := Nat.mod_lt _ (by omega)
      have hpl : (Cq.parts.getD (Cq.pickN x 96 % 24) []).length ≤ 9 := parts_len hp24
      refine Cj.skip ?_
      refine Ej.seq ?_
      refine Cj.seq ?_
      refine Cj.block ?_
      refine Cj.seq ?_
      refine Cj.region ?_
      refine J.y (yl_move rfl rfl) rfl rfl rfl ?_
      refine J.y (yl_move rfl rfl) rfl rfl rfl ?_
      refine J.y (yl_indexAddr (off' := off + k) rfl rfl rfl Tryz.underlying22 Tryz.sizeOf3 (by omega) (by omega) (by omega)) rfl rfl rfl ?_
      refine J.y (yl_load rfl rfl Tryz.isAgg3 (Blk.imm hbl) (hat k x hx)) rfl rfl rfl ?_
      refine J.y (yl_rem rfl rfl rfl (by omega)) rfl rfl rfl ?_
      refine J.y (yl_add rfl rfl rfl (w64 (by omega))) rfl rfl rfl ?_
      refine J.y (yl_rem rfl rfl rfl (by omega)) rfl rfl rfl ?_
      refine J.eqv 24 rfl (show _ = i64 (Cq.pickN x 96 : Nat) from (by rw [hpk.1])) ?_
      refine J.y (yl_assign rfl rfl) rfl rfl rfl ?_
      refine J.nil ?_
      refine Ej.seq ?_
      refine Cj.seq ?_
      refine Cj.region ?_
      refine J.y (yl_move rfl rfl) rfl rfl rfl ?_
      refine J.y (yl_move rfl rfl) rfl rfl rfl ?_
      refine J.y (yl_move rfl rfl) rfl rfl rfl ?_
      refine J.y (yl_rem rfl rfl rfl (by omega)) rfl rfl rfl ?_
      refine J.eqv 28 rfl (show _ = i64 (Cq.pickN x 96 % 24 : Nat) from (by rw [tm24])) ?_
      refine J.y (yl_indexAddr (off' := Cq.pickN x 96 % 24) rfl rfl rfl Tryz.underlying44 Tryz.sizeOf9 (by omega) (by omega) (by omega)) rfl rfl rfl ?_
      refine J.y (yl_load rfl rfl Tryz.isAgg9 (Blk.at 0 rfl) (at_getD (by exact hp24))) rfl rfl rfl ?_
      refine J.y (yl_cat rfl rfl rfl (by first | omega | (simp only [List.length_append]; omega) | (simp; omega))) rfl rfl rfl ?_
      refine J.y (yl_assign rfl rfl) rfl rfl rfl ?_
      refine J.nil ?_
      refine Ej.seq ?_
      refine Cj.seq ?_
      refine Cj.region ?_
      refine J.y (yl_move rfl rfl) rfl rfl rfl ?_
      refine J.y (yl_quo rfl rfl rfl (by omega) (by rw [td24]; exact w64 (by omega))) rfl rfl rfl ?_
      refine J.eqv 33 rfl (show _ = i64 (Cq.pickN x 96 / 24 : Nat) from (by rw [td24])) ?_
      refine J.y (yl_gtr rfl rfl rfl) rfl rfl rfl ?_
      refine J.nil ?_
      refine Ej.seq ?_
      refine Cj.cond rfl (fun hc4 => ?_) (fun hc4 => ?_)
      ·
        have hc4p := of_decide_eq_true hc4
        have hg0 : 0 < Cq.pickN x 96 / 24 := by have h := of_decide_eq_true hc4; omega
        have hgl := gaps_len (n := Cq.pickN x 96 / 24) (by omega)
        have hlit : (List.length (α := UInt8) [32, 32]) = 2 := rfl
        refine Cj.region ?_
        refine J.y (yl_move rfl rfl) rfl rfl rfl ?_
        refine J.op rfl (op_buildSlice rfl rfl rfl Tryz.underlying44 Tryz.sizeOf9 Tryz.zeroValue9 rfl rfl rfl rfl (LCat.one rfl (LCat.one rfl (LCat.one rfl LCat.none))) ?_)
        intro b5 hb5
        refine J.y (yl_move rfl rfl) rfl rfl rfl ?_
        refine J.y (yl_quo rfl rfl rfl (by omega) (by rw [td24]; exact w64 (by omega))) rfl rfl rfl ?_
        refine J.eqv 38 rfl (show _ = i64 (Cq.pickN x 96 / 24 : Nat) from (by rw [td24])) ?_
        refine J.y (yl_sub rfl rfl rfl (w64 (by omega))) rfl rfl rfl ?_
        refine J.y (yl_indexAddr (off' := Cq.pickN x 96 / 24 - 1) rfl rfl rfl Tryz.underlying44 Tryz.sizeOf9 (by omega) (by omega) (by omega)) rfl rfl rfl ?_
        refine J.y (yl_load rfl rfl Tryz.isAgg9 (Blk.at 0 rfl) (gap_at hg0 (by omega))) rfl rfl rfl ?_
        refine J.y (yl_cat rfl rfl rfl (by first | omega | (simp only [List.length_append]; omega) | (simp; omega))) rfl rfl rfl ?_
        refine J.y (yl_assign rfl rfl) rfl rfl rfl ?_
        refine J.nil ?_
        refine Ej.blkNormal ?_
        refine Ej.seq ?_
        refine Cj.region ?_
        refine J.y (yl_move rfl rfl) rfl rfl rfl ?_
        refine J.y (yl_add rfl rfl rfl (w64 (by omega))) rfl rfl rfl ?_
        refine J.y (yl_assign rfl rfl) rfl rfl rfl ?_
        refine J.nil ?_
        refine Ej.keep (Keeps.d (Keeps.k Keeps.n)) ?_
        refine Ej.round (k + 1) ⟨by omega, by omega⟩ (by omega) ⟨rfl, rfl, (congrArg (fun x => some (str x)) (by rw [soup_next hx, Cq.soup1, List.append_assoc])), rfl, trivial⟩ rfl rfl
      ·
        have hc4p := of_decide_eq_false hc4
        have hg0 : Cq.pickN x 96 / 24 = 0 := by have h := of_decide_eq_false hc4; omega
        refine Cj.skip ?_
        refine Ej.blkNormal ?_
        refine Ej.seq ?_
        refine Cj.region ?_
        refine J.y (yl_move rfl rfl) rfl rfl rfl ?_
        refine J.y (yl_add rfl rfl rfl (w64 (by omega))) rfl rfl rfl ?_
        refine J.y (yl_assign rfl rfl) rfl rfl rfl ?_
        refine J.nil ?_
        refine Ej.round (k + 1) ⟨by omega, by omega⟩ (by omega) ⟨rfl, rfl, (congrArg (fun x => some (str x)) (by rw [soup_next hx, Cq.soup1, hg0]; simp [Cq.gaps])), rfl, trivial⟩ rfl rfl
    ·
      have hc3p := of_decide_eq_false hc3
      have hdone : k = l.length ∨ k = 40 := .inr (by have h := hc3; simp at h; omega)
      refine Cj.exit ?_
      refine Ej.seqExit ?_
      refine Ej.loopExit ?_
      refine Ej.blkExit ?_
      refine Ej.seq ?_
      refine Cj.seq ?_
      refine Cj.region ?_
      refine J.y (yl_move rfl rfl) rfl rfl rfl ?_
      refine J.y (yl_assign rfl rfl) rfl rfl rfl ?_
      refine J.nil ?_
      refine Ej.seq ?_
      refine Cj.ret ?_
      refine Ej.bare ?_
      refine Ej.ret1 rfl rfl rfl ?_
      refine ⟨?_, rfl⟩
      rw [soup_done hdone hk40]
  ·
    have hdone : k = l.length ∨ k = 40 := .inl (by have h := hg2; simp at h; omega)
    refine J.skip 4 12 13 true _ rfl rfl rfl hg2 rfl rfl ?_
    refine J.skip 4 12 14 true _ rfl rfl rfl hg2 rfl rfl ?_
    refine J.y (yl_pick0 rfl rfl hg2 rfl) rfl rfl rfl ?_
    refine J.nil ?_
    refine Ej.seq ?_
    refine Cj.cond rfl (fun hc6 => Bool.noConfusion (Eq.trans (Eq.symm rfl) hc6)) (fun hc6 => ?_)
    refine Cj.exit ?_
    refine Ej.seqExit ?_
    refine Ej.loopExit ?_
    refine Ej.blkExit ?_
    refine Ej.seq ?_
    refine Cj.seq ?_
    refine Cj.region ?_
    refine J.y (yl_move rfl rfl) rfl rfl rfl ?_
    refine J.y (yl_assign rfl rfl) rfl rfl rfl ?_
    refine J.nil ?_
    refine Ej.seq ?_
    refine Cj.ret ?_
    refine Ej.bare ?_
    refine Ej.ret1 rfl rfl rfl ?_
    refine ⟨?_, rfl⟩
    rw [soup_done hdone hk40]

end Go.Proofs.YtlfpehljahgbkaaGreatDoor
