/-
  The law CqlLeft walked. Own text, printed by a program. Conditions: none.
-/
import Derived.Test.YtlfpehljahgbkaaGreatDoorCqW
import Derived.Test.YtlfpehljahgbkaaGreatDoorCqLeft
namespace Go.Proofs.YtlfpehljahgbkaaGreatDoor
open Go Go.Sx
/-- Bytes that a slice leads to. -/
def MemB (I : Heap) (l : List UInt8) (p : Option Addr) : Prop := l ≠ [] → ∃ bl off cs' T fr, p = some ⟨bl, off, none⟩ ∧ I bl = some (.cells (List.toArray cs') T fr) ∧ ∀ k x, l[k]? = some x → cs'[off + k]? = some (u8 x)
theorem MemB.mono {I I' : Heap} {l : List UInt8} {p : Option Addr} (h : MemB I l p) (hle : Le I I') : MemB I' l p := fun hn => let ⟨bl, off, cs', T, fr, g1, g2, g3⟩ := h hn; ⟨bl, off, cs', T, fr, g1, hle _ _ g2, g3⟩
theorem w8 {n : Int} (h : 0 ≤ n ∧ n ≤ 255) : IntKind.u8.wrap n = n := by
  simp [IntKind.wrap, IntKind.bits, IntKind.signed]; omega
theorem ch_nat (k : Nat) : ((Cq.ch k).toNat : Int) = 98 + ((k % 20 : Nat) : Int) := by
  have h : ∀ j < 20, (UInt8.ofNat (98 + j)).toNat = 98 + j := by decide +kernel
  have := h _ (Nat.mod_lt k (by decide))
  unfold Cq.ch
  omega
theorem word_opk {l : List UInt8} {k : Nat} {c : UInt8} (h : l[k]? = some c) : opers.getD (c.toNat % 3) [] = Cq.word (Cq.opk l k) := by
  have hg : l.getD k 0 = c := by rw [List.getD, h]; rfl
  have h3 : ∀ j < 3, opers.getD j [] = Cq.word ((2 + j : Nat) : Int) := by decide +kernel
  have := h3 _ (Nat.mod_lt c.toNat (by decide))
  unfold Cq.opk
  rw [hg, this]
theorem opk_at {l : List UInt8} {k : Nat} {c : UInt8} (h : l[k]? = some c) : Cq.opk l k = 2 + c.toNat % 3 := by
  have hg : l.getD k 0 = c := by rw [List.getD, h]; rfl
  unfold Cq.opk
  rw [hg]
structure LfSt where
  k : Nat
  p : Option Addr
  c : Nat
  I : Heap
set_option maxRecDepth 20000 in
theorem Left_ok (l : List UInt8) (p0 : Option Addr) (c0 : Nat) (hll : l.length ≤ 9223372036854775807) (I : Heap) (ht : Tabs I) (hmem : MemB I l p0) : Pure Tryz.prog 10 [.slice p0 l.length c0] I (.bool true) := by
  refine Ctr.toPure ?_
  refine Ctr.of_body Tryz.func10 rfl (by decide) (Nat.le_of_ble_eq_true rfl) ?_
  intro w0 hw0
  refine Cj.seq ?_
  refine Cj.region ?_
  refine J.y (yl_assign rfl rfl) rfl rfl rfl ?_
  refine J.nil ?_
  refine Ej.seq ?_
  refine Cj.seq ?_
  refine Cj.region ?_
  refine J.op rfl (op_pure rfl rfl rfl rfl rfl (sanity_ok _ ht) ?_)
  refine J.y (yl_assign rfl rfl) rfl rfl rfl ?_
  refine J.nil ?_
  refine Ej.seq ?_
  refine Cj.seq ?_
  refine Cj.region ?_
  refine J.op rfl (op_buildSlice rfl rfl rfl Tryz.underlying44 Tryz.sizeOf9 Tryz.zeroValue9 rfl rfl rfl rfl (LCat.one rfl (LCat.one rfl (LCat.one rfl LCat.none))) ?_)
  intro b1 hb1
  refine J.y (yl_assign rfl rfl) rfl rfl rfl ?_
  refine J.nil ?_
  refine Ej.seq ?_
  refine Cj.seq ?_
  refine Cj.region ?_
  refine J.y (yl_assign rfl rfl) rfl rfl rfl ?_
  refine J.nil ?_
  refine Ej.seq ?_
  refine Cj.seq ?_
  refine Cj.region ?_
  refine J.y (yl_buildS (pl := #[(0, 1), (1, 1), (2, 1), (3, 1), (4, 1)]) rfl rfl Tryz.zeroValue28 rfl Tryz.underlying28 (fun w => by simp [Tryz.sizeOf26, Tryz.sizeOf3, Tryz.sizeOf9]) (LBld.part rfl rfl rfl (LSpl.c LSpl.z) (LBld.part rfl rfl rfl (LSpl.s (LSpl.c LSpl.z)) (LBld.part rfl rfl rfl (LSpl.s (LSpl.s (LSpl.c LSpl.z))) (LBld.part rfl rfl rfl (LSpl.s (LSpl.s (LSpl.s (LSpl.c LSpl.z)))) LBld.none))))) rfl rfl rfl ?_
  refine J.op rfl (op_alloc rfl rfl rfl Tryz.zeroValue28 rfl ?_)
  intro b2 hb2
  refine J.op rfl (op_store 0 rfl rfl rfl rfl rfl rfl Tryz.sizeOf28 rfl rfl (LSpl.c (LSpl.c (LSpl.c (LSpl.c (LSpl.c LSpl.z))))) LSet.z ?_)
  refine J.nil ?_
  refine Ej.seq ?_
  refine Cj.seq ?_
  refine Cj.seq ?_
  refine Cj.region ?_
  refine J.y (yl_assign rfl rfl) rfl rfl rfl ?_
  refine J.nil ?_
  refine Ej.seq ?_
  refine Cj.block ?_
  refine Cj.loop (ι := LfSt) (fun j => j.k ≤ l.length ∧ j.k ≤ 60 ∧ PS j.I (Cq.leftQ l j.k).ps j.p ∧ Tabs j.I ∧ MemB j.I l p0) (fun j => 61 - j.k) (fun j => [(0, .slice p0 l.length c0), (3, .bool true), (4, .slice (some ⟨b1, 0, none⟩) 3 3), (5, str (Cq.leftS l j.k)), (6, ptr b2 0), (7, i64 (j.k : Int))]) (fun j => j.I) (fun j => [(b2, cel 28 (qCells (Cq.leftQ l j.k) j.p j.c)), (b1, cel 9 (opers.map str))]) ⟨0, none, 0, _⟩ ⟨Nat.zero_le _, Nat.zero_le _, .inl rfl, ht, hmem⟩ ⟨rfl, rfl, rfl, rfl, rfl, rfl, trivial⟩ rfl rfl ?_
  clear ht hmem
  rintro ⟨k, p, c, I1⟩ ⟨hk, hk60, hps, ht, hmem⟩
  dsimp only at hk hk60 hps ht hmem ⊢
  have hsl := Cq.leftS_len l k
  have hqs := Cq.leftQ_size l k
  refine Cj.seq ?_
  refine Cj.seq ?_
  refine Cj.region ?_
  refine J.y (yl_move rfl rfl) rfl rfl rfl ?_
  refine J.y (yl_move rfl rfl) rfl rfl rfl ?_
  refine J.y (yl_lenSlice rfl rfl Tryz.underlying46) rfl rfl rfl ?_
  refine J.y (yl_lss rfl rfl rfl) rfl rfl rfl ?_
  refine J.y (yl_move rfl rfl) rfl rfl rfl ?_
  refine J.split 19 rfl (fun hg3 => ?_) (fun hg3 => ?_)
  ·
    refine J.opG 4 19 true _ rfl rfl rfl hg3 (op_yld (yl_move rfl rfl) rfl rfl ?_)
    refine J.opG 4 19 true _ rfl rfl rfl hg3 (op_yld (yl_lss rfl rfl rfl) rfl rfl ?_)
    refine J.y (yl_pick1 rfl rfl hg3 rfl) rfl rfl rfl ?_
    refine J.nil ?_
    refine Ej.seq ?_
    refine Cj.cond rfl (fun hc4 => ?_) (fun hc4 => ?_)
    ·
      have hc4p := of_decide_eq_true hc4
      have hlt : k < l.length := by have := of_decide_eq_true hg3; omega
      have hk6 : k < 60 := by have := of_decide_eq_true hc4; omega
      obtain ⟨x, hget⟩ : ∃ x, l[k]? = some x := ⟨_, List.getElem?_eq_getElem hlt⟩
      obtain ⟨bl, off, cs', TT, fr, hp0, hbl, hcell⟩ := hmem (by intro h; rw [h] at hlt; simp at hlt)
      subst hp0
      have hx3 : x.toNat % 3 < 3 := Nat.mod_lt _ (by decide)
      have hwl : (Cq.word (Cq.opk l k)).length ≤ 3 := by unfold Cq.word; split <;> (try split) <;> simp
      have hchn := ch_nat k
      have hopk := opk_at hget
      refine Cj.skip ?_
      refine Ej.seq ?_
      refine Cj.seq ?_
      refine Cj.block ?_
      refine Cj.seq ?_
      refine Cj.region ?_
      refine J.y (yl_move rfl rfl) rfl rfl rfl ?_
      refine J.y (yl_rem rfl rfl rfl (by omega)) rfl rfl rfl ?_
      refine J.eqv 26 rfl (show _ = i64 ((k % 20 : Nat) : Int) from (congrArg (Value.int .i64) (Int.ofNat_tmod k 20).symm)) ?_
      refine J.y (yl_convInt rfl rfl Tryz.underlying3 Tryz.underlying5) rfl rfl rfl ?_
      refine J.eqv 27 rfl (show _ = .int .u8 ((k % 20 : Nat) : Int) from (congrArg (Value.int .u8) (w8 (by omega)))) ?_
      refine J.y (yl_add rfl rfl rfl (w8 (by omega))) rfl rfl rfl ?_
      refine J.eqv 28 rfl (show _ = u8 (Cq.ch k) from (congrArg (Value.int .u8) hchn.symm)) ?_
      refine J.op rfl (op_buildSlice rfl rfl rfl Tryz.underlying46 Tryz.sizeOf5 Tryz.zeroValue5 rfl rfl rfl rfl (LCat.one rfl LCat.none) ?_)
      intro b5 hb5
      refine J.y (yl_toStr [Cq.ch k] rfl rfl rfl Tryz.underlying46 Tryz.underlying9 Tryz.underlying5 (Blk.at 0 rfl) rfl) rfl rfl rfl ?_
      refine J.y (yl_assign rfl rfl) rfl rfl rfl ?_
      refine J.nil ?_
      refine Ej.seq ?_
      refine Cj.seq ?_
      refine Cj.region ?_
      refine J.y (yl_move rfl rfl) rfl rfl rfl ?_
      refine J.y (yl_move rfl rfl) rfl rfl rfl ?_
      refine J.y (yl_move rfl rfl) rfl rfl rfl ?_
      refine J.y (yl_move rfl rfl) rfl rfl rfl ?_
      refine J.y (yl_indexAddr (off' := (off + k)) rfl rfl rfl Tryz.underlying46 Tryz.sizeOf5 (by omega) (by omega) (by simp)) rfl rfl rfl ?_
      refine J.y (yl_load rfl rfl Tryz.isAgg5 (Blk.imm hbl) (hcell k x hget)) rfl rfl rfl ?_
      refine J.y (yl_rem rfl rfl rfl (by omega)) rfl rfl rfl ?_
      refine J.eqv 37 rfl (show _ = .int .u8 ((x.toNat % 3 : Nat) : Int) from (congrArg (Value.int .u8) (Int.ofNat_tmod x.toNat 3).symm)) ?_
      refine J.y (yl_indexAddr (off' := (x.toNat % 3)) rfl rfl rfl Tryz.underlying44 Tryz.sizeOf9 (by omega) (by omega) (by simp; omega)) rfl rfl rfl ?_
      refine J.y (yl_load rfl rfl Tryz.isAgg9 (Blk.at 2 rfl) (idx_at (l := opers) hx3)) rfl rfl rfl ?_
      refine J.eqv 39 rfl (show _ = str (Cq.word (Cq.opk l k)) from (by rw [word_opk hget])) ?_
      refine J.y (yl_cat rfl rfl rfl (by first | omega | (simp only [List.length_append]; omega) | (simp; omega))) rfl rfl rfl ?_
      refine J.y (yl_cat rfl rfl rfl (by first | omega | (simp only [List.length_append]; omega) | (simp; omega))) rfl rfl rfl ?_
      refine J.y (yl_move rfl rfl) rfl rfl rfl ?_
      refine J.y (yl_cat rfl rfl rfl (by first | omega | (simp only [List.length_append]; omega) | (simp; omega))) rfl rfl rfl ?_
      refine J.y (yl_cat rfl rfl rfl (by first | omega | (simp only [List.length_append]; omega) | (simp; omega))) rfl rfl rfl ?_
      refine J.eqv 44 rfl (show _ = str (Cq.leftS l (k + 1)) from (by simp [Cq.leftS, Cq.seg])) ?_
      refine J.y (yl_assign rfl rfl) rfl rfl rfl ?_
      refine J.nil ?_
      refine Ej.seq ?_
      refine Cj.drawSel [0, 1, 2] [] 12 (by kernel_rfl) ?_
      refine JA.take 0 (by kernel_rfl) rfl (by kernel_rfl) (by kernel_rfl) (by kernel_rfl) (fun _ _ _ h => h) rfl rfl rfl (HSub.c 0 rfl (HSub.c 1 rfl (HSub.c 2 rfl HSub.n))) CSub.n (Le.refl _) (yl_move rfl rfl) ?_
      refine JA.take 1 (by kernel_rfl) rfl (by kernel_rfl) (by kernel_rfl) (by kernel_rfl) (fun _ _ _ h => h) rfl rfl rfl (HSub.c 0 rfl (HSub.c 1 rfl (HSub.c 2 rfl HSub.n))) CSub.n (Le.refl _) (yl_move rfl rfl) ?_
      refine JA.take 2 (by kernel_rfl) rfl (by kernel_rfl) (by kernel_rfl) (by kernel_rfl) (fun _ _ _ h => h) rfl rfl rfl (HSub.c 0 rfl (HSub.c 1 rfl (HSub.c 2 rfl HSub.n))) CSub.n (Le.refl _) (yl_indexAddr (off' := (off + k)) rfl rfl rfl Tryz.underlying46 Tryz.sizeOf5 (by omega) (by omega) (by simp)) ?_
      refine JA.take 3 (by kernel_rfl) rfl (by kernel_rfl) (by kernel_rfl) (by kernel_rfl) (fun _ _ _ h => h) rfl rfl rfl (HSub.c 0 rfl (HSub.c 1 rfl (HSub.c 2 rfl HSub.n))) CSub.n (Le.refl _) (yl_load rfl rfl Tryz.isAgg5 (Blk.immC hbl) (hcell k x hget)) ?_
      refine JA.take 4 (by kernel_rfl) rfl (by kernel_rfl) (by kernel_rfl) (by kernel_rfl) (fun _ _ _ h => h) rfl rfl rfl (HSub.c 0 rfl (HSub.c 1 rfl (HSub.c 2 rfl HSub.n))) CSub.n (Le.refl _) (yl_rem rfl rfl rfl (by omega)) ?_
      refine JA.eqv 49 rfl (show _ = .int .u8 ((x.toNat % 3 : Nat) : Int) from (congrArg (Value.int .u8) (Int.ofNat_tmod x.toNat 3).symm)) ?_
      refine JA.take 5 (by kernel_rfl) rfl (by kernel_rfl) (by kernel_rfl) (by kernel_rfl) (fun _ _ _ h => h) rfl rfl rfl (HSub.c 0 rfl (HSub.c 1 rfl (HSub.c 2 rfl HSub.n))) CSub.n (Le.refl _) (yl_convInt rfl rfl Tryz.underlying5 Tryz.underlying3) ?_
      refine JA.eqv 50 rfl (show _ = i64 ((x.toNat % 3 : Nat) : Int) from (congrArg (Value.int .i64) (w64 (by omega)))) ?_
      refine JA.take 6 (by kernel_rfl) rfl (by kernel_rfl) (by kernel_rfl) (by kernel_rfl) (fun _ _ _ h => h) rfl rfl rfl (HSub.c 0 rfl (HSub.c 1 rfl (HSub.c 2 rfl HSub.n))) CSub.n (Le.refl _) (yl_add rfl rfl rfl (w64 (by omega))) ?_
      refine JA.eqv 51 rfl (show _ = i64 (Cq.opk l k : Nat) from (by rw [hopk]; congr 1)) ?_
      refine JA.take 7 (by kernel_rfl) rfl (by kernel_rfl) (by kernel_rfl) (by kernel_rfl) (fun _ _ _ h => h) rfl rfl rfl (HSub.c 0 rfl (HSub.c 1 rfl (HSub.c 2 rfl HSub.n))) CSub.n (Le.refl _) (yl_loadAgg rfl rfl Tryz.isAgg28 Tryz.sizeOf28 (Blk.atC 1 rfl) rfl rfl) ?_
      refine JA.take 8 (by kernel_rfl) rfl (by kernel_rfl) (by kernel_rfl) (by kernel_rfl) (fun _ _ _ h => h) rfl rfl rfl (HSub.c 0 rfl (HSub.c 1 rfl (HSub.c 2 rfl HSub.n))) CSub.n (Le.refl _) (yl_move rfl rfl) ?_
      refine JA.take 9 (by kernel_rfl) rfl (by kernel_rfl) (by kernel_rfl) (by kernel_rfl) (fun _ _ _ h => h) rfl rfl rfl (HSub.c 0 rfl (HSub.c 1 rfl (HSub.c 2 rfl HSub.n))) CSub.n (Le.refl _) (yl_buildS (pl := #[(0, 1), (1, 1), (2, 1), (3, 1), (4, 1)]) rfl rfl Tryz.zeroValue28 rfl Tryz.underlying28 (fun w => by simp [Tryz.sizeOf26, Tryz.sizeOf3, Tryz.sizeOf9]) (LBld.part rfl rfl rfl (LSpl.c LSpl.z) (LBld.part rfl rfl rfl (LSpl.s (LSpl.c LSpl.z)) (LBld.part rfl rfl rfl (LSpl.s (LSpl.s (LSpl.c LSpl.z))) (LBld.part rfl rfl rfl (LSpl.s (LSpl.s (LSpl.s (LSpl.c LSpl.z)))) LBld.none))))) ?_
      refine JA.step 10 (by kernel_rfl) rfl rfl (op_buildSlice rfl rfl rfl Tryz.underlying26 Tryz.sizeOf28 Tryz.zeroValue28 rfl rfl rfl rfl (LCat.agg rfl (LCat.agg rfl LCat.none)) ?_)
      intro b6 hb6
      refine ⟨⟨(Le.refl _), (HSub.c 1 rfl (HSub.c 2 rfl (HSub.c 3 rfl HSub.n))), CSub.n⟩, ?_⟩
      refine JA.persist hb6 (fun I8 hle7 hb6i => ?_)
      have ht := ht.mono hle7
      have hps := hps.mono hle7
      have hmem := hmem.mono hle7
      have hbl := hle7 _ _ hbl
      refine JA.take 11 (by kernel_rfl) rfl (by kernel_rfl) (by kernel_rfl) (by kernel_rfl) (fun _ _ _ h => h) rfl rfl rfl (HSub.c 0 rfl (HSub.c 1 rfl (HSub.c 2 rfl HSub.n))) CSub.n (Le.trans (Le.refl _) hle7) (yl_buildS (pl := #[(0, 1), (1, 1), (2, 1), (3, 1), (4, 1)]) rfl rfl Tryz.zeroValue28 rfl Tryz.underlying28 (fun w => by simp [Tryz.sizeOf26, Tryz.sizeOf3, Tryz.sizeOf9]) (LBld.part rfl rfl rfl (LSpl.c LSpl.z) (LBld.part rfl rfl rfl (LSpl.s (LSpl.s (LSpl.s (LSpl.s (LSpl.c LSpl.z))))) LBld.none))) ?_
      refine JA.last 12 (by kernel_rfl) rfl rfl rfl (op_store 1 rfl rfl rfl rfl rfl rfl Tryz.sizeOf28 rfl rfl (LSpl.c (LSpl.c (LSpl.c (LSpl.c (LSpl.c LSpl.z))))) (LSet.s LSet.z) ?_)
      refine JA.done (by kernel_rfl) ?_
      refine Ej.blkNormal ?_
      refine Ej.seq ?_
      refine Cj.region ?_
      refine J.y (yl_move rfl rfl) rfl rfl rfl ?_
      refine J.y (yl_add rfl rfl rfl (w64 (by omega))) rfl rfl rfl ?_
      refine J.y (yl_assign rfl rfl) rfl rfl rfl ?_
      refine J.nil ?_
      refine Ej.keep (Keeps.d (Keeps.k (Keeps.k Keeps.n))) ?_
      refine Ej.round ⟨k + 1, some ⟨b6, 0, none⟩, 2, _⟩ ⟨by dsimp only; omega, by dsimp only; omega, PS.two hps (.inl rfl : PS _ (Cq.bareQ [Cq.ch k]).ps none) hb6i, ht, hmem⟩ (by dsimp only; omega) ⟨rfl, rfl, rfl, rfl, rfl, rfl, trivial⟩ rfl rfl
    ·
      have hc4p := of_decide_eq_false hc4
      refine Cj.exit ?_
      refine Ej.seqExit ?_
      refine Ej.loopExit ?_
      refine Ej.blkExit ?_
      refine Ej.seq ?_
      refine Cj.seq ?_
      refine Cj.region ?_
      refine J.y (yl_move rfl rfl) rfl rfl rfl ?_
      refine J.op rfl (op_call (H1 := []) rfl rfl rfl rfl rfl (cParse_at (Cq.leftS l k) (by omega) (Cq.leftQ l k) 0 0 (Cq.left_parse l k) _ ht) ?_ (fun _ _ _ _ h => by obtain ⟨⟨_, _, h, _⟩, _⟩ := h; cases h) (fun _ _ h => by obtain ⟨⟨_, _, h, _⟩, _⟩ := h; cases h))
      intro v9 I10 H11 hle12 hp13
      have ht := ht.mono hle12
      have hps := hps.mono hle12
      have hmem := hmem.mono hle12
      obtain ⟨⟨p1, c1, h, hps1⟩, rfl⟩ := hp13; cases h
      refine J.y (yl_move rfl rfl) rfl rfl rfl ?_
      refine J.y (yl_extract rfl rfl rfl) rfl rfl rfl ?_
      refine J.y (yl_extract rfl rfl rfl) rfl rfl rfl ?_
      refine J.y (yl_extract rfl rfl rfl) rfl rfl rfl ?_
      refine J.op rfl (op_alloc rfl rfl rfl Tryz.zeroValue28 rfl ?_)
      intro b14 hb14
      refine J.op rfl (op_store 0 rfl rfl rfl rfl rfl rfl Tryz.sizeOf28 rfl rfl (LSpl.c (LSpl.c (LSpl.c (LSpl.c (LSpl.c LSpl.z))))) LSet.z ?_)
      refine J.y (yl_assign rfl rfl) rfl rfl rfl ?_
      refine J.y (yl_assign rfl rfl) rfl rfl rfl ?_
      refine J.nil ?_
      refine Ej.seq ?_
      refine Cj.seq ?_
      refine Cj.region ?_
      refine J.y (yl_move rfl rfl) rfl rfl rfl ?_
      refine J.y (yl_move rfl rfl) rfl rfl rfl ?_
      refine J.opG 1 64 true _ rfl rfl rfl rfl (op_yld (yl_move rfl rfl) rfl rfl ?_)
      refine J.opG 1 64 true _ rfl rfl rfl rfl (op_yld (yl_eql rfl rfl rfl) rfl rfl ?_)
      refine J.y (yl_pick1 rfl rfl rfl rfl) rfl rfl rfl ?_
      refine J.y (yl_move rfl rfl) rfl rfl rfl ?_
      refine J.opG 5 68 true _ rfl rfl rfl (by first | rfl | decide) (op_yld (yl_loadAgg rfl rfl Tryz.isAgg28 Tryz.sizeOf28 (Blk.at 0 rfl) rfl rfl) rfl rfl ?_)
      refine J.opG 5 68 true _ rfl rfl rfl (by first | rfl | decide) (op_yld (yl_loadAgg rfl rfl Tryz.isAgg28 Tryz.sizeOf28 (Blk.at 1 rfl) rfl rfl) rfl rfl ?_)
      refine J.opG 5 68 true _ rfl rfl rfl (by first | rfl | decide) (op_pure rfl rfl rfl rfl rfl (Same_ok (Cq.leftQ l k) (Cq.leftQ l k) p1 p c1 c _ hps1 hps (by omega)) ?_)
      refine J.y (yl_pick1 rfl rfl (by first | rfl | decide) rfl) rfl rfl rfl ?_
      refine J.y (yl_assign rfl rfl) rfl rfl rfl ?_
      refine J.nil ?_
      refine Ej.seq ?_
      refine Cj.ret ?_
      refine Ej.bare ?_
      refine Ej.ret1 rfl rfl rfl ?_
      refine ⟨?_, rfl⟩
      simp
  ·
    refine J.skip 4 19 20 true _ rfl rfl rfl hg3 rfl rfl ?_
    refine J.skip 4 19 21 true _ rfl rfl rfl hg3 rfl rfl ?_
    refine J.y (yl_pick0 rfl rfl hg3 rfl) rfl rfl rfl ?_
    refine J.nil ?_
    refine Ej.seq ?_
    refine Cj.cond rfl (fun hc15 => Bool.noConfusion (Eq.trans (Eq.symm rfl) hc15)) (fun hc15 => ?_)
    refine Cj.exit ?_
    refine Ej.seqExit ?_
    refine Ej.loopExit ?_
    refine Ej.blkExit ?_
    refine Ej.seq ?_
    refine Cj.seq ?_
    refine Cj.region ?_
    refine J.y (yl_move rfl rfl) rfl rfl rfl ?_
    refine J.op rfl (op_call (H1 := []) rfl rfl rfl rfl rfl (cParse_at (Cq.leftS l k) (by omega) (Cq.leftQ l k) 0 0 (Cq.left_parse l k) _ ht) ?_ (fun _ _ _ _ h => by obtain ⟨⟨_, _, h, _⟩, _⟩ := h; cases h) (fun _ _ h => by obtain ⟨⟨_, _, h, _⟩, _⟩ := h; cases h))
    intro v16 I17 H18 hle19 hp20
    have ht := ht.mono hle19
    have hps := hps.mono hle19
    have hmem := hmem.mono hle19
    obtain ⟨⟨p1, c1, h, hps1⟩, rfl⟩ := hp20; cases h
    refine J.y (yl_move rfl rfl) rfl rfl rfl ?_
    refine J.y (yl_extract rfl rfl rfl) rfl rfl rfl ?_
    refine J.y (yl_extract rfl rfl rfl) rfl rfl rfl ?_
    refine J.y (yl_extract rfl rfl rfl) rfl rfl rfl ?_
    refine J.op rfl (op_alloc rfl rfl rfl Tryz.zeroValue28 rfl ?_)
    intro b21 hb21
    refine J.op rfl (op_store 0 rfl rfl rfl rfl rfl rfl Tryz.sizeOf28 rfl rfl (LSpl.c (LSpl.c (LSpl.c (LSpl.c (LSpl.c LSpl.z))))) LSet.z ?_)
    refine J.y (yl_assign rfl rfl) rfl rfl rfl ?_
    refine J.y (yl_assign rfl rfl) rfl rfl rfl ?_
    refine J.nil ?_
    refine Ej.seq ?_
    refine Cj.seq ?_
    refine Cj.region ?_
    refine J.y (yl_move rfl rfl) rfl rfl rfl ?_
    refine J.y (yl_move rfl rfl) rfl rfl rfl ?_
    refine J.opG 1 64 true _ rfl rfl rfl rfl (op_yld (yl_move rfl rfl) rfl rfl ?_)
    refine J.opG 1 64 true _ rfl rfl rfl rfl (op_yld (yl_eql rfl rfl rfl) rfl rfl ?_)
    refine J.y (yl_pick1 rfl rfl rfl rfl) rfl rfl rfl ?_
    refine J.y (yl_move rfl rfl) rfl rfl rfl ?_
    refine J.opG 5 68 true _ rfl rfl rfl (by first | rfl | decide) (op_yld (yl_loadAgg rfl rfl Tryz.isAgg28 Tryz.sizeOf28 (Blk.at 0 rfl) rfl rfl) rfl rfl ?_)
    refine J.opG 5 68 true _ rfl rfl rfl (by first | rfl | decide) (op_yld (yl_loadAgg rfl rfl Tryz.isAgg28 Tryz.sizeOf28 (Blk.at 1 rfl) rfl rfl) rfl rfl ?_)
    refine J.opG 5 68 true _ rfl rfl rfl (by first | rfl | decide) (op_pure rfl rfl rfl rfl rfl (Same_ok (Cq.leftQ l k) (Cq.leftQ l k) p1 p c1 c _ hps1 hps (by omega)) ?_)
    refine J.y (yl_pick1 rfl rfl (by first | rfl | decide) rfl) rfl rfl rfl ?_
    refine J.y (yl_assign rfl rfl) rfl rfl rfl ?_
    refine J.nil ?_
    refine Ej.seq ?_
    refine Cj.ret ?_
    refine Ej.bare ?_
    refine Ej.ret1 rfl rfl rfl ?_
    refine ⟨?_, rfl⟩
    simp

end Go.Proofs.YtlfpehljahgbkaaGreatDoor
