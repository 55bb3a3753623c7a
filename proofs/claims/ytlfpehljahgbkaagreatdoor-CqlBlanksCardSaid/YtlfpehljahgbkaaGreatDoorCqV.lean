/-
  Contracts of the laws' agrees, fails, sanity. Own text, printed by a program. Conditions: none.
-/
import Derived.Test.YtlfpehljahgbkaaGreatDoorCqU
import Derived.Test.YtlfpehljahgbkaaGreatDoorCqQ
import Derived.Test.YtlfpehljahgbkaaGreatDoorCqH
import Derived.Test.YtlfpehljahgbkaaGreatDoorCqSize
import Derived.Test.YtlfpehljahgbkaaGreatDoorCqI
namespace Go.Proofs.YtlfpehljahgbkaaGreatDoor
open Go Go.Sx
theorem cParse_at (s : List UInt8) (hs : s.length ≤ 1000000000) (q : Cq.Qn) (p er : Nat) (hp : Cq.parse s = (q, p, er)) (I : Heap) (ht : Tabs I) : Ctr Tryz.prog 18 [str s] I []
    (fun e I' H' => (∃ pp cc, e = .returned (.tuple #[.agg (qCells q pp cc).toArray, i64 p, i64 er]) ∧ PS I' q.ps pp) ∧ H' = []) :=
  (cParse_ok s hs I ht).mono fun e I' H' _ ⟨⟨v, h1, pp, cc, h2, h3⟩, h4⟩ => by
    rw [hp] at h1 h2 h3
    exact ⟨⟨pp, cc, by rw [h1, h2], h3⟩, h4⟩
theorem rParse_at (s : List UInt8) (hs : s.length ≤ 1000000000) (q : Cq.Qn) (p er : Nat) (hp : Cq.parse s = (q, p, er)) (I : Heap) : Ctr Tryz.prog 29 [str s] I []
    (fun e I' H' => (∃ pp cc, e = .returned (.tuple #[.agg (qCells q pp cc).toArray, i64 p, i64 er]) ∧ PS I' q.ps pp) ∧ H' = []) :=
  (rParse_ok s hs I).mono fun e I' H' _ ⟨⟨v, h1, pp, cc, h2, h3⟩, h4⟩ => by
    rw [hp] at h1 h2 h3
    exact ⟨⟨pp, cc, by rw [h1, h2], h3⟩, h4⟩
set_option maxRecDepth 20000 in
theorem agrees_ok (s : List UInt8) (hs : s.length ≤ 100000000) (I : Heap) (ht : Tabs I) : Pure Tryz.prog 16 [str s] I (.bool true) := by
  refine Ctr.toPure ?_
  obtain ⟨q, p, er, hp⟩ : ∃ q p er, Cq.parse s = (q, p, er) := ⟨_, _, _, rfl⟩
  have hsz : q.size ≤ 1000000000 := by have h := Cq.parse_size s; rw [hp] at h; simp only at h; omega
  refine Ctr.of_body Tryz.func16 rfl (by decide) (Nat.le_of_ble_eq_true rfl) ?_
  intro w0 hw0
  refine Cj.seq ?_
  refine Cj.region ?_
  refine J.y (yl_assign rfl rfl) rfl rfl rfl ?_
  refine J.nil ?_
  refine Ej.seq ?_
  refine Cj.seq ?_
  refine Cj.region ?_
  refine J.y (yl_move rfl rfl) rfl rfl rfl ?_
  refine J.op rfl (op_call (H1 := []) rfl rfl rfl rfl rfl (cParse_at s (by omega) q p er hp _ ht) ?_ (fun _ _ _ _ h => by obtain ⟨⟨_, _, h, _⟩, _⟩ := h; cases h) (fun _ _ h => by obtain ⟨⟨_, _, h, _⟩, _⟩ := h; cases h))
  intro v1 I2 H3 hle4 hp5
  have ht := ht.mono hle4
  obtain ⟨⟨p1, c1, h, hps1⟩, rfl⟩ := hp5; cases h
  refine J.y (yl_move rfl rfl) rfl rfl rfl ?_
  refine J.y (yl_extract rfl rfl rfl) rfl rfl rfl ?_
  refine J.y (yl_extract rfl rfl rfl) rfl rfl rfl ?_
  refine J.y (yl_extract rfl rfl rfl) rfl rfl rfl ?_
  refine J.op rfl (op_alloc rfl rfl rfl Tryz.zeroValue28 rfl ?_)
  intro b6 hb6
  refine J.op rfl (op_store 0 rfl rfl rfl rfl rfl rfl Tryz.sizeOf28 rfl rfl (LSpl.c (LSpl.c (LSpl.c (LSpl.c (LSpl.c LSpl.z))))) LSet.z ?_)
  refine J.y (yl_assign rfl rfl) rfl rfl rfl ?_
  refine J.y (yl_assign rfl rfl) rfl rfl rfl ?_
  refine J.nil ?_
  refine Ej.seq ?_
  refine Cj.seq ?_
  refine Cj.region ?_
  refine J.y (yl_move rfl rfl) rfl rfl rfl ?_
  refine J.op rfl (op_call (H1 := []) rfl rfl rfl rfl rfl (rParse_at s (by omega) q p er hp _) ?_ (fun _ _ _ _ h => by obtain ⟨⟨_, _, h, _⟩, _⟩ := h; cases h) (fun _ _ h => by obtain ⟨⟨_, _, h, _⟩, _⟩ := h; cases h))
  intro v7 I8 H9 hle10 hp11
  have ht := ht.mono hle10
  have hps1 := hps1.mono hle10
  obtain ⟨⟨p2, c2, h, hps2⟩, rfl⟩ := hp11; cases h
  refine J.y (yl_move rfl rfl) rfl rfl rfl ?_
  refine J.y (yl_extract rfl rfl rfl) rfl rfl rfl ?_
  refine J.y (yl_extract rfl rfl rfl) rfl rfl rfl ?_
  refine J.y (yl_extract rfl rfl rfl) rfl rfl rfl ?_
  refine J.op rfl (op_alloc rfl rfl rfl Tryz.zeroValue28 rfl ?_)
  intro b12 hb12
  refine J.op rfl (op_store 0 rfl rfl rfl rfl rfl rfl Tryz.sizeOf28 rfl rfl (LSpl.c (LSpl.c (LSpl.c (LSpl.c (LSpl.c LSpl.z))))) LSet.z ?_)
  refine J.y (yl_assign rfl rfl) rfl rfl rfl ?_
  refine J.y (yl_assign rfl rfl) rfl rfl rfl ?_
  refine J.nil ?_
  refine Ej.seq ?_
  refine Cj.seq ?_
  refine Cj.region ?_
  refine J.y (yl_move rfl rfl) rfl rfl rfl ?_
  refine J.y (yl_move rfl rfl) rfl rfl rfl ?_
  refine J.y (yl_eql rfl rfl rfl) rfl rfl rfl ?_
  refine J.y (yl_move rfl rfl) rfl rfl rfl ?_
  refine J.opG 3 24 true _ rfl rfl rfl (by simp) (op_yld (yl_move rfl rfl) rfl rfl ?_)
  refine J.opG 3 24 true _ rfl rfl rfl (by simp) (op_yld (yl_move rfl rfl) rfl rfl ?_)
  refine J.opG 3 24 true _ rfl rfl rfl (by simp) (op_yld (yl_eql rfl rfl rfl) rfl rfl ?_)
  refine J.y (yl_pick1 rfl rfl (by simp) rfl) rfl rfl rfl ?_
  refine J.y (yl_move rfl rfl) rfl rfl rfl ?_
  refine J.opG 8 29 true _ rfl rfl rfl (by simp) (op_yld (yl_loadAgg rfl rfl Tryz.isAgg28 Tryz.sizeOf28 (Blk.at 1 rfl) rfl rfl) rfl rfl ?_)
  refine J.opG 8 29 true _ rfl rfl rfl (by simp) (op_yld (yl_loadAgg rfl rfl Tryz.isAgg28 Tryz.sizeOf28 (Blk.at 0 rfl) rfl rfl) rfl rfl ?_)
  refine J.opG 8 29 true _ rfl rfl rfl (by simp) (op_pure rfl rfl rfl rfl rfl (Same_ok q q p1 p2 c1 c2 _ hps1 hps2 hsz) ?_)
  refine J.y (yl_pick1 rfl rfl (by simp) rfl) rfl rfl rfl ?_
  refine J.y (yl_assign rfl rfl) rfl rfl rfl ?_
  refine J.nil ?_
  refine Ej.seq ?_
  refine Cj.ret ?_
  refine Ej.bare ?_
  refine Ej.ret1 rfl rfl rfl ?_
  refine ⟨?_, rfl⟩
  simp

set_option maxRecDepth 20000 in
theorem fails_ok (s : List UInt8) (p er : Nat) (hs : s.length ≤ 100000000) (hp : Cq.parse s = (Cq.zero, p, er)) (I : Heap) (ht : Tabs I) : Pure Tryz.prog 25 [str s, i64 p, i64 er] I (.bool true) := by
  refine Ctr.toPure ?_
  refine Ctr.of_body Tryz.func25 rfl (by decide) (Nat.le_of_ble_eq_true rfl) ?_
  intro w0 hw0
  refine Cj.seq ?_
  refine Cj.region ?_
  refine J.y (yl_assign rfl rfl) rfl rfl rfl ?_
  refine J.nil ?_
  refine Ej.seq ?_
  refine Cj.seq ?_
  refine Cj.region ?_
  refine J.y (yl_move rfl rfl) rfl rfl rfl ?_
  refine J.op rfl (op_call (H1 := []) rfl rfl rfl rfl rfl (cParse_at s (by omega) Cq.zero p er hp _ ht) ?_ (fun _ _ _ _ h => by obtain ⟨⟨_, _, h, _⟩, _⟩ := h; cases h) (fun _ _ h => by obtain ⟨⟨_, _, h, _⟩, _⟩ := h; cases h))
  intro v1 I2 H3 hle4 hp5
  have ht := ht.mono hle4
  obtain ⟨⟨p1, c1, h, hps1⟩, rfl⟩ := hp5; cases h
  refine J.y (yl_move rfl rfl) rfl rfl rfl ?_
  refine J.y (yl_extract rfl rfl rfl) rfl rfl rfl ?_
  refine J.y (yl_extract rfl rfl rfl) rfl rfl rfl ?_
  refine J.y (yl_extract rfl rfl rfl) rfl rfl rfl ?_
  refine J.op rfl (op_alloc rfl rfl rfl Tryz.zeroValue28 rfl ?_)
  intro b6 hb6
  refine J.op rfl (op_store 0 rfl rfl rfl rfl rfl rfl Tryz.sizeOf28 rfl rfl (LSpl.c (LSpl.c (LSpl.c (LSpl.c (LSpl.c LSpl.z))))) LSet.z ?_)
  refine J.y (yl_assign rfl rfl) rfl rfl rfl ?_
  refine J.y (yl_assign rfl rfl) rfl rfl rfl ?_
  refine J.nil ?_
  refine Ej.seq ?_
  refine Cj.seq ?_
  refine Cj.region ?_
  refine J.y (yl_move rfl rfl) rfl rfl rfl ?_
  refine J.y (yl_move rfl rfl) rfl rfl rfl ?_
  refine J.y (yl_eql rfl rfl rfl) rfl rfl rfl ?_
  refine J.y (yl_move rfl rfl) rfl rfl rfl ?_
  refine J.opG 3 19 true _ rfl rfl rfl (by simp) (op_yld (yl_move rfl rfl) rfl rfl ?_)
  refine J.opG 3 19 true _ rfl rfl rfl (by simp) (op_yld (yl_move rfl rfl) rfl rfl ?_)
  refine J.opG 3 19 true _ rfl rfl rfl (by simp) (op_yld (yl_eql rfl rfl rfl) rfl rfl ?_)
  refine J.y (yl_pick1 rfl rfl (by simp) rfl) rfl rfl rfl ?_
  refine J.y (yl_move rfl rfl) rfl rfl rfl ?_
  refine J.opG 8 24 true _ rfl rfl rfl (by simp) (op_yld (yl_loadAgg rfl rfl Tryz.isAgg28 Tryz.sizeOf28 (Blk.at 0 rfl) rfl rfl) rfl rfl ?_)
  refine J.opG 8 24 true _ rfl rfl rfl (by simp) (op_yld (yl_buildS (pl := #[(0, 1), (1, 1), (2, 1), (3, 1), (4, 1)]) rfl rfl Tryz.zeroValue28 rfl Tryz.underlying28 (fun w => by simp [Tryz.sizeOf26, Tryz.sizeOf3, Tryz.sizeOf9]) LBld.none) rfl rfl ?_)
  refine J.opG 8 24 true _ rfl rfl rfl (by simp) (op_pure rfl rfl rfl rfl rfl (Same_ok Cq.zero Cq.zero p1 none c1 0 _ hps1 (.inl rfl) (by decide)) ?_)
  refine J.y (yl_pick1 rfl rfl (by simp) rfl) rfl rfl rfl ?_
  refine J.y (yl_assign rfl rfl) rfl rfl rfl ?_
  refine J.nil ?_
  refine Ej.seq ?_
  refine Cj.ret ?_
  refine Ej.bare ?_
  refine Ej.ret1 rfl rfl rfl ?_
  refine ⟨?_, rfl⟩
  simp

def txa : List UInt8 := [99, 97, 116]
def txb : List UInt8 := [116, 105, 116, 108, 101, 32, 97, 110, 121, 32, 34, 116, 104, 101, 32, 99, 97, 116, 34, 32, 65, 78, 68, 32, 40, 121, 101, 97, 114, 32, 62, 61, 32, 49, 57, 57, 48, 32, 111, 114, 32, 100, 111, 103, 41, 32, 110, 111, 116, 32, 120]
def txc : List UInt8 := [116, 105, 116, 108, 101, 32, 97, 110, 121, 32, 34, 116, 104, 101, 32, 99, 97, 116, 34, 32, 97, 110, 100, 32, 40, 121, 101, 97, 114, 32, 62, 61, 32, 34, 49, 57, 57, 48, 34, 32, 111, 114, 32, 97, 110, 121, 32, 61, 32, 34, 100, 111, 103, 34, 41, 32, 110, 111, 116, 32, 97, 110, 121, 32, 61, 32, 34, 120, 34]
def txd : List UInt8 := [116, 105, 116, 108, 101, 32, 61, 32, 34, 97, 92, 34, 98, 34]
def qcat : Cq.Qn := ⟨1, [97, 110, 121], [61], [99, 97, 116], .nil⟩
def qab : Cq.Qn := ⟨1, [116, 105, 116, 108, 101], [61], [97, 34, 98], .nil⟩
theorem pa_eq : Cq.parse txa = (qcat, 0, 0) := by kernel_rfl
theorem pb_eq : (Cq.parse txb).2 = (0, 0) := by kernel_rfl
def qb : Cq.Qn := (Cq.parse txb).1
theorem pb_eq' : Cq.parse txb = (qb, 0, 0) := Prod.ext rfl pb_eq
theorem qb_k : qb.k = 4 := by kernel_rfl
theorem qb_print : Cq.print qb = txc := by kernel_rfl
theorem qb_size : qb.size ≤ 1000 ∧ qb.wide ≤ 1000 ∧ (Cq.write qb).length ≤ 1000 := by decide +kernel
theorem qab_print : Cq.print qab = txd := by kernel_rfl
theorem qab_size : qab.size ≤ 1000 ∧ qab.wide ≤ 1000 ∧ (Cq.write qab).length ≤ 1000 := by decide +kernel
theorem f0_eq : Cq.parse [99, 97, 116, 32, 97, 110, 100] = (Cq.zero, 7, 40) := by kernel_rfl
theorem f1_eq : Cq.parse [40, 99, 97, 116] = (Cq.zero, 4, 40) := by kernel_rfl
theorem f2_eq : Cq.parse [99, 111, 108, 111, 114, 32, 61, 32, 114, 101, 100] = (Cq.zero, 0, 42) := by kernel_rfl
theorem f3_eq : Cq.parse [99, 97, 116, 32, 100, 111, 103] = (Cq.zero, 4, 40) := by kernel_rfl
theorem f4_eq : Cq.parse [116, 105, 116, 108, 101, 32, 61, 32, 97, 110, 100] = (Cq.zero, 8, 40) := by kernel_rfl
set_option maxRecDepth 20000 in
theorem sanity_ok (I : Heap) (ht : Tabs I) : Pure Tryz.prog 12 [] I (.bool true) := by
  refine Ctr.toPure ?_
  have hqb := qb_size
  have hqab := qab_size
  refine Ctr.of_body Tryz.func12 rfl (by decide) (Nat.le_of_ble_eq_true rfl) ?_
  intro w0 hw0
  refine Cj.seq ?_
  refine Cj.region ?_
  refine J.y (yl_assign rfl rfl) rfl rfl rfl ?_
  refine J.nil ?_
  refine Ej.seq ?_
  refine Cj.seq ?_
  refine Cj.region ?_
  refine J.op rfl (op_call (H1 := []) rfl rfl rfl rfl rfl (cParse_at txa (by decide) qcat 0 0 pa_eq _ ht) ?_ (fun _ _ _ _ h => by obtain ⟨⟨_, _, h, _⟩, _⟩ := h; cases h) (fun _ _ h => by obtain ⟨⟨_, _, h, _⟩, _⟩ := h; cases h))
  intro v1 I2 H3 hle4 hp5
  have ht := ht.mono hle4
  obtain ⟨⟨p1, c1, h, hps1⟩, rfl⟩ := hp5; cases h
  refine J.y (yl_move rfl rfl) rfl rfl rfl ?_
  refine J.y (yl_extract rfl rfl rfl) rfl rfl rfl ?_
  refine J.y (yl_extract rfl rfl rfl) rfl rfl rfl ?_
  refine J.y (yl_extract rfl rfl rfl) rfl rfl rfl ?_
  refine J.op rfl (op_alloc rfl rfl rfl Tryz.zeroValue28 rfl ?_)
  intro b6 hb6
  refine J.op rfl (op_store 0 rfl rfl rfl rfl rfl rfl Tryz.sizeOf28 rfl rfl (LSpl.c (LSpl.c (LSpl.c (LSpl.c (LSpl.c LSpl.z))))) LSet.z ?_)
  refine J.y (yl_assign rfl rfl) rfl rfl rfl ?_
  refine J.y (yl_assign rfl rfl) rfl rfl rfl ?_
  refine J.nil ?_
  refine Ej.seq ?_
  refine Cj.seq ?_
  refine Cj.region ?_
  refine J.op rfl (op_call (H1 := []) rfl rfl rfl rfl rfl (cParse_at txb (by decide) qb 0 0 pb_eq' _ ht) ?_ (fun _ _ _ _ h => by obtain ⟨⟨_, _, h, _⟩, _⟩ := h; cases h) (fun _ _ h => by obtain ⟨⟨_, _, h, _⟩, _⟩ := h; cases h))
  intro v7 I8 H9 hle10 hp11
  have ht := ht.mono hle10
  have hps1 := hps1.mono hle10
  obtain ⟨⟨p2, c2, h, hps2⟩, rfl⟩ := hp11; cases h
  refine J.y (yl_move rfl rfl) rfl rfl rfl ?_
  refine J.y (yl_extract rfl rfl rfl) rfl rfl rfl ?_
  refine J.y (yl_extract rfl rfl rfl) rfl rfl rfl ?_
  refine J.y (yl_extract rfl rfl rfl) rfl rfl rfl ?_
  refine J.op rfl (op_alloc rfl rfl rfl Tryz.zeroValue28 rfl ?_)
  intro b12 hb12
  refine J.op rfl (op_store 0 rfl rfl rfl rfl rfl rfl Tryz.sizeOf28 rfl rfl (LSpl.c (LSpl.c (LSpl.c (LSpl.c (LSpl.c LSpl.z))))) LSet.z ?_)
  refine J.y (yl_assign rfl rfl) rfl rfl rfl ?_
  refine J.y (yl_assign rfl rfl) rfl rfl rfl ?_
  refine J.nil ?_
  refine Ej.seq ?_
  refine Cj.seq ?_
  refine Cj.region ?_
  refine J.y (yl_move rfl rfl) rfl rfl rfl ?_
  refine J.y (yl_eql rfl rfl rfl) rfl rfl rfl ?_
  refine J.y (yl_move rfl rfl) rfl rfl rfl ?_
  refine J.opG 2 22 true _ rfl rfl rfl (by first | rfl | decide) (op_yld (yl_move rfl rfl) rfl rfl ?_)
  refine J.opG 2 22 true _ rfl rfl rfl (by first | rfl | decide) (op_yld (yl_eql rfl rfl rfl) rfl rfl ?_)
  refine J.y (yl_pick1 rfl rfl (by first | rfl | decide) rfl) rfl rfl rfl ?_
  refine J.y (yl_move rfl rfl) rfl rfl rfl ?_
  refine J.opG 6 26 true _ rfl rfl rfl (by first | rfl | decide) (op_yld (yl_loadAgg rfl rfl Tryz.isAgg28 Tryz.sizeOf28 (Blk.at 1 rfl) rfl rfl) rfl rfl ?_)
  refine J.opG 6 26 true _ rfl rfl rfl (by first | rfl | decide) (op_yld (yl_buildS (pl := #[(0, 1), (1, 1), (2, 1), (3, 1), (4, 1)]) rfl rfl Tryz.zeroValue28 rfl Tryz.underlying28 (fun w => by simp [Tryz.sizeOf26, Tryz.sizeOf3, Tryz.sizeOf9]) (LBld.part rfl rfl rfl (LSpl.c LSpl.z) (LBld.part rfl rfl rfl (LSpl.s (LSpl.c LSpl.z)) (LBld.part rfl rfl rfl (LSpl.s (LSpl.s (LSpl.c LSpl.z))) (LBld.part rfl rfl rfl (LSpl.s (LSpl.s (LSpl.s (LSpl.c LSpl.z)))) LBld.none))))) rfl rfl ?_)
  refine J.opG 6 26 true _ rfl rfl rfl (by first | rfl | decide) (op_pure rfl rfl rfl rfl rfl (Same_ok qcat qcat p1 none c1 0 _ hps1 (.inl rfl) (by decide)) ?_)
  refine J.y (yl_pick1 rfl rfl (by first | rfl | decide) rfl) rfl rfl rfl ?_
  refine J.y (yl_move rfl rfl) rfl rfl rfl ?_
  refine J.opG 11 31 true _ rfl rfl rfl (by simp) (op_yld (yl_fieldAddr (off' := 0) rfl rfl Tryz.underlying28 rfl Tryz.sizeOf3 rfl) rfl rfl ?_)
  refine J.opG 11 31 true _ rfl rfl rfl (by simp) (op_yld (yl_load rfl rfl Tryz.isAgg3 (Blk.at 0 rfl) rfl) rfl rfl ?_)
  refine J.opG 11 31 true _ rfl rfl rfl (by simp) (op_yld (yl_eql rfl rfl rfl) rfl rfl ?_)
  refine J.y (yl_pick1 rfl rfl (by simp) rfl) rfl rfl rfl ?_
  refine J.y (yl_assign rfl rfl) rfl rfl rfl ?_
  refine J.nil ?_
  refine Ej.seq ?_
  refine Cj.seq ?_
  refine Cj.region ?_
  refine J.y (yl_loadAgg rfl rfl Tryz.isAgg28 Tryz.sizeOf28 (Blk.at 0 rfl) rfl rfl) rfl rfl rfl ?_
  refine J.op rfl (op_pure rfl rfl rfl rfl rfl (cPrint_ok qb p2 c2 (by omega) (by omega) (fun _ => by omega) _ hps2) ?_)
  refine J.y (yl_eqlStr rfl rfl rfl) rfl rfl rfl ?_
  refine J.y (yl_assign rfl rfl) rfl rfl rfl ?_
  refine J.nil ?_
  refine Ej.seq ?_
  refine Cj.seq ?_
  refine Cj.region ?_
  refine J.op rfl (op_pure rfl rfl rfl rfl rfl (fails_ok [99, 97, 116, 32, 97, 110, 100] 7 40 (by decide) f0_eq _ ht) ?_)
  refine J.y (yl_move rfl rfl) rfl rfl rfl ?_
  refine J.opG 1 40 true _ rfl rfl rfl rfl (op_pure rfl rfl rfl rfl rfl (fails_ok [40, 99, 97, 116] 4 40 (by decide) f1_eq _ ht) ?_)
  refine J.y (yl_pick1 rfl rfl rfl rfl) rfl rfl rfl ?_
  refine J.y (yl_move rfl rfl) rfl rfl rfl ?_
  refine J.opG 4 43 true _ rfl rfl rfl rfl (op_pure rfl rfl rfl rfl rfl (fails_ok [99, 111, 108, 111, 114, 32, 61, 32, 114, 101, 100] 0 42 (by decide) f2_eq _ ht) ?_)
  refine J.y (yl_pick1 rfl rfl rfl rfl) rfl rfl rfl ?_
  refine J.y (yl_move rfl rfl) rfl rfl rfl ?_
  refine J.opG 7 46 true _ rfl rfl rfl rfl (op_pure rfl rfl rfl rfl rfl (fails_ok [99, 97, 116, 32, 100, 111, 103] 4 40 (by decide) f3_eq _ ht) ?_)
  refine J.y (yl_pick1 rfl rfl rfl rfl) rfl rfl rfl ?_
  refine J.y (yl_move rfl rfl) rfl rfl rfl ?_
  refine J.opG 10 49 true _ rfl rfl rfl rfl (op_pure rfl rfl rfl rfl rfl (fails_ok [116, 105, 116, 108, 101, 32, 61, 32, 97, 110, 100] 8 40 (by decide) f4_eq _ ht) ?_)
  refine J.y (yl_pick1 rfl rfl rfl rfl) rfl rfl rfl ?_
  refine J.y (yl_assign rfl rfl) rfl rfl rfl ?_
  refine J.nil ?_
  refine Ej.seq ?_
  refine Cj.seq ?_
  refine Cj.region ?_
  refine J.y (yl_move rfl rfl) rfl rfl rfl ?_
  refine J.y (yl_move rfl rfl) rfl rfl rfl ?_
  refine J.opG 1 53 true _ rfl rfl rfl (by rw [qb_k]; rfl) (op_yld (yl_move rfl rfl) rfl rfl ?_)
  refine J.y (yl_pick1 rfl rfl (by rw [qb_k]; rfl) rfl) rfl rfl rfl ?_
  refine J.y (yl_move rfl rfl) rfl rfl rfl ?_
  refine J.opG 4 56 true _ rfl rfl rfl (by rw [qb_print]; decide) (op_yld (yl_move rfl rfl) rfl rfl ?_)
  refine J.y (yl_pick1 rfl rfl (by rw [qb_print]; decide) rfl) rfl rfl rfl ?_
  refine J.y (yl_move rfl rfl) rfl rfl rfl ?_
  refine J.opG 7 59 true _ rfl rfl rfl rfl (op_yld (yl_buildS (pl := #[(0, 1), (1, 1), (2, 1), (3, 1), (4, 1)]) rfl rfl Tryz.zeroValue28 rfl Tryz.underlying28 (fun w => by simp [Tryz.sizeOf26, Tryz.sizeOf3, Tryz.sizeOf9]) (LBld.part rfl rfl rfl (LSpl.c LSpl.z) (LBld.part rfl rfl rfl (LSpl.s (LSpl.c LSpl.z)) (LBld.part rfl rfl rfl (LSpl.s (LSpl.s (LSpl.c LSpl.z))) (LBld.part rfl rfl rfl (LSpl.s (LSpl.s (LSpl.s (LSpl.c LSpl.z)))) LBld.none))))) rfl rfl ?_)
  refine J.opG 7 59 true _ rfl rfl rfl rfl (op_pure rfl rfl rfl rfl rfl (cPrint_ok qab none 0 (by omega) (by omega) (fun _ => by omega) _ (.inl rfl)) ?_)
  refine J.opG 7 59 true _ rfl rfl rfl rfl (op_yld (yl_eqlStr rfl rfl rfl) rfl rfl ?_)
  refine J.y (yl_pick1 rfl rfl rfl rfl) rfl rfl rfl ?_
  refine J.y (yl_assign rfl rfl) rfl rfl rfl ?_
  refine J.nil ?_
  refine Ej.seq ?_
  refine Cj.ret ?_
  refine Ej.bare ?_
  refine Ej.ret1 rfl rfl rfl ?_
  refine ⟨?_, rfl⟩
  rw [qab_print]; rfl

set_option maxRecDepth 20000 in
theorem Parses_ok (s : List UInt8) (l m : List Int) (v u : Value) (hs : s.length ≤ 100000000) (I : Heap) (ht : Tabs I) (hl : IntSl I l v) (hm : IntSl I m u) : Pure Tryz.prog 3 [str s, v, u] I (.bool true) := by
  refine Ctr.toPure ?_
  obtain ⟨hf, hd, hw, hz⟩ := Cq.madeQ_form m
  have hsl := Cq.soup_len l
  have hpr : (Cq.print (Cq.madeQ m)).length ≤ 10000 := by unfold Cq.print; split <;> first | omega | simp
  refine Ctr.of_body Tryz.func3 rfl (by decide) (Nat.le_of_ble_eq_true rfl) ?_
  intro w0 hw0
  refine Cj.seq ?_
  refine Cj.region ?_
  refine J.y (yl_assign rfl rfl) rfl rfl rfl ?_
  refine J.nil ?_
  refine Ej.seq ?_
  refine Cj.seq ?_
  refine Cj.region ?_
  refine J.op rfl (op_pure rfl rfl rfl rfl rfl (sanity_ok _ ht) ?_)
  refine J.y (yl_assign rfl rfl) rfl rfl rfl ?_
  refine J.nil ?_
  refine Ej.seq ?_
  refine Cj.seq ?_
  refine Cj.region ?_
  refine J.y (yl_move rfl rfl) rfl rfl rfl ?_
  refine J.op rfl (op_pure rfl rfl rfl rfl rfl (Soup_ok v l _ hl) ?_)
  refine J.y (yl_assign rfl rfl) rfl rfl rfl ?_
  refine J.nil ?_
  refine Ej.seq ?_
  refine Cj.seq ?_
  refine Cj.region ?_
  refine J.y (yl_move rfl rfl) rfl rfl rfl ?_
  refine J.op rfl (op_call (H1 := []) rfl rfl rfl rfl rfl (Made_ok u m _ hm) ?_ (fun _ _ _ _ h => by obtain ⟨⟨_, h, _⟩, _⟩ := h; cases h) (fun _ _ h => by obtain ⟨⟨_, h, _⟩, _⟩ := h; cases h))
  intro v1 I2 H3 hle4 hp5
  have ht := ht.mono hle4
  have hl := hl.mono hle4
  have hm := hm.mono hle4
  obtain ⟨⟨w, h, pp, cc, rfl, hps⟩, rfl⟩ := hp5; cases h
  refine J.op rfl (op_pure rfl rfl rfl rfl rfl (Print_ok (Cq.madeQ m) pp cc (by omega) (fun _ => by omega) _ hps) ?_)
  refine J.y (yl_assign rfl rfl) rfl rfl rfl ?_
  refine J.nil ?_
  refine Ej.seq ?_
  refine Cj.seq ?_
  refine Cj.region ?_
  refine J.y (yl_move rfl rfl) rfl rfl rfl ?_
  refine J.y (yl_move rfl rfl) rfl rfl rfl ?_
  refine J.opG 1 17 true _ rfl rfl rfl rfl (op_yld (yl_move rfl rfl) rfl rfl ?_)
  refine J.opG 1 17 true _ rfl rfl rfl rfl (op_pure rfl rfl rfl rfl rfl (agrees_ok _ (by first | omega | (simp; omega)) _ ht) ?_)
  refine J.y (yl_pick1 rfl rfl rfl rfl) rfl rfl rfl ?_
  refine J.y (yl_move rfl rfl) rfl rfl rfl ?_
  refine J.opG 5 21 true _ rfl rfl rfl rfl (op_yld (yl_move rfl rfl) rfl rfl ?_)
  refine J.opG 5 21 true _ rfl rfl rfl rfl (op_pure rfl rfl rfl rfl rfl (agrees_ok _ (by first | omega | (simp; omega)) _ ht) ?_)
  refine J.y (yl_pick1 rfl rfl rfl rfl) rfl rfl rfl ?_
  refine J.y (yl_move rfl rfl) rfl rfl rfl ?_
  refine J.opG 9 25 true _ rfl rfl rfl rfl (op_yld (yl_move rfl rfl) rfl rfl ?_)
  refine J.opG 9 25 true _ rfl rfl rfl rfl (op_yld (yl_cat rfl rfl rfl (by first | omega | (simp only [List.length_append]; omega) | (simp; omega))) rfl rfl ?_)
  refine J.opG 9 25 true _ rfl rfl rfl rfl (op_yld (yl_move rfl rfl) rfl rfl ?_)
  refine J.opG 9 25 true _ rfl rfl rfl rfl (op_yld (yl_cat rfl rfl rfl (by first | omega | (simp only [List.length_append]; omega) | (simp; omega))) rfl rfl ?_)
  refine J.opG 9 25 true _ rfl rfl rfl rfl (op_pure rfl rfl rfl rfl rfl (agrees_ok _ (by first | omega | (simp; omega)) _ ht) ?_)
  refine J.y (yl_pick1 rfl rfl rfl rfl) rfl rfl rfl ?_
  refine J.y (yl_move rfl rfl) rfl rfl rfl ?_
  refine J.opG 16 32 true _ rfl rfl rfl rfl (op_yld (yl_move rfl rfl) rfl rfl ?_)
  refine J.opG 16 32 true _ rfl rfl rfl rfl (op_yld (yl_cat rfl rfl rfl (by first | omega | (simp only [List.length_append]; omega) | (simp; omega))) rfl rfl ?_)
  refine J.opG 16 32 true _ rfl rfl rfl rfl (op_yld (yl_cat rfl rfl rfl (by first | omega | (simp only [List.length_append]; omega) | (simp; omega))) rfl rfl ?_)
  refine J.opG 16 32 true _ rfl rfl rfl rfl (op_yld (yl_move rfl rfl) rfl rfl ?_)
  refine J.opG 16 32 true _ rfl rfl rfl rfl (op_yld (yl_cat rfl rfl rfl (by first | omega | (simp only [List.length_append]; omega) | (simp; omega))) rfl rfl ?_)
  refine J.opG 16 32 true _ rfl rfl rfl rfl (op_pure rfl rfl rfl rfl rfl (agrees_ok _ (by first | omega | (simp; omega)) _ ht) ?_)
  refine J.y (yl_pick1 rfl rfl rfl rfl) rfl rfl rfl ?_
  refine J.y (yl_assign rfl rfl) rfl rfl rfl ?_
  refine J.nil ?_
  refine Ej.seq ?_
  refine Cj.ret ?_
  refine Ej.ret1 rfl rfl rfl ?_
  exact ⟨rfl, rfl⟩

end Go.Proofs.YtlfpehljahgbkaaGreatDoor
