/-
  Contracts of strings.Builder: copyCheck, WriteByte, WriteString, String. Own text, printed by a program. Conditions: none.
-/
import Derived.Test.YtnogdccoekfnoaaGreatDoorSxLib
import Derived.Test.YtnogdccoekfnoaaGreatDoorChecked
namespace Go.Proofs.YtnogdccoekfnoaaGreatDoor
open Go Go.Sx
/-- A builder that holds the bytes l; p: it has been used. -/
def BldH (b : Nat) (l : List UInt8) (p : Bool) (g : Gs) : HL := (b, cel 89 [if p then ptr b 0 else .pointer none, gV l.length g]) :: gH 5 (bcs l) g
set_option maxRecDepth 20000 in
theorem copyCheck_fresh (b : Nat) (v : Value) (I : Heap) : Ctr Tryz.prog 85 [ptr b 0] I [(b, cel 89 [.pointer none, v])] (fun e _I' H' => e = .returned (.tuple #[]) ∧ H' = [(b, cel 89 [ptr b 0, v])]) := by
 refine Ctr.of_body Tryz.func85 rfl (by decide) (Nat.le_of_ble_eq_true rfl) ?_
 intro w0 hw0
 refine Cj.seq (Cj.region (J.z (yl_move rfl rfl) ?_))
 refine J.z (yl_nilCheck rfl rfl) ?_
 refine J.z (yl_fieldAddr (off' := 0) rfl rfl Tryz.underlying89 rfl Tryz.sizeOf87 rfl) ?_
 refine J.z (yl_load rfl rfl Tryz.isAgg87 (Blk.at 0 rfl) rfl) ?_
 refine J.z (yl_eqlNil _ rfl rfl rfl Tryz.underlying87 (by kernel_rfl)) ?_
 refine J.nil (Ej.seq (Cj.cond rfl (fun hc1 => ?_) (fun hc1 => Bool.noConfusion (Eq.trans (Eq.symm rfl) hc1))))
 refine Cj.region (J.z (yl_move rfl rfl) ?_)
 refine J.z (yl_move rfl rfl) ?_
 refine J.z (yl_toUnsafe 1 rfl rfl Tryz.underlying87 Tryz.underlying164 (by kernel_rfl) (Blk.at 0 rfl) (by simp)) ?_
 refine J.z (yl_noEscape rfl rfl rfl Tryz.func117 (by kernel_rfl) (by kernel_rfl) (by kernel_rfl) (by kernel_rfl)) ?_
 refine J.z (yl_fromUnsafe rfl rfl Tryz.underlying164 Tryz.underlying87 (by kernel_rfl) (Blk.at 0 rfl) (by kernel_rfl)) ?_
 refine J.z (yl_nilCheck rfl rfl) ?_
 refine J.z (yl_fieldAddr (off' := 0) rfl rfl Tryz.underlying89 rfl Tryz.sizeOf87 rfl) ?_
 refine J.op rfl (op_store 0 rfl rfl rfl rfl rfl rfl Tryz.sizeOf87 rfl rfl (LSpl.c LSpl.z) LSet.z ?_)
 refine J.nil (Ej.end0 rfl rfl ?_)
 exact ⟨rfl, rfl⟩

set_option maxRecDepth 20000 in
theorem copyCheck_used (b : Nat) (v : Value) (I : Heap) : Ctr Tryz.prog 85 [ptr b 0] I [(b, cel 89 [ptr b 0, v])] (fun e _I' H' => e = .returned (.tuple #[]) ∧ H' = [(b, cel 89 [ptr b 0, v])]) := by
 refine Ctr.of_body Tryz.func85 rfl (by decide) (Nat.le_of_ble_eq_true rfl) ?_
 intro w0 hw0
 refine Cj.seq (Cj.region (J.z (yl_move rfl rfl) ?_))
 refine J.z (yl_nilCheck rfl rfl) ?_
 refine J.z (yl_fieldAddr (off' := 0) rfl rfl Tryz.underlying89 rfl Tryz.sizeOf87 rfl) ?_
 refine J.z (yl_load rfl rfl Tryz.isAgg87 (Blk.at 0 rfl) rfl) ?_
 refine J.z (yl_eqlNil _ rfl rfl rfl Tryz.underlying87 (by kernel_rfl)) ?_
 refine J.nil (Ej.seq (Cj.cond rfl (fun hc1 => Bool.noConfusion (Eq.trans (Eq.symm rfl) hc1)) (fun hc1 => ?_)))
 refine Cj.seq (Cj.region (J.z (yl_move rfl rfl) ?_))
 refine J.z (yl_nilCheck rfl rfl) ?_
 refine J.z (yl_fieldAddr (off' := 0) rfl rfl Tryz.underlying89 rfl Tryz.sizeOf87 rfl) ?_
 refine J.z (yl_load rfl rfl Tryz.isAgg87 (Blk.at 0 rfl) rfl) ?_
 refine J.z (yl_move rfl rfl) ?_
 refine J.z (yl_neqSame rfl rfl rfl Tryz.underlying87 (by kernel_rfl)) ?_
 refine J.nil (Ej.seq (Cj.cond rfl (fun hc2 => Bool.noConfusion (Eq.trans (Eq.symm rfl) hc2)) (fun hc2 => ?_)))
 refine Cj.skip (Ej.end0 rfl rfl ?_)
 exact ⟨rfl, rfl⟩

theorem copyCheck_ok (b : Nat) (p : Bool) (v : Value) (I : Heap) : Ctr Tryz.prog 85 [ptr b 0] I [(b, cel 89 [if p then ptr b 0 else .pointer none, v])] (fun e _I' H' => e = .returned (.tuple #[]) ∧ H' = [(b, cel 89 [ptr b 0, v])]) := by
  cases p
  · exact copyCheck_fresh b v I
  · exact copyCheck_used b v I

set_option maxRecDepth 20000 in
theorem WriteByte_ok (b : Nat) (l : List UInt8) (c : UInt8) (p : Bool) (g : Gs) (hg : gOk 0 1 l.length (bcs l) g) (hl : l.length ≤ 1000000000000) (I : Heap) :
    Ctr Tryz.prog 74 [ptr b 0, u8 c] I (BldH b l p g) (fun e _I' H' => e = .returned .nilIface ∧ ∃ g', gOk 0 1 (l ++ [c]).length (bcs (l ++ [c])) g' ∧ H' = BldH b (l ++ [c]) true g') := by
 refine Ctr.of_body Tryz.func74 rfl (by decide) (Nat.le_of_ble_eq_true rfl) ?_
 intro w0 hw0
 refine Cj.seq (Cj.region (J.z (yl_assign rfl rfl) ?_))
 refine J.nil (Ej.seq (Cj.seq (Cj.region (J.z (yl_move rfl rfl) ?_))))
 refine J.pull Pull.z ?_
 refine J.op rfl (op_call (H1 := [_]) rfl rfl rfl rfl rfl (copyCheck_ok b p _ _) ?_ (fun _ _ _ _ h => by cases h.1) (fun _ _ h => by cases h.1))
 intro v1 I2 H3 hle4 hp5
 obtain ⟨hv1, rfl⟩ := hp5; cases hv1
 refine J.nil (Ej.seq (Cj.seq (Cj.region (J.z (yl_move rfl rfl) ?_))))
 refine J.z (yl_move rfl rfl) ?_
 refine J.z (yl_nilCheck rfl rfl) ?_
 refine J.z (yl_fieldAddr (off' := 1) rfl rfl Tryz.underlying89 rfl Tryz.sizeOf46 rfl) ?_
 refine J.z (yl_load rfl rfl Tryz.isAgg46 (Blk.at 0 rfl) rfl) ?_
 refine J.z (yl_move rfl rfl) ?_
 refine J.op rfl (op_buildSlice rfl rfl rfl Tryz.underlying46 Tryz.sizeOf5 Tryz.zeroValue5 rfl rfl rfl rfl (LCat.one rfl LCat.none) ?_)
 intro b6 hb6
 refine J.op rfl (op_appendB 0 (Nat.zero_le _) (by' := 0) [_, _] rfl rfl rfl rfl rfl Tryz.underlying46 (.inr ⟨_, Tryz.underlying46⟩) (by kernel_rfl) Tryz.sizeOf5 Tryz.zeroValue5 rfl hg rfl (Src.slice (Blk.at 0 rfl) rfl rfl rfl) (by omega) ?_)
 intro g7 hg7
 refine J.z (yl_nilCheck rfl rfl) ?_
 refine J.z (yl_fieldAddr (off' := 1) rfl rfl Tryz.underlying89 rfl Tryz.sizeOf46 rfl) ?_
 refine J.op rfl (op_store 1 rfl rfl rfl rfl (gV_cells _ _) (gV_one _ _) Tryz.sizeOf46 rfl rfl (LSpl.s (LSpl.c LSpl.z)) (LSet.s LSet.z) ?_)
 refine J.nil (Ej.seq (Cj.seq (Cj.region (J.z (yl_assign rfl rfl) ?_))))
 refine J.nil (Ej.seq (Cj.ret (Ej.keep (Keeps.d (Keeps.k Keeps.r)) ?_)))
 refine Ej.ret1 rfl rfl rfl ?_
 exact ⟨rfl, g7, by simpa [bcs] using hg7, by simp [BldH, bcs]⟩

set_option maxRecDepth 20000 in
theorem WriteString_ok (b : Nat) (l s : List UInt8) (p : Bool) (g : Gs) (hg : gOk 0 1 l.length (bcs l) g) (hl : l.length ≤ 1000000000000) (hs : s.length ≤ 1000000000000) (I : Heap) :
    Ctr Tryz.prog 58 [ptr b 0, str s] I (BldH b l p g) (fun e _I' H' => e = .returned (.tuple #[i64 s.length, .nilIface]) ∧ ∃ g', gOk 0 1 (l ++ s).length (bcs (l ++ s)) g' ∧ H' = BldH b (l ++ s) true g') := by
 refine Ctr.of_body Tryz.func58 rfl (by decide) (Nat.le_of_ble_eq_true rfl) ?_
 intro w0 hw0
 refine Cj.seq (Cj.region (J.z (yl_assign rfl rfl) ?_))
 refine J.z (yl_assign rfl rfl) ?_
 refine J.nil (Ej.seq (Cj.seq (Cj.region (J.z (yl_move rfl rfl) ?_))))
 refine J.pull Pull.z ?_
 refine J.op rfl (op_call (H1 := [_]) rfl rfl rfl rfl rfl (copyCheck_ok b p _ _) ?_ (fun _ _ _ _ h => by cases h.1) (fun _ _ h => by cases h.1))
 intro v1 I2 H3 hle4 hp5
 obtain ⟨hv1, rfl⟩ := hp5; cases hv1
 refine J.nil (Ej.seq (Cj.seq (Cj.region (J.z (yl_move rfl rfl) ?_))))
 refine J.z (yl_move rfl rfl) ?_
 refine J.z (yl_nilCheck rfl rfl) ?_
 refine J.z (yl_fieldAddr (off' := 1) rfl rfl Tryz.underlying89 rfl Tryz.sizeOf46 rfl) ?_
 refine J.z (yl_load rfl rfl Tryz.isAgg46 (Blk.at 0 rfl) rfl) ?_
 refine J.z (yl_move rfl rfl) ?_
 refine J.op rfl (op_appendB 0 (Nat.zero_le _) (by' := 0) [_] rfl rfl rfl rfl rfl Tryz.underlying46 (.inl Tryz.underlying9) (by kernel_rfl) Tryz.sizeOf5 Tryz.zeroValue5 rfl hg rfl Src.str (by omega) ?_)
 intro g6 hg6
 refine J.z (yl_nilCheck rfl rfl) ?_
 refine J.z (yl_fieldAddr (off' := 1) rfl rfl Tryz.underlying89 rfl Tryz.sizeOf46 rfl) ?_
 refine J.op rfl (op_store 0 rfl rfl rfl rfl (gV_cells _ _) (gV_one _ _) Tryz.sizeOf46 rfl rfl (LSpl.s (LSpl.c LSpl.z)) LSet.z ?_)
 refine J.nil (Ej.seq (Cj.seq (Cj.region (J.z (yl_move rfl rfl) ?_))))
 refine J.z (yl_lenStr rfl rfl Tryz.underlying9) ?_
 refine J.z (yl_assign rfl rfl) ?_
 refine J.z (yl_assign rfl rfl) ?_
 refine J.nil (Ej.seq (Cj.ret (Ej.keep (Keeps.k Keeps.r) ?_)))
 refine Ej.ret2 rfl rfl rfl rfl ?_
 exact ⟨rfl, g6, by simpa [bcs] using hg6, by simp [BldH, bcs]⟩

set_option maxRecDepth 20000 in
theorem String_nil (b : Nat) (x : Value) (I : Heap) : Ctr Tryz.prog 59 [ptr b 0] I [(b, cel 89 [x, .slice none 0 0])] (fun e _I' H' => e = .returned (str []) ∧ ∃ y z, H' = [(b, cel 89 [y, z])]) := by
 refine Ctr.of_body Tryz.func59 rfl (by decide) (Nat.le_of_ble_eq_true rfl) ?_
 intro w0 hw0
 refine Cj.seq (Cj.region (J.z (yl_assign rfl rfl) ?_))
 refine J.nil (Ej.seq (Cj.seq (Cj.drawSel [0] [] 12 (by kernel_rfl) ?_)))
 refine JA.fix ⟨(HSub.c 0 rfl HSub.n), CSub.n, (Le.refl _)⟩ (fun fx1 => ?_)
 refine JA.tk 0 rfl fx1 (yl_move rfl rfl) ?_
 refine JA.tk 1 rfl fx1 (yl_nilCheck rfl rfl) ?_
 refine JA.tk 2 rfl fx1 (yl_fieldAddr (off' := 1) rfl rfl Tryz.underlying89 rfl Tryz.sizeOf46 rfl) ?_
 refine JA.tk 3 rfl fx1 (yl_load rfl rfl Tryz.isAgg46 (Blk.atC 0 rfl) rfl) ?_
 refine JA.tk 4 rfl fx1 (yl_sliceDataNil rfl rfl) ?_
 refine JA.tk 5 rfl fx1 (yl_move rfl rfl) ?_
 refine JA.tk 6 rfl fx1 (yl_nilCheck rfl rfl) ?_
 refine JA.tk 7 rfl fx1 (yl_fieldAddr (off' := 1) rfl rfl Tryz.underlying89 rfl Tryz.sizeOf46 rfl) ?_
 refine JA.tk 8 rfl fx1 (yl_load rfl rfl Tryz.isAgg46 (Blk.atC 0 rfl) rfl) ?_
 refine JA.tk 9 rfl fx1 (yl_lenSlice rfl rfl Tryz.underlying46) ?_
 refine JA.step 10 (by kernel_rfl) rfl rfl (op_yld (yl_unsafeStringNone rfl rfl rfl) rfl rfl ?_)
 refine ⟨⟨(Le.refl _), (HSub.c 0 rfl HSub.n), CSub.n⟩, ?_⟩
 refine JA.fix ⟨(HSub.c 0 rfl HSub.n), CSub.n, (Le.refl _)⟩ (fun fx2 => ?_)
 refine JA.tk 11 rfl fx2 (yl_assign rfl rfl) ?_
 refine JA.done (by kernel_rfl) ?_
 refine Ej.seq (Cj.ret (Ej.keep (Keeps.k Keeps.n) ?_))
 refine Ej.ret1 rfl rfl rfl ?_
 exact ⟨rfl, _, _, rfl⟩

set_option maxRecDepth 20000 in
theorem String_some (b gb c : Nat) (x : Value) (l : List UInt8) (sp : List Value) (h0 : l ≠ []) (hl : l.length ≤ 1000000000000) (hc : c ≠ 0) (I : Heap) : Ctr Tryz.prog 59 [ptr b 0] I [(b, cel 89 [x, .slice (some ⟨gb, 0, none⟩) l.length c]), (gb, cel 5 (bcs l ++ sp))] (fun e _I' H' => e = .returned (str l) ∧ ∃ y z, H' = [(b, cel 89 [y, z])]) := by
 refine Ctr.of_body Tryz.func59 rfl (by decide) (Nat.le_of_ble_eq_true rfl) ?_
 intro w0 hw0
 refine Cj.seq (Cj.region (J.z (yl_assign rfl rfl) ?_))
 refine J.nil (Ej.seq (Cj.seq (Cj.drawSel [0] [] 12 (by kernel_rfl) ?_)))
 refine JA.fix ⟨(HSub.c 0 rfl HSub.n), CSub.n, (Le.refl _)⟩ (fun fx1 => ?_)
 refine JA.tk 0 rfl fx1 (yl_move rfl rfl) ?_
 refine JA.tk 1 rfl fx1 (yl_nilCheck rfl rfl) ?_
 refine JA.tk 2 rfl fx1 (yl_fieldAddr (off' := 1) rfl rfl Tryz.underlying89 rfl Tryz.sizeOf46 rfl) ?_
 refine JA.tk 3 rfl fx1 (yl_load rfl rfl Tryz.isAgg46 (Blk.atC 0 rfl) rfl) ?_
 refine JA.tk 4 rfl fx1 (yl_sliceData rfl rfl hc) ?_
 refine JA.tk 5 rfl fx1 (yl_move rfl rfl) ?_
 refine JA.tk 6 rfl fx1 (yl_nilCheck rfl rfl) ?_
 refine JA.tk 7 rfl fx1 (yl_fieldAddr (off' := 1) rfl rfl Tryz.underlying89 rfl Tryz.sizeOf46 rfl) ?_
 refine JA.tk 8 rfl fx1 (yl_load rfl rfl Tryz.isAgg46 (Blk.atC 0 rfl) rfl) ?_
 refine JA.tk 9 rfl fx1 (yl_lenSlice rfl rfl Tryz.underlying46) ?_
 refine JA.step 10 (by kernel_rfl) rfl rfl (op_unsafeString 1 l rfl rfl rfl rfl rfl Tryz.underlying136 (by kernel_rfl) rfl h0 (by omega) (LSet.s LSet.z) ?_)
 refine ⟨⟨(Le.refl _), (HSub.c 0 rfl HSub.n), CSub.n⟩, ?_⟩
 refine JA.fix ⟨(HSub.c 0 rfl HSub.n), CSub.n, (Le.refl _)⟩ (fun fx2 => ?_)
 refine JA.tk 11 rfl fx2 (yl_assign rfl rfl) ?_
 refine JA.done (by kernel_rfl) ?_
 refine Ej.seq (Cj.ret (Ej.keep (Keeps.k (Keeps.d Keeps.n)) ?_))
 refine Ej.ret1 rfl rfl rfl ?_
 exact ⟨rfl, _, _, rfl⟩

theorem String_ok (b : Nat) (l : List UInt8) (p : Bool) (g : Gs) (hg : gOk 0 1 l.length (bcs l) g) (h0 : l = [] → g = none) (hl : l.length ≤ 1000000000000) (I : Heap) : Ctr Tryz.prog 59 [ptr b 0] I (BldH b l p g) (fun e _I' H' => e = .returned (str l) ∧ ∃ y z, H' = [(b, cel 89 [y, z])]) := by
  cases g with
  | none =>
    have : l = [] := List.length_eq_zero_iff.1 hg.1
    subst this
    exact String_nil b _ I
  | some q =>
    obtain ⟨gb, c, sp⟩ := q
    have hne : l ≠ [] := fun h => by cases h0 h
    have hlen := hg.2.1
    have hcap := hg.2.2
    have : 0 < l.length := List.length_pos_iff.2 hne
    exact String_some b gb c _ l sp hne hl (by rw [hlen] at hcap; omega) I

set_option maxRecDepth 20000 in
theorem Len_nil (b : Nat) (x : Value) (I : Heap) : Ctr Tryz.prog 64 [ptr b 0] I [(b, cel 89 [x, .slice none 0 0])] (fun e _I' H' => e = .returned (i64 0) ∧ H' = [(b, cel 89 [x, .slice none 0 0])]) := by
 refine Ctr.of_body Tryz.func64 rfl (by decide) (Nat.le_of_ble_eq_true rfl) ?_
 intro w0 hw0
 refine Cj.seq (Cj.region (J.z (yl_assign rfl rfl) ?_))
 refine J.nil (Ej.seq (Cj.seq (Cj.region (J.z (yl_move rfl rfl) ?_))))
 refine J.z (yl_nilCheck rfl rfl) ?_
 refine J.z (yl_fieldAddr (off' := 1) rfl rfl Tryz.underlying89 rfl Tryz.sizeOf46 rfl) ?_
 refine J.z (yl_load rfl rfl Tryz.isAgg46 (Blk.at 0 rfl) rfl) ?_
 refine J.z (yl_lenSlice rfl rfl Tryz.underlying46) ?_
 refine J.z (yl_assign rfl rfl) ?_
 refine J.nil (Ej.seq (Cj.ret (Ej.ret1 rfl rfl rfl ?_)))
 exact ⟨rfl, rfl⟩

set_option maxRecDepth 20000 in
theorem Len_some (b : Nat) (x : Value) (p : Option Addr) (n c : Nat) (I : Heap) : Ctr Tryz.prog 64 [ptr b 0] I [(b, cel 89 [x, .slice p n c])] (fun e _I' H' => e = .returned (i64 n) ∧ H' = [(b, cel 89 [x, .slice p n c])]) := by
 refine Ctr.of_body Tryz.func64 rfl (by decide) (Nat.le_of_ble_eq_true rfl) ?_
 intro w0 hw0
 refine Cj.seq (Cj.region (J.z (yl_assign rfl rfl) ?_))
 refine J.nil (Ej.seq (Cj.seq (Cj.region (J.z (yl_move rfl rfl) ?_))))
 refine J.z (yl_nilCheck rfl rfl) ?_
 refine J.z (yl_fieldAddr (off' := 1) rfl rfl Tryz.underlying89 rfl Tryz.sizeOf46 rfl) ?_
 refine J.z (yl_load rfl rfl Tryz.isAgg46 (Blk.at 0 rfl) rfl) ?_
 refine J.z (yl_lenSlice rfl rfl Tryz.underlying46) ?_
 refine J.z (yl_assign rfl rfl) ?_
 refine J.nil (Ej.seq (Cj.ret (Ej.ret1 rfl rfl rfl ?_)))
 exact ⟨rfl, rfl⟩

theorem Len_ok (b : Nat) (x : Value) (n : Nat) (g : Gs) {sz : Nat} {xs : List Value} (hg : gOk 0 sz n xs g) (I : Heap) : Ctr Tryz.prog 64 [ptr b 0] I [(b, cel 89 [x, gV n g])] (fun e _I' H' => e = .returned (i64 n) ∧ H' = [(b, cel 89 [x, gV n g])]) := by
  cases g with
  | none =>
    obtain rfl : n = 0 := hg.1
    exact Len_nil b x I
  | some q => exact Len_some b x _ n _ I

set_option maxRecDepth 20000 in
theorem Reset_ok (b : Nat) (x y : Value) (I : Heap) : Ctr Tryz.prog 65 [ptr b 0] I [(b, cel 89 [x, y])] (fun e _I' H' => e = .returned (.tuple #[]) ∧ H' = [(b, cel 89 [.pointer none, .slice none 0 0])]) := by
 refine Ctr.of_body Tryz.func65 rfl (by decide) (Nat.le_of_ble_eq_true rfl) ?_
 intro w0 hw0
 refine Cj.seq (Cj.region (J.z (yl_move rfl rfl) ?_))
 refine J.z (yl_nilCheck rfl rfl) ?_
 refine J.z (yl_fieldAddr (off' := 0) rfl rfl Tryz.underlying89 rfl Tryz.sizeOf87 rfl) ?_
 refine J.op rfl (op_store 0 rfl rfl rfl rfl rfl rfl Tryz.sizeOf87 rfl rfl (LSpl.c LSpl.z) LSet.z ?_)
 refine J.nil (Ej.seq (Cj.region (J.z (yl_move rfl rfl) ?_)))
 refine J.z (yl_nilCheck rfl rfl) ?_
 refine J.z (yl_fieldAddr (off' := 1) rfl rfl Tryz.underlying89 rfl Tryz.sizeOf46 rfl) ?_
 refine J.op rfl (op_store 0 rfl rfl rfl rfl rfl rfl Tryz.sizeOf46 rfl rfl (LSpl.s (LSpl.c LSpl.z)) LSet.z ?_)
 refine J.nil (Ej.end0 rfl rfl ?_)
 exact ⟨rfl, rfl⟩

end Go.Proofs.YtnogdccoekfnoaaGreatDoor
