/-
  The law KeysNumbers, walked, with decimal. Own text, printed by a program. Conditions: none.
-/
import Derived.Test.YtnogdccoekfnoaaGreatDoorRc
import Derived.Test.YtnogdccoekfnoaaGreatDoorSn
import Derived.Test.YtnogdccoekfnoaaGreatDoorSxStr
import Derived.Test.YtnogdccoekfnoaaGreatDoorKeNum
namespace Go.Proofs.YtnogdccoekfnoaaGreatDoor
open Go Go.Sx
theorem u32w {x : Int} (h : 0 ≤ x ∧ x ≤ 4294967295) : IntKind.u32.wrap x = x := by
  simp [IntKind.wrap, IntKind.bits, IntKind.signed]; omega
theorem u32_of {n : Int} (h : (Lit.int .u32 n).wf = true) : ∃ a : Nat, a < 4294967296 ∧ n = (a : Int) := by
  simp [Lit.wf, IntKind.min, IntKind.max, IntKind.signed, IntKind.bits] at h
  exact ⟨n.toNat, by omega, by omega⟩
theorem dec_acc {m n : Nat} {acc : List UInt8} (h : Ke.dec m ++ acc = Ke.dec n) (hn : n < 4294967296) : acc.length ≤ 10 := by
  have h1 := Ke.dec_len_le hn
  have h2 := congrArg List.length h
  rw [List.length_append] at h2; omega
theorem less_lt : ∀ a b : List UInt8, Ke.less a b = decide (a < b) := by
  have key : ∀ a b : List UInt8, Ke.less a b = Op.bytesLess a b := by
    intro a
    induction a with
    | nil => intro b; cases b <;> rfl
    | cons x r ih =>
      intro b
      cases b with
      | nil => rfl
      | cons y t => simp only [Ke.less, Op.bytesLess, ih t]
  intro a b
  rw [key, Go.Proofs.bytesLess_eq]
theorem zeros_take {q : Nat} (h : q < 5) : (([48, 48, 48, 48, 48] : List UInt8).take q).drop 0 = List.replicate q 48 := by
  have key : ∀ q < 5, (([48, 48, 48, 48, 48] : List UInt8).take q).drop 0 = List.replicate q 48 := by decide
  exact key q h
set_option maxRecDepth 20000 in
theorem decimal_ok (n : Nat) (hn : n < 4294967296) (I : Heap) : Pure Tryz.prog 23 [.int .u32 (n : Int)] I (str (Ke.dec n)) := by
 refine Ctr.toPure ?_
 refine Ctr.of_body Tryz.func23 rfl (by decide) (Nat.le_of_ble_eq_true rfl) ?_
 intro w0 hw0
 refine Cj.seq (Cj.region (J.z (yl_assign rfl rfl) ?_))
 refine J.nil (Ej.seq (Cj.seq (Cj.region (J.z (yl_assign rfl rfl) ?_))))
 refine J.nil (Ej.seq (Cj.seq (Cj.block (Cj.loop (ι := Nat × List UInt8) (fun x => x.1 < 4294967296 ∧ Ke.dec x.1 ++ x.2 = Ke.dec n) (fun x => x.1) (fun x => [(0, .int .u32 (x.1 : Int)), (3, str x.2)]) (fun x => I) (fun x => []) (n, []) ⟨hn, List.append_nil _⟩ ⟨rfl, rfl, trivial⟩ rfl rfl ?_))))
 rintro ⟨m, acc⟩ ⟨hm, hacc⟩
 dsimp only at hm hacc ⊢
 have hal := dec_acc hacc hn
 refine Cj.seq (Cj.seq (Cj.region (J.z (yl_move rfl rfl) ?_)))
 refine J.z (yl_geq rfl rfl rfl) ?_
 refine J.nil (Ej.seq (Cj.cond rfl (fun hc1 => ?_) (fun hc1 => ?_)))
 ·
  have hc1p := of_decide_eq_true hc1
  refine Cj.skip (Ej.seq (Cj.block (Cj.seq (Cj.region (J.z (yl_move rfl rfl) ?_)))))
  refine J.z (yl_rem rfl rfl rfl (by decide)) ?_
  refine J.eqv 7 rfl (show _ = .int .u32 ((m % 10 : Nat) : Int) from rfl) ?_
  refine J.z (yl_add rfl rfl rfl (u32w (by omega))) ?_
  refine J.eqv 8 rfl (show _ = .int .u32 ((48 + m % 10 : Nat) : Int) from (congrArg (Value.int .u32) (by omega))) ?_
  refine J.z (yl_convInt rfl rfl Tryz.underlying36 Tryz.underlying5) ?_
  refine J.eqv 9 rfl (show _ = u8 (UInt8.ofNat (48 + m % 10)) from (congrArg (Value.int .u8) (conv8 (by omega)))) ?_
  refine J.op rfl (op_buildSlice rfl rfl rfl Tryz.underlying46 Tryz.sizeOf5 Tryz.zeroValue5 rfl rfl rfl rfl (LCat.one rfl LCat.none) ?_)
  intro b2 hb2
  refine J.z (yl_toStr [UInt8.ofNat (48 + m % 10)] rfl rfl rfl Tryz.underlying46 Tryz.underlying9 Tryz.underlying5 (Blk.at 0 rfl) rfl) ?_
  refine J.z (yl_move rfl rfl) ?_
  refine J.z (yl_cat rfl rfl rfl (by simp only [List.length_cons, List.length_nil]; omega)) ?_
  refine J.z (yl_assign rfl rfl) ?_
  refine J.nil (Ej.seq (Cj.region (J.z (yl_move rfl rfl) ?_)))
  refine J.z (yl_quo rfl rfl rfl (by decide) (u32w (by show _ ≤ ((m / 10 : Nat) : Int) ∧ ((m / 10 : Nat) : Int) ≤ _; omega))) ?_
  refine J.eqv 15 rfl (show _ = .int .u32 ((m / 10 : Nat) : Int) from rfl) ?_
  refine J.z (yl_assign rfl rfl) ?_
  refine J.nil (Ej.blkNormal (Ej.keep (Keeps.d Keeps.n) ?_))
  refine Ej.round (m / 10, [UInt8.ofNat (48 + m % 10)] ++ acc) ⟨by dsimp only; omega, by dsimp only; rw [← List.append_assoc, ← Ke.dec_big (by omega)]; exact hacc⟩ (by dsimp only; omega) ⟨rfl, rfl, trivial⟩ rfl rfl
 ·
  have hc1p := of_decide_eq_false hc1
  refine Cj.exit (Ej.seqExit (Ej.loopExit (Ej.blkExit (Ej.seq (Cj.seq (Cj.region (J.z (yl_move rfl rfl) ?_)))))))
  refine J.z (yl_add rfl rfl rfl (u32w (by omega))) ?_
  refine J.eqv 17 rfl (show _ = .int .u32 ((48 + m : Nat) : Int) from (congrArg (Value.int .u32) (by omega))) ?_
  refine J.z (yl_convInt rfl rfl Tryz.underlying36 Tryz.underlying5) ?_
  refine J.eqv 18 rfl (show _ = u8 (UInt8.ofNat (48 + m)) from (congrArg (Value.int .u8) (conv8 (by omega)))) ?_
  refine J.op rfl (op_buildSlice rfl rfl rfl Tryz.underlying46 Tryz.sizeOf5 Tryz.zeroValue5 rfl rfl rfl rfl (LCat.one rfl LCat.none) ?_)
  intro b3 hb3
  refine J.z (yl_toStr [UInt8.ofNat (48 + m)] rfl rfl rfl Tryz.underlying46 Tryz.underlying9 Tryz.underlying5 (Blk.at 0 rfl) rfl) ?_
  refine J.z (yl_move rfl rfl) ?_
  refine J.z (yl_cat rfl rfl rfl (by simp only [List.length_cons, List.length_nil]; omega)) ?_
  refine J.z (yl_assign rfl rfl) ?_
  refine J.nil (Ej.seq (Cj.ret (Ej.bare ?_)))
  refine Ej.ret1 rfl rfl rfl ?_
  rw [show Ke.dec n = [UInt8.ofNat (48 + m)] ++ acc by rw [← hacc, Ke.dec_small (by omega)]]
  exact ⟨rfl, rfl⟩

set_option maxRecDepth 20000 in
theorem KeysNumbers_ok (a b : Nat) (ha : a < 4294967296) (hb : b < 4294967296) (z0 z1 : UInt8) (I : Heap) : Pure Tryz.prog 8 [.int .u32 (a : Int), .int .u32 (b : Int), .agg #[u8 z0, u8 z1]] I (.bool true) := by
 refine Ctr.toPure ?_
 have hda := Ke.dec_len_le ha
 have hdb := Ke.dec_len_le hb
 have hz0 : z0.toNat % 5 < 5 := Nat.mod_lt _ (by decide)
 have hz1 : z1.toNat % 5 < 5 := Nat.mod_lt _ (by decide)
 refine Ctr.of_body Tryz.func8 rfl (by decide) (Nat.le_of_ble_eq_true rfl) ?_
 intro w0 hw0
 refine Cj.seq (Cj.region (J.op rfl (op_box rfl rfl rfl rfl rfl ?_)))
 intro b1 hb1
 refine J.z (yl_assign rfl rfl) ?_
 refine J.nil (Ej.seq (Cj.seq (Cj.region (J.op rfl (op_pure rfl rfl rfl rfl rfl (sanity_ok _) ?_)))))
 refine J.z (yl_assign rfl rfl) ?_
 refine J.nil (Ej.seq (Cj.seq (Cj.drawSel [0] [] 10 (by kernel_rfl) ?_)))
 refine JA.fix ⟨(HSub.c 0 rfl HSub.n), CSub.n, (Le.refl _)⟩ (fun fx2 => ?_)
 refine JA.tk 0 rfl fx2 (yl_indexArr (off' := 0) rfl rfl rfl Tryz.underlying37 Tryz.sizeOf5 (by decide) (by decide) (by decide)) ?_
 refine JA.tk 1 rfl fx2 (yl_load rfl rfl Tryz.isAgg5 (Blk.atC 0 rfl) rfl) ?_
 refine JA.tk 2 rfl fx2 (yl_rem rfl rfl rfl (by decide)) ?_
 refine JA.eqv 15 rfl (show _ = .int .u8 ((z0.toNat % 5 : Nat) : Int) from rfl) ?_
 refine JA.tk 3 rfl fx2 (yl_sliceStr (p := 0) (q := z0.toNat % 5) rfl rfl Tryz.underlying9 rfl ⟨_, rfl⟩ (by omega) (by show _ ≤ 5; omega)) ?_
 refine JA.eqv 16 rfl (show _ = str (List.replicate (z0.toNat % 5) 48) from (congrArg str (zeros_take hz0))) ?_
 refine JA.tk 4 rfl fx2 (yl_cat rfl rfl rfl (by simp only [List.length_cons, List.length_nil, List.length_replicate]; omega)) ?_
 refine JA.tk 5 rfl fx2 (yl_move rfl rfl) ?_
 refine JA.step 6 (by kernel_rfl) rfl rfl (op_pure rfl rfl rfl rfl rfl (decimal_ok a ha _) ?_)
 refine ⟨⟨(Le.refl _), (HSub.c 0 rfl HSub.n), CSub.n⟩, ?_⟩
 refine JA.fix ⟨(HSub.c 0 rfl HSub.n), CSub.n, (Le.refl _)⟩ (fun fx3 => ?_)
 refine JA.tk 7 rfl fx3 (yl_cat rfl rfl rfl (by simp only [List.length_append, List.length_cons, List.length_nil, List.length_replicate]; omega)) ?_
 refine JA.tk 8 rfl fx3 (yl_cat rfl rfl rfl (by simp only [List.length_append, List.length_cons, List.length_nil, List.length_replicate]; omega)) ?_
 refine JA.eqv 21 rfl (show _ = str ([80, 97, 114, 116, 32] ++ (List.replicate (z0.toNat % 5) 48 ++ Ke.dec a) ++ 58 :: [32, 101, 110, 100]) from (by simp)) ?_
 refine JA.tk 9 rfl fx3 (yl_assign rfl rfl) ?_
 refine JA.done (by kernel_rfl) ?_
 refine Ej.seq (Cj.seq (Cj.drawSel [0] [] 10 (by kernel_rfl) ?_))
 refine JA.fix ⟨(HSub.c 0 rfl HSub.n), CSub.n, (Le.refl _)⟩ (fun fx4 => ?_)
 refine JA.tk 0 rfl fx4 (yl_indexArr (off' := 1) rfl rfl rfl Tryz.underlying37 Tryz.sizeOf5 (by decide) (by decide) (by decide)) ?_
 refine JA.tk 1 rfl fx4 (yl_load rfl rfl Tryz.isAgg5 (Blk.atC 0 rfl) rfl) ?_
 refine JA.tk 2 rfl fx4 (yl_rem rfl rfl rfl (by decide)) ?_
 refine JA.eqv 24 rfl (show _ = .int .u8 ((z1.toNat % 5 : Nat) : Int) from rfl) ?_
 refine JA.tk 3 rfl fx4 (yl_sliceStr (p := 0) (q := z1.toNat % 5) rfl rfl Tryz.underlying9 rfl ⟨_, rfl⟩ (by omega) (by show _ ≤ 5; omega)) ?_
 refine JA.eqv 25 rfl (show _ = str (List.replicate (z1.toNat % 5) 48) from (congrArg str (zeros_take hz1))) ?_
 refine JA.tk 4 rfl fx4 (yl_cat rfl rfl rfl (by simp only [List.length_cons, List.length_nil, List.length_replicate]; omega)) ?_
 refine JA.tk 5 rfl fx4 (yl_move rfl rfl) ?_
 refine JA.step 6 (by kernel_rfl) rfl rfl (op_pure rfl rfl rfl rfl rfl (decimal_ok b hb _) ?_)
 refine ⟨⟨(Le.refl _), (HSub.c 0 rfl HSub.n), CSub.n⟩, ?_⟩
 refine JA.fix ⟨(HSub.c 0 rfl HSub.n), CSub.n, (Le.refl _)⟩ (fun fx5 => ?_)
 refine JA.tk 7 rfl fx5 (yl_cat rfl rfl rfl (by simp only [List.length_append, List.length_cons, List.length_nil, List.length_replicate]; omega)) ?_
 refine JA.tk 8 rfl fx5 (yl_cat rfl rfl rfl (by simp only [List.length_append, List.length_cons, List.length_nil, List.length_replicate]; omega)) ?_
 refine JA.eqv 30 rfl (show _ = str ([112, 97, 114, 116, 32] ++ (List.replicate (z1.toNat % 5) 48 ++ Ke.dec b) ++ 44 :: [32, 101, 110, 100]) from (by simp)) ?_
 refine JA.tk 9 rfl fx5 (yl_assign rfl rfl) ?_
 refine JA.done (by kernel_rfl) ?_
 refine Ej.seq (Cj.seq (Cj.region (J.z (yl_move rfl rfl) ?_)))
 refine J.op rfl (op_pure rfl rfl rfl rfl rfl (Sort_ok ([80, 97, 114, 116, 32] ++ (List.replicate (z0.toNat % 5) 48 ++ Ke.dec a) ++ 58 :: [32, 101, 110, 100]) 0 (by simp only [List.length_append, List.length_cons, List.length_nil, List.length_replicate]; omega) _) ?_)
 refine J.eqv 32 rfl (show _ = str ([112, 97, 114, 116, 32] ++ (Ke.numKey a ++ [32, 101, 110, 100])) from (congrArg str (Ke.sort_part _ _ _ _ (by decide +kernel) ⟨[80, 97, 114, 116], rfl⟩ 58 (by decide) (by decide +kernel) (by decide +kernel)))) ?_
 refine J.z (yl_assign rfl rfl) ?_
 refine J.nil (Ej.seq (Cj.seq (Cj.region (J.z (yl_move rfl rfl) ?_))))
 refine J.op rfl (op_pure rfl rfl rfl rfl rfl (Sort_ok ([112, 97, 114, 116, 32] ++ (List.replicate (z1.toNat % 5) 48 ++ Ke.dec b) ++ 44 :: [32, 101, 110, 100]) 0 (by simp only [List.length_append, List.length_cons, List.length_nil, List.length_replicate]; omega) _) ?_)
 refine J.eqv 34 rfl (show _ = str ([112, 97, 114, 116, 32] ++ (Ke.numKey b ++ [32, 101, 110, 100])) from (congrArg str (Ke.sort_part _ _ _ _ (by decide +kernel) ⟨[112, 97, 114, 116], rfl⟩ 44 (by decide) (by decide +kernel) (by decide +kernel)))) ?_
 refine J.z (yl_assign rfl rfl) ?_
 refine J.nil (Ej.seq (Cj.seq (Cj.region (J.z (yl_move rfl rfl) ?_))))
 refine J.z (yl_move rfl rfl) ?_
 refine J.opG 1 36 true _ rfl rfl rfl rfl (op_yld (yl_move rfl rfl) rfl rfl ?_)
 refine J.opG 1 36 true _ rfl rfl rfl rfl (op_yld (yl_move rfl rfl) rfl rfl ?_)
 refine J.opG 1 36 true _ rfl rfl rfl rfl (op_yld (yl_lssStr rfl rfl rfl) rfl rfl ?_)
 refine J.opG 1 36 true _ rfl rfl rfl rfl (op_yld (yl_move rfl rfl) rfl rfl ?_)
 refine J.opG 1 36 true _ rfl rfl rfl rfl (op_yld (yl_move rfl rfl) rfl rfl ?_)
 refine J.opG 1 36 true _ rfl rfl rfl rfl (op_yld (yl_lss rfl rfl rfl) rfl rfl ?_)
 refine J.opG 1 36 true _ rfl rfl rfl rfl (op_yld (yl_eqlBool rfl rfl rfl Tryz.underlying4) rfl rfl ?_)
 refine J.z (yl_pick1 rfl rfl rfl rfl) ?_
 refine J.z (yl_move rfl rfl) ?_
 refine J.opG 10 45 true _ rfl rfl rfl (by rw [beq_iff_eq, ← less_lt]; exact (Ke.numKey_less ha hb [112, 97, 114, 116, 32] [32, 101, 110, 100]).1.trans (decide_eq_decide.2 (by omega))) (op_yld (yl_move rfl rfl) rfl rfl ?_)
 refine J.opG 10 45 true _ rfl rfl rfl (by rw [beq_iff_eq, ← less_lt]; exact (Ke.numKey_less ha hb [112, 97, 114, 116, 32] [32, 101, 110, 100]).1.trans (decide_eq_decide.2 (by omega))) (op_yld (yl_move rfl rfl) rfl rfl ?_)
 refine J.opG 10 45 true _ rfl rfl rfl (by rw [beq_iff_eq, ← less_lt]; exact (Ke.numKey_less ha hb [112, 97, 114, 116, 32] [32, 101, 110, 100]).1.trans (decide_eq_decide.2 (by omega))) (op_yld (yl_eqlStr rfl rfl rfl) rfl rfl ?_)
 refine J.opG 10 45 true _ rfl rfl rfl (by rw [beq_iff_eq, ← less_lt]; exact (Ke.numKey_less ha hb [112, 97, 114, 116, 32] [32, 101, 110, 100]).1.trans (decide_eq_decide.2 (by omega))) (op_yld (yl_move rfl rfl) rfl rfl ?_)
 refine J.opG 10 45 true _ rfl rfl rfl (by rw [beq_iff_eq, ← less_lt]; exact (Ke.numKey_less ha hb [112, 97, 114, 116, 32] [32, 101, 110, 100]).1.trans (decide_eq_decide.2 (by omega))) (op_yld (yl_move rfl rfl) rfl rfl ?_)
 refine J.opG 10 45 true _ rfl rfl rfl (by rw [beq_iff_eq, ← less_lt]; exact (Ke.numKey_less ha hb [112, 97, 114, 116, 32] [32, 101, 110, 100]).1.trans (decide_eq_decide.2 (by omega))) (op_yld (yl_eql rfl rfl rfl) rfl rfl ?_)
 refine J.opG 10 45 true _ rfl rfl rfl (by rw [beq_iff_eq, ← less_lt]; exact (Ke.numKey_less ha hb [112, 97, 114, 116, 32] [32, 101, 110, 100]).1.trans (decide_eq_decide.2 (by omega))) (op_yld (yl_eqlBool rfl rfl rfl Tryz.underlying4) rfl rfl ?_)
 refine J.z (yl_pick1 rfl rfl (by rw [beq_iff_eq, ← less_lt]; exact (Ke.numKey_less ha hb [112, 97, 114, 116, 32] [32, 101, 110, 100]).1.trans (decide_eq_decide.2 (by omega))) rfl) ?_
 refine J.z (yl_assign rfl rfl) ?_
 refine J.nil (Ej.seq (Cj.ret (Ej.bare ?_)))
 refine Ej.ret1 rfl rfl rfl ?_
 exact ⟨congrArg (fun b => Ending.returned (.bool b)) (by rw [beq_iff_eq, Bool.eq_iff_iff, beq_iff_eq, beq_iff_eq]; exact (Ke.numKey_less ha hb [112, 97, 114, 116, 32] [32, 101, 110, 100]).2.trans (by omega)), rfl⟩

end Go.Proofs.YtnogdccoekfnoaaGreatDoor
