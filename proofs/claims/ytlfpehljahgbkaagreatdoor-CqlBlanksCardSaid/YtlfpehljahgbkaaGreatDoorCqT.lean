/-
  Contracts of strings.Replacer.Replace as cql uses it. Own text, printed by a program. Conditions: none.
-/
import Derived.Test.YtlfpehljahgbkaaGreatDoorCqS
import Derived.Test.YtlfpehljahgbkaaGreatDoorCqRepl
import Derived.Test.YtlfpehljahgbkaaGreatDoorCqK
namespace Go.Proofs.YtlfpehljahgbkaaGreatDoor
open Go Go.Sx
theorem Count_ok (s : List UInt8) (c : UInt8) (I : Heap) : Pure Tryz.prog 161 [str s, str [c]] I (i64 (s.count c)) :=
  Pure.of_same (Enters.of Tryz.func161 (by decide) rfl) fun w _ => by
    have h := Tryz.strings_Count_one ⟨s.toArray⟩ c w
    rw [ba_list] at h
    exact h
set_option maxRecDepth 20000 in
theorem bsReplace_ok (xb : Nat) (s : List UInt8) (hs : s.length ≤ 1000000000) (I : Heap) (hb : BSR I xb) : Pure Tryz.prog 159 [ptr xb 0, str s] I (str (Cq.escape s)) := by
  obtain ⟨v1, v2, tr, hxb, ⟨l1, c1, sp1, fr1, rfl, hv1⟩, ⟨l2, c2, sp2, fr2, rfl, hv2⟩, tb, tc, tsp, rfl, htb⟩ := hb
  rw [show ([[34], [92]] : List (List UInt8)).length = 2 from rfl, show ([92, 34] : List UInt8).length = 2 from rfl, show ([92, 92] : List UInt8).length = 2 from rfl] at hxb
  have hec := Cq.escape_cnt s
  have hcc := Cq.cnt_counts s
  have hcl : Cq.cnt s ≤ s.length := List.countP_le_length
  refine Ctr.of_body Tryz.func159 rfl (by decide) (Nat.le_of_ble_eq_true rfl) ?_
  intro w0 hw0
  refine Cj.seq ?_
  refine Cj.region ?_
  refine J.y (yl_assign rfl rfl) rfl rfl rfl ?_
  refine J.nil ?_
  refine Ej.seq ?_
  refine Cj.seq ?_
  refine Cj.region ?_
  refine J.y (yl_move rfl rfl) rfl rfl rfl ?_
  refine J.y (yl_lenStr rfl rfl Tryz.underlying9) rfl rfl rfl ?_
  refine J.y (yl_assign rfl rfl) rfl rfl rfl ?_
  refine J.nil ?_
  refine Ej.seq ?_
  refine Cj.seq ?_
  refine Cj.region ?_
  refine J.y (yl_assign rfl rfl) rfl rfl rfl ?_
  refine J.nil ?_
  refine Ej.seq ?_
  refine Cj.seq ?_
  refine Cj.seq ?_
  refine Cj.region ?_
  refine J.y (yl_move rfl rfl) rfl rfl rfl ?_
  refine J.y (yl_nilCheck rfl rfl) rfl rfl rfl ?_
  refine J.y (yl_fieldAddr (off' := 256) rfl rfl Tryz.underlying163 rfl Tryz.sizeOf44 rfl) rfl rfl rfl ?_
  refine J.y (yl_load rfl rfl Tryz.isAgg44 (Blk.imm hxb) (tab_tr _ _)) rfl rfl rfl ?_
  refine J.y (yl_lenSlice rfl rfl Tryz.underlying44) rfl rfl rfl ?_
  refine J.y (yl_mul rfl rfl rfl (w64 (by omega))) rfl rfl rfl ?_
  refine J.y (yl_move rfl rfl) rfl rfl rfl ?_
  refine J.y (yl_lenStr rfl rfl Tryz.underlying9) rfl rfl rfl ?_
  refine J.y (yl_leq rfl rfl rfl) rfl rfl rfl ?_
  refine J.nil ?_
  refine Ej.seq ?_
  refine Cj.cond rfl (fun hc1 => ?_) (fun hc1 => ?_)
  ·
    have hc1p := of_decide_eq_true hc1
    refine Cj.seq ?_
    refine Cj.region ?_
    refine J.y (yl_move rfl rfl) rfl rfl rfl ?_
    refine J.y (yl_nilCheck rfl rfl) rfl rfl rfl ?_
    refine J.y (yl_fieldAddr (off' := 256) rfl rfl Tryz.underlying163 rfl Tryz.sizeOf44 rfl) rfl rfl rfl ?_
    refine J.y (yl_load rfl rfl Tryz.isAgg44 (Blk.imm hxb) (tab_tr _ _)) rfl rfl rfl ?_
    refine J.y (yl_lenSlice rfl rfl Tryz.underlying44) rfl rfl rfl ?_
    refine J.y (yl_move rfl rfl) rfl rfl rfl ?_
    refine J.nil ?_
    refine Ej.seq ?_
    refine Cj.block ?_
    refine Cj.rounds 3 ?_
    refine Rj.succ ?_
    refine Cj.seq ?_
    refine Cj.region ?_
    refine J.y (yl_lss rfl rfl rfl) rfl rfl rfl ?_
    refine J.nil ?_
    refine Ej.seq ?_
    refine Cj.seq ?_
    refine Cj.cond rfl (fun hc2 => ?_) (fun hc2 => Bool.noConfusion (Eq.trans (Eq.symm (by first | rfl | decide)) hc2))
    refine Cj.skip ?_
    refine Ej.seq ?_
    refine Cj.seq ?_
    refine Cj.block ?_
    refine Cj.seq ?_
    refine Cj.region ?_
    refine J.y (yl_indexAddr (off' := 0) rfl rfl rfl Tryz.underlying44 Tryz.sizeOf9 (by decide) (by decide) (by decide)) rfl rfl rfl ?_
    refine J.y (yl_load rfl rfl Tryz.isAgg9 (Blk.imm htb) rfl) rfl rfl rfl ?_
    refine J.y (yl_assign rfl rfl) rfl rfl rfl ?_
    refine J.nil ?_
    refine Ej.seq ?_
    refine Cj.seq ?_
    refine Cj.region ?_
    refine J.y (yl_move rfl rfl) rfl rfl rfl ?_
    refine J.y (yl_move rfl rfl) rfl rfl rfl ?_
    refine J.op rfl (op_pure rfl rfl rfl rfl rfl (Count_ok s 34 _) ?_)
    refine J.y (yl_assign rfl rfl) rfl rfl rfl ?_
    refine J.nil ?_
    refine Ej.seq ?_
    refine Cj.seq ?_
    refine Cj.region ?_
    refine J.y (yl_move rfl rfl) rfl rfl rfl ?_
    refine J.y (yl_neq rfl rfl rfl) rfl rfl rfl ?_
    refine J.nil ?_
    refine Ej.seq ?_
    refine Cj.cond rfl (fun hc3 => ?_) (fun hc3 => ?_)
    ·
      have hc3p := bne_iff_ne.1 hc3
      refine Cj.seq ?_
      refine Cj.drawSel [] [] 14 (by kernel_rfl) ?_
      refine JA.take 0 rfl rfl (by kernel_rfl) (by kernel_rfl) (by kernel_rfl) (fun _ _ _ h => h) rfl rfl rfl HSub.n CSub.n (Le.refl _) (yl_move rfl rfl) ?_
      refine JA.take 1 rfl rfl (by kernel_rfl) (by kernel_rfl) (by kernel_rfl) (fun _ _ _ h => h) rfl rfl rfl HSub.n CSub.n (Le.refl _) (yl_move rfl rfl) ?_
      refine JA.take 2 rfl rfl (by kernel_rfl) (by kernel_rfl) (by kernel_rfl) (fun _ _ _ h => h) rfl rfl rfl HSub.n CSub.n (Le.refl _) (yl_move rfl rfl) ?_
      refine JA.take 3 rfl rfl (by kernel_rfl) (by kernel_rfl) (by kernel_rfl) (fun _ _ _ h => h) rfl rfl rfl HSub.n CSub.n (Le.refl _) (yl_move rfl rfl) ?_
      refine JA.take 4 rfl rfl (by kernel_rfl) (by kernel_rfl) (by kernel_rfl) (fun _ _ _ h => h) rfl rfl rfl HSub.n CSub.n (Le.refl _) (yl_index (c := 34) rfl rfl rfl Tryz.underlying9 (by decide) rfl) ?_
      refine JA.take 5 rfl rfl (by kernel_rfl) (by kernel_rfl) (by kernel_rfl) (fun _ _ _ h => h) rfl rfl rfl HSub.n CSub.n (Le.refl _) (yl_nilCheck rfl rfl) ?_
      refine JA.take 6 rfl rfl (by kernel_rfl) (by kernel_rfl) (by kernel_rfl) (fun _ _ _ h => h) rfl rfl rfl HSub.n CSub.n (Le.refl _) (yl_fieldAddr (off' := 0) rfl rfl Tryz.underlying163 rfl Tryz.sizeOf161 rfl) ?_
      refine JA.take 7 rfl rfl (by kernel_rfl) (by kernel_rfl) (by kernel_rfl) (fun _ _ _ h => h) rfl rfl rfl HSub.n CSub.n (Le.refl _) (yl_indexArr (off' := 34) rfl rfl rfl Tryz.underlying161 Tryz.sizeOf46 (by decide) (by decide) (by decide)) ?_
      refine JA.take 8 rfl rfl (by kernel_rfl) (by kernel_rfl) (by kernel_rfl) (fun _ _ _ h => h) rfl rfl rfl HSub.n CSub.n (Le.refl _) (yl_load rfl rfl Tryz.isAgg46 (Blk.immC hxb) (tab_at _ _ (by decide))) ?_
      refine JA.eqv 49 rfl (show _ = .slice (some ⟨l1, 0, none⟩) 2 c1 from rfl) ?_
      refine JA.take 9 rfl rfl (by kernel_rfl) (by kernel_rfl) (by kernel_rfl) (fun _ _ _ h => h) rfl rfl rfl HSub.n CSub.n (Le.refl _) (yl_lenSlice rfl rfl Tryz.underlying46) ?_
      refine JA.take 10 rfl rfl (by kernel_rfl) (by kernel_rfl) (by kernel_rfl) (fun _ _ _ h => h) rfl rfl rfl HSub.n CSub.n (Le.refl _) (yl_sub rfl rfl rfl (w64 (by omega))) ?_
      refine JA.take 11 rfl rfl (by kernel_rfl) (by kernel_rfl) (by kernel_rfl) (fun _ _ _ h => h) rfl rfl rfl HSub.n CSub.n (Le.refl _) (yl_mul rfl rfl rfl (w64 (by omega))) ?_
      refine JA.take 12 rfl rfl (by kernel_rfl) (by kernel_rfl) (by kernel_rfl) (fun _ _ _ h => h) rfl rfl rfl HSub.n CSub.n (Le.refl _) (yl_add rfl rfl rfl (w64 (by omega))) ?_
      refine JA.take 13 rfl rfl (by kernel_rfl) (by kernel_rfl) (by kernel_rfl) (fun _ _ _ h => h) rfl rfl rfl HSub.n CSub.n (Le.refl _) (yl_assign rfl rfl) ?_
      refine JA.done (by kernel_rfl) ?_
      refine Ej.seq ?_
      refine Cj.region ?_
      refine J.y (yl_assign rfl rfl) rfl rfl rfl ?_
      refine J.nil ?_
      refine Ej.blkNormal ?_
      refine Ej.seq ?_
      refine Cj.region ?_
      refine J.y (yl_add rfl rfl rfl (w64 (by omega))) rfl rfl rfl ?_
      refine J.y (yl_move rfl rfl) rfl rfl rfl ?_
      refine J.nil ?_
      refine Ej.rounds ?_
      refine Rj.succ ?_
      refine Cj.seq ?_
      refine Cj.region ?_
      refine J.y (yl_lss rfl rfl rfl) rfl rfl rfl ?_
      refine J.nil ?_
      refine Ej.seq ?_
      refine Cj.seq ?_
      refine Cj.cond rfl (fun hc4 => ?_) (fun hc4 => Bool.noConfusion (Eq.trans (Eq.symm (by first | rfl | decide)) hc4))
      refine Cj.skip ?_
      refine Ej.seq ?_
      refine Cj.seq ?_
      refine Cj.block ?_
      refine Cj.seq ?_
      refine Cj.region ?_
      refine J.y (yl_indexAddr (off' := 1) rfl rfl rfl Tryz.underlying44 Tryz.sizeOf9 (by decide) (by decide) (by decide)) rfl rfl rfl ?_
      refine J.y (yl_load rfl rfl Tryz.isAgg9 (Blk.imm htb) rfl) rfl rfl rfl ?_
      refine J.y (yl_assign rfl rfl) rfl rfl rfl ?_
      refine J.nil ?_
      refine Ej.seq ?_
      refine Cj.seq ?_
      refine Cj.region ?_
      refine J.y (yl_move rfl rfl) rfl rfl rfl ?_
      refine J.y (yl_move rfl rfl) rfl rfl rfl ?_
      refine J.op rfl (op_pure rfl rfl rfl rfl rfl (Count_ok s 92 _) ?_)
      refine J.y (yl_assign rfl rfl) rfl rfl rfl ?_
      refine J.nil ?_
      refine Ej.seq ?_
      refine Cj.seq ?_
      refine Cj.region ?_
      refine J.y (yl_move rfl rfl) rfl rfl rfl ?_
      refine J.y (yl_neq rfl rfl rfl) rfl rfl rfl ?_
      refine J.nil ?_
      refine Ej.seq ?_
      refine Cj.cond rfl (fun hc5 => ?_) (fun hc5 => ?_)
      ·
        have hc5p := bne_iff_ne.1 hc5
        refine Cj.seq ?_
        refine Cj.drawSel [] [] 14 (by kernel_rfl) ?_
        refine JA.take 0 rfl rfl (by kernel_rfl) (by kernel_rfl) (by kernel_rfl) (fun _ _ _ h => h) rfl rfl rfl HSub.n CSub.n (Le.refl _) (yl_move rfl rfl) ?_
        refine JA.take 1 rfl rfl (by kernel_rfl) (by kernel_rfl) (by kernel_rfl) (fun _ _ _ h => h) rfl rfl rfl HSub.n CSub.n (Le.refl _) (yl_move rfl rfl) ?_
        refine JA.take 2 rfl rfl (by kernel_rfl) (by kernel_rfl) (by kernel_rfl) (fun _ _ _ h => h) rfl rfl rfl HSub.n CSub.n (Le.refl _) (yl_move rfl rfl) ?_
        refine JA.take 3 rfl rfl (by kernel_rfl) (by kernel_rfl) (by kernel_rfl) (fun _ _ _ h => h) rfl rfl rfl HSub.n CSub.n (Le.refl _) (yl_move rfl rfl) ?_
        refine JA.take 4 rfl rfl (by kernel_rfl) (by kernel_rfl) (by kernel_rfl) (fun _ _ _ h => h) rfl rfl rfl HSub.n CSub.n (Le.refl _) (yl_index (c := 92) rfl rfl rfl Tryz.underlying9 (by decide) rfl) ?_
        refine JA.take 5 rfl rfl (by kernel_rfl) (by kernel_rfl) (by kernel_rfl) (fun _ _ _ h => h) rfl rfl rfl HSub.n CSub.n (Le.refl _) (yl_nilCheck rfl rfl) ?_
        refine JA.take 6 rfl rfl (by kernel_rfl) (by kernel_rfl) (by kernel_rfl) (fun _ _ _ h => h) rfl rfl rfl HSub.n CSub.n (Le.refl _) (yl_fieldAddr (off' := 0) rfl rfl Tryz.underlying163 rfl Tryz.sizeOf161 rfl) ?_
        refine JA.take 7 rfl rfl (by kernel_rfl) (by kernel_rfl) (by kernel_rfl) (fun _ _ _ h => h) rfl rfl rfl HSub.n CSub.n (Le.refl _) (yl_indexArr (off' := 92) rfl rfl rfl Tryz.underlying161 Tryz.sizeOf46 (by decide) (by decide) (by decide)) ?_
        refine JA.take 8 rfl rfl (by kernel_rfl) (by kernel_rfl) (by kernel_rfl) (fun _ _ _ h => h) rfl rfl rfl HSub.n CSub.n (Le.refl _) (yl_load rfl rfl Tryz.isAgg46 (Blk.immC hxb) (tab_at _ _ (by decide))) ?_
        refine JA.eqv 49 rfl (show _ = .slice (some ⟨l2, 0, none⟩) 2 c2 from rfl) ?_
        refine JA.take 9 rfl rfl (by kernel_rfl) (by kernel_rfl) (by kernel_rfl) (fun _ _ _ h => h) rfl rfl rfl HSub.n CSub.n (Le.refl _) (yl_lenSlice rfl rfl Tryz.underlying46) ?_
        refine JA.take 10 rfl rfl (by kernel_rfl) (by kernel_rfl) (by kernel_rfl) (fun _ _ _ h => h) rfl rfl rfl HSub.n CSub.n (Le.refl _) (yl_sub rfl rfl rfl (w64 (by omega))) ?_
        refine JA.take 11 rfl rfl (by kernel_rfl) (by kernel_rfl) (by kernel_rfl) (fun _ _ _ h => h) rfl rfl rfl HSub.n CSub.n (Le.refl _) (yl_mul rfl rfl rfl (w64 (by omega))) ?_
        refine JA.take 12 rfl rfl (by kernel_rfl) (by kernel_rfl) (by kernel_rfl) (fun _ _ _ h => h) rfl rfl rfl HSub.n CSub.n (Le.refl _) (yl_add rfl rfl rfl (w64 (by omega))) ?_
        refine JA.take 13 rfl rfl (by kernel_rfl) (by kernel_rfl) (by kernel_rfl) (fun _ _ _ h => h) rfl rfl rfl HSub.n CSub.n (Le.refl _) (yl_assign rfl rfl) ?_
        refine JA.done (by kernel_rfl) ?_
        refine Ej.seq ?_
        refine Cj.region ?_
        refine J.y (yl_assign rfl rfl) rfl rfl rfl ?_
        refine J.nil ?_
        refine Ej.blkNormal ?_
        refine Ej.seq ?_
        refine Cj.region ?_
        refine J.y (yl_add rfl rfl rfl (w64 (by omega))) rfl rfl rfl ?_
        refine J.y (yl_move rfl rfl) rfl rfl rfl ?_
        refine J.nil ?_
        refine Ej.rounds ?_
        refine Rj.succ ?_
        refine Cj.seq ?_
        refine Cj.region ?_
        refine J.y (yl_lss rfl rfl rfl) rfl rfl rfl ?_
        refine J.nil ?_
        refine Ej.seq ?_
        refine Cj.seq ?_
        refine Cj.cond rfl (fun hc6 => Bool.noConfusion (Eq.trans (Eq.symm (by first | rfl | decide)) hc6)) (fun hc6 => ?_)
        refine Cj.exit ?_
        refine Ej.seqExit ?_
        refine Ej.seqExit ?_
        refine Ej.blkExit ?_
        refine Ej.seq ?_
        refine Cj.seq ?_
        refine Cj.seq ?_
        refine Cj.region ?_
        refine J.y (yl_move rfl rfl) rfl rfl rfl ?_
        refine J.y (yl_not rfl rfl) rfl rfl rfl ?_
        refine J.nil ?_
        refine Ej.seq ?_
        refine Cj.cond rfl (fun hc7 => Bool.noConfusion (Eq.trans (Eq.symm (congrArg not rfl)) hc7)) (fun hc7 => ?_)
        refine Cj.skip ?_
        refine Ej.seq ?_
        refine Cj.seq ?_
        refine Cj.region ?_
        refine J.y (yl_move rfl rfl) rfl rfl rfl ?_
        refine J.op rfl (op_makeSlice (n := (Cq.escape s).length) (c := (Cq.escape s).length) (by1 := 1) (z := (.int .u8 0)) rfl rfl rfl (by first | exact congrArg (fun z => some (Value.int .i64 z)) (by omega) | (rw [htk0]; exact congrArg (fun z => some (Value.int .i64 z)) (by omega))) (by first | exact congrArg (fun z => some (Value.int .i64 z)) (by omega) | (rw [htk0]; exact congrArg (fun z => some (Value.int .i64 z)) (by omega))) Tryz.underlying46 (by kernel_rfl) rfl (by omega) (by omega) (by omega) ?_)
        intro b8 hb8
        refine J.y (yl_assign rfl rfl) rfl rfl rfl ?_
        refine J.nil ?_
        refine Ej.seq ?_
        refine Cj.seq ?_
        refine Cj.region ?_
        refine J.y (yl_assign rfl rfl) rfl rfl rfl ?_
        refine J.nil ?_
        refine Ej.seq ?_
        refine Cj.seq ?_
        refine Cj.seq ?_
        refine Cj.region ?_
        refine J.y (yl_assign rfl rfl) rfl rfl rfl ?_
        refine J.nil ?_
        refine Ej.seq ?_
        refine Cj.block ?_
        refine Cj.loop (ι := Nat) (fun j => j ≤ s.length) (fun j => s.length - j) (fun j => [(0, ptr xb 0), (1, str s), (12, .slice (some ⟨b8, 0, none⟩) (Cq.escape s).length (Cq.escape s).length), (13, i64 ((Cq.escape (s.take j)).length : Int)), (14, i64 (j : Int))]) (fun j => I) (fun j => [(b8, cel 5 (buf (Cq.escape (s.take j)) (Cq.escape s).length))]) 0 (Nat.zero_le _) ⟨rfl, rfl, rfl, rfl, rfl, trivial⟩ rfl (by rw [List.take_zero]; exact congrArg (fun l => [(_, cel 5 l)]) (buf_nil _)) ?_
        intro j hj
        have hej := Cq.escape_part s j
        refine Cj.seq ?_
        refine Cj.seq ?_
        refine Cj.region ?_
        refine J.y (yl_move rfl rfl) rfl rfl rfl ?_
        refine J.y (yl_move rfl rfl) rfl rfl rfl ?_
        refine J.y (yl_lenStr rfl rfl Tryz.underlying9) rfl rfl rfl ?_
        refine J.y (yl_lss rfl rfl rfl) rfl rfl rfl ?_
        refine J.nil ?_
        refine Ej.seq ?_
        refine Cj.cond rfl (fun hc9 => ?_) (fun hc9 => ?_)
        ·
          have hc9p := of_decide_eq_true hc9
          have hlt : j < s.length := by omega
          obtain ⟨c, hget⟩ : ∃ c, s[j]? = some c := ⟨_, List.getElem?_eq_getElem hlt⟩
          have hx2 := Cq.escape_next hget
          have hej2 := Cq.escape_part s (j + 1)
          refine Cj.skip ?_
          refine Ej.seq ?_
          refine Cj.seq ?_
          refine Cj.block ?_
          refine Cj.seq ?_
          refine Cj.region ?_
          refine J.y (yl_move rfl rfl) rfl rfl rfl ?_
          refine J.y (yl_move rfl rfl) rfl rfl rfl ?_
          refine J.y (yl_index rfl rfl rfl Tryz.underlying9 (by omega) hget) rfl rfl rfl ?_
          refine J.y (yl_assign rfl rfl) rfl rfl rfl ?_
          refine J.nil ?_
          refine Ej.seq ?_
          refine Cj.seq ?_
          refine Cj.region ?_
          rcases Cq.three c with rfl | rfl | hno
          ·
            have hx3 : Cq.escape (s.take (j + 1)) = Cq.escape (s.take j) ++ [92, 34] := hx2.trans (by simp)
            have hl3 : (Cq.escape (s.take (j + 1))).length = (Cq.escape (s.take j)).length + 2 := by rw [hx3, List.length_append]; rfl
            refine J.y (yl_move rfl rfl) rfl rfl rfl ?_
            refine J.y (yl_move rfl rfl) rfl rfl rfl ?_
            refine J.y (yl_nilCheck rfl rfl) rfl rfl rfl ?_
            refine J.y (yl_fieldAddr (off' := 0) rfl rfl Tryz.underlying163 rfl Tryz.sizeOf161 rfl) rfl rfl rfl ?_
            refine J.y (yl_indexArr (off' := 34) rfl rfl rfl Tryz.underlying161 Tryz.sizeOf46 (by decide) (by decide) (by decide)) rfl rfl rfl ?_
            refine J.y (yl_load rfl rfl Tryz.isAgg46 (Blk.imm hxb) (tab_at _ _ (by decide))) rfl rfl rfl ?_
            refine J.eqv 100 rfl (show _ = .slice (some ⟨l1, 0, none⟩) 2 c1 from rfl) ?_
            refine J.y (yl_neqSlice _ rfl rfl rfl Tryz.underlying46) rfl rfl rfl ?_
            refine J.nil ?_
            refine Ej.seq ?_
            refine Cj.cond rfl (fun hc10 => ?_) (fun hc10 => Bool.noConfusion (Eq.trans (Eq.symm rfl) hc10))
            refine Cj.drawSel [] [] 13 (by kernel_rfl) ?_
            refine JA.take 0 rfl rfl (by kernel_rfl) (by kernel_rfl) (by kernel_rfl) (fun _ _ _ h => h) rfl rfl rfl HSub.n CSub.n (Le.refl _) (yl_move rfl rfl) ?_
            refine JA.take 1 rfl rfl (by kernel_rfl) (by kernel_rfl) (by kernel_rfl) (fun _ _ _ h => h) rfl rfl rfl HSub.n CSub.n (Le.refl _) (yl_move rfl rfl) ?_
            refine JA.take 2 rfl rfl (by kernel_rfl) (by kernel_rfl) (by kernel_rfl) (fun _ _ _ h => h) rfl rfl rfl HSub.n CSub.n (Le.refl _) (yl_move rfl rfl) ?_
            refine JA.take 3 rfl rfl (by kernel_rfl) (by kernel_rfl) (by kernel_rfl) (fun _ _ _ h => h) rfl rfl rfl HSub.n CSub.n (Le.refl _) (yl_sliceFrom rfl rfl rfl Tryz.underlying46 Tryz.sizeOf5 (by omega) (by omega)) ?_
            refine JA.take 4 rfl rfl (by kernel_rfl) (by kernel_rfl) (by kernel_rfl) (fun _ _ _ h => h) rfl rfl rfl HSub.n CSub.n (Le.refl _) (yl_move rfl rfl) ?_
            refine JA.take 5 rfl rfl (by kernel_rfl) (by kernel_rfl) (by kernel_rfl) (fun _ _ _ h => h) rfl rfl rfl HSub.n CSub.n (Le.refl _) (yl_move rfl rfl) ?_
            refine JA.take 6 rfl rfl (by kernel_rfl) (by kernel_rfl) (by kernel_rfl) (fun _ _ _ h => h) rfl rfl rfl HSub.n CSub.n (Le.refl _) (yl_nilCheck rfl rfl) ?_
            refine JA.take 7 rfl rfl (by kernel_rfl) (by kernel_rfl) (by kernel_rfl) (fun _ _ _ h => h) rfl rfl rfl HSub.n CSub.n (Le.refl _) (yl_fieldAddr (off' := 0) rfl rfl Tryz.underlying163 rfl Tryz.sizeOf161 rfl) ?_
            refine JA.take 8 rfl rfl (by kernel_rfl) (by kernel_rfl) (by kernel_rfl) (fun _ _ _ h => h) rfl rfl rfl HSub.n CSub.n (Le.refl _) (yl_indexArr (off' := 34) rfl rfl rfl Tryz.underlying161 Tryz.sizeOf46 (by decide) (by decide) (by decide)) ?_
            refine JA.take 9 rfl rfl (by kernel_rfl) (by kernel_rfl) (by kernel_rfl) (fun _ _ _ h => h) rfl rfl rfl HSub.n CSub.n (Le.refl _) (yl_load rfl rfl Tryz.isAgg46 (Blk.immC hxb) (tab_at _ _ (by decide))) ?_
            refine JA.eqv 111 rfl (show _ = .slice (some ⟨l1, 0, none⟩) 2 c1 from rfl) ?_
            refine JA.step 10 (by kernel_rfl) rfl rfl (op_copy (m := 2) 0 rfl rfl rfl rfl rfl Tryz.underlying46 Tryz.sizeOf5 (Src.slice (ys := bcs [92, 34]) (Blk.imm hv1) rfl rfl rfl) (by omega) rfl (by have h := buf_spl (E := Cq.escape (s.take j)) (X := [92, 34]) (n := (Cq.escape s).length) (by simp; omega); simpa using h) LSet.z ?_)
            refine ⟨⟨(Le.refl _), HSub.n, CSub.n⟩, ?_⟩
            refine JA.take 11 rfl rfl (by kernel_rfl) (by kernel_rfl) (by kernel_rfl) (fun _ _ _ h => h) rfl rfl rfl HSub.n CSub.n (Le.refl _) (yl_add rfl rfl rfl (w64 (by omega))) ?_
            refine JA.take 12 rfl rfl (by kernel_rfl) (by kernel_rfl) (by kernel_rfl) (fun _ _ _ h => h) rfl rfl rfl HSub.n CSub.n (Le.refl _) (yl_assign rfl rfl) ?_
            refine JA.done (by kernel_rfl) ?_
            refine Ej.blkNormal ?_
            refine Ej.seq ?_
            refine Cj.region ?_
            refine J.y (yl_move rfl rfl) rfl rfl rfl ?_
            refine J.y (yl_add rfl rfl rfl (w64 (by omega))) rfl rfl rfl ?_
            refine J.y (yl_assign rfl rfl) rfl rfl rfl ?_
            refine J.nil ?_
            refine Ej.round (j + 1) (by omega) (by omega) ⟨rfl, rfl, rfl, by rw [hl3]; rfl, rfl, trivial⟩ rfl (by rw [hx3] <;> rfl)
          ·
            have hx3 : Cq.escape (s.take (j + 1)) = Cq.escape (s.take j) ++ [92, 92] := hx2.trans (by simp)
            have hl3 : (Cq.escape (s.take (j + 1))).length = (Cq.escape (s.take j)).length + 2 := by rw [hx3, List.length_append]; rfl
            refine J.y (yl_move rfl rfl) rfl rfl rfl ?_
            refine J.y (yl_move rfl rfl) rfl rfl rfl ?_
            refine J.y (yl_nilCheck rfl rfl) rfl rfl rfl ?_
            refine J.y (yl_fieldAddr (off' := 0) rfl rfl Tryz.underlying163 rfl Tryz.sizeOf161 rfl) rfl rfl rfl ?_
            refine J.y (yl_indexArr (off' := 92) rfl rfl rfl Tryz.underlying161 Tryz.sizeOf46 (by decide) (by decide) (by decide)) rfl rfl rfl ?_
            refine J.y (yl_load rfl rfl Tryz.isAgg46 (Blk.imm hxb) (tab_at _ _ (by decide))) rfl rfl rfl ?_
            refine J.eqv 100 rfl (show _ = .slice (some ⟨l2, 0, none⟩) 2 c2 from rfl) ?_
            refine J.y (yl_neqSlice _ rfl rfl rfl Tryz.underlying46) rfl rfl rfl ?_
            refine J.nil ?_
            refine Ej.seq ?_
            refine Cj.cond rfl (fun hc11 => ?_) (fun hc11 => Bool.noConfusion (Eq.trans (Eq.symm rfl) hc11))
            refine Cj.drawSel [] [] 13 (by kernel_rfl) ?_
            refine JA.take 0 rfl rfl (by kernel_rfl) (by kernel_rfl) (by kernel_rfl) (fun _ _ _ h => h) rfl rfl rfl HSub.n CSub.n (Le.refl _) (yl_move rfl rfl) ?_
            refine JA.take 1 rfl rfl (by kernel_rfl) (by kernel_rfl) (by kernel_rfl) (fun _ _ _ h => h) rfl rfl rfl HSub.n CSub.n (Le.refl _) (yl_move rfl rfl) ?_
            refine JA.take 2 rfl rfl (by kernel_rfl) (by kernel_rfl) (by kernel_rfl) (fun _ _ _ h => h) rfl rfl rfl HSub.n CSub.n (Le.refl _) (yl_move rfl rfl) ?_
            refine JA.take 3 rfl rfl (by kernel_rfl) (by kernel_rfl) (by kernel_rfl) (fun _ _ _ h => h) rfl rfl rfl HSub.n CSub.n (Le.refl _) (yl_sliceFrom rfl rfl rfl Tryz.underlying46 Tryz.sizeOf5 (by omega) (by omega)) ?_
            refine JA.take 4 rfl rfl (by kernel_rfl) (by kernel_rfl) (by kernel_rfl) (fun _ _ _ h => h) rfl rfl rfl HSub.n CSub.n (Le.refl _) (yl_move rfl rfl) ?_
            refine JA.take 5 rfl rfl (by kernel_rfl) (by kernel_rfl) (by kernel_rfl) (fun _ _ _ h => h) rfl rfl rfl HSub.n CSub.n (Le.refl _) (yl_move rfl rfl) ?_
            refine JA.take 6 rfl rfl (by kernel_rfl) (by kernel_rfl) (by kernel_rfl) (fun _ _ _ h => h) rfl rfl rfl HSub.n CSub.n (Le.refl _) (yl_nilCheck rfl rfl) ?_
            refine JA.take 7 rfl rfl (by kernel_rfl) (by kernel_rfl) (by kernel_rfl) (fun _ _ _ h => h) rfl rfl rfl HSub.n CSub.n (Le.refl _) (yl_fieldAddr (off' := 0) rfl rfl Tryz.underlying163 rfl Tryz.sizeOf161 rfl) ?_
            refine JA.take 8 rfl rfl (by kernel_rfl) (by kernel_rfl) (by kernel_rfl) (fun _ _ _ h => h) rfl rfl rfl HSub.n CSub.n (Le.refl _) (yl_indexArr (off' := 92) rfl rfl rfl Tryz.underlying161 Tryz.sizeOf46 (by decide) (by decide) (by decide)) ?_
            refine JA.take 9 rfl rfl (by kernel_rfl) (by kernel_rfl) (by kernel_rfl) (fun _ _ _ h => h) rfl rfl rfl HSub.n CSub.n (Le.refl _) (yl_load rfl rfl Tryz.isAgg46 (Blk.immC hxb) (tab_at _ _ (by decide))) ?_
            refine JA.eqv 111 rfl (show _ = .slice (some ⟨l2, 0, none⟩) 2 c2 from rfl) ?_
            refine JA.step 10 (by kernel_rfl) rfl rfl (op_copy (m := 2) 0 rfl rfl rfl rfl rfl Tryz.underlying46 Tryz.sizeOf5 (Src.slice (ys := bcs [92, 92]) (Blk.imm hv2) rfl rfl rfl) (by omega) rfl (by have h := buf_spl (E := Cq.escape (s.take j)) (X := [92, 92]) (n := (Cq.escape s).length) (by simp; omega); simpa using h) LSet.z ?_)
            refine ⟨⟨(Le.refl _), HSub.n, CSub.n⟩, ?_⟩
            refine JA.take 11 rfl rfl (by kernel_rfl) (by kernel_rfl) (by kernel_rfl) (fun _ _ _ h => h) rfl rfl rfl HSub.n CSub.n (Le.refl _) (yl_add rfl rfl rfl (w64 (by omega))) ?_
            refine JA.take 12 rfl rfl (by kernel_rfl) (by kernel_rfl) (by kernel_rfl) (fun _ _ _ h => h) rfl rfl rfl HSub.n CSub.n (Le.refl _) (yl_assign rfl rfl) ?_
            refine JA.done (by kernel_rfl) ?_
            refine Ej.blkNormal ?_
            refine Ej.seq ?_
            refine Cj.region ?_
            refine J.y (yl_move rfl rfl) rfl rfl rfl ?_
            refine J.y (yl_add rfl rfl rfl (w64 (by omega))) rfl rfl rfl ?_
            refine J.y (yl_assign rfl rfl) rfl rfl rfl ?_
            refine J.nil ?_
            refine Ej.round (j + 1) (by omega) (by omega) ⟨rfl, rfl, rfl, by rw [hl3]; rfl, rfl, trivial⟩ rfl (by rw [hx3] <;> rfl)
          ·
            have hx3 : Cq.escape (s.take (j + 1)) = Cq.escape (s.take j) ++ [c] := hx2.trans (by simp [hno])
            have hl3 : (Cq.escape (s.take (j + 1))).length = (Cq.escape (s.take j)).length + 1 := by rw [hx3, List.length_append]; rfl
            have hc256 : c.toNat < 256 := c.toNat_lt
            have hn34 : ¬ c.toNat = 34 := fun h => hno (.inl (UInt8.toNat_inj.1 h))
            have hn92 : ¬ c.toNat = 92 := fun h => hno (.inr (UInt8.toNat_inj.1 h))
            refine J.y (yl_move rfl rfl) rfl rfl rfl ?_
            refine J.y (yl_move rfl rfl) rfl rfl rfl ?_
            refine J.y (yl_nilCheck rfl rfl) rfl rfl rfl ?_
            refine J.y (yl_fieldAddr (off' := 0) rfl rfl Tryz.underlying163 rfl Tryz.sizeOf161 rfl) rfl rfl rfl ?_
            refine J.y (yl_indexArr (off' := c.toNat) rfl rfl rfl Tryz.underlying161 Tryz.sizeOf46 (by omega) (by omega) (by simp)) rfl rfl rfl ?_
            refine J.y (yl_load rfl rfl Tryz.isAgg46 (Blk.imm hxb) (tab_at _ _ hc256)) rfl rfl rfl ?_
            refine J.eqv 100 rfl (show _ = .slice none 0 0 from (by rw [if_neg hn92, if_neg hn34])) ?_
            refine J.y (yl_neqSlice _ rfl rfl rfl Tryz.underlying46) rfl rfl rfl ?_
            refine J.nil ?_
            refine Ej.seq ?_
            refine Cj.cond rfl (fun hc12 => Bool.noConfusion (Eq.trans (Eq.symm rfl) hc12)) (fun hc12 => ?_)
            refine Cj.seq ?_
            refine Cj.region ?_
            refine J.y (yl_move rfl rfl) rfl rfl rfl ?_
            refine J.y (yl_move rfl rfl) rfl rfl rfl ?_
            refine J.y (yl_move rfl rfl) rfl rfl rfl ?_
            refine J.y (yl_indexAddr (off' := (Cq.escape (s.take j)).length) rfl rfl rfl Tryz.underlying46 Tryz.sizeOf5 (by omega) (by omega) (by simp)) rfl rfl rfl ?_
            refine J.op rfl (op_store1 0 rfl rfl rfl rfl rfl rfl Tryz.sizeOf5 rfl (.inl rfl) (by rw [buf_len hej]; omega) (by rw [buf_set _ (by omega)]; exact LSet.z) ?_)
            refine J.nil ?_
            refine Ej.seq ?_
            refine Cj.region ?_
            refine J.y (yl_move rfl rfl) rfl rfl rfl ?_
            refine J.y (yl_add rfl rfl rfl (w64 (by omega))) rfl rfl rfl ?_
            refine J.y (yl_assign rfl rfl) rfl rfl rfl ?_
            refine J.nil ?_
            refine Ej.blkNormal ?_
            refine Ej.seq ?_
            refine Cj.region ?_
            refine J.y (yl_move rfl rfl) rfl rfl rfl ?_
            refine J.y (yl_add rfl rfl rfl (w64 (by omega))) rfl rfl rfl ?_
            refine J.y (yl_assign rfl rfl) rfl rfl rfl ?_
            refine J.nil ?_
            refine Ej.round (j + 1) (by omega) (by omega) ⟨rfl, rfl, rfl, by rw [hl3]; rfl, rfl, trivial⟩ rfl (by rw [hx3] <;> rfl)
        ·
          have hc9p := of_decide_eq_false hc9
          have htk : s.take j = s := List.take_of_length_le (by omega)
          refine Cj.exit ?_
          refine Ej.seqExit ?_
          refine Ej.loopExit ?_
          refine Ej.blkExit ?_
          refine Ej.seq ?_
          refine Cj.seq ?_
          refine Cj.region ?_
          refine J.y (yl_move rfl rfl) rfl rfl rfl ?_
          refine J.y (yl_toStr (Cq.escape s) rfl rfl rfl Tryz.underlying46 Tryz.underlying9 Tryz.underlying5 (Blk.at 0 rfl) (by rw [htk, buf_full rfl, List.append_nil]; exact List.take_of_length_le (by rw [List.drop_zero, bcs_len]; exact Nat.le_refl _))) rfl rfl rfl ?_
          refine J.y (yl_assign rfl rfl) rfl rfl rfl ?_
          refine J.nil ?_
          refine Ej.seq ?_
          refine Cj.ret ?_
          refine Ej.bare ?_
          refine Ej.ret1 rfl rfl rfl ?_
          exact ⟨rfl, rfl, rfl⟩
      ·
        have hc5p := bne_f hc5
        refine Cj.skip ?_
        refine Ej.blkNormal ?_
        refine Ej.seq ?_
        refine Cj.region ?_
        refine J.y (yl_add rfl rfl rfl (w64 (by omega))) rfl rfl rfl ?_
        refine J.y (yl_move rfl rfl) rfl rfl rfl ?_
        refine J.nil ?_
        refine Ej.rounds ?_
        refine Rj.succ ?_
        refine Cj.seq ?_
        refine Cj.region ?_
        refine J.y (yl_lss rfl rfl rfl) rfl rfl rfl ?_
        refine J.nil ?_
        refine Ej.seq ?_
        refine Cj.seq ?_
        refine Cj.cond rfl (fun hc13 => Bool.noConfusion (Eq.trans (Eq.symm (by first | rfl | decide)) hc13)) (fun hc13 => ?_)
        refine Cj.exit ?_
        refine Ej.seqExit ?_
        refine Ej.seqExit ?_
        refine Ej.blkExit ?_
        refine Ej.seq ?_
        refine Cj.seq ?_
        refine Cj.seq ?_
        refine Cj.region ?_
        refine J.y (yl_move rfl rfl) rfl rfl rfl ?_
        refine J.y (yl_not rfl rfl) rfl rfl rfl ?_
        refine J.nil ?_
        refine Ej.seq ?_
        refine Cj.cond rfl (fun hc14 => Bool.noConfusion (Eq.trans (Eq.symm (congrArg not rfl)) hc14)) (fun hc14 => ?_)
        refine Cj.skip ?_
        refine Ej.seq ?_
        refine Cj.seq ?_
        refine Cj.region ?_
        refine J.y (yl_move rfl rfl) rfl rfl rfl ?_
        refine J.op rfl (op_makeSlice (n := (Cq.escape s).length) (c := (Cq.escape s).length) (by1 := 1) (z := (.int .u8 0)) rfl rfl rfl (by first | exact congrArg (fun z => some (Value.int .i64 z)) (by omega) | (rw [htk0]; exact congrArg (fun z => some (Value.int .i64 z)) (by omega))) (by first | exact congrArg (fun z => some (Value.int .i64 z)) (by omega) | (rw [htk0]; exact congrArg (fun z => some (Value.int .i64 z)) (by omega))) Tryz.underlying46 (by kernel_rfl) rfl (by omega) (by omega) (by omega) ?_)
        intro b15 hb15
        refine J.y (yl_assign rfl rfl) rfl rfl rfl ?_
        refine J.nil ?_
        refine Ej.seq ?_
        refine Cj.seq ?_
        refine Cj.region ?_
        refine J.y (yl_assign rfl rfl) rfl rfl rfl ?_
        refine J.nil ?_
        refine Ej.seq ?_
        refine Cj.seq ?_
        refine Cj.seq ?_
        refine Cj.region ?_
        refine J.y (yl_assign rfl rfl) rfl rfl rfl ?_
        refine J.nil ?_
        refine Ej.seq ?_
        refine Cj.block ?_
        refine Cj.loop (ι := Nat) (fun j => j ≤ s.length) (fun j => s.length - j) (fun j => [(0, ptr xb 0), (1, str s), (12, .slice (some ⟨b15, 0, none⟩) (Cq.escape s).length (Cq.escape s).length), (13, i64 ((Cq.escape (s.take j)).length : Int)), (14, i64 (j : Int))]) (fun j => I) (fun j => [(b15, cel 5 (buf (Cq.escape (s.take j)) (Cq.escape s).length))]) 0 (Nat.zero_le _) ⟨rfl, rfl, rfl, rfl, rfl, trivial⟩ rfl (by rw [List.take_zero]; exact congrArg (fun l => [(_, cel 5 l)]) (buf_nil _)) ?_
        intro j hj
        have hej := Cq.escape_part s j
        refine Cj.seq ?_
        refine Cj.seq ?_
        refine Cj.region ?_
        refine J.y (yl_move rfl rfl) rfl rfl rfl ?_
        refine J.y (yl_move rfl rfl) rfl rfl rfl ?_
        refine J.y (yl_lenStr rfl rfl Tryz.underlying9) rfl rfl rfl ?_
        refine J.y (yl_lss rfl rfl rfl) rfl rfl rfl ?_
        refine J.nil ?_
        refine Ej.seq ?_
        refine Cj.cond rfl (fun hc16 => ?_) (fun hc16 => ?_)
        ·
          have hc16p := of_decide_eq_true hc16
          have hlt : j < s.length := by omega
          obtain ⟨c, hget⟩ : ∃ c, s[j]? = some c := ⟨_, List.getElem?_eq_getElem hlt⟩
          have hx2 := Cq.escape_next hget
          have hej2 := Cq.escape_part s (j + 1)
          refine Cj.skip ?_
          refine Ej.seq ?_
          refine Cj.seq ?_
          refine Cj.block ?_
          refine Cj.seq ?_
          refine Cj.region ?_
          refine J.y (yl_move rfl rfl) rfl rfl rfl ?_
          refine J.y (yl_move rfl rfl) rfl rfl rfl ?_
          refine J.y (yl_index rfl rfl rfl Tryz.underlying9 (by omega) hget) rfl rfl rfl ?_
          refine J.y (yl_assign rfl rfl) rfl rfl rfl ?_
          refine J.nil ?_
          refine Ej.seq ?_
          refine Cj.seq ?_
          refine Cj.region ?_
          rcases Cq.three c with rfl | rfl | hno
          ·
            have hx3 : Cq.escape (s.take (j + 1)) = Cq.escape (s.take j) ++ [92, 34] := hx2.trans (by simp)
            have hl3 : (Cq.escape (s.take (j + 1))).length = (Cq.escape (s.take j)).length + 2 := by rw [hx3, List.length_append]; rfl
            refine J.y (yl_move rfl rfl) rfl rfl rfl ?_
            refine J.y (yl_move rfl rfl) rfl rfl rfl ?_
            refine J.y (yl_nilCheck rfl rfl) rfl rfl rfl ?_
            refine J.y (yl_fieldAddr (off' := 0) rfl rfl Tryz.underlying163 rfl Tryz.sizeOf161 rfl) rfl rfl rfl ?_
            refine J.y (yl_indexArr (off' := 34) rfl rfl rfl Tryz.underlying161 Tryz.sizeOf46 (by decide) (by decide) (by decide)) rfl rfl rfl ?_
            refine J.y (yl_load rfl rfl Tryz.isAgg46 (Blk.imm hxb) (tab_at _ _ (by decide))) rfl rfl rfl ?_
            refine J.eqv 100 rfl (show _ = .slice (some ⟨l1, 0, none⟩) 2 c1 from rfl) ?_
            refine J.y (yl_neqSlice _ rfl rfl rfl Tryz.underlying46) rfl rfl rfl ?_
            refine J.nil ?_
            refine Ej.seq ?_
            refine Cj.cond rfl (fun hc17 => ?_) (fun hc17 => Bool.noConfusion (Eq.trans (Eq.symm rfl) hc17))
            refine Cj.drawSel [] [] 13 (by kernel_rfl) ?_
            refine JA.take 0 rfl rfl (by kernel_rfl) (by kernel_rfl) (by kernel_rfl) (fun _ _ _ h => h) rfl rfl rfl HSub.n CSub.n (Le.refl _) (yl_move rfl rfl) ?_
            refine JA.take 1 rfl rfl (by kernel_rfl) (by kernel_rfl) (by kernel_rfl) (fun _ _ _ h => h) rfl rfl rfl HSub.n CSub.n (Le.refl _) (yl_move rfl rfl) ?_
            refine JA.take 2 rfl rfl (by kernel_rfl) (by kernel_rfl) (by kernel_rfl) (fun _ _ _ h => h) rfl rfl rfl HSub.n CSub.n (Le.refl _) (yl_move rfl rfl) ?_
            refine JA.take 3 rfl rfl (by kernel_rfl) (by kernel_rfl) (by kernel_rfl) (fun _ _ _ h => h) rfl rfl rfl HSub.n CSub.n (Le.refl _) (yl_sliceFrom rfl rfl rfl Tryz.underlying46 Tryz.sizeOf5 (by omega) (by omega)) ?_
            refine JA.take 4 rfl rfl (by kernel_rfl) (by kernel_rfl) (by kernel_rfl) (fun _ _ _ h => h) rfl rfl rfl HSub.n CSub.n (Le.refl _) (yl_move rfl rfl) ?_
            refine JA.take 5 rfl rfl (by kernel_rfl) (by kernel_rfl) (by kernel_rfl) (fun _ _ _ h => h) rfl rfl rfl HSub.n CSub.n (Le.refl _) (yl_move rfl rfl) ?_
            refine JA.take 6 rfl rfl (by kernel_rfl) (by kernel_rfl) (by kernel_rfl) (fun _ _ _ h => h) rfl rfl rfl HSub.n CSub.n (Le.refl _) (yl_nilCheck rfl rfl) ?_
            refine JA.take 7 rfl rfl (by kernel_rfl) (by kernel_rfl) (by kernel_rfl) (fun _ _ _ h => h) rfl rfl rfl HSub.n CSub.n (Le.refl _) (yl_fieldAddr (off' := 0) rfl rfl Tryz.underlying163 rfl Tryz.sizeOf161 rfl) ?_
            refine JA.take 8 rfl rfl (by kernel_rfl) (by kernel_rfl) (by kernel_rfl) (fun _ _ _ h => h) rfl rfl rfl HSub.n CSub.n (Le.refl _) (yl_indexArr (off' := 34) rfl rfl rfl Tryz.underlying161 Tryz.sizeOf46 (by decide) (by decide) (by decide)) ?_
            refine JA.take 9 rfl rfl (by kernel_rfl) (by kernel_rfl) (by kernel_rfl) (fun _ _ _ h => h) rfl rfl rfl HSub.n CSub.n (Le.refl _) (yl_load rfl rfl Tryz.isAgg46 (Blk.immC hxb) (tab_at _ _ (by decide))) ?_
            refine JA.eqv 111 rfl (show _ = .slice (some ⟨l1, 0, none⟩) 2 c1 from rfl) ?_
            refine JA.step 10 (by kernel_rfl) rfl rfl (op_copy (m := 2) 0 rfl rfl rfl rfl rfl Tryz.underlying46 Tryz.sizeOf5 (Src.slice (ys := bcs [92, 34]) (Blk.imm hv1) rfl rfl rfl) (by omega) rfl (by have h := buf_spl (E := Cq.escape (s.take j)) (X := [92, 34]) (n := (Cq.escape s).length) (by simp; omega); simpa using h) LSet.z ?_)
            refine ⟨⟨(Le.refl _), HSub.n, CSub.n⟩, ?_⟩
            refine JA.take 11 rfl rfl (by kernel_rfl) (by kernel_rfl) (by kernel_rfl) (fun _ _ _ h => h) rfl rfl rfl HSub.n CSub.n (Le.refl _) (yl_add rfl rfl rfl (w64 (by omega))) ?_
            refine JA.take 12 rfl rfl (by kernel_rfl) (by kernel_rfl) (by kernel_rfl) (fun _ _ _ h => h) rfl rfl rfl HSub.n CSub.n (Le.refl _) (yl_assign rfl rfl) ?_
            refine JA.done (by kernel_rfl) ?_
            refine Ej.blkNormal ?_
            refine Ej.seq ?_
            refine Cj.region ?_
            refine J.y (yl_move rfl rfl) rfl rfl rfl ?_
            refine J.y (yl_add rfl rfl rfl (w64 (by omega))) rfl rfl rfl ?_
            refine J.y (yl_assign rfl rfl) rfl rfl rfl ?_
            refine J.nil ?_
            refine Ej.round (j + 1) (by omega) (by omega) ⟨rfl, rfl, rfl, by rw [hl3]; rfl, rfl, trivial⟩ rfl (by rw [hx3] <;> rfl)
          ·
            have hx3 : Cq.escape (s.take (j + 1)) = Cq.escape (s.take j) ++ [92, 92] := hx2.trans (by simp)
            have hl3 : (Cq.escape (s.take (j + 1))).length = (Cq.escape (s.take j)).length + 2 := by rw [hx3, List.length_append]; rfl
            refine J.y (yl_move rfl rfl) rfl rfl rfl ?_
            refine J.y (yl_move rfl rfl) rfl rfl rfl ?_
            refine J.y (yl_nilCheck rfl rfl) rfl rfl rfl ?_
            refine J.y (yl_fieldAddr (off' := 0) rfl rfl Tryz.underlying163 rfl Tryz.sizeOf161 rfl) rfl rfl rfl ?_
            refine J.y (yl_indexArr (off' := 92) rfl rfl rfl Tryz.underlying161 Tryz.sizeOf46 (by decide) (by decide) (by decide)) rfl rfl rfl ?_
            refine J.y (yl_load rfl rfl Tryz.isAgg46 (Blk.imm hxb) (tab_at _ _ (by decide))) rfl rfl rfl ?_
            refine J.eqv 100 rfl (show _ = .slice (some ⟨l2, 0, none⟩) 2 c2 from rfl) ?_
            refine J.y (yl_neqSlice _ rfl rfl rfl Tryz.underlying46) rfl rfl rfl ?_
            refine J.nil ?_
            refine Ej.seq ?_
            refine Cj.cond rfl (fun hc18 => ?_) (fun hc18 => Bool.noConfusion (Eq.trans (Eq.symm rfl) hc18))
            refine Cj.drawSel [] [] 13 (by kernel_rfl) ?_
            refine JA.take 0 rfl rfl (by kernel_rfl) (by kernel_rfl) (by kernel_rfl) (fun _ _ _ h => h) rfl rfl rfl HSub.n CSub.n (Le.refl _) (yl_move rfl rfl) ?_
            refine JA.take 1 rfl rfl (by kernel_rfl) (by kernel_rfl) (by kernel_rfl) (fun _ _ _ h => h) rfl rfl rfl HSub.n CSub.n (Le.refl _) (yl_move rfl rfl) ?_
            refine JA.take 2 rfl rfl (by kernel_rfl) (by kernel_rfl) (by kernel_rfl) (fun _ _ _ h => h) rfl rfl rfl HSub.n CSub.n (Le.refl _) (yl_move rfl rfl) ?_
            refine JA.take 3 rfl rfl (by kernel_rfl) (by kernel_rfl) (by kernel_rfl) (fun _ _ _ h => h) rfl rfl rfl HSub.n CSub.n (Le.refl _) (yl_sliceFrom rfl rfl rfl Tryz.underlying46 Tryz.sizeOf5 (by omega) (by omega)) ?_
            refine JA.take 4 rfl rfl (by kernel_rfl) (by kernel_rfl) (by kernel_rfl) (fun _ _ _ h => h) rfl rfl rfl HSub.n CSub.n (Le.refl _) (yl_move rfl rfl) ?_
            refine JA.take 5 rfl rfl (by kernel_rfl) (by kernel_rfl) (by kernel_rfl) (fun _ _ _ h => h) rfl rfl rfl HSub.n CSub.n (Le.refl _) (yl_move rfl rfl) ?_
            refine JA.take 6 rfl rfl (by kernel_rfl) (by kernel_rfl) (by kernel_rfl) (fun _ _ _ h => h) rfl rfl rfl HSub.n CSub.n (Le.refl _) (yl_nilCheck rfl rfl) ?_
            refine JA.take 7 rfl rfl (by kernel_rfl) (by kernel_rfl) (by kernel_rfl) (fun _ _ _ h => h) rfl rfl rfl HSub.n CSub.n (Le.refl _) (yl_fieldAddr (off' := 0) rfl rfl Tryz.underlying163 rfl Tryz.sizeOf161 rfl) ?_
            refine JA.take 8 rfl rfl (by kernel_rfl) (by kernel_rfl) (by kernel_rfl) (fun _ _ _ h => h) rfl rfl rfl HSub.n CSub.n (Le.refl _) (yl_indexArr (off' := 92) rfl rfl rfl Tryz.underlying161 Tryz.sizeOf46 (by decide) (by decide) (by decide)) ?_
            refine JA.take 9 rfl rfl (by kernel_rfl) (by kernel_rfl) (by kernel_rfl) (fun _ _ _ h => h) rfl rfl rfl HSub.n CSub.n (Le.refl _) (yl_load rfl rfl Tryz.isAgg46 (Blk.immC hxb) (tab_at _ _ (by decide))) ?_
            refine JA.eqv 111 rfl (show _ = .slice (some ⟨l2, 0, none⟩) 2 c2 from rfl) ?_
            refine JA.step 10 (by kernel_rfl) rfl rfl (op_copy (m := 2) 0 rfl rfl rfl rfl rfl Tryz.underlying46 Tryz.sizeOf5 (Src.slice (ys := bcs [92, 92]) (Blk.imm hv2) rfl rfl rfl) (by omega) rfl (by have h := buf_spl (E := Cq.escape (s.take j)) (X := [92, 92]) (n := (Cq.escape s).length) (by simp; omega); simpa using h) LSet.z ?_)
            refine ⟨⟨(Le.refl _), HSub.n, CSub.n⟩, ?_⟩
            refine JA.take 11 rfl rfl (by kernel_rfl) (by kernel_rfl) (by kernel_rfl) (fun _ _ _ h => h) rfl rfl rfl HSub.n CSub.n (Le.refl _) (yl_add rfl rfl rfl (w64 (by omega))) ?_
            refine JA.take 12 rfl rfl (by kernel_rfl) (by kernel_rfl) (by kernel_rfl) (fun _ _ _ h => h) rfl rfl rfl HSub.n CSub.n (Le.refl _) (yl_assign rfl rfl) ?_
            refine JA.done (by kernel_rfl) ?_
            refine Ej.blkNormal ?_
            refine Ej.seq ?_
            refine Cj.region ?_
            refine J.y (yl_move rfl rfl) rfl rfl rfl ?_
            refine J.y (yl_add rfl rfl rfl (w64 (by omega))) rfl rfl rfl ?_
            refine J.y (yl_assign rfl rfl) rfl rfl rfl ?_
            refine J.nil ?_
            refine Ej.round (j + 1) (by omega) (by omega) ⟨rfl, rfl, rfl, by rw [hl3]; rfl, rfl, trivial⟩ rfl (by rw [hx3] <;> rfl)
          ·
            have hx3 : Cq.escape (s.take (j + 1)) = Cq.escape (s.take j) ++ [c] := hx2.trans (by simp [hno])
            have hl3 : (Cq.escape (s.take (j + 1))).length = (Cq.escape (s.take j)).length + 1 := by rw [hx3, List.length_append]; rfl
            have hc256 : c.toNat < 256 := c.toNat_lt
            have hn34 : ¬ c.toNat = 34 := fun h => hno (.inl (UInt8.toNat_inj.1 h))
            have hn92 : ¬ c.toNat = 92 := fun h => hno (.inr (UInt8.toNat_inj.1 h))
            refine J.y (yl_move rfl rfl) rfl rfl rfl ?_
            refine J.y (yl_move rfl rfl) rfl rfl rfl ?_
            refine J.y (yl_nilCheck rfl rfl) rfl rfl rfl ?_
            refine J.y (yl_fieldAddr (off' := 0) rfl rfl Tryz.underlying163 rfl Tryz.sizeOf161 rfl) rfl rfl rfl ?_
            refine J.y (yl_indexArr (off' := c.toNat) rfl rfl rfl Tryz.underlying161 Tryz.sizeOf46 (by omega) (by omega) (by simp)) rfl rfl rfl ?_
            refine J.y (yl_load rfl rfl Tryz.isAgg46 (Blk.imm hxb) (tab_at _ _ hc256)) rfl rfl rfl ?_
            refine J.eqv 100 rfl (show _ = .slice none 0 0 from (by rw [if_neg hn92, if_neg hn34])) ?_
            refine J.y (yl_neqSlice _ rfl rfl rfl Tryz.underlying46) rfl rfl rfl ?_
            refine J.nil ?_
            refine Ej.seq ?_
            refine Cj.cond rfl (fun hc19 => Bool.noConfusion (Eq.trans (Eq.symm rfl) hc19)) (fun hc19 => ?_)
            refine Cj.seq ?_
            refine Cj.region ?_
            refine J.y (yl_move rfl rfl) rfl rfl rfl ?_
            refine J.y (yl_move rfl rfl) rfl rfl rfl ?_
            refine J.y (yl_move rfl rfl) rfl rfl rfl ?_
            refine J.y (yl_indexAddr (off' := (Cq.escape (s.take j)).length) rfl rfl rfl Tryz.underlying46 Tryz.sizeOf5 (by omega) (by omega) (by simp)) rfl rfl rfl ?_
            refine J.op rfl (op_store1 0 rfl rfl rfl rfl rfl rfl Tryz.sizeOf5 rfl (.inl rfl) (by rw [buf_len hej]; omega) (by rw [buf_set _ (by omega)]; exact LSet.z) ?_)
            refine J.nil ?_
            refine Ej.seq ?_
            refine Cj.region ?_
            refine J.y (yl_move rfl rfl) rfl rfl rfl ?_
            refine J.y (yl_add rfl rfl rfl (w64 (by omega))) rfl rfl rfl ?_
            refine J.y (yl_assign rfl rfl) rfl rfl rfl ?_
            refine J.nil ?_
            refine Ej.blkNormal ?_
            refine Ej.seq ?_
            refine Cj.region ?_
            refine J.y (yl_move rfl rfl) rfl rfl rfl ?_
            refine J.y (yl_add rfl rfl rfl (w64 (by omega))) rfl rfl rfl ?_
            refine J.y (yl_assign rfl rfl) rfl rfl rfl ?_
            refine J.nil ?_
            refine Ej.round (j + 1) (by omega) (by omega) ⟨rfl, rfl, rfl, by rw [hl3]; rfl, rfl, trivial⟩ rfl (by rw [hx3] <;> rfl)
        ·
          have hc16p := of_decide_eq_false hc16
          have htk : s.take j = s := List.take_of_length_le (by omega)
          refine Cj.exit ?_
          refine Ej.seqExit ?_
          refine Ej.loopExit ?_
          refine Ej.blkExit ?_
          refine Ej.seq ?_
          refine Cj.seq ?_
          refine Cj.region ?_
          refine J.y (yl_move rfl rfl) rfl rfl rfl ?_
          refine J.y (yl_toStr (Cq.escape s) rfl rfl rfl Tryz.underlying46 Tryz.underlying9 Tryz.underlying5 (Blk.at 0 rfl) (by rw [htk, buf_full rfl, List.append_nil]; exact List.take_of_length_le (by rw [List.drop_zero, bcs_len]; exact Nat.le_refl _))) rfl rfl rfl ?_
          refine J.y (yl_assign rfl rfl) rfl rfl rfl ?_
          refine J.nil ?_
          refine Ej.seq ?_
          refine Cj.ret ?_
          refine Ej.bare ?_
          refine Ej.ret1 rfl rfl rfl ?_
          exact ⟨rfl, rfl, rfl⟩
    ·
      have hc3p := bne_f hc3
      refine Cj.skip ?_
      refine Ej.blkNormal ?_
      refine Ej.seq ?_
      refine Cj.region ?_
      refine J.y (yl_add rfl rfl rfl (w64 (by omega))) rfl rfl rfl ?_
      refine J.y (yl_move rfl rfl) rfl rfl rfl ?_
      refine J.nil ?_
      refine Ej.rounds ?_
      refine Rj.succ ?_
      refine Cj.seq ?_
      refine Cj.region ?_
      refine J.y (yl_lss rfl rfl rfl) rfl rfl rfl ?_
      refine J.nil ?_
      refine Ej.seq ?_
      refine Cj.seq ?_
      refine Cj.cond rfl (fun hc20 => ?_) (fun hc20 => Bool.noConfusion (Eq.trans (Eq.symm (by first | rfl | decide)) hc20))
      refine Cj.skip ?_
      refine Ej.seq ?_
      refine Cj.seq ?_
      refine Cj.block ?_
      refine Cj.seq ?_
      refine Cj.region ?_
      refine J.y (yl_indexAddr (off' := 1) rfl rfl rfl Tryz.underlying44 Tryz.sizeOf9 (by decide) (by decide) (by decide)) rfl rfl rfl ?_
      refine J.y (yl_load rfl rfl Tryz.isAgg9 (Blk.imm htb) rfl) rfl rfl rfl ?_
      refine J.y (yl_assign rfl rfl) rfl rfl rfl ?_
      refine J.nil ?_
      refine Ej.seq ?_
      refine Cj.seq ?_
      refine Cj.region ?_
      refine J.y (yl_move rfl rfl) rfl rfl rfl ?_
      refine J.y (yl_move rfl rfl) rfl rfl rfl ?_
      refine J.op rfl (op_pure rfl rfl rfl rfl rfl (Count_ok s 92 _) ?_)
      refine J.y (yl_assign rfl rfl) rfl rfl rfl ?_
      refine J.nil ?_
      refine Ej.seq ?_
      refine Cj.seq ?_
      refine Cj.region ?_
      refine J.y (yl_move rfl rfl) rfl rfl rfl ?_
      refine J.y (yl_neq rfl rfl rfl) rfl rfl rfl ?_
      refine J.nil ?_
      refine Ej.seq ?_
      refine Cj.cond rfl (fun hc21 => ?_) (fun hc21 => ?_)
      ·
        have hc21p := bne_iff_ne.1 hc21
        refine Cj.seq ?_
        refine Cj.drawSel [] [] 14 (by kernel_rfl) ?_
        refine JA.take 0 rfl rfl (by kernel_rfl) (by kernel_rfl) (by kernel_rfl) (fun _ _ _ h => h) rfl rfl rfl HSub.n CSub.n (Le.refl _) (yl_move rfl rfl) ?_
        refine JA.take 1 rfl rfl (by kernel_rfl) (by kernel_rfl) (by kernel_rfl) (fun _ _ _ h => h) rfl rfl rfl HSub.n CSub.n (Le.refl _) (yl_move rfl rfl) ?_
        refine JA.take 2 rfl rfl (by kernel_rfl) (by kernel_rfl) (by kernel_rfl) (fun _ _ _ h => h) rfl rfl rfl HSub.n CSub.n (Le.refl _) (yl_move rfl rfl) ?_
        refine JA.take 3 rfl rfl (by kernel_rfl) (by kernel_rfl) (by kernel_rfl) (fun _ _ _ h => h) rfl rfl rfl HSub.n CSub.n (Le.refl _) (yl_move rfl rfl) ?_
        refine JA.take 4 rfl rfl (by kernel_rfl) (by kernel_rfl) (by kernel_rfl) (fun _ _ _ h => h) rfl rfl rfl HSub.n CSub.n (Le.refl _) (yl_index (c := 92) rfl rfl rfl Tryz.underlying9 (by decide) rfl) ?_
        refine JA.take 5 rfl rfl (by kernel_rfl) (by kernel_rfl) (by kernel_rfl) (fun _ _ _ h => h) rfl rfl rfl HSub.n CSub.n (Le.refl _) (yl_nilCheck rfl rfl) ?_
        refine JA.take 6 rfl rfl (by kernel_rfl) (by kernel_rfl) (by kernel_rfl) (fun _ _ _ h => h) rfl rfl rfl HSub.n CSub.n (Le.refl _) (yl_fieldAddr (off' := 0) rfl rfl Tryz.underlying163 rfl Tryz.sizeOf161 rfl) ?_
        refine JA.take 7 rfl rfl (by kernel_rfl) (by kernel_rfl) (by kernel_rfl) (fun _ _ _ h => h) rfl rfl rfl HSub.n CSub.n (Le.refl _) (yl_indexArr (off' := 92) rfl rfl rfl Tryz.underlying161 Tryz.sizeOf46 (by decide) (by decide) (by decide)) ?_
        refine JA.take 8 rfl rfl (by kernel_rfl) (by kernel_rfl) (by kernel_rfl) (fun _ _ _ h => h) rfl rfl rfl HSub.n CSub.n (Le.refl _) (yl_load rfl rfl Tryz.isAgg46 (Blk.immC hxb) (tab_at _ _ (by decide))) ?_
        refine JA.eqv 49 rfl (show _ = .slice (some ⟨l2, 0, none⟩) 2 c2 from rfl) ?_
        refine JA.take 9 rfl rfl (by kernel_rfl) (by kernel_rfl) (by kernel_rfl) (fun _ _ _ h => h) rfl rfl rfl HSub.n CSub.n (Le.refl _) (yl_lenSlice rfl rfl Tryz.underlying46) ?_
        refine JA.take 10 rfl rfl (by kernel_rfl) (by kernel_rfl) (by kernel_rfl) (fun _ _ _ h => h) rfl rfl rfl HSub.n CSub.n (Le.refl _) (yl_sub rfl rfl rfl (w64 (by omega))) ?_
        refine JA.take 11 rfl rfl (by kernel_rfl) (by kernel_rfl) (by kernel_rfl) (fun _ _ _ h => h) rfl rfl rfl HSub.n CSub.n (Le.refl _) (yl_mul rfl rfl rfl (w64 (by omega))) ?_
        refine JA.take 12 rfl rfl (by kernel_rfl) (by kernel_rfl) (by kernel_rfl) (fun _ _ _ h => h) rfl rfl rfl HSub.n CSub.n (Le.refl _) (yl_add rfl rfl rfl (w64 (by omega))) ?_
        refine JA.take 13 rfl rfl (by kernel_rfl) (by kernel_rfl) (by kernel_rfl) (fun _ _ _ h => h) rfl rfl rfl HSub.n CSub.n (Le.refl _) (yl_assign rfl rfl) ?_
        refine JA.done (by kernel_rfl) ?_
        refine Ej.seq ?_
        refine Cj.region ?_
        refine J.y (yl_assign rfl rfl) rfl rfl rfl ?_
        refine J.nil ?_
        refine Ej.blkNormal ?_
        refine Ej.seq ?_
        refine Cj.region ?_
        refine J.y (yl_add rfl rfl rfl (w64 (by omega))) rfl rfl rfl ?_
        refine J.y (yl_move rfl rfl) rfl rfl rfl ?_
        refine J.nil ?_
        refine Ej.rounds ?_
        refine Rj.succ ?_
        refine Cj.seq ?_
        refine Cj.region ?_
        refine J.y (yl_lss rfl rfl rfl) rfl rfl rfl ?_
        refine J.nil ?_
        refine Ej.seq ?_
        refine Cj.seq ?_
        refine Cj.cond rfl (fun hc22 => Bool.noConfusion (Eq.trans (Eq.symm (by first | rfl | decide)) hc22)) (fun hc22 => ?_)
        refine Cj.exit ?_
        refine Ej.seqExit ?_
        refine Ej.seqExit ?_
        refine Ej.blkExit ?_
        refine Ej.seq ?_
        refine Cj.seq ?_
        refine Cj.seq ?_
        refine Cj.region ?_
        refine J.y (yl_move rfl rfl) rfl rfl rfl ?_
        refine J.y (yl_not rfl rfl) rfl rfl rfl ?_
        refine J.nil ?_
        refine Ej.seq ?_
        refine Cj.cond rfl (fun hc23 => Bool.noConfusion (Eq.trans (Eq.symm (congrArg not rfl)) hc23)) (fun hc23 => ?_)
        refine Cj.skip ?_
        refine Ej.seq ?_
        refine Cj.seq ?_
        refine Cj.region ?_
        refine J.y (yl_move rfl rfl) rfl rfl rfl ?_
        refine J.op rfl (op_makeSlice (n := (Cq.escape s).length) (c := (Cq.escape s).length) (by1 := 1) (z := (.int .u8 0)) rfl rfl rfl (by first | exact congrArg (fun z => some (Value.int .i64 z)) (by omega) | (rw [htk0]; exact congrArg (fun z => some (Value.int .i64 z)) (by omega))) (by first | exact congrArg (fun z => some (Value.int .i64 z)) (by omega) | (rw [htk0]; exact congrArg (fun z => some (Value.int .i64 z)) (by omega))) Tryz.underlying46 (by kernel_rfl) rfl (by omega) (by omega) (by omega) ?_)
        intro b24 hb24
        refine J.y (yl_assign rfl rfl) rfl rfl rfl ?_
        refine J.nil ?_
        refine Ej.seq ?_
        refine Cj.seq ?_
        refine Cj.region ?_
        refine J.y (yl_assign rfl rfl) rfl rfl rfl ?_
        refine J.nil ?_
        refine Ej.seq ?_
        refine Cj.seq ?_
        refine Cj.seq ?_
        refine Cj.region ?_
        refine J.y (yl_assign rfl rfl) rfl rfl rfl ?_
        refine J.nil ?_
        refine Ej.seq ?_
        refine Cj.block ?_
        refine Cj.loop (ι := Nat) (fun j => j ≤ s.length) (fun j => s.length - j) (fun j => [(0, ptr xb 0), (1, str s), (12, .slice (some ⟨b24, 0, none⟩) (Cq.escape s).length (Cq.escape s).length), (13, i64 ((Cq.escape (s.take j)).length : Int)), (14, i64 (j : Int))]) (fun j => I) (fun j => [(b24, cel 5 (buf (Cq.escape (s.take j)) (Cq.escape s).length))]) 0 (Nat.zero_le _) ⟨rfl, rfl, rfl, rfl, rfl, trivial⟩ rfl (by rw [List.take_zero]; exact congrArg (fun l => [(_, cel 5 l)]) (buf_nil _)) ?_
        intro j hj
        have hej := Cq.escape_part s j
        refine Cj.seq ?_
        refine Cj.seq ?_
        refine Cj.region ?_
        refine J.y (yl_move rfl rfl) rfl rfl rfl ?_
        refine J.y (yl_move rfl rfl) rfl rfl rfl ?_
        refine J.y (yl_lenStr rfl rfl Tryz.underlying9) rfl rfl rfl ?_
        refine J.y (yl_lss rfl rfl rfl) rfl rfl rfl ?_
        refine J.nil ?_
        refine Ej.seq ?_
        refine Cj.cond rfl (fun hc25 => ?_) (fun hc25 => ?_)
        ·
          have hc25p := of_decide_eq_true hc25
          have hlt : j < s.length := by omega
          obtain ⟨c, hget⟩ : ∃ c, s[j]? = some c := ⟨_, List.getElem?_eq_getElem hlt⟩
          have hx2 := Cq.escape_next hget
          have hej2 := Cq.escape_part s (j + 1)
          refine Cj.skip ?_
          refine Ej.seq ?_
          refine Cj.seq ?_
          refine Cj.block ?_
          refine Cj.seq ?_
          refine Cj.region ?_
          refine J.y (yl_move rfl rfl) rfl rfl rfl ?_
          refine J.y (yl_move rfl rfl) rfl rfl rfl ?_
          refine J.y (yl_index rfl rfl rfl Tryz.underlying9 (by omega) hget) rfl rfl rfl ?_
          refine J.y (yl_assign rfl rfl) rfl rfl rfl ?_
          refine J.nil ?_
          refine Ej.seq ?_
          refine Cj.seq ?_
          refine Cj.region ?_
          rcases Cq.three c with rfl | rfl | hno
          ·
            have hx3 : Cq.escape (s.take (j + 1)) = Cq.escape (s.take j) ++ [92, 34] := hx2.trans (by simp)
            have hl3 : (Cq.escape (s.take (j + 1))).length = (Cq.escape (s.take j)).length + 2 := by rw [hx3, List.length_append]; rfl
            refine J.y (yl_move rfl rfl) rfl rfl rfl ?_
            refine J.y (yl_move rfl rfl) rfl rfl rfl ?_
            refine J.y (yl_nilCheck rfl rfl) rfl rfl rfl ?_
            refine J.y (yl_fieldAddr (off' := 0) rfl rfl Tryz.underlying163 rfl Tryz.sizeOf161 rfl) rfl rfl rfl ?_
            refine J.y (yl_indexArr (off' := 34) rfl rfl rfl Tryz.underlying161 Tryz.sizeOf46 (by decide) (by decide) (by decide)) rfl rfl rfl ?_
            refine J.y (yl_load rfl rfl Tryz.isAgg46 (Blk.imm hxb) (tab_at _ _ (by decide))) rfl rfl rfl ?_
            refine J.eqv 100 rfl (show _ = .slice (some ⟨l1, 0, none⟩) 2 c1 from rfl) ?_
            refine J.y (yl_neqSlice _ rfl rfl rfl Tryz.underlying46) rfl rfl rfl ?_
            refine J.nil ?_
            refine Ej.seq ?_
            refine Cj.cond rfl (fun hc26 => ?_) (fun hc26 => Bool.noConfusion (Eq.trans (Eq.symm rfl) hc26))
            refine Cj.drawSel [] [] 13 (by kernel_rfl) ?_
            refine JA.take 0 rfl rfl (by kernel_rfl) (by kernel_rfl) (by kernel_rfl) (fun _ _ _ h => h) rfl rfl rfl HSub.n CSub.n (Le.refl _) (yl_move rfl rfl) ?_
            refine JA.take 1 rfl rfl (by kernel_rfl) (by kernel_rfl) (by kernel_rfl) (fun _ _ _ h => h) rfl rfl rfl HSub.n CSub.n (Le.refl _) (yl_move rfl rfl) ?_
            refine JA.take 2 rfl rfl (by kernel_rfl) (by kernel_rfl) (by kernel_rfl) (fun _ _ _ h => h) rfl rfl rfl HSub.n CSub.n (Le.refl _) (yl_move rfl rfl) ?_
            refine JA.take 3 rfl rfl (by kernel_rfl) (by kernel_rfl) (by kernel_rfl) (fun _ _ _ h => h) rfl rfl rfl HSub.n CSub.n (Le.refl _) (yl_sliceFrom rfl rfl rfl Tryz.underlying46 Tryz.sizeOf5 (by omega) (by omega)) ?_
            refine JA.take 4 rfl rfl (by kernel_rfl) (by kernel_rfl) (by kernel_rfl) (fun _ _ _ h => h) rfl rfl rfl HSub.n CSub.n (Le.refl _) (yl_move rfl rfl) ?_
            refine JA.take 5 rfl rfl (by kernel_rfl) (by kernel_rfl) (by kernel_rfl) (fun _ _ _ h => h) rfl rfl rfl HSub.n CSub.n (Le.refl _) (yl_move rfl rfl) ?_
            refine JA.take 6 rfl rfl (by kernel_rfl) (by kernel_rfl) (by kernel_rfl) (fun _ _ _ h => h) rfl rfl rfl HSub.n CSub.n (Le.refl _) (yl_nilCheck rfl rfl) ?_
            refine JA.take 7 rfl rfl (by kernel_rfl) (by kernel_rfl) (by kernel_rfl) (fun _ _ _ h => h) rfl rfl rfl HSub.n CSub.n (Le.refl _) (yl_fieldAddr (off' := 0) rfl rfl Tryz.underlying163 rfl Tryz.sizeOf161 rfl) ?_
            refine JA.take 8 rfl rfl (by kernel_rfl) (by kernel_rfl) (by kernel_rfl) (fun _ _ _ h => h) rfl rfl rfl HSub.n CSub.n (Le.refl _) (yl_indexArr (off' := 34) rfl rfl rfl Tryz.underlying161 Tryz.sizeOf46 (by decide) (by decide) (by decide)) ?_
            refine JA.take 9 rfl rfl (by kernel_rfl) (by kernel_rfl) (by kernel_rfl) (fun _ _ _ h => h) rfl rfl rfl HSub.n CSub.n (Le.refl _) (yl_load rfl rfl Tryz.isAgg46 (Blk.immC hxb) (tab_at _ _ (by decide))) ?_
            refine JA.eqv 111 rfl (show _ = .slice (some ⟨l1, 0, none⟩) 2 c1 from rfl) ?_
            refine JA.step 10 (by kernel_rfl) rfl rfl (op_copy (m := 2) 0 rfl rfl rfl rfl rfl Tryz.underlying46 Tryz.sizeOf5 (Src.slice (ys := bcs [92, 34]) (Blk.imm hv1) rfl rfl rfl) (by omega) rfl (by have h := buf_spl (E := Cq.escape (s.take j)) (X := [92, 34]) (n := (Cq.escape s).length) (by simp; omega); simpa using h) LSet.z ?_)
            refine ⟨⟨(Le.refl _), HSub.n, CSub.n⟩, ?_⟩
            refine JA.take 11 rfl rfl (by kernel_rfl) (by kernel_rfl) (by kernel_rfl) (fun _ _ _ h => h) rfl rfl rfl HSub.n CSub.n (Le.refl _) (yl_add rfl rfl rfl (w64 (by omega))) ?_
            refine JA.take 12 rfl rfl (by kernel_rfl) (by kernel_rfl) (by kernel_rfl) (fun _ _ _ h => h) rfl rfl rfl HSub.n CSub.n (Le.refl _) (yl_assign rfl rfl) ?_
            refine JA.done (by kernel_rfl) ?_
            refine Ej.blkNormal ?_
            refine Ej.seq ?_
            refine Cj.region ?_
            refine J.y (yl_move rfl rfl) rfl rfl rfl ?_
            refine J.y (yl_add rfl rfl rfl (w64 (by omega))) rfl rfl rfl ?_
            refine J.y (yl_assign rfl rfl) rfl rfl rfl ?_
            refine J.nil ?_
            refine Ej.round (j + 1) (by omega) (by omega) ⟨rfl, rfl, rfl, by rw [hl3]; rfl, rfl, trivial⟩ rfl (by rw [hx3] <;> rfl)
          ·
            have hx3 : Cq.escape (s.take (j + 1)) = Cq.escape (s.take j) ++ [92, 92] := hx2.trans (by simp)
            have hl3 : (Cq.escape (s.take (j + 1))).length = (Cq.escape (s.take j)).length + 2 := by rw [hx3, List.length_append]; rfl
            refine J.y (yl_move rfl rfl) rfl rfl rfl ?_
            refine J.y (yl_move rfl rfl) rfl rfl rfl ?_
            refine J.y (yl_nilCheck rfl rfl) rfl rfl rfl ?_
            refine J.y (yl_fieldAddr (off' := 0) rfl rfl Tryz.underlying163 rfl Tryz.sizeOf161 rfl) rfl rfl rfl ?_
            refine J.y (yl_indexArr (off' := 92) rfl rfl rfl Tryz.underlying161 Tryz.sizeOf46 (by decide) (by decide) (by decide)) rfl rfl rfl ?_
            refine J.y (yl_load rfl rfl Tryz.isAgg46 (Blk.imm hxb) (tab_at _ _ (by decide))) rfl rfl rfl ?_
            refine J.eqv 100 rfl (show _ = .slice (some ⟨l2, 0, none⟩) 2 c2 from rfl) ?_
            refine J.y (yl_neqSlice _ rfl rfl rfl Tryz.underlying46) rfl rfl rfl ?_
            refine J.nil ?_
            refine Ej.seq ?_
            refine Cj.cond rfl (fun hc27 => ?_) (fun hc27 => Bool.noConfusion (Eq.trans (Eq.symm rfl) hc27))
            refine Cj.drawSel [] [] 13 (by kernel_rfl) ?_
            refine JA.take 0 rfl rfl (by kernel_rfl) (by kernel_rfl) (by kernel_rfl) (fun _ _ _ h => h) rfl rfl rfl HSub.n CSub.n (Le.refl _) (yl_move rfl rfl) ?_
            refine JA.take 1 rfl rfl (by kernel_rfl) (by kernel_rfl) (by kernel_rfl) (fun _ _ _ h => h) rfl rfl rfl HSub.n CSub.n (Le.refl _) (yl_move rfl rfl) ?_
            refine JA.take 2 rfl rfl (by kernel_rfl) (by kernel_rfl) (by kernel_rfl) (fun _ _ _ h => h) rfl rfl rfl HSub.n CSub.n (Le.refl _) (yl_move rfl rfl) ?_
            refine JA.take 3 rfl rfl (by kernel_rfl) (by kernel_rfl) (by kernel_rfl) (fun _ _ _ h => h) rfl rfl rfl HSub.n CSub.n (Le.refl _) (yl_sliceFrom rfl rfl rfl Tryz.underlying46 Tryz.sizeOf5 (by omega) (by omega)) ?_
            refine JA.take 4 rfl rfl (by kernel_rfl) (by kernel_rfl) (by kernel_rfl) (fun _ _ _ h => h) rfl rfl rfl HSub.n CSub.n (Le.refl _) (yl_move rfl rfl) ?_
            refine JA.take 5 rfl rfl (by kernel_rfl) (by kernel_rfl) (by kernel_rfl) (fun _ _ _ h => h) rfl rfl rfl HSub.n CSub.n (Le.refl _) (yl_move rfl rfl) ?_
            refine JA.take 6 rfl rfl (by kernel_rfl) (by kernel_rfl) (by kernel_rfl) (fun _ _ _ h => h) rfl rfl rfl HSub.n CSub.n (Le.refl _) (yl_nilCheck rfl rfl) ?_
            refine JA.take 7 rfl rfl (by kernel_rfl) (by kernel_rfl) (by kernel_rfl) (fun _ _ _ h => h) rfl rfl rfl HSub.n CSub.n (Le.refl _) (yl_fieldAddr (off' := 0) rfl rfl Tryz.underlying163 rfl Tryz.sizeOf161 rfl) ?_
            refine JA.take 8 rfl rfl (by kernel_rfl) (by kernel_rfl) (by kernel_rfl) (fun _ _ _ h => h) rfl rfl rfl HSub.n CSub.n (Le.refl _) (yl_indexArr (off' := 92) rfl rfl rfl Tryz.underlying161 Tryz.sizeOf46 (by decide) (by decide) (by decide)) ?_
            refine JA.take 9 rfl rfl (by kernel_rfl) (by kernel_rfl) (by kernel_rfl) (fun _ _ _ h => h) rfl rfl rfl HSub.n CSub.n (Le.refl _) (yl_load rfl rfl Tryz.isAgg46 (Blk.immC hxb) (tab_at _ _ (by decide))) ?_
            refine JA.eqv 111 rfl (show _ = .slice (some ⟨l2, 0, none⟩) 2 c2 from rfl) ?_
            refine JA.step 10 (by kernel_rfl) rfl rfl (op_copy (m := 2) 0 rfl rfl rfl rfl rfl Tryz.underlying46 Tryz.sizeOf5 (Src.slice (ys := bcs [92, 92]) (Blk.imm hv2) rfl rfl rfl) (by omega) rfl (by have h := buf_spl (E := Cq.escape (s.take j)) (X := [92, 92]) (n := (Cq.escape s).length) (by simp; omega); simpa using h) LSet.z ?_)
            refine ⟨⟨(Le.refl _), HSub.n, CSub.n⟩, ?_⟩
            refine JA.take 11 rfl rfl (by kernel_rfl) (by kernel_rfl) (by kernel_rfl) (fun _ _ _ h => h) rfl rfl rfl HSub.n CSub.n (Le.refl _) (yl_add rfl rfl rfl (w64 (by omega))) ?_
            refine JA.take 12 rfl rfl (by kernel_rfl) (by kernel_rfl) (by kernel_rfl) (fun _ _ _ h => h) rfl rfl rfl HSub.n CSub.n (Le.refl _) (yl_assign rfl rfl) ?_
            refine JA.done (by kernel_rfl) ?_
            refine Ej.blkNormal ?_
            refine Ej.seq ?_
            refine Cj.region ?_
            refine J.y (yl_move rfl rfl) rfl rfl rfl ?_
            refine J.y (yl_add rfl rfl rfl (w64 (by omega))) rfl rfl rfl ?_
            refine J.y (yl_assign rfl rfl) rfl rfl rfl ?_
            refine J.nil ?_
            refine Ej.round (j + 1) (by omega) (by omega) ⟨rfl, rfl, rfl, by rw [hl3]; rfl, rfl, trivial⟩ rfl (by rw [hx3] <;> rfl)
          ·
            have hx3 : Cq.escape (s.take (j + 1)) = Cq.escape (s.take j) ++ [c] := hx2.trans (by simp [hno])
            have hl3 : (Cq.escape (s.take (j + 1))).length = (Cq.escape (s.take j)).length + 1 := by rw [hx3, List.length_append]; rfl
            have hc256 : c.toNat < 256 := c.toNat_lt
            have hn34 : ¬ c.toNat = 34 := fun h => hno (.inl (UInt8.toNat_inj.1 h))
            have hn92 : ¬ c.toNat = 92 := fun h => hno (.inr (UInt8.toNat_inj.1 h))
            refine J.y (yl_move rfl rfl) rfl rfl rfl ?_
            refine J.y (yl_move rfl rfl) rfl rfl rfl ?_
            refine J.y (yl_nilCheck rfl rfl) rfl rfl rfl ?_
            refine J.y (yl_fieldAddr (off' := 0) rfl rfl Tryz.underlying163 rfl Tryz.sizeOf161 rfl) rfl rfl rfl ?_
            refine J.y (yl_indexArr (off' := c.toNat) rfl rfl rfl Tryz.underlying161 Tryz.sizeOf46 (by omega) (by omega) (by simp)) rfl rfl rfl ?_
            refine J.y (yl_load rfl rfl Tryz.isAgg46 (Blk.imm hxb) (tab_at _ _ hc256)) rfl rfl rfl ?_
            refine J.eqv 100 rfl (show _ = .slice none 0 0 from (by rw [if_neg hn92, if_neg hn34])) ?_
            refine J.y (yl_neqSlice _ rfl rfl rfl Tryz.underlying46) rfl rfl rfl ?_
            refine J.nil ?_
            refine Ej.seq ?_
            refine Cj.cond rfl (fun hc28 => Bool.noConfusion (Eq.trans (Eq.symm rfl) hc28)) (fun hc28 => ?_)
            refine Cj.seq ?_
            refine Cj.region ?_
            refine J.y (yl_move rfl rfl) rfl rfl rfl ?_
            refine J.y (yl_move rfl rfl) rfl rfl rfl ?_
            refine J.y (yl_move rfl rfl) rfl rfl rfl ?_
            refine J.y (yl_indexAddr (off' := (Cq.escape (s.take j)).length) rfl rfl rfl Tryz.underlying46 Tryz.sizeOf5 (by omega) (by omega) (by simp)) rfl rfl rfl ?_
            refine J.op rfl (op_store1 0 rfl rfl rfl rfl rfl rfl Tryz.sizeOf5 rfl (.inl rfl) (by rw [buf_len hej]; omega) (by rw [buf_set _ (by omega)]; exact LSet.z) ?_)
            refine J.nil ?_
            refine Ej.seq ?_
            refine Cj.region ?_
            refine J.y (yl_move rfl rfl) rfl rfl rfl ?_
            refine J.y (yl_add rfl rfl rfl (w64 (by omega))) rfl rfl rfl ?_
            refine J.y (yl_assign rfl rfl) rfl rfl rfl ?_
            refine J.nil ?_
            refine Ej.blkNormal ?_
            refine Ej.seq ?_
            refine Cj.region ?_
            refine J.y (yl_move rfl rfl) rfl rfl rfl ?_
            refine J.y (yl_add rfl rfl rfl (w64 (by omega))) rfl rfl rfl ?_
            refine J.y (yl_assign rfl rfl) rfl rfl rfl ?_
            refine J.nil ?_
            refine Ej.round (j + 1) (by omega) (by omega) ⟨rfl, rfl, rfl, by rw [hl3]; rfl, rfl, trivial⟩ rfl (by rw [hx3] <;> rfl)
        ·
          have hc25p := of_decide_eq_false hc25
          have htk : s.take j = s := List.take_of_length_le (by omega)
          refine Cj.exit ?_
          refine Ej.seqExit ?_
          refine Ej.loopExit ?_
          refine Ej.blkExit ?_
          refine Ej.seq ?_
          refine Cj.seq ?_
          refine Cj.region ?_
          refine J.y (yl_move rfl rfl) rfl rfl rfl ?_
          refine J.y (yl_toStr (Cq.escape s) rfl rfl rfl Tryz.underlying46 Tryz.underlying9 Tryz.underlying5 (Blk.at 0 rfl) (by rw [htk, buf_full rfl, List.append_nil]; exact List.take_of_length_le (by rw [List.drop_zero, bcs_len]; exact Nat.le_refl _))) rfl rfl rfl ?_
          refine J.y (yl_assign rfl rfl) rfl rfl rfl ?_
          refine J.nil ?_
          refine Ej.seq ?_
          refine Cj.ret ?_
          refine Ej.bare ?_
          refine Ej.ret1 rfl rfl rfl ?_
          exact ⟨rfl, rfl, rfl⟩
      ·
        have hc21p := bne_f hc21
        refine Cj.skip ?_
        refine Ej.blkNormal ?_
        refine Ej.seq ?_
        refine Cj.region ?_
        refine J.y (yl_add rfl rfl rfl (w64 (by omega))) rfl rfl rfl ?_
        refine J.y (yl_move rfl rfl) rfl rfl rfl ?_
        refine J.nil ?_
        refine Ej.rounds ?_
        refine Rj.succ ?_
        refine Cj.seq ?_
        refine Cj.region ?_
        refine J.y (yl_lss rfl rfl rfl) rfl rfl rfl ?_
        refine J.nil ?_
        refine Ej.seq ?_
        refine Cj.seq ?_
        refine Cj.cond rfl (fun hc29 => Bool.noConfusion (Eq.trans (Eq.symm (by first | rfl | decide)) hc29)) (fun hc29 => ?_)
        refine Cj.exit ?_
        refine Ej.seqExit ?_
        refine Ej.seqExit ?_
        refine Ej.blkExit ?_
        refine Ej.seq ?_
        refine Cj.seq ?_
        refine Cj.seq ?_
        refine Cj.region ?_
        refine J.y (yl_move rfl rfl) rfl rfl rfl ?_
        refine J.y (yl_not rfl rfl) rfl rfl rfl ?_
        refine J.nil ?_
        refine Ej.seq ?_
        refine Cj.cond rfl (fun hc30 => ?_) (fun hc30 => Bool.noConfusion (Eq.trans (Eq.symm (congrArg not rfl)) hc30))
        refine Cj.seq ?_
        refine Cj.region ?_
        refine J.y (yl_move rfl rfl) rfl rfl rfl ?_
        refine J.y (yl_assign rfl rfl) rfl rfl rfl ?_
        refine J.nil ?_
        refine Ej.seq ?_
        refine Cj.ret ?_
        refine Ej.seqRet ?_
        refine Ej.bare ?_
        refine Ej.ret1 rfl rfl rfl ?_
        have hz : Cq.cnt s = 0 := by omega
        rw [Cq.escape_id s hz]
        exact ⟨rfl, rfl, rfl⟩
  ·
    have hc1p := of_decide_eq_false hc1
    refine Cj.seq ?_
    refine Cj.region ?_
    refine J.y (yl_assign rfl rfl) rfl rfl rfl ?_
    refine J.nil ?_
    refine Ej.seq ?_
    refine Cj.block ?_
    refine Cj.loop (ι := Nat) (fun j => j ≤ s.length) (fun j => s.length - j) (fun j => [(0, ptr xb 0), (1, str s), (5, i64 ((s.length + Cq.cnt (s.take j) : Nat) : Int)), (6, .bool (decide (0 < Cq.cnt (s.take j)))), (10, i64 (j : Int))]) (fun j => I) (fun j => []) 0 (Nat.zero_le _) ⟨rfl, rfl, rfl, rfl, rfl, trivial⟩ rfl rfl ?_
    intro j hj
    have hcj : Cq.cnt (s.take j) ≤ s.length := Nat.le_trans List.countP_le_length (by simp; omega)
    refine Cj.seq ?_
    refine Cj.seq ?_
    refine Cj.region ?_
    refine J.y (yl_move rfl rfl) rfl rfl rfl ?_
    refine J.y (yl_move rfl rfl) rfl rfl rfl ?_
    refine J.y (yl_lenStr rfl rfl Tryz.underlying9) rfl rfl rfl ?_
    refine J.y (yl_lss rfl rfl rfl) rfl rfl rfl ?_
    refine J.nil ?_
    refine Ej.seq ?_
    refine Cj.cond rfl (fun hc31 => ?_) (fun hc31 => ?_)
    ·
      have hc31p := of_decide_eq_true hc31
      have hlt : j < s.length := by omega
      obtain ⟨c, hget⟩ : ∃ c, s[j]? = some c := ⟨_, List.getElem?_eq_getElem hlt⟩
      refine Cj.skip ?_
      refine Ej.seq ?_
      refine Cj.seq ?_
      refine Cj.block ?_
      refine Cj.seq ?_
      refine Cj.region ?_
      refine J.y (yl_move rfl rfl) rfl rfl rfl ?_
      refine J.y (yl_move rfl rfl) rfl rfl rfl ?_
      refine J.y (yl_index rfl rfl rfl Tryz.underlying9 (by omega) hget) rfl rfl rfl ?_
      refine J.y (yl_assign rfl rfl) rfl rfl rfl ?_
      refine J.nil ?_
      refine Ej.seq ?_
      refine Cj.seq ?_
      refine Cj.region ?_
      rcases Cq.three c with rfl | rfl | hno
      ·
        have hcn : Cq.cnt (s.take (j + 1)) = Cq.cnt (s.take j) + 1 := by rw [Cq.cnt_next hget]; simp
        refine J.y (yl_move rfl rfl) rfl rfl rfl ?_
        refine J.y (yl_move rfl rfl) rfl rfl rfl ?_
        refine J.y (yl_nilCheck rfl rfl) rfl rfl rfl ?_
        refine J.y (yl_fieldAddr (off' := 0) rfl rfl Tryz.underlying163 rfl Tryz.sizeOf161 rfl) rfl rfl rfl ?_
        refine J.y (yl_indexArr (off' := 34) rfl rfl rfl Tryz.underlying161 Tryz.sizeOf46 (by decide) (by decide) (by decide)) rfl rfl rfl ?_
        refine J.y (yl_load rfl rfl Tryz.isAgg46 (Blk.imm hxb) (tab_at _ _ (by decide))) rfl rfl rfl ?_
        refine J.eqv 69 rfl (show _ = .slice (some ⟨l1, 0, none⟩) 2 c1 from rfl) ?_
        refine J.y (yl_neqSlice _ rfl rfl rfl Tryz.underlying46) rfl rfl rfl ?_
        refine J.nil ?_
        refine Ej.seq ?_
        refine Cj.cond rfl (fun hc32 => ?_) (fun hc32 => Bool.noConfusion (Eq.trans (Eq.symm rfl) hc32))
        refine Cj.seq ?_
        refine Cj.region ?_
        refine J.y (yl_move rfl rfl) rfl rfl rfl ?_
        refine J.y (yl_move rfl rfl) rfl rfl rfl ?_
        refine J.y (yl_move rfl rfl) rfl rfl rfl ?_
        refine J.y (yl_nilCheck rfl rfl) rfl rfl rfl ?_
        refine J.y (yl_fieldAddr (off' := 0) rfl rfl Tryz.underlying163 rfl Tryz.sizeOf161 rfl) rfl rfl rfl ?_
        refine J.y (yl_indexArr (off' := 34) rfl rfl rfl Tryz.underlying161 Tryz.sizeOf46 (by decide) (by decide) (by decide)) rfl rfl rfl ?_
        refine J.y (yl_load rfl rfl Tryz.isAgg46 (Blk.imm hxb) (tab_at _ _ (by decide))) rfl rfl rfl ?_
        refine J.eqv 77 rfl (show _ = .slice (some ⟨l1, 0, none⟩) 2 c1 from rfl) ?_
        refine J.y (yl_lenSlice rfl rfl Tryz.underlying46) rfl rfl rfl ?_
        refine J.y (yl_sub rfl rfl rfl (w64 (by omega))) rfl rfl rfl ?_
        refine J.y (yl_add rfl rfl rfl (w64 (by omega))) rfl rfl rfl ?_
        refine J.y (yl_assign rfl rfl) rfl rfl rfl ?_
        refine J.nil ?_
        refine Ej.seq ?_
        refine Cj.region ?_
        refine J.y (yl_assign rfl rfl) rfl rfl rfl ?_
        refine J.nil ?_
        refine Ej.blkNormal ?_
        refine Ej.seq ?_
        refine Cj.region ?_
        refine J.y (yl_move rfl rfl) rfl rfl rfl ?_
        refine J.y (yl_add rfl rfl rfl (w64 (by omega))) rfl rfl rfl ?_
        refine J.y (yl_assign rfl rfl) rfl rfl rfl ?_
        refine J.nil ?_
        refine Ej.round (j + 1) (by omega) (by omega) ⟨rfl, rfl, (congrArg (fun z => some (Value.int .i64 z)) (by omega)), (congrArg (fun z => some (Value.bool z)) (by simp [hcn])), rfl, trivial⟩ rfl rfl
      ·
        have hcn : Cq.cnt (s.take (j + 1)) = Cq.cnt (s.take j) + 1 := by rw [Cq.cnt_next hget]; simp
        refine J.y (yl_move rfl rfl) rfl rfl rfl ?_
        refine J.y (yl_move rfl rfl) rfl rfl rfl ?_
        refine J.y (yl_nilCheck rfl rfl) rfl rfl rfl ?_
        refine J.y (yl_fieldAddr (off' := 0) rfl rfl Tryz.underlying163 rfl Tryz.sizeOf161 rfl) rfl rfl rfl ?_
        refine J.y (yl_indexArr (off' := 92) rfl rfl rfl Tryz.underlying161 Tryz.sizeOf46 (by decide) (by decide) (by decide)) rfl rfl rfl ?_
        refine J.y (yl_load rfl rfl Tryz.isAgg46 (Blk.imm hxb) (tab_at _ _ (by decide))) rfl rfl rfl ?_
        refine J.eqv 69 rfl (show _ = .slice (some ⟨l2, 0, none⟩) 2 c2 from rfl) ?_
        refine J.y (yl_neqSlice _ rfl rfl rfl Tryz.underlying46) rfl rfl rfl ?_
        refine J.nil ?_
        refine Ej.seq ?_
        refine Cj.cond rfl (fun hc33 => ?_) (fun hc33 => Bool.noConfusion (Eq.trans (Eq.symm rfl) hc33))
        refine Cj.seq ?_
        refine Cj.region ?_
        refine J.y (yl_move rfl rfl) rfl rfl rfl ?_
        refine J.y (yl_move rfl rfl) rfl rfl rfl ?_
        refine J.y (yl_move rfl rfl) rfl rfl rfl ?_
        refine J.y (yl_nilCheck rfl rfl) rfl rfl rfl ?_
        refine J.y (yl_fieldAddr (off' := 0) rfl rfl Tryz.underlying163 rfl Tryz.sizeOf161 rfl) rfl rfl rfl ?_
        refine J.y (yl_indexArr (off' := 92) rfl rfl rfl Tryz.underlying161 Tryz.sizeOf46 (by decide) (by decide) (by decide)) rfl rfl rfl ?_
        refine J.y (yl_load rfl rfl Tryz.isAgg46 (Blk.imm hxb) (tab_at _ _ (by decide))) rfl rfl rfl ?_
        refine J.eqv 77 rfl (show _ = .slice (some ⟨l2, 0, none⟩) 2 c2 from rfl) ?_
        refine J.y (yl_lenSlice rfl rfl Tryz.underlying46) rfl rfl rfl ?_
        refine J.y (yl_sub rfl rfl rfl (w64 (by omega))) rfl rfl rfl ?_
        refine J.y (yl_add rfl rfl rfl (w64 (by omega))) rfl rfl rfl ?_
        refine J.y (yl_assign rfl rfl) rfl rfl rfl ?_
        refine J.nil ?_
        refine Ej.seq ?_
        refine Cj.region ?_
        refine J.y (yl_assign rfl rfl) rfl rfl rfl ?_
        refine J.nil ?_
        refine Ej.blkNormal ?_
        refine Ej.seq ?_
        refine Cj.region ?_
        refine J.y (yl_move rfl rfl) rfl rfl rfl ?_
        refine J.y (yl_add rfl rfl rfl (w64 (by omega))) rfl rfl rfl ?_
        refine J.y (yl_assign rfl rfl) rfl rfl rfl ?_
        refine J.nil ?_
        refine Ej.round (j + 1) (by omega) (by omega) ⟨rfl, rfl, (congrArg (fun z => some (Value.int .i64 z)) (by omega)), (congrArg (fun z => some (Value.bool z)) (by simp [hcn])), rfl, trivial⟩ rfl rfl
      ·
        have hcn : Cq.cnt (s.take (j + 1)) = Cq.cnt (s.take j) := by rw [Cq.cnt_next hget]; simp [hno]
        have hc256 : c.toNat < 256 := c.toNat_lt
        have hn34 : ¬ c.toNat = 34 := fun h => hno (.inl (UInt8.toNat_inj.1 h))
        have hn92 : ¬ c.toNat = 92 := fun h => hno (.inr (UInt8.toNat_inj.1 h))
        refine J.y (yl_move rfl rfl) rfl rfl rfl ?_
        refine J.y (yl_move rfl rfl) rfl rfl rfl ?_
        refine J.y (yl_nilCheck rfl rfl) rfl rfl rfl ?_
        refine J.y (yl_fieldAddr (off' := 0) rfl rfl Tryz.underlying163 rfl Tryz.sizeOf161 rfl) rfl rfl rfl ?_
        refine J.y (yl_indexArr (off' := c.toNat) rfl rfl rfl Tryz.underlying161 Tryz.sizeOf46 (by omega) (by omega) (by simp)) rfl rfl rfl ?_
        refine J.y (yl_load rfl rfl Tryz.isAgg46 (Blk.imm hxb) (tab_at _ _ hc256)) rfl rfl rfl ?_
        refine J.eqv 69 rfl (show _ = .slice none 0 0 from (by rw [if_neg hn92, if_neg hn34])) ?_
        refine J.y (yl_neqSlice _ rfl rfl rfl Tryz.underlying46) rfl rfl rfl ?_
        refine J.nil ?_
        refine Ej.seq ?_
        refine Cj.cond rfl (fun hc34 => Bool.noConfusion (Eq.trans (Eq.symm rfl) hc34)) (fun hc34 => ?_)
        refine Cj.skip ?_
        refine Ej.blkNormal ?_
        refine Ej.seq ?_
        refine Cj.region ?_
        refine J.y (yl_move rfl rfl) rfl rfl rfl ?_
        refine J.y (yl_add rfl rfl rfl (w64 (by omega))) rfl rfl rfl ?_
        refine J.y (yl_assign rfl rfl) rfl rfl rfl ?_
        refine J.nil ?_
        refine Ej.round (j + 1) (by omega) (by omega) ⟨rfl, rfl, (congrArg (fun z => some (Value.int .i64 z)) (by omega)), (congrArg (fun z => some (Value.bool z)) (by rw [hcn])), rfl, trivial⟩ rfl rfl
    ·
      have hc31p := of_decide_eq_false hc31
      have htk0 : s.take j = s := List.take_of_length_le (by omega)
      refine Cj.exit ?_
      refine Ej.seqExit ?_
      refine Ej.loopExit ?_
      refine Ej.blkExit ?_
      refine Ej.seq ?_
      refine Cj.seq ?_
      refine Cj.seq ?_
      refine Cj.region ?_
      refine J.y (yl_move rfl rfl) rfl rfl rfl ?_
      refine J.y (yl_not rfl rfl) rfl rfl rfl ?_
      refine J.nil ?_
      refine Ej.seq ?_
      refine Cj.cond rfl (fun hc35 => ?_) (fun hc35 => ?_)
      ·
        have hz : Cq.cnt s = 0 := by have h := hc35; simp at h; rw [htk0] at h; exact h
        refine Cj.seq ?_
        refine Cj.region ?_
        refine J.y (yl_move rfl rfl) rfl rfl rfl ?_
        refine J.y (yl_assign rfl rfl) rfl rfl rfl ?_
        refine J.nil ?_
        refine Ej.seq ?_
        refine Cj.ret ?_
        refine Ej.seqRet ?_
        refine Ej.bare ?_
        refine Ej.ret1 rfl rfl rfl ?_
        rw [Cq.escape_id s hz]
        exact ⟨rfl, rfl, rfl⟩
      ·
        refine Cj.skip ?_
        refine Ej.seq ?_
        refine Cj.seq ?_
        refine Cj.region ?_
        refine J.y (yl_move rfl rfl) rfl rfl rfl ?_
        refine J.op rfl (op_makeSlice (n := (Cq.escape s).length) (c := (Cq.escape s).length) (by1 := 1) (z := (.int .u8 0)) rfl rfl rfl (by first | exact congrArg (fun z => some (Value.int .i64 z)) (by omega) | (rw [htk0]; exact congrArg (fun z => some (Value.int .i64 z)) (by omega))) (by first | exact congrArg (fun z => some (Value.int .i64 z)) (by omega) | (rw [htk0]; exact congrArg (fun z => some (Value.int .i64 z)) (by omega))) Tryz.underlying46 (by kernel_rfl) rfl (by omega) (by omega) (by omega) ?_)
        intro b36 hb36
        refine J.y (yl_assign rfl rfl) rfl rfl rfl ?_
        refine J.nil ?_
        refine Ej.seq ?_
        refine Cj.seq ?_
        refine Cj.region ?_
        refine J.y (yl_assign rfl rfl) rfl rfl rfl ?_
        refine J.nil ?_
        refine Ej.seq ?_
        refine Cj.seq ?_
        refine Cj.seq ?_
        refine Cj.region ?_
        refine J.y (yl_assign rfl rfl) rfl rfl rfl ?_
        refine J.nil ?_
        refine Ej.seq ?_
        refine Cj.block ?_
        refine Cj.loop (ι := Nat) (fun j => j ≤ s.length) (fun j => s.length - j) (fun j => [(0, ptr xb 0), (1, str s), (12, .slice (some ⟨b36, 0, none⟩) (Cq.escape s).length (Cq.escape s).length), (13, i64 ((Cq.escape (s.take j)).length : Int)), (14, i64 (j : Int))]) (fun j => I) (fun j => [(b36, cel 5 (buf (Cq.escape (s.take j)) (Cq.escape s).length))]) 0 (Nat.zero_le _) ⟨rfl, rfl, rfl, rfl, rfl, trivial⟩ rfl (by rw [List.take_zero]; exact congrArg (fun l => [(_, cel 5 l)]) (buf_nil _)) ?_
        intro j hj
        have hej := Cq.escape_part s j
        refine Cj.seq ?_
        refine Cj.seq ?_
        refine Cj.region ?_
        refine J.y (yl_move rfl rfl) rfl rfl rfl ?_
        refine J.y (yl_move rfl rfl) rfl rfl rfl ?_
        refine J.y (yl_lenStr rfl rfl Tryz.underlying9) rfl rfl rfl ?_
        refine J.y (yl_lss rfl rfl rfl) rfl rfl rfl ?_
        refine J.nil ?_
        refine Ej.seq ?_
        refine Cj.cond rfl (fun hc37 => ?_) (fun hc37 => ?_)
        ·
          have hc37p := of_decide_eq_true hc37
          have hlt : j < s.length := by omega
          obtain ⟨c, hget⟩ : ∃ c, s[j]? = some c := ⟨_, List.getElem?_eq_getElem hlt⟩
          have hx2 := Cq.escape_next hget
          have hej2 := Cq.escape_part s (j + 1)
          refine Cj.skip ?_
          refine Ej.seq ?_
          refine Cj.seq ?_
          refine Cj.block ?_
          refine Cj.seq ?_
          refine Cj.region ?_
          refine J.y (yl_move rfl rfl) rfl rfl rfl ?_
          refine J.y (yl_move rfl rfl) rfl rfl rfl ?_
          refine J.y (yl_index rfl rfl rfl Tryz.underlying9 (by omega) hget) rfl rfl rfl ?_
          refine J.y (yl_assign rfl rfl) rfl rfl rfl ?_
          refine J.nil ?_
          refine Ej.seq ?_
          refine Cj.seq ?_
          refine Cj.region ?_
          rcases Cq.three c with rfl | rfl | hno
          ·
            have hx3 : Cq.escape (s.take (j + 1)) = Cq.escape (s.take j) ++ [92, 34] := hx2.trans (by simp)
            have hl3 : (Cq.escape (s.take (j + 1))).length = (Cq.escape (s.take j)).length + 2 := by rw [hx3, List.length_append]; rfl
            refine J.y (yl_move rfl rfl) rfl rfl rfl ?_
            refine J.y (yl_move rfl rfl) rfl rfl rfl ?_
            refine J.y (yl_nilCheck rfl rfl) rfl rfl rfl ?_
            refine J.y (yl_fieldAddr (off' := 0) rfl rfl Tryz.underlying163 rfl Tryz.sizeOf161 rfl) rfl rfl rfl ?_
            refine J.y (yl_indexArr (off' := 34) rfl rfl rfl Tryz.underlying161 Tryz.sizeOf46 (by decide) (by decide) (by decide)) rfl rfl rfl ?_
            refine J.y (yl_load rfl rfl Tryz.isAgg46 (Blk.imm hxb) (tab_at _ _ (by decide))) rfl rfl rfl ?_
            refine J.eqv 100 rfl (show _ = .slice (some ⟨l1, 0, none⟩) 2 c1 from rfl) ?_
            refine J.y (yl_neqSlice _ rfl rfl rfl Tryz.underlying46) rfl rfl rfl ?_
            refine J.nil ?_
            refine Ej.seq ?_
            refine Cj.cond rfl (fun hc38 => ?_) (fun hc38 => Bool.noConfusion (Eq.trans (Eq.symm rfl) hc38))
            refine Cj.drawSel [] [] 13 (by kernel_rfl) ?_
            refine JA.take 0 rfl rfl (by kernel_rfl) (by kernel_rfl) (by kernel_rfl) (fun _ _ _ h => h) rfl rfl rfl HSub.n CSub.n (Le.refl _) (yl_move rfl rfl) ?_
            refine JA.take 1 rfl rfl (by kernel_rfl) (by kernel_rfl) (by kernel_rfl) (fun _ _ _ h => h) rfl rfl rfl HSub.n CSub.n (Le.refl _) (yl_move rfl rfl) ?_
            refine JA.take 2 rfl rfl (by kernel_rfl) (by kernel_rfl) (by kernel_rfl) (fun _ _ _ h => h) rfl rfl rfl HSub.n CSub.n (Le.refl _) (yl_move rfl rfl) ?_
            refine JA.take 3 rfl rfl (by kernel_rfl) (by kernel_rfl) (by kernel_rfl) (fun _ _ _ h => h) rfl rfl rfl HSub.n CSub.n (Le.refl _) (yl_sliceFrom rfl rfl rfl Tryz.underlying46 Tryz.sizeOf5 (by omega) (by omega)) ?_
            refine JA.take 4 rfl rfl (by kernel_rfl) (by kernel_rfl) (by kernel_rfl) (fun _ _ _ h => h) rfl rfl rfl HSub.n CSub.n (Le.refl _) (yl_move rfl rfl) ?_
            refine JA.take 5 rfl rfl (by kernel_rfl) (by kernel_rfl) (by kernel_rfl) (fun _ _ _ h => h) rfl rfl rfl HSub.n CSub.n (Le.refl _) (yl_move rfl rfl) ?_
            refine JA.take 6 rfl rfl (by kernel_rfl) (by kernel_rfl) (by kernel_rfl) (fun _ _ _ h => h) rfl rfl rfl HSub.n CSub.n (Le.refl _) (yl_nilCheck rfl rfl) ?_
            refine JA.take 7 rfl rfl (by kernel_rfl) (by kernel_rfl) (by kernel_rfl) (fun _ _ _ h => h) rfl rfl rfl HSub.n CSub.n (Le.refl _) (yl_fieldAddr (off' := 0) rfl rfl Tryz.underlying163 rfl Tryz.sizeOf161 rfl) ?_
            refine JA.take 8 rfl rfl (by kernel_rfl) (by kernel_rfl) (by kernel_rfl) (fun _ _ _ h => h) rfl rfl rfl HSub.n CSub.n (Le.refl _) (yl_indexArr (off' := 34) rfl rfl rfl Tryz.underlying161 Tryz.sizeOf46 (by decide) (by decide) (by decide)) ?_
            refine JA.take 9 rfl rfl (by kernel_rfl) (by kernel_rfl) (by kernel_rfl) (fun _ _ _ h => h) rfl rfl rfl HSub.n CSub.n (Le.refl _) (yl_load rfl rfl Tryz.isAgg46 (Blk.immC hxb) (tab_at _ _ (by decide))) ?_
            refine JA.eqv 111 rfl (show _ = .slice (some ⟨l1, 0, none⟩) 2 c1 from rfl) ?_
            refine JA.step 10 (by kernel_rfl) rfl rfl (op_copy (m := 2) 0 rfl rfl rfl rfl rfl Tryz.underlying46 Tryz.sizeOf5 (Src.slice (ys := bcs [92, 34]) (Blk.imm hv1) rfl rfl rfl) (by omega) rfl (by have h := buf_spl (E := Cq.escape (s.take j)) (X := [92, 34]) (n := (Cq.escape s).length) (by simp; omega); simpa using h) LSet.z ?_)
            refine ⟨⟨(Le.refl _), HSub.n, CSub.n⟩, ?_⟩
            refine JA.take 11 rfl rfl (by kernel_rfl) (by kernel_rfl) (by kernel_rfl) (fun _ _ _ h => h) rfl rfl rfl HSub.n CSub.n (Le.refl _) (yl_add rfl rfl rfl (w64 (by omega))) ?_
            refine JA.take 12 rfl rfl (by kernel_rfl) (by kernel_rfl) (by kernel_rfl) (fun _ _ _ h => h) rfl rfl rfl HSub.n CSub.n (Le.refl _) (yl_assign rfl rfl) ?_
            refine JA.done (by kernel_rfl) ?_
            refine Ej.blkNormal ?_
            refine Ej.seq ?_
            refine Cj.region ?_
            refine J.y (yl_move rfl rfl) rfl rfl rfl ?_
            refine J.y (yl_add rfl rfl rfl (w64 (by omega))) rfl rfl rfl ?_
            refine J.y (yl_assign rfl rfl) rfl rfl rfl ?_
            refine J.nil ?_
            refine Ej.round (j + 1) (by omega) (by omega) ⟨rfl, rfl, rfl, by rw [hl3]; rfl, rfl, trivial⟩ rfl (by rw [hx3] <;> rfl)
          ·
            have hx3 : Cq.escape (s.take (j + 1)) = Cq.escape (s.take j) ++ [92, 92] := hx2.trans (by simp)
            have hl3 : (Cq.escape (s.take (j + 1))).length = (Cq.escape (s.take j)).length + 2 := by rw [hx3, List.length_append]; rfl
            refine J.y (yl_move rfl rfl) rfl rfl rfl ?_
            refine J.y (yl_move rfl rfl) rfl rfl rfl ?_
            refine J.y (yl_nilCheck rfl rfl) rfl rfl rfl ?_
            refine J.y (yl_fieldAddr (off' := 0) rfl rfl Tryz.underlying163 rfl Tryz.sizeOf161 rfl) rfl rfl rfl ?_
            refine J.y (yl_indexArr (off' := 92) rfl rfl rfl Tryz.underlying161 Tryz.sizeOf46 (by decide) (by decide) (by decide)) rfl rfl rfl ?_
            refine J.y (yl_load rfl rfl Tryz.isAgg46 (Blk.imm hxb) (tab_at _ _ (by decide))) rfl rfl rfl ?_
            refine J.eqv 100 rfl (show _ = .slice (some ⟨l2, 0, none⟩) 2 c2 from rfl) ?_
            refine J.y (yl_neqSlice _ rfl rfl rfl Tryz.underlying46) rfl rfl rfl ?_
            refine J.nil ?_
            refine Ej.seq ?_
            refine Cj.cond rfl (fun hc39 => ?_) (fun hc39 => Bool.noConfusion (Eq.trans (Eq.symm rfl) hc39))
            refine Cj.drawSel [] [] 13 (by kernel_rfl) ?_
            refine JA.take 0 rfl rfl (by kernel_rfl) (by kernel_rfl) (by kernel_rfl) (fun _ _ _ h => h) rfl rfl rfl HSub.n CSub.n (Le.refl _) (yl_move rfl rfl) ?_
            refine JA.take 1 rfl rfl (by kernel_rfl) (by kernel_rfl) (by kernel_rfl) (fun _ _ _ h => h) rfl rfl rfl HSub.n CSub.n (Le.refl _) (yl_move rfl rfl) ?_
            refine JA.take 2 rfl rfl (by kernel_rfl) (by kernel_rfl) (by kernel_rfl) (fun _ _ _ h => h) rfl rfl rfl HSub.n CSub.n (Le.refl _) (yl_move rfl rfl) ?_
            refine JA.take 3 rfl rfl (by kernel_rfl) (by kernel_rfl) (by kernel_rfl) (fun _ _ _ h => h) rfl rfl rfl HSub.n CSub.n (Le.refl _) (yl_sliceFrom rfl rfl rfl Tryz.underlying46 Tryz.sizeOf5 (by omega) (by omega)) ?_
            refine JA.take 4 rfl rfl (by kernel_rfl) (by kernel_rfl) (by kernel_rfl) (fun _ _ _ h => h) rfl rfl rfl HSub.n CSub.n (Le.refl _) (yl_move rfl rfl) ?_
            refine JA.take 5 rfl rfl (by kernel_rfl) (by kernel_rfl) (by kernel_rfl) (fun _ _ _ h => h) rfl rfl rfl HSub.n CSub.n (Le.refl _) (yl_move rfl rfl) ?_
            refine JA.take 6 rfl rfl (by kernel_rfl) (by kernel_rfl) (by kernel_rfl) (fun _ _ _ h => h) rfl rfl rfl HSub.n CSub.n (Le.refl _) (yl_nilCheck rfl rfl) ?_
            refine JA.take 7 rfl rfl (by kernel_rfl) (by kernel_rfl) (by kernel_rfl) (fun _ _ _ h => h) rfl rfl rfl HSub.n CSub.n (Le.refl _) (yl_fieldAddr (off' := 0) rfl rfl Tryz.underlying163 rfl Tryz.sizeOf161 rfl) ?_
            refine JA.take 8 rfl rfl (by kernel_rfl) (by kernel_rfl) (by kernel_rfl) (fun _ _ _ h => h) rfl rfl rfl HSub.n CSub.n (Le.refl _) (yl_indexArr (off' := 92) rfl rfl rfl Tryz.underlying161 Tryz.sizeOf46 (by decide) (by decide) (by decide)) ?_
            refine JA.take 9 rfl rfl (by kernel_rfl) (by kernel_rfl) (by kernel_rfl) (fun _ _ _ h => h) rfl rfl rfl HSub.n CSub.n (Le.refl _) (yl_load rfl rfl Tryz.isAgg46 (Blk.immC hxb) (tab_at _ _ (by decide))) ?_
            refine JA.eqv 111 rfl (show _ = .slice (some ⟨l2, 0, none⟩) 2 c2 from rfl) ?_
            refine JA.step 10 (by kernel_rfl) rfl rfl (op_copy (m := 2) 0 rfl rfl rfl rfl rfl Tryz.underlying46 Tryz.sizeOf5 (Src.slice (ys := bcs [92, 92]) (Blk.imm hv2) rfl rfl rfl) (by omega) rfl (by have h := buf_spl (E := Cq.escape (s.take j)) (X := [92, 92]) (n := (Cq.escape s).length) (by simp; omega); simpa using h) LSet.z ?_)
            refine ⟨⟨(Le.refl _), HSub.n, CSub.n⟩, ?_⟩
            refine JA.take 11 rfl rfl (by kernel_rfl) (by kernel_rfl) (by kernel_rfl) (fun _ _ _ h => h) rfl rfl rfl HSub.n CSub.n (Le.refl _) (yl_add rfl rfl rfl (w64 (by omega))) ?_
            refine JA.take 12 rfl rfl (by kernel_rfl) (by kernel_rfl) (by kernel_rfl) (fun _ _ _ h => h) rfl rfl rfl HSub.n CSub.n (Le.refl _) (yl_assign rfl rfl) ?_
            refine JA.done (by kernel_rfl) ?_
            refine Ej.blkNormal ?_
            refine Ej.seq ?_
            refine Cj.region ?_
            refine J.y (yl_move rfl rfl) rfl rfl rfl ?_
            refine J.y (yl_add rfl rfl rfl (w64 (by omega))) rfl rfl rfl ?_
            refine J.y (yl_assign rfl rfl) rfl rfl rfl ?_
            refine J.nil ?_
            refine Ej.round (j + 1) (by omega) (by omega) ⟨rfl, rfl, rfl, by rw [hl3]; rfl, rfl, trivial⟩ rfl (by rw [hx3] <;> rfl)
          ·
            have hx3 : Cq.escape (s.take (j + 1)) = Cq.escape (s.take j) ++ [c] := hx2.trans (by simp [hno])
            have hl3 : (Cq.escape (s.take (j + 1))).length = (Cq.escape (s.take j)).length + 1 := by rw [hx3, List.length_append]; rfl
            have hc256 : c.toNat < 256 := c.toNat_lt
            have hn34 : ¬ c.toNat = 34 := fun h => hno (.inl (UInt8.toNat_inj.1 h))
            have hn92 : ¬ c.toNat = 92 := fun h => hno (.inr (UInt8.toNat_inj.1 h))
            refine J.y (yl_move rfl rfl) rfl rfl rfl ?_
            refine J.y (yl_move rfl rfl) rfl rfl rfl ?_
            refine J.y (yl_nilCheck rfl rfl) rfl rfl rfl ?_
            refine J.y (yl_fieldAddr (off' := 0) rfl rfl Tryz.underlying163 rfl Tryz.sizeOf161 rfl) rfl rfl rfl ?_
            refine J.y (yl_indexArr (off' := c.toNat) rfl rfl rfl Tryz.underlying161 Tryz.sizeOf46 (by omega) (by omega) (by simp)) rfl rfl rfl ?_
            refine J.y (yl_load rfl rfl Tryz.isAgg46 (Blk.imm hxb) (tab_at _ _ hc256)) rfl rfl rfl ?_
            refine J.eqv 100 rfl (show _ = .slice none 0 0 from (by rw [if_neg hn92, if_neg hn34])) ?_
            refine J.y (yl_neqSlice _ rfl rfl rfl Tryz.underlying46) rfl rfl rfl ?_
            refine J.nil ?_
            refine Ej.seq ?_
            refine Cj.cond rfl (fun hc40 => Bool.noConfusion (Eq.trans (Eq.symm rfl) hc40)) (fun hc40 => ?_)
            refine Cj.seq ?_
            refine Cj.region ?_
            refine J.y (yl_move rfl rfl) rfl rfl rfl ?_
            refine J.y (yl_move rfl rfl) rfl rfl rfl ?_
            refine J.y (yl_move rfl rfl) rfl rfl rfl ?_
            refine J.y (yl_indexAddr (off' := (Cq.escape (s.take j)).length) rfl rfl rfl Tryz.underlying46 Tryz.sizeOf5 (by omega) (by omega) (by simp)) rfl rfl rfl ?_
            refine J.op rfl (op_store1 0 rfl rfl rfl rfl rfl rfl Tryz.sizeOf5 rfl (.inl rfl) (by rw [buf_len hej]; omega) (by rw [buf_set _ (by omega)]; exact LSet.z) ?_)
            refine J.nil ?_
            refine Ej.seq ?_
            refine Cj.region ?_
            refine J.y (yl_move rfl rfl) rfl rfl rfl ?_
            refine J.y (yl_add rfl rfl rfl (w64 (by omega))) rfl rfl rfl ?_
            refine J.y (yl_assign rfl rfl) rfl rfl rfl ?_
            refine J.nil ?_
            refine Ej.blkNormal ?_
            refine Ej.seq ?_
            refine Cj.region ?_
            refine J.y (yl_move rfl rfl) rfl rfl rfl ?_
            refine J.y (yl_add rfl rfl rfl (w64 (by omega))) rfl rfl rfl ?_
            refine J.y (yl_assign rfl rfl) rfl rfl rfl ?_
            refine J.nil ?_
            refine Ej.round (j + 1) (by omega) (by omega) ⟨rfl, rfl, rfl, by rw [hl3]; rfl, rfl, trivial⟩ rfl (by rw [hx3] <;> rfl)
        ·
          have hc37p := of_decide_eq_false hc37
          have htk : s.take j = s := List.take_of_length_le (by omega)
          refine Cj.exit ?_
          refine Ej.seqExit ?_
          refine Ej.loopExit ?_
          refine Ej.blkExit ?_
          refine Ej.seq ?_
          refine Cj.seq ?_
          refine Cj.region ?_
          refine J.y (yl_move rfl rfl) rfl rfl rfl ?_
          refine J.y (yl_toStr (Cq.escape s) rfl rfl rfl Tryz.underlying46 Tryz.underlying9 Tryz.underlying5 (Blk.at 0 rfl) (by rw [htk, buf_full rfl, List.append_nil]; exact List.take_of_length_le (by rw [List.drop_zero, bcs_len]; exact Nat.le_refl _))) rfl rfl rfl ?_
          refine J.y (yl_assign rfl rfl) rfl rfl rfl ?_
          refine J.nil ?_
          refine Ej.seq ?_
          refine Cj.ret ?_
          refine Ej.bare ?_
          refine Ej.ret1 rfl rfl rfl ?_
          exact ⟨rfl, rfl, rfl⟩

set_option maxRecDepth 20000 in
theorem Replace_ok (rb : Nat) (osl : Value) (s : List UInt8) (hs : s.length ≤ 1000000000) (I : Heap) (ho : StrSl 9 I olds osl) : Ctr Tryz.prog 49 [ptr rb 0, str s] I (RepH rb (.int .u32 0) (.int .i32 0) (.int .u32 0) .nilIface osl)
    (fun e _I' H' => e = .returned (str (Cq.escape s)) ∧ H' = []) := by
  refine Ctr.of_body Tryz.func49 rfl (by decide) (Nat.le_of_ble_eq_true rfl) ?_
  intro w0 hw0
  refine Cj.seq ?_
  refine Cj.region ?_
  refine J.y (yl_assign rfl rfl) rfl rfl rfl ?_
  refine J.nil ?_
  refine Ej.seq ?_
  refine Cj.seq ?_
  refine Cj.region ?_
  refine J.y (yl_move rfl rfl) rfl rfl rfl ?_
  refine J.y (yl_nilCheck rfl rfl) rfl rfl rfl ?_
  refine J.y (yl_fieldAddr (off' := 0) rfl rfl Tryz.underlying121 rfl Tryz.sizeOf117 rfl) rfl rfl rfl ?_
  refine J.y (yl_move rfl rfl) rfl rfl rfl ?_
  refine J.y (yl_makeFunc rfl rfl rfl) rfl rfl rfl ?_
  refine J.pull Pull.z ?_
  refine J.op rfl (op_call (H1 := [_]) rfl rfl rfl rfl rfl (Do_ok rb osl _ ho) ?_ (fun _ _ _ _ h => by cases h.1) (fun _ _ h => by cases h.1))
  intro v1 I2 H3 hle4 hp5
  have ho := ho.mono hle4
  obtain ⟨h, xb, hbs, rfl⟩ := hp5; cases h
  refine J.nil ?_
  refine Ej.seq ?_
  refine Cj.seq ?_
  refine Cj.region ?_
  refine J.y (yl_move rfl rfl) rfl rfl rfl ?_
  refine J.y (yl_nilCheck rfl rfl) rfl rfl rfl ?_
  refine J.y (yl_fieldAddr (off' := 3) rfl rfl Tryz.underlying121 rfl Tryz.sizeOf119 rfl) rfl rfl rfl ?_
  refine J.y (yl_load rfl rfl Tryz.isAgg119 (Blk.at 0 rfl) rfl) rfl rfl rfl ?_
  refine J.y (yl_move rfl rfl) rfl rfl rfl ?_
  refine J.op rfl (op_invoke (H1 := []) (T := 164) rfl rfl rfl rfl rfl (by kernel_rfl) Tryz.underlying164 (bsReplace_ok xb s hs _ hbs) ?_ (fun _ _ _ _ h => by cases h.1) (fun _ _ h => by cases h.1))
  rintro v9 I9 H9 hle9 ⟨h, rfl, rfl⟩; cases h
  refine J.y (yl_assign rfl rfl) rfl rfl rfl ?_
  refine J.nil ?_
  refine Ej.seq ?_
  refine Cj.ret ?_
  refine Ej.bare ?_
  refine Ej.ret1 rfl rfl rfl ?_
  exact ⟨rfl, rfl⟩

end Go.Proofs.YtlfpehljahgbkaaGreatDoor
