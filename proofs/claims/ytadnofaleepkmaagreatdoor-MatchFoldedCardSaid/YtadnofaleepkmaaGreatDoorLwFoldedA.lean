/-
  The law MatchFolded. Own text, printed by a program. Conditions: none.
-/
import Derived.Test.YtadnofaleepkmaaGreatDoorPA11
import Derived.Test.YtadnofaleepkmaaGreatDoorPA12
import Derived.Test.YtadnofaleepkmaaGreatDoorMuA
namespace Go.Proofs.YtadnofaleepkmaaGreatDoor
open Go Go.Sx
theorem mark_at {l : List (List UInt8)} {k : Nat} {x : List UInt8} (h : l[k]? = some x) : (l.map str)[k]? = some (str x) := by rw [List.getElem?_map, h]; rfl
theorem perm_ex {α : Type} (A G : List α) (x : α) : ((G ++ A) ++ [x]).Perm (x :: (A ++ G)) := by
  refine List.Perm.trans List.perm_append_comm ?_
  show (x :: (G ++ A)).Perm _
  exact List.Perm.cons x List.perm_append_comm
theorem perm_ex2 {α : Type} (A S Z : List α) : (A ++ (S ++ Z)).Perm ((Z ++ A) ++ S) := by
  rw [← List.append_assoc, List.append_assoc Z]; exact List.perm_append_comm
theorem perm_front {α : Type} (A S Z : List α) : (S ++ (A ++ Z)).Perm (A ++ (S ++ Z)) := by
  rw [← List.append_assoc, ← List.append_assoc]; exact List.Perm.append_right Z List.perm_append_comm
/-- The first subfields are turned. -/
def sK (m : List UInt8) (ss : List Ke.Sub) (k : Nat) : List Ke.Sub := (ss.take k).map (Ke.op1 m) ++ ss.drop k
theorem sK_len (m : List UInt8) {ss : List Ke.Sub} {k : Nat} (h : k ≤ ss.length) : (sK m ss k).length = ss.length := by unfold sK; rw [List.length_append, List.length_map, List.length_take, List.length_drop]; omega
theorem sK_get (m : List UInt8) {ss : List Ke.Sub} {k : Nat} {x : Ke.Sub} (h : ss[k]? = some x) : (sK m ss k)[k]? = some x := by
  obtain ⟨hlt, hg⟩ := List.getElem?_eq_some_iff.1 h
  unfold sK
  rw [List.getElem?_append_right (by rw [List.length_map, List.length_take]; omega), List.length_map, List.length_take, List.getElem?_drop, show k + (k - min k ss.length) = k by omega]; exact h
theorem sK_next (m : List UInt8) {ss : List Ke.Sub} {k : Nat} {x : Ke.Sub} (h : ss[k]? = some x) : sK m ss (k + 1) = (sK m ss k).set k (Ke.op1 m x) := by
  obtain ⟨hlt, hg⟩ := List.getElem?_eq_some_iff.1 h
  unfold sK
  rw [List.take_succ_eq_append_getElem hlt, hg, List.map_append, List.set_append_right _ _ (by rw [List.length_map, List.length_take]; omega), List.length_map, List.length_take, show k - min k ss.length = 0 by omega, List.drop_eq_getElem_cons hlt, List.set_cons_zero, List.append_assoc]; rfl
theorem flat_set {α : Type} {f : α → List Value} {n : Nat} (hf : ∀ x, (f x).length = n) {sp : List Value} (j : Nat) (hj : j < n) (v : Value) : ∀ {l : List α} {k : Nat} {x y : α}, l[k]? = some x → (f x).set j v = f y → (l.flatMap f ++ sp).set (k * n + j) v = (l.set k y).flatMap f ++ sp
  | [], _, _, _, h, _ => by simp at h
  | a :: r, 0, x, y, h, hy => by
    simp at h; subst h
    rw [Nat.zero_mul, Nat.zero_add, List.flatMap_cons, List.append_assoc, List.set_append_left _ _ (by rw [hf]; exact hj), hy, List.set_cons_zero, List.flatMap_cons, List.append_assoc]
  | a :: r, k + 1, x, y, h, hy => by
    have h' : r[k]? = some x := by simpa using h
    have ih := flat_set hf (sp := sp) j hj v h' hy
    rw [List.flatMap_cons, List.append_assoc, List.set_append_right _ _ (by rw [hf, Nat.add_mul]; omega), hf, show (k + 1) * n + j - n = k * n + j by rw [Nat.add_mul]; omega, ih, List.set_cons_succ, List.flatMap_cons, List.append_assoc]
theorem sK_set (m : List UInt8) {ss : List Ke.Sub} {k : Nat} {x : Ke.Sub} (h : ss[k]? = some x) (sp : List Value) : ((sK m ss k).flatMap subC ++ sp).set (k * 2 + 1) (str (x.text.map upc ++ m)) = (sK m ss (k + 1)).flatMap subC ++ sp := by
  rw [sK_next m h]
  exact flat_set subC_len 1 (by decide) _ (sK_get m h) rfl
theorem fold_done {f : Ke.Fld} {m : List UInt8} {k : Nat} (h : (k = f.subs.length ∧ (k = 0 ∨ Ke.opC f = true)) ∨ (k = 0 ∧ Ke.opC f = false)) (v : Value) : Ke.nrm1 ⟨f.tag, f.ind, f.data, v, sK m f.subs k⟩ = Ke.op m (Ke.nrm1 f) := by
  have hc : Ke.opC (Ke.nrm1 f) = Ke.opC f := rfl
  unfold Ke.op
  rw [hc]
  rcases h with ⟨h1, h2⟩ | ⟨h1, h2⟩
  · have hs : sK m f.subs k = f.subs.map (Ke.op1 m) := by unfold sK; rw [h1, List.take_length, List.drop_length, List.append_nil]
    rw [hs]
    rcases h2 with h2 | h2
    · have h0 : f.subs = [] := List.length_eq_zero_iff.1 (by omega)
      split
      · rfl
      · unfold Ke.nrm1; rw [h0]; rfl
    · rw [if_pos h2]; rfl
  · rw [h2, if_neg (by decide), h1]; rfl
theorem nrm_at {fs : List Ke.Fld} {i : Nat} {f : Ke.Fld} (h : fs[i]? = some f) (g : Ke.Fld → Ke.Fld) : ((Ke.nrm fs).take (i + 1)).map g = ((Ke.nrm fs).take i).map g ++ [g (Ke.nrm1 f)] := by
  have h1 : (Ke.nrm fs)[i]? = some (Ke.nrm1 f) := by unfold Ke.nrm; rw [List.getElem?_map, h]; rfl
  obtain ⟨hlt, hg⟩ := List.getElem?_eq_some_iff.1 h1
  rw [List.take_succ_eq_append_getElem hlt, hg, List.map_append]; rfl
theorem mark_len {m : List UInt8} (h : m ∈ Ke.marksL) : m.length ≤ 3 := (show ∀ x ∈ Ke.marksL, x.length ≤ 3 by decide) m h
theorem texts_op (m : List UInt8) (ss : List Ke.Sub) : textsLen (ss.map (Ke.op1 m)) = textsLen ss + ss.length * m.length := by
  induction ss with
  | nil => simp [textsLen]
  | cons a r ih =>
    unfold textsLen at ih ⊢
    simp only [List.map_cons, List.sum_cons, List.length_cons, ih, Ke.op1, Ke.capS, List.length_append, List.length_map, Nat.add_mul]; omega
theorem folded_ok {q : Ke.Six} {m : List UInt8} (hm : m ∈ Ke.marksL) {zs : List Ke.Fld} (h : Ke.nrm zs = (Ke.made6 q).map (Ke.op m)) : FOK zs ∧ ∀ f ∈ zs, f.data.length ≤ 2000000 := by
  have hl : zs.length ≤ 6 := by rw [← nrm_len, h, List.length_map]; exact made_len q
  have hm3 := mark_len hm
  have hk : ∀ f ∈ zs, f.subs.length ≤ 2 ∧ textsLen f.subs ≤ 106 ∧ f.ind.length ≤ 2 ∧ f.data.length ≤ 40 := fun f hf => by
    have h1 : Ke.nrm1 f ∈ (Ke.made6 q).map (Ke.op m) := by rw [← h]; exact List.mem_map_of_mem hf
    obtain ⟨g, hg, he⟩ := List.mem_map.1 h1
    obtain ⟨g1, g2, g3, g4⟩ := made_small hg
    have e1 : f.subs = (Ke.op m g).subs := (congrArg Ke.Fld.subs he).symm
    have e2 : f.ind = (Ke.op m g).ind := (congrArg Ke.Fld.ind he).symm
    have e3 : f.data = (Ke.op m g).data := (congrArg Ke.Fld.data he).symm
    rw [e1, e2, e3]
    unfold Ke.op
    split
    · dsimp only
      rw [List.length_map, texts_op]
      have := Nat.mul_le_mul g1 hm3
      exact ⟨g1, by omega, g3, g4⟩
    · exact ⟨g1, by omega, g3, g4⟩
  exact ⟨⟨by omega, fun f hf => by obtain ⟨h1, h2, h3, -⟩ := hk f hf; exact ⟨by omega, by omega, by omega⟩⟩, fun f hf => by have := (hk f hf).2.2.2; omega⟩
theorem fold_feat {q : Ke.Six} {m : List UInt8} (hm : m ∈ Ke.marksL) {zs fs : List Ke.Fld} (h : Ke.nrm zs = (Ke.made6 q).map (Ke.op m)) (hf : Ke.nrm fs = Ke.made6 q) (k : UInt8) : Ke.feat k zs = Ke.feat k fs := by
  rw [← Ke.feat_nrm k zs, ← Ke.feat_nrm k fs, h, hf, Ke.feat_op k q hm]
set_option maxRecDepth 20000 in
set_option maxHeartbeats 2000000 in
theorem MatchFolded_ok (a b : Ke.Six) (ha : SixOk a) (hb : SixOk b) (signs : UInt8) (I : Heap) : Pure Tryz.prog 6 [sixV a, sixV b, u8 signs] I (.bool true) := by
 refine Ctr.toPure ?_
 obtain ⟨mk, hmk⟩ : ∃ mk, Ke.marksL[signs.toNat % 6]? = some mk := ⟨_, List.getElem?_eq_getElem (Nat.mod_lt _ (by decide))⟩
 have hmem := List.mem_of_getElem? hmk
 refine Ctr.of_body Tryz.func6 rfl (by decide) (Nat.le_of_ble_eq_true rfl) ?_
 intro w0 hw0
 refine Cj.seq (Cj.region (J.op rfl (op_box rfl rfl rfl rfl rfl ?_)))
 intro b1 hb1
 refine J.op rfl (op_box rfl rfl rfl rfl rfl ?_)
 intro b2 hb2
 refine J.z (yl_assign rfl rfl) ?_
 refine J.nil (Ej.seq (Cj.seq (Cj.region (J.op rfl (op_pure rfl rfl rfl rfl rfl (sanity_ok _) ?_)))))
 refine J.z (yl_assign rfl rfl) ?_
 refine J.nil (Ej.seq (Cj.seq (Cj.region (J.z (yl_loadAgg rfl rfl Tryz.isAgg22 Tryz.sizeOf22 (Blk.at 1 rfl) rfl rfl) ?_))))
 refine J.op rfl (op_call (H1 := []) rfl rfl rfl rfl rfl (Made6_ok a ha _) ?_ (fun _ _ _ _ h => by obtain ⟨_, _, h, _⟩ := h; cases h) (fun _ _ h => by obtain ⟨_, _, h, _⟩ := h; cases h))
 intro v3 I4 H5 hle6 hp7
 obtain ⟨fx, wx, h, hrx, hNx, rfl⟩ := hp7; cases h
 obtain ⟨rpx, rcx, rfl, -, -⟩ := id hrx.1
 have hox := made_ok hNx
 refine J.op rfl (op_alloc rfl rfl rfl Tryz.zeroValue26 rfl ?_)
 intro b8 hb8
 refine J.op rfl (op_store 0 rfl rfl rfl rfl rfl rfl Tryz.sizeOf26 rfl rfl (LSpl.c (LSpl.c (LSpl.c LSpl.z))) LSet.z ?_)
 refine J.nil (Ej.seq (Cj.seq (Cj.region (J.z (yl_loadAgg rfl rfl Tryz.isAgg22 Tryz.sizeOf22 (Blk.at 1 rfl) rfl rfl) ?_))))
 refine J.op rfl (op_call (H1 := []) rfl rfl rfl rfl rfl (Made6_ok b hb _) ?_ (fun _ _ _ _ h => by obtain ⟨_, _, h, _⟩ := h; cases h) (fun _ _ h => by obtain ⟨_, _, h, _⟩ := h; cases h))
 intro v9 I10 H11 hle12 hp13
 have hrx := hrx.mono hle12
 obtain ⟨fy, wy, h, hry, hNy, rfl⟩ := hp13; cases h
 obtain ⟨rpy, rcy, rfl, -, -⟩ := id hry.1
 have hoy := made_ok hNy
 refine J.op rfl (op_alloc rfl rfl rfl Tryz.zeroValue26 rfl ?_)
 intro b14 hb14
 refine J.op rfl (op_store 0 rfl rfl rfl rfl rfl rfl Tryz.sizeOf26 rfl rfl (LSpl.c (LSpl.c (LSpl.c LSpl.z))) LSet.z ?_)
 refine J.nil (Ej.seq (Cj.seq (Cj.region (J.z (yl_fieldAddr (off' := 0) rfl rfl Tryz.underlying26 rfl Tryz.sizeOf5 rfl) ?_))))
 refine J.z (yl_load rfl rfl Tryz.isAgg5 (Blk.at 1 rfl) rfl) ?_
 refine J.z (yl_buildS (pl := #[(0, 1), (1, 1), (2, 1)]) rfl rfl Tryz.zeroValue26 rfl Tryz.underlying26 (fun w => by simp [Tryz.sizeOf23, Tryz.sizeOf5]) (LBld.part rfl rfl rfl (LSpl.c LSpl.z) LBld.none)) ?_
 refine J.op rfl (op_alloc rfl rfl rfl Tryz.zeroValue26 rfl ?_)
 intro b15 hb15
 refine J.op rfl (op_store 0 rfl rfl rfl rfl rfl rfl Tryz.sizeOf26 rfl rfl (LSpl.c (LSpl.c (LSpl.c LSpl.z))) LSet.z ?_)
 refine J.nil (Ej.seq (Cj.seq (Cj.region (J.op rfl (op_buildSlice rfl rfl rfl Tryz.underlying31 Tryz.sizeOf9 Tryz.zeroValue9 rfl rfl rfl rfl (LCat.one rfl (LCat.one rfl (LCat.one rfl (LCat.one rfl (LCat.one rfl (LCat.one rfl LCat.none)))))) ?_)))))
 intro b16 hb16
 refine J.z (yl_move rfl rfl) ?_
 refine J.z (yl_rem rfl rfl rfl (by decide)) ?_
 refine J.eqv 25 rfl (show _ = .int .u8 ((signs.toNat % 6 : Nat) : Int) from rfl) ?_
 refine J.z (yl_indexAddr (off' := signs.toNat % 6) rfl rfl rfl Tryz.underlying31 Tryz.sizeOf9 (by omega) (by omega) (by omega)) ?_
 refine J.z (yl_load rfl rfl Tryz.isAgg9 (Blk.at 0 rfl) (mark_at hmk)) ?_
 refine J.z (yl_assign rfl rfl) ?_
 refine J.nil (Ej.seq (Cj.seq (Cj.seq (Cj.region (J.z (yl_assign rfl rfl) ?_)))))
 refine J.nil (Ej.seq (Cj.block (Cj.keep (Keeps.d (Keeps.k (Keeps.k (Keeps.k (Keeps.d (Keeps.d Keeps.n)))))) ?_)))
 refine Cj.loop (ι := Nat × Heap × List Ke.Fld × Gs) (fun y => y.1 ≤ fx.length ∧ RecS y.2.1 fx (.slice rpx fx.length rcx) ∧ RecS y.2.1 fy (.slice rpy fy.length rcy) ∧ SubsS y.2.1 y.2.2.1 ∧ Ke.nrm y.2.2.1 = ((Ke.nrm fx).take y.1).map (Ke.op mk) ∧ y.2.2.1.length = y.1 ∧ gOk w0.heap.size 4 y.2.2.1.length (y.2.2.1.flatMap fldC) y.2.2.2) (fun y => fx.length - y.1) (fun y => [(7, .bool true), (8, ptr b8 0), (9, ptr b14 0), (10, ptr b15 0), (11, str mk), (12, i64 (y.1 : Int))]) (fun y => y.2.1) (fun y => (b15, cel 26 [u8 (Ke.mkind a), u8 0, gV y.2.2.1.length y.2.2.2]) :: (b14, cel 26 [u8 (Ke.mkind b), u8 109, .slice rpy fy.length rcy]) :: (b8, cel 26 [u8 (Ke.mkind a), u8 109, .slice rpx fx.length rcx]) :: gH 35 (y.2.2.1.flatMap fldC) y.2.2.2) (0, _, [], none) ⟨Nat.zero_le _, hrx, hry, SubsS.nil, rfl, rfl, rfl, rfl⟩ ⟨rfl, rfl, rfl, rfl, rfl, rfl, trivial⟩ rfl rfl ?_
 rintro ⟨i, Jh, zs, g⟩ ⟨hi, hrx, hry, hS, hN, hzl, hg⟩
 dsimp only at hi hrx hry hS hN hzl hg ⊢
 refine Cj.seq (Cj.seq (Cj.region (J.z (yl_move rfl rfl) ?_)))
 refine J.z (yl_fieldAddr (off' := 2) rfl rfl Tryz.underlying26 rfl Tryz.sizeOf23 rfl) ?_
 refine J.z (yl_load rfl rfl Tryz.isAgg23 (Blk.at 2 rfl) rfl) ?_
 refine J.z (yl_lenSlice rfl rfl Tryz.underlying23) ?_
 refine J.z (yl_lss rfl rfl rfl) ?_
 refine J.nil (Ej.seq (Cj.cond rfl (fun hc17 => ?_) (fun hc17 => ?_)))
 ·
  have hc17p := of_decide_eq_true hc17
  have hlt : i < fx.length := by omega
  obtain ⟨f, hget⟩ : ∃ f, fx[i]? = some f := ⟨_, List.getElem?_eq_getElem hlt⟩
  have hfm := List.mem_of_getElem? hget
  have hR := hrx.2 f hfm
  obtain ⟨p2, c2, hsv, hc2, -⟩ := id hR
  obtain ⟨pp, pc, hpe, hpc, hpp⟩ := id hrx.1
  cases hpe
  obtain ⟨pb, po, pcs, pty, pfr, psp, rfl, hpb, hpd⟩ := hpp (ne_nil_of hlt)
  have hsl := (hox.1.2 f hfm).1
  have htx := (hox.1.2 f hfm).2.1
  have hfl : fx.length ≤ 6 := by rw [← nrm_len, hNx]; exact made_len a
  refine Cj.skip (Ej.seq (Cj.seq (Cj.block (Cj.seq (Cj.region (J.z (yl_fieldAddr (off' := 2) rfl rfl Tryz.underlying26 rfl Tryz.sizeOf23 rfl) ?_))))))
  refine J.z (yl_load rfl rfl Tryz.isAgg23 (Blk.at 2 rfl) rfl) ?_
  refine J.z (yl_move rfl rfl) ?_
  refine J.z (yl_indexAddr (off' := po + i * 4) rfl rfl rfl Tryz.underlying23 Tryz.sizeOf35 (by omega) (by omega) (by simp)) ?_
  refine J.z (yl_loadAgg rfl rfl Tryz.isAgg35 Tryz.sizeOf35 (Blk.imm hpb) (row_from fldC_len hpd hget) rfl) ?_
  refine J.op rfl (op_alloc rfl rfl rfl Tryz.zeroValue35 rfl ?_)
  intro b18 hb18
  refine J.op rfl (op_store 0 rfl rfl rfl rfl rfl (fldC_one hsv) Tryz.sizeOf35 rfl rfl (LSpl.c (LSpl.c (LSpl.c (LSpl.c LSpl.z)))) LSet.z ?_)
  refine J.nil (Ej.seq (Cj.seq (Cj.region (J.op rfl (op_buildSlice0 rfl rfl rfl Tryz.underlying33 Tryz.sizeOf47 ?_)))))
  intro b19 hb19
  refine J.z (yl_fieldAddr (off' := 3) rfl rfl Tryz.underlying35 rfl Tryz.sizeOf33 rfl) ?_
  refine J.z (yl_load rfl rfl Tryz.isAgg33 (Blk.at 1 rfl) rfl) ?_
  refine J.eqv 42 rfl (show _ = .slice p2 f.subs.length c2 from hsv) ?_
  refine J.perm (perm_ex [_, _, _, _] (gH _ _ _) _) ?_
  have hRv : RowS subC _ f.subs (.slice p2 f.subs.length c2) := hsv ▸ hR
  refine J.op rfl (op_append (by' := 23) (n := 0) (g := some (b19, 0, [])) (xs := []) (gH _ _ _ ++ [_, _, _, _]) rfl rfl rfl rfl rfl Tryz.underlying33 (.inr ⟨_, Tryz.underlying33⟩) (by kernel_rfl) Tryz.sizeOf47 Tryz.zeroValue47 rfl ⟨hb19, rfl, rfl⟩ rfl (Src.row subC_len hRv (fun _ _ => rfl)) (by omega) ?_)
  intro g2s hg2s
  refine J.perm (perm_ex2 [_, _, _, _] (gH _ _ _) (gH _ _ _)) ?_
  have hgs : gOk w0.heap.size 2 f.subs.length (f.subs.flatMap subC) g2s := gOk_same hg2s (Nat.zero_add _) rfl
  rw [show gV (0 + f.subs.length) g2s = gV f.subs.length g2s by rw [Nat.zero_add]]
  refine J.z (yl_fieldAddr (off' := 3) rfl rfl Tryz.underlying35 rfl Tryz.sizeOf33 rfl) ?_
  refine J.op rfl (op_store 0 rfl rfl rfl rfl (gV_cells _ _) (gV_one _ _) Tryz.sizeOf33 rfl rfl (LSpl.s (LSpl.s (LSpl.s (LSpl.c LSpl.z)))) LSet.z ?_)
  refine J.nil (Ej.seq (Cj.seq (Cj.seq (Cj.region (J.z (yl_assign rfl rfl) ?_)))))
  refine J.nil (Ej.seq (Cj.block (Cj.keep (Keeps.k (Keeps.k (Keeps.k (Keeps.k Keeps.r)))) ?_)))
  refine Cj.loop (ι := Nat) (fun k => k ≤ f.subs.length ∧ (k = 0 ∨ Ke.opC f = true)) (fun k => f.subs.length - k) (fun k => [(7, .bool true), (8, ptr b8 0), (9, ptr b14 0), (10, ptr b15 0), (11, str mk), (12, i64 (i : Int)), (13, ptr b18 0), (14, i64 (k : Int))]) (fun k => _) (fun k => (b18, cel 35 [str f.tag, str f.ind, str f.data, gV f.subs.length g2s]) :: (b15, cel 26 [u8 (Ke.mkind a), u8 0, gV zs.length g]) :: (b14, cel 26 [u8 (Ke.mkind b), u8 109, .slice rpy fy.length rcy]) :: (b8, cel 26 [u8 (Ke.mkind a), u8 109, .slice (some ⟨pb, po, none⟩) fx.length rcx]) :: (gH 47 ((sK mk f.subs k).flatMap subC) g2s ++ gH 35 (zs.flatMap fldC) g)) 0 ⟨Nat.zero_le _, .inl rfl⟩ ⟨rfl, rfl, rfl, rfl, rfl, rfl, rfl, rfl, trivial⟩ rfl rfl ?_
  rintro k ⟨hk, hk0⟩
  refine Cj.seq (Cj.seq (Cj.region (J.z (yl_move rfl rfl) ?_)))
  refine J.z (yl_fieldAddr (off' := 3) rfl rfl Tryz.underlying35 rfl Tryz.sizeOf33 rfl) ?_
  refine J.z (yl_load rfl rfl Tryz.isAgg33 (Blk.at 0 rfl) rfl) ?_
  refine J.z (yl_lenG hgs rfl rfl Tryz.underlying33) ?_
  refine J.z (yl_lss rfl rfl rfl) ?_
  refine J.z (yl_move rfl rfl) ?_
  refine J.split 50 rfl (fun hg20 => ?_) (fun hg20 => ?_)
  ·
   have hg20p := of_decide_eq_true hg20
   refine J.opG 5 50 true _ rfl rfl rfl hg20 (op_yld (yl_fieldAddr (off' := 0) rfl rfl Tryz.underlying35 rfl Tryz.sizeOf9 rfl) rfl rfl ?_)
   refine J.opG 5 50 true _ rfl rfl rfl hg20 (op_yld (yl_load rfl rfl Tryz.isAgg9 (Blk.at 0 rfl) rfl) rfl rfl ?_)
   refine J.opG 5 50 true _ rfl rfl rfl hg20 (op_yld (yl_eqlStr rfl rfl rfl) rfl rfl ?_)
   refine J.opG 5 50 true _ rfl rfl rfl hg20 (op_yld (yl_move rfl rfl) rfl rfl ?_)
   refine J.split 54 rfl (fun hg21 => ?_) (fun hg21 => ?_)
   ·
    have hg21p := eq_of_beq hg21
    have hop : Ke.opC f = true := by unfold Ke.opC; rw [eq_of_beq hg21]; rfl
    refine J.skip 9 54 55 false _ rfl rfl rfl hg21 rfl rfl ?_
    refine J.skip 9 54 56 false _ rfl rfl rfl hg21 rfl rfl ?_
    refine J.skip 9 54 57 false _ rfl rfl rfl hg21 rfl rfl ?_
    refine J.skip 9 54 58 false _ rfl rfl rfl hg21 rfl rfl ?_
    refine J.skipU 13 58 59 true rfl rfl rfl rfl rfl ?_
    refine J.skipU 13 58 60 true rfl rfl rfl rfl rfl ?_
    refine J.skipU 13 58 61 true rfl rfl rfl rfl rfl ?_
    refine J.skip 9 54 62 false _ rfl rfl rfl hg21 rfl rfl ?_
    refine J.opG 5 50 true _ rfl rfl rfl hg20 (op_yld (yl_pick1 rfl rfl hg21 rfl) rfl rfl ?_)
    refine J.z (yl_pick1 rfl rfl hg20 rfl) ?_
    refine J.nil (Ej.seq (Cj.cond rfl (fun hc22 => ?_) (fun hc22 => Bool.noConfusion (Eq.trans (Eq.symm rfl) hc22))))
    refine Cj.skip (Ej.seq (Cj.seq (Cj.block ?_)))
    have hklt : k < f.subs.length := by omega
    obtain ⟨x, hsget⟩ : ∃ x, f.subs[k]? = some x := ⟨_, List.getElem?_eq_getElem hklt⟩
    obtain ⟨sb, sc, ssp, rfl, hsb⟩ := hgs.some (by omega)
    have hxl := text_le (List.mem_of_getElem? hsget)
    have hml := mark_len hmem
    refine Cj.drawSel [0, 1, 2, 3, 4] [] 14 (by kernel_rfl) ?_
    have hpb_14 := hpb
    refine JA.fix ⟨(HSub.c 0 rfl (HSub.c 1 rfl (HSub.c 2 rfl (HSub.c 3 rfl (HSub.c 4 rfl HSub.n))))), CSub.n, (Le.refl _)⟩ (fun fx23 => ?_)
    refine JA.tk 0 rfl fx23 (yl_fieldAddr (off' := 3) rfl rfl Tryz.underlying35 rfl Tryz.sizeOf33 rfl) ?_
    refine JA.tk 1 rfl fx23 (yl_load rfl rfl Tryz.isAgg33 (Blk.atC 0 rfl) rfl) ?_
    refine JA.tk 2 rfl fx23 (yl_move rfl rfl) ?_
    refine JA.tk 3 rfl fx23 (yl_fieldAddr (off' := 3) rfl rfl Tryz.underlying35 rfl Tryz.sizeOf33 rfl) ?_
    refine JA.tk 4 rfl fx23 (yl_load rfl rfl Tryz.isAgg33 (Blk.atC 0 rfl) rfl) ?_
    refine JA.tk 5 rfl fx23 (yl_move rfl rfl) ?_
    refine JA.tk 6 rfl fx23 (yl_indexAddr (off' := k * 2) rfl rfl rfl Tryz.underlying33 Tryz.sizeOf47 (by omega) (by omega) (by simp)) ?_
    refine JA.tk 7 rfl fx23 (yl_fieldAddr (off' := k * 2 + 1) rfl rfl Tryz.underlying47 rfl Tryz.sizeOf9 rfl) ?_
    refine JA.tk 8 rfl fx23 (yl_load rfl rfl Tryz.isAgg9 (Blk.atC 4 rfl) (row_cell subC_len (sK_get mk hsget) 1 (by decide))) ?_
    refine JA.tk 10 rfl fx23 (yl_move rfl rfl) ?_
    refine JA.step 9 (by kernel_rfl) rfl rfl (op_pure rfl rfl rfl rfl rfl (upper_ok x.text (by omega) _) ?_)
    refine ⟨⟨(Le.refl _), (HSub.c 0 rfl (HSub.c 1 rfl (HSub.c 2 rfl (HSub.c 3 rfl (HSub.c 4 rfl HSub.n))))), CSub.n⟩, ?_⟩
    refine JA.fix ⟨(HSub.c 0 rfl (HSub.c 1 rfl (HSub.c 2 rfl (HSub.c 3 rfl (HSub.c 4 rfl HSub.n))))), CSub.n, (Le.refl _)⟩ (fun fx24 => ?_)
    refine JA.tk 11 rfl fx24 (yl_cat rfl rfl rfl (by rw [List.length_map]; omega)) ?_
    refine JA.tk 12 rfl fx24 (yl_indexAddr (off' := k * 2) rfl rfl rfl Tryz.underlying33 Tryz.sizeOf47 (by omega) (by omega) (by simp)) ?_
    refine JA.tk 13 rfl fx24 (yl_fieldAddr (off' := k * 2 + 1) rfl rfl Tryz.underlying47 rfl Tryz.sizeOf9 rfl) ?_
    refine JA.last 14 (by kernel_rfl) rfl rfl rfl (op_store1 4 rfl rfl rfl rfl rfl rfl Tryz.sizeOf9 rfl (.inl rfl) (by have h9 := flat_len subC_len (sK mk f.subs k); rw [sK_len mk hk] at h9; rw [List.length_append, h9]; omega) (LSet.s (LSet.s (LSet.s (LSet.s LSet.z)))) ?_)
    refine JA.done (by kernel_rfl) ?_
    refine Ej.blkNormal (Ej.seq (Cj.region (J.z (yl_move rfl rfl) ?_)))
    refine J.z (yl_add rfl rfl rfl (w64 (by omega))) ?_
    refine J.z (yl_assign rfl rfl) ?_
    refine J.nil (Ej.round (k + 1) ⟨by omega, .inr hop⟩ (by omega) ⟨rfl, rfl, rfl, rfl, rfl, rfl, rfl, rfl, trivial⟩ rfl (by simp only [gH]; rw [← sK_set mk hsget ssp]; rfl))
   ·
    have hg21p := ne_of_beq_false hg21
    refine J.opG 9 54 false _ rfl rfl rfl hg21 (op_yld (yl_fieldAddr (off' := 0) rfl rfl Tryz.underlying35 rfl Tryz.sizeOf9 rfl) rfl rfl ?_)
    refine J.opG 9 54 false _ rfl rfl rfl hg21 (op_yld (yl_load rfl rfl Tryz.isAgg9 (Blk.at 0 rfl) rfl) rfl rfl ?_)
    refine J.opG 9 54 false _ rfl rfl rfl hg21 (op_yld (yl_eqlStr rfl rfl rfl) rfl rfl ?_)
    refine J.opG 9 54 false _ rfl rfl rfl hg21 (op_yld (yl_move rfl rfl) rfl rfl ?_)
    refine J.split 58 rfl (fun hg25 => ?_) (fun hg25 => ?_)
    ·
     have hg25p := eq_of_beq hg25
     refine J.opG 13 58 true _ rfl rfl rfl hg25 (op_yld (yl_fieldAddr (off' := 1) rfl rfl Tryz.underlying35 rfl Tryz.sizeOf9 rfl) rfl rfl ?_)
     refine J.opG 13 58 true _ rfl rfl rfl hg25 (op_yld (yl_load rfl rfl Tryz.isAgg9 (Blk.at 0 rfl) rfl) rfl rfl ?_)
     refine J.opG 13 58 true _ rfl rfl rfl hg25 (op_yld (yl_neqStr rfl rfl rfl) rfl rfl ?_)
     refine J.opG 9 54 false _ rfl rfl rfl hg21 (op_yld (yl_pick1 rfl rfl hg25 rfl) rfl rfl ?_)
     refine J.opG 5 50 true _ rfl rfl rfl hg20 (op_yld (yl_pick0 rfl rfl hg21 rfl) rfl rfl ?_)
     refine J.z (yl_pick1 rfl rfl hg20 rfl) ?_
     refine J.nil (Ej.seq (Cj.cond rfl (fun hc26 => ?_) (fun hc26 => ?_)))
     ·
      have hc26p := bne_iff_ne.1 hc26
      have hop : Ke.opC f = true := by unfold Ke.opC; rw [eq_of_beq hg25, decide_eq_true (bne_iff_ne.1 hc26)]; rfl
      refine Cj.skip (Ej.seq (Cj.seq (Cj.block ?_)))
      have hklt : k < f.subs.length := by omega
      obtain ⟨x, hsget⟩ : ∃ x, f.subs[k]? = some x := ⟨_, List.getElem?_eq_getElem hklt⟩
      obtain ⟨sb, sc, ssp, rfl, hsb⟩ := hgs.some (by omega)
      have hxl := text_le (List.mem_of_getElem? hsget)
      have hml := mark_len hmem
      refine Cj.drawSel [0, 1, 2, 3, 4] [] 14 (by kernel_rfl) ?_
      have hpb_14 := hpb
      refine JA.fix ⟨(HSub.c 0 rfl (HSub.c 1 rfl (HSub.c 2 rfl (HSub.c 3 rfl (HSub.c 4 rfl HSub.n))))), CSub.n, (Le.refl _)⟩ (fun fx27 => ?_)
      refine JA.tk 0 rfl fx27 (yl_fieldAddr (off' := 3) rfl rfl Tryz.underlying35 rfl Tryz.sizeOf33 rfl) ?_
      refine JA.tk 1 rfl fx27 (yl_load rfl rfl Tryz.isAgg33 (Blk.atC 0 rfl) rfl) ?_
      refine JA.tk 2 rfl fx27 (yl_move rfl rfl) ?_
      refine JA.tk 3 rfl fx27 (yl_fieldAddr (off' := 3) rfl rfl Tryz.underlying35 rfl Tryz.sizeOf33 rfl) ?_
      refine JA.tk 4 rfl fx27 (yl_load rfl rfl Tryz.isAgg33 (Blk.atC 0 rfl) rfl) ?_
      refine JA.tk 5 rfl fx27 (yl_move rfl rfl) ?_
      refine JA.tk 6 rfl fx27 (yl_indexAddr (off' := k * 2) rfl rfl rfl Tryz.underlying33 Tryz.sizeOf47 (by omega) (by omega) (by simp)) ?_
      refine JA.tk 7 rfl fx27 (yl_fieldAddr (off' := k * 2 + 1) rfl rfl Tryz.underlying47 rfl Tryz.sizeOf9 rfl) ?_
      refine JA.tk 8 rfl fx27 (yl_load rfl rfl Tryz.isAgg9 (Blk.atC 4 rfl) (row_cell subC_len (sK_get mk hsget) 1 (by decide))) ?_
      refine JA.tk 10 rfl fx27 (yl_move rfl rfl) ?_
      refine JA.step 9 (by kernel_rfl) rfl rfl (op_pure rfl rfl rfl rfl rfl (upper_ok x.text (by omega) _) ?_)
      refine ⟨⟨(Le.refl _), (HSub.c 0 rfl (HSub.c 1 rfl (HSub.c 2 rfl (HSub.c 3 rfl (HSub.c 4 rfl HSub.n))))), CSub.n⟩, ?_⟩
      refine JA.fix ⟨(HSub.c 0 rfl (HSub.c 1 rfl (HSub.c 2 rfl (HSub.c 3 rfl (HSub.c 4 rfl HSub.n))))), CSub.n, (Le.refl _)⟩ (fun fx28 => ?_)
      refine JA.tk 11 rfl fx28 (yl_cat rfl rfl rfl (by rw [List.length_map]; omega)) ?_
      refine JA.tk 12 rfl fx28 (yl_indexAddr (off' := k * 2) rfl rfl rfl Tryz.underlying33 Tryz.sizeOf47 (by omega) (by omega) (by simp)) ?_
      refine JA.tk 13 rfl fx28 (yl_fieldAddr (off' := k * 2 + 1) rfl rfl Tryz.underlying47 rfl Tryz.sizeOf9 rfl) ?_
      refine JA.last 14 (by kernel_rfl) rfl rfl rfl (op_store1 4 rfl rfl rfl rfl rfl rfl Tryz.sizeOf9 rfl (.inl rfl) (by have h9 := flat_len subC_len (sK mk f.subs k); rw [sK_len mk hk] at h9; rw [List.length_append, h9]; omega) (LSet.s (LSet.s (LSet.s (LSet.s LSet.z)))) ?_)
      refine JA.done (by kernel_rfl) ?_
      refine Ej.blkNormal (Ej.seq (Cj.region (J.z (yl_move rfl rfl) ?_)))
      refine J.z (yl_add rfl rfl rfl (w64 (by omega))) ?_
      refine J.z (yl_assign rfl rfl) ?_
      refine J.nil (Ej.round (k + 1) ⟨by omega, .inr hop⟩ (by omega) ⟨rfl, rfl, rfl, rfl, rfl, rfl, rfl, rfl, trivial⟩ rfl (by simp only [gH]; rw [← sK_set mk hsget ssp]; rfl))
     ·
      have hc26p := bne_f hc26
      have hnop : Ke.opC f = false := by unfold Ke.opC; rw [eq_of_beq hg25, bne_f hc26]; rfl
      have hk00 : k = 0 := hk0.resolve_right (by rw [hnop]; decide)
      refine Cj.exit (Ej.seqExit (Ej.loopExit (Ej.blkExit (Ej.seq ?_))))
      have hdone : (k = f.subs.length ∧ (k = 0 ∨ Ke.opC f = true)) ∨ (k = 0 ∧ Ke.opC f = false) := .inr ⟨hk00, hnop⟩
      refine Cj.perm (perm_front [_, _, _, _] (gH _ _ _) (gH _ _ _)) ?_
      refine Cj.keepR subC_len (by decide) (gOk_same hgs rfl (by rw [flat_len subC_len, flat_len subC_len, sK_len mk hk])) (sK_len mk hk).symm (fun I8 hle8 hss => ?_)
      have hrx := hrx.mono hle8
      have hry := hry.mono hle8
      have hS := hS.mono hle8
      have hpb := hle8 _ _ hpb
      have hR := hR.mono hle8
      refine Cj.region (J.z (yl_fieldAddr (off' := 2) rfl rfl Tryz.underlying26 rfl Tryz.sizeOf23 rfl) ?_)
      refine J.z (yl_load rfl rfl Tryz.isAgg23 (Blk.at 1 rfl) rfl) ?_
      refine J.z (yl_loadAgg rfl rfl Tryz.isAgg35 Tryz.sizeOf35 (Blk.at 0 rfl) rfl rfl) ?_
      refine J.op rfl (op_buildSlice rfl rfl rfl Tryz.underlying23 Tryz.sizeOf35 Tryz.zeroValue35 rfl rfl rfl rfl (LCat.agg rfl LCat.none) ?_)
      intro b29 hb29
      refine J.op rfl (op_append (by' := 71) [_, _, _, _, _] rfl rfl rfl rfl rfl Tryz.underlying23 (.inr ⟨_, Tryz.underlying23⟩) (by kernel_rfl) Tryz.sizeOf35 Tryz.zeroValue35 rfl hg rfl (Src.slice (Blk.at 0 rfl) rfl rfl (by show [str f.tag, str f.ind, str f.data, gV f.subs.length g2s].all Value.oneCell' = true; simp only [List.all_cons, List.all_nil, gV_one', Bool.and_true]; rfl)) (by omega) ?_)
      intro g30 hg30
      refine J.z (yl_fieldAddr (off' := 2) rfl rfl Tryz.underlying26 rfl Tryz.sizeOf23 rfl) ?_
      refine J.op rfl (op_store 2 rfl rfl rfl rfl (gV_cells _ _) (gV_one _ _) Tryz.sizeOf23 rfl rfl (LSpl.s (LSpl.s (LSpl.c LSpl.z))) (LSet.s (LSet.s LSet.z)) ?_)
      refine J.nil (Ej.blkNormal (Ej.seq (Cj.region (J.z (yl_move rfl rfl) ?_))))
      refine J.z (yl_add rfl rfl rfl (w64 (by omega))) ?_
      refine J.z (yl_assign rfl rfl) ?_
      refine J.nil (Ej.keep (Keeps.d (Keeps.d (Keeps.k (Keeps.k (Keeps.k Keeps.r))))) ?_)
      refine Ej.round (i + 1, _, zs ++ [⟨f.tag, f.ind, f.data, gV f.subs.length g2s, sK mk f.subs k⟩], g30) ⟨by dsimp only; omega, hrx, hry, SubsS.add hS hss, by dsimp only; rw [nrm_add, nrm_at hget, hN, fold_done hdone], by dsimp only; rw [List.length_append, hzl]; rfl, by dsimp only; rw [flat_one, List.length_append]; exact hg30⟩ (by dsimp only; omega) ⟨rfl, rfl, rfl, rfl, rfl, rfl, trivial⟩ rfl (by dsimp only; rw [flat_one, List.length_append]; rfl)
    ·
     have hg25p := ne_of_beq_false hg25
     have hnop : Ke.opC f = false := by unfold Ke.opC; rw [decide_eq_false (ne_of_beq_false hg21), decide_eq_false (ne_of_beq_false hg25)]; rfl
     have hk00 : k = 0 := hk0.resolve_right (by rw [hnop]; decide)
     refine J.skip 13 58 59 true _ rfl rfl rfl hg25 rfl rfl ?_
     refine J.skip 13 58 60 true _ rfl rfl rfl hg25 rfl rfl ?_
     refine J.skip 13 58 61 true _ rfl rfl rfl hg25 rfl rfl ?_
     refine J.opG 9 54 false _ rfl rfl rfl hg21 (op_yld (yl_pick0 rfl rfl hg25 rfl) rfl rfl ?_)
     refine J.opG 5 50 true _ rfl rfl rfl hg20 (op_yld (yl_pick0 rfl rfl hg21 rfl) rfl rfl ?_)
     refine J.z (yl_pick1 rfl rfl hg20 rfl) ?_
     refine J.nil (Ej.seq (Cj.cond rfl (fun hc31 => Bool.noConfusion (Eq.trans (Eq.symm rfl) hc31)) (fun hc31 => ?_)))
     refine Cj.exit (Ej.seqExit (Ej.loopExit (Ej.blkExit (Ej.seq ?_))))
     have hdone : (k = f.subs.length ∧ (k = 0 ∨ Ke.opC f = true)) ∨ (k = 0 ∧ Ke.opC f = false) := .inr ⟨hk00, hnop⟩
     refine Cj.perm (perm_front [_, _, _, _] (gH _ _ _) (gH _ _ _)) ?_
     refine Cj.keepR subC_len (by decide) (gOk_same hgs rfl (by rw [flat_len subC_len, flat_len subC_len, sK_len mk hk])) (sK_len mk hk).symm (fun I8 hle8 hss => ?_)
     have hrx := hrx.mono hle8
     have hry := hry.mono hle8
     have hS := hS.mono hle8
     have hpb := hle8 _ _ hpb
     have hR := hR.mono hle8
     refine Cj.region (J.z (yl_fieldAddr (off' := 2) rfl rfl Tryz.underlying26 rfl Tryz.sizeOf23 rfl) ?_)
     refine J.z (yl_load rfl rfl Tryz.isAgg23 (Blk.at 1 rfl) rfl) ?_
     refine J.z (yl_loadAgg rfl rfl Tryz.isAgg35 Tryz.sizeOf35 (Blk.at 0 rfl) rfl rfl) ?_
     refine J.op rfl (op_buildSlice rfl rfl rfl Tryz.underlying23 Tryz.sizeOf35 Tryz.zeroValue35 rfl rfl rfl rfl (LCat.agg rfl LCat.none) ?_)
     intro b32 hb32
     refine J.op rfl (op_append (by' := 71) [_, _, _, _, _] rfl rfl rfl rfl rfl Tryz.underlying23 (.inr ⟨_, Tryz.underlying23⟩) (by kernel_rfl) Tryz.sizeOf35 Tryz.zeroValue35 rfl hg rfl (Src.slice (Blk.at 0 rfl) rfl rfl (by show [str f.tag, str f.ind, str f.data, gV f.subs.length g2s].all Value.oneCell' = true; simp only [List.all_cons, List.all_nil, gV_one', Bool.and_true]; rfl)) (by omega) ?_)
     intro g33 hg33
     refine J.z (yl_fieldAddr (off' := 2) rfl rfl Tryz.underlying26 rfl Tryz.sizeOf23 rfl) ?_
     refine J.op rfl (op_store 2 rfl rfl rfl rfl (gV_cells _ _) (gV_one _ _) Tryz.sizeOf23 rfl rfl (LSpl.s (LSpl.s (LSpl.c LSpl.z))) (LSet.s (LSet.s LSet.z)) ?_)
     refine J.nil (Ej.blkNormal (Ej.seq (Cj.region (J.z (yl_move rfl rfl) ?_))))
     refine J.z (yl_add rfl rfl rfl (w64 (by omega))) ?_
     refine J.z (yl_assign rfl rfl) ?_
     refine J.nil (Ej.keep (Keeps.d (Keeps.d (Keeps.k (Keeps.k (Keeps.k Keeps.r))))) ?_)
     refine Ej.round (i + 1, _, zs ++ [⟨f.tag, f.ind, f.data, gV f.subs.length g2s, sK mk f.subs k⟩], g33) ⟨by dsimp only; omega, hrx, hry, SubsS.add hS hss, by dsimp only; rw [nrm_add, nrm_at hget, hN, fold_done hdone], by dsimp only; rw [List.length_append, hzl]; rfl, by dsimp only; rw [flat_one, List.length_append]; exact hg33⟩ (by dsimp only; omega) ⟨rfl, rfl, rfl, rfl, rfl, rfl, trivial⟩ rfl (by dsimp only; rw [flat_one, List.length_append]; rfl)
  ·
   have hg20p := of_decide_eq_false hg20
   have hkl : k = f.subs.length := by omega
   refine J.skip 5 50 51 true _ rfl rfl rfl hg20 rfl rfl ?_
   refine J.skip 5 50 52 true _ rfl rfl rfl hg20 rfl rfl ?_
   refine J.skip 5 50 53 true _ rfl rfl rfl hg20 rfl rfl ?_
   refine J.skip 5 50 54 true _ rfl rfl rfl hg20 rfl rfl ?_
   refine J.skipU 9 54 55 false rfl rfl rfl rfl rfl ?_
   refine J.skipU 9 54 56 false rfl rfl rfl rfl rfl ?_
   refine J.skipU 9 54 57 false rfl rfl rfl rfl rfl ?_
   refine J.skipU 9 54 58 false rfl rfl rfl rfl rfl ?_
   refine J.skipU 13 58 59 true rfl rfl rfl rfl rfl ?_
   refine J.skipU 13 58 60 true rfl rfl rfl rfl rfl ?_
   refine J.skipU 13 58 61 true rfl rfl rfl rfl rfl ?_
   refine J.skipU 9 54 62 false rfl rfl rfl rfl rfl ?_
   refine J.skip 5 50 63 true _ rfl rfl rfl hg20 rfl rfl ?_
   refine J.z (yl_pick0 rfl rfl hg20 rfl) ?_
   refine J.nil (Ej.seq (Cj.cond rfl (fun hc34 => Bool.noConfusion (Eq.trans (Eq.symm rfl) hc34)) (fun hc34 => ?_)))
   refine Cj.exit (Ej.seqExit (Ej.loopExit (Ej.blkExit (Ej.seq ?_))))
   have hdone : (k = f.subs.length ∧ (k = 0 ∨ Ke.opC f = true)) ∨ (k = 0 ∧ Ke.opC f = false) := .inl ⟨hkl, hk0⟩
   refine Cj.perm (perm_front [_, _, _, _] (gH _ _ _) (gH _ _ _)) ?_
   refine Cj.keepR subC_len (by decide) (gOk_same hgs rfl (by rw [flat_len subC_len, flat_len subC_len, sK_len mk hk])) (sK_len mk hk).symm (fun I8 hle8 hss => ?_)
   have hrx := hrx.mono hle8
   have hry := hry.mono hle8
   have hS := hS.mono hle8
   have hpb := hle8 _ _ hpb
   have hR := hR.mono hle8
   refine Cj.region (J.z (yl_fieldAddr (off' := 2) rfl rfl Tryz.underlying26 rfl Tryz.sizeOf23 rfl) ?_)
   refine J.z (yl_load rfl rfl Tryz.isAgg23 (Blk.at 1 rfl) rfl) ?_
   refine J.z (yl_loadAgg rfl rfl Tryz.isAgg35 Tryz.sizeOf35 (Blk.at 0 rfl) rfl rfl) ?_
   refine J.op rfl (op_buildSlice rfl rfl rfl Tryz.underlying23 Tryz.sizeOf35 Tryz.zeroValue35 rfl rfl rfl rfl (LCat.agg rfl LCat.none) ?_)
   intro b35 hb35
   refine J.op rfl (op_append (by' := 71) [_, _, _, _, _] rfl rfl rfl rfl rfl Tryz.underlying23 (.inr ⟨_, Tryz.underlying23⟩) (by kernel_rfl) Tryz.sizeOf35 Tryz.zeroValue35 rfl hg rfl (Src.slice (Blk.at 0 rfl) rfl rfl (by show [str f.tag, str f.ind, str f.data, gV f.subs.length g2s].all Value.oneCell' = true; simp only [List.all_cons, List.all_nil, gV_one', Bool.and_true]; rfl)) (by omega) ?_)
   intro g36 hg36
   refine J.z (yl_fieldAddr (off' := 2) rfl rfl Tryz.underlying26 rfl Tryz.sizeOf23 rfl) ?_
   refine J.op rfl (op_store 2 rfl rfl rfl rfl (gV_cells _ _) (gV_one _ _) Tryz.sizeOf23 rfl rfl (LSpl.s (LSpl.s (LSpl.c LSpl.z))) (LSet.s (LSet.s LSet.z)) ?_)
   refine J.nil (Ej.blkNormal (Ej.seq (Cj.region (J.z (yl_move rfl rfl) ?_))))
   refine J.z (yl_add rfl rfl rfl (w64 (by omega))) ?_
   refine J.z (yl_assign rfl rfl) ?_
   refine J.nil (Ej.keep (Keeps.d (Keeps.d (Keeps.k (Keeps.k (Keeps.k Keeps.r))))) ?_)
   refine Ej.round (i + 1, _, zs ++ [⟨f.tag, f.ind, f.data, gV f.subs.length g2s, sK mk f.subs k⟩], g36) ⟨by dsimp only; omega, hrx, hry, SubsS.add hS hss, by dsimp only; rw [nrm_add, nrm_at hget, hN, fold_done hdone], by dsimp only; rw [List.length_append, hzl]; rfl, by dsimp only; rw [flat_one, List.length_append]; exact hg36⟩ (by dsimp only; omega) ⟨rfl, rfl, rfl, rfl, rfl, rfl, trivial⟩ rfl (by dsimp only; rw [flat_one, List.length_append]; rfl)
 ·
  have hc17p := of_decide_eq_false hc17
  refine Cj.exit (Ej.seqExit (Ej.loopExit (Ej.blkExit (Ej.seq (Cj.seq (Cj.perm (H' := gH _ _ _ ++ [_, _, _]) List.perm_append_comm ?_))))))
  refine Cj.keepR fldC_len (by decide) hg rfl (fun I9 hle9 hz1 => ?_)
  have hrx := hrx.mono hle9
  have hry := hry.mono hle9
  have hS := hS.mono hle9
  have hrz : RecS I9 zs (gV zs.length g) := ⟨hz1, hS⟩
  obtain ⟨zp, zc, hze, -, -⟩ := id hz1
  rw [hze]
  rw [hze] at hrz
  have hNz : Ke.nrm zs = (Ke.made6 a).map (Ke.op mk) := by rw [hN, List.take_of_length_le (by rw [nrm_len]; omega), hNx]
  have hoz := folded_ok hmem hNz
  have hfz := fold_feat hmem hNz hNx (Ke.mkind a)
  refine Cj.drawSel [0, 1, 2] [] 20 (by kernel_rfl) ?_
  refine JA.fix ⟨(HSub.c 0 rfl (HSub.c 1 rfl (HSub.c 2 rfl HSub.n))), CSub.n, (Le.refl _)⟩ (fun fx37 => ?_)
  refine JA.tk 0 rfl fx37 (yl_move rfl rfl) ?_
  refine JA.tk 1 rfl fx37 (yl_move rfl rfl) ?_
  refine JA.tkG 2 1 88 true _ rfl fx37 rfl rfl rfl (yl_loadAgg rfl rfl Tryz.isAgg26 Tryz.sizeOf26 (Blk.atC 0 rfl) rfl rfl) ?_
  refine JA.tkG 3 1 88 true _ rfl fx37 rfl rfl rfl (yl_loadAgg rfl rfl Tryz.isAgg26 Tryz.sizeOf26 (Blk.atC 1 rfl) rfl rfl) ?_
  refine JA.tkG 5 1 88 true _ rfl fx37 rfl rfl rfl (yl_loadAgg rfl rfl Tryz.isAgg26 Tryz.sizeOf26 (Blk.atC 2 rfl) rfl rfl) ?_
  refine JA.tkG 6 1 88 true _ rfl fx37 rfl rfl rfl (yl_loadAgg rfl rfl Tryz.isAgg26 Tryz.sizeOf26 (Blk.atC 1 rfl) rfl rfl) ?_
  refine JA.stepG 4 1 88 true _ (by kernel_rfl) rfl rfl rfl rfl rfl (op_pure rfl rfl rfl rfl rfl (Points_ok zs fy _ _ (Ke.mkind a) 0 (Ke.mkind b) 109 hoz.1 hoy.1 hoz.2 hoy.2 _ hrz hry) ?_)
  refine ⟨⟨(Le.refl _), (HSub.c 0 rfl (HSub.c 1 rfl (HSub.c 2 rfl HSub.n))), CSub.n⟩, ?_⟩
  refine JA.eqv 91 rfl (show _ = i64 (Ke.pts (Ke.feat (Ke.mkind a) fx) (Ke.feat (Ke.mkind b) fy)) from (congrArg i64 (by rw [hfz]))) ?_
  refine JA.stepG 7 1 88 true _ (by kernel_rfl) rfl rfl rfl rfl rfl (op_pure rfl rfl rfl rfl rfl (Points_ok fx fy _ _ (Ke.mkind a) 109 (Ke.mkind b) 109 hox.1 hoy.1 hox.2 hoy.2 _ hrx hry) ?_)
  refine ⟨⟨(Le.refl _), (HSub.c 0 rfl (HSub.c 1 rfl (HSub.c 2 rfl HSub.n))), CSub.n⟩, ?_⟩
  refine JA.fix ⟨(HSub.c 0 rfl (HSub.c 1 rfl (HSub.c 2 rfl HSub.n))), CSub.n, (Le.refl _)⟩ (fun fx38 => ?_)
  refine JA.tkG 8 1 88 true _ rfl fx38 rfl rfl rfl (yl_eql rfl rfl rfl) ?_
  refine JA.eqv 95 rfl (show _ = .bool true from (congrArg Value.bool (beq_self_eq_true _))) ?_
  refine JA.tk 9 rfl fx38 (yl_pick1 rfl rfl rfl rfl) ?_
  refine JA.tk 10 rfl fx38 (yl_move rfl rfl) ?_
  refine JA.tkG 11 10 97 true _ rfl fx38 rfl rfl rfl (yl_loadAgg rfl rfl Tryz.isAgg26 Tryz.sizeOf26 (Blk.atC 0 rfl) rfl rfl) ?_
  refine JA.tkG 12 10 97 true _ rfl fx38 rfl rfl rfl (yl_loadAgg rfl rfl Tryz.isAgg26 Tryz.sizeOf26 (Blk.atC 0 rfl) rfl rfl) ?_
  refine JA.tkG 14 10 97 true _ rfl fx38 rfl rfl rfl (yl_loadAgg rfl rfl Tryz.isAgg26 Tryz.sizeOf26 (Blk.atC 2 rfl) rfl rfl) ?_
  refine JA.tkG 15 10 97 true _ rfl fx38 rfl rfl rfl (yl_loadAgg rfl rfl Tryz.isAgg26 Tryz.sizeOf26 (Blk.atC 2 rfl) rfl rfl) ?_
  refine JA.stepG 13 10 97 true _ (by kernel_rfl) rfl rfl rfl rfl rfl (op_pure rfl rfl rfl rfl rfl (Points_ok zs zs _ _ (Ke.mkind a) 0 (Ke.mkind a) 0 hoz.1 hoz.1 hoz.2 hoz.2 _ hrz hrz) ?_)
  refine ⟨⟨(Le.refl _), (HSub.c 0 rfl (HSub.c 1 rfl (HSub.c 2 rfl HSub.n))), CSub.n⟩, ?_⟩
  refine JA.eqv 100 rfl (show _ = i64 (Ke.pts (Ke.feat (Ke.mkind a) fx) (Ke.feat (Ke.mkind a) fx)) from (congrArg i64 (by rw [hfz]))) ?_
  refine JA.stepG 16 10 97 true _ (by kernel_rfl) rfl rfl rfl rfl rfl (op_pure rfl rfl rfl rfl rfl (Points_ok fx fx _ _ (Ke.mkind a) 109 (Ke.mkind a) 109 hox.1 hox.1 hox.2 hox.2 _ hrx hrx) ?_)
  refine ⟨⟨(Le.refl _), (HSub.c 0 rfl (HSub.c 1 rfl (HSub.c 2 rfl HSub.n))), CSub.n⟩, ?_⟩
  refine JA.fix ⟨(HSub.c 0 rfl (HSub.c 1 rfl (HSub.c 2 rfl HSub.n))), CSub.n, (Le.refl _)⟩ (fun fx39 => ?_)
  refine JA.tkG 17 10 97 true _ rfl fx39 rfl rfl rfl (yl_eql rfl rfl rfl) ?_
  refine JA.eqv 104 rfl (show _ = .bool true from (congrArg Value.bool (beq_self_eq_true _))) ?_
  refine JA.tk 18 rfl fx39 (yl_pick1 rfl rfl rfl rfl) ?_
  refine JA.tk 19 rfl fx39 (yl_assign rfl rfl) ?_
  refine JA.done (by kernel_rfl) ?_
  refine Ej.seq (Cj.ret (Ej.bare ?_))
  refine Ej.ret1 rfl rfl rfl ?_
  exact ⟨rfl, rfl⟩
end Go.Proofs.YtadnofaleepkmaaGreatDoor
