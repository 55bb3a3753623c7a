/-
  The law MatchPoints. Own text, printed by a program. Conditions: none.
-/
import Derived.Test.YtadnofaleepkmaaGreatDoorPB14
import Derived.Test.YtadnofaleepkmaaGreatDoorPB16
import Derived.Test.YtadnofaleepkmaaGreatDoorPB15
namespace Go.Proofs.YtadnofaleepkmaaGreatDoor
open Go Go.Sx
theorem rec_one {I : Heap} {fs : List Ke.Fld} {v : Value} (h : RecS I fs v) : ∀ f ∈ fs, (fldC f).all Value.oneCell' = true := fun f hf => let ⟨_, _, h1, _⟩ := h.2 f hf; fldC_one h1
theorem rec_take {I : Heap} {fs : List Ke.Fld} {p : Option Addr} {c : Nat} (h : RecS I fs (.slice p fs.length c)) {m : Nat} (hm : m ≤ fs.length) : RecS I (fs.take m) (.slice p m c) := ⟨RowS.take h.1 hm, fun f hf => h.2 f (List.mem_of_mem_take hf)⟩
theorem ok_app {fs gs : List Ke.Fld} (h : FOK fs ∧ ∀ f ∈ fs, f.data.length ≤ 2000000) (k : FOK gs ∧ ∀ f ∈ gs, f.data.length ≤ 2000000) (hl : fs.length + gs.length ≤ 2000000) : FOK (fs ++ gs) ∧ ∀ f ∈ fs ++ gs, f.data.length ≤ 2000000 := by
  refine ⟨⟨by rw [List.length_append]; exact hl, fun f hf => ?_⟩, fun f hf => ?_⟩
  · rcases List.mem_append.1 hf with hf | hf
    · exact h.1.2 f hf
    · exact k.1.2 f hf
  · rcases List.mem_append.1 hf with hf | hf
    · exact h.2 f hf
    · exact k.2 f hf
theorem ok_take {fs : List Ke.Fld} (h : FOK fs ∧ ∀ f ∈ fs, f.data.length ≤ 2000000) (m : Nat) : FOK (fs.take m) ∧ ∀ f ∈ fs.take m, f.data.length ≤ 2000000 :=
  ⟨⟨by rw [List.length_take]; have := h.1.1; omega, fun f hf => h.1.2 f (List.mem_of_mem_take hf)⟩, fun f hf => h.2 f (List.mem_of_mem_take hf)⟩
set_option maxRecDepth 20000 in
set_option maxHeartbeats 1000000 in
theorem MatchPoints_ok (a b : Ke.Six) (ha : SixOk a) (hb : SixOk b) (ms : List Ke.Fld) (hom : FOK ms ∧ ∀ f ∈ ms, f.data.length ≤ 2000000) (v : Value) (I : Heap) (hr : RecS I ms v) : Pure Tryz.prog 3 [sixV a, sixV b, v] I (.bool true) := by
 refine Ctr.toPure ?_
 obtain ⟨p, c, rfl, hc, -⟩ := id hr.1
 refine Ctr.of_body Tryz.func3 rfl (by decide) (Nat.le_of_ble_eq_true rfl) ?_
 intro w0 hw0
 refine Cj.seq (Cj.region (J.op rfl (op_box rfl rfl rfl rfl rfl ?_)))
 intro b1 hb1
 refine J.op rfl (op_box rfl rfl rfl rfl rfl ?_)
 intro b2 hb2
 refine J.z (yl_assign rfl rfl) ?_
 refine J.nil (Ej.seq (Cj.seq (Cj.region (J.op rfl (op_pure rfl rfl rfl rfl rfl (sanity_ok _) ?_)))))
 refine J.z (yl_assign rfl rfl) ?_
 refine J.nil (Ej.seq (Cj.seq (Cj.region (J.z (yl_loadAgg rfl rfl Tryz.isAgg22 Tryz.sizeOf22 (Blk.at 1 rfl) rfl rfl) ?_))))
 refine J.op rfl (op_call (H1 := []) rfl rfl rfl rfl rfl (Made6_ok a ha _) ?_ (fun _ _ _ _ h => by obtain ⟨_, _, h, _⟩ := h; cases h) (fun _ _ h => by obtain ⟨_, _, h, _⟩ := h; cases h))
 intro v3 I4 H5 hle6 hp7
 have hr := hr.mono hle6
 obtain ⟨fx, wx, h, hrx, hNx, rfl⟩ := hp7; cases h
 obtain ⟨rpx, rcx, rfl, -, -⟩ := id hrx.1
 have hox := made_ok hNx
 refine J.op rfl (op_alloc rfl rfl rfl Tryz.zeroValue26 rfl ?_)
 intro b8 hb8
 refine J.op rfl (op_store 0 rfl rfl rfl rfl rfl rfl Tryz.sizeOf26 rfl rfl (LSpl.c (LSpl.c (LSpl.c LSpl.z))) LSet.z ?_)
 refine J.nil (Ej.seq (Cj.seq (Cj.region (J.z (yl_loadAgg rfl rfl Tryz.isAgg22 Tryz.sizeOf22 (Blk.at 1 rfl) rfl rfl) ?_))))
 refine J.op rfl (op_call (H1 := []) rfl rfl rfl rfl rfl (Made6_ok b hb _) ?_ (fun _ _ _ _ h => by obtain ⟨_, _, h, _⟩ := h; cases h) (fun _ _ h => by obtain ⟨_, _, h, _⟩ := h; cases h))
 intro v9 I10 H11 hle12 hp13
 have hr := hr.mono hle12
 have hrx := hrx.mono hle12
 obtain ⟨fy, wy, h, hry, hNy, rfl⟩ := hp13; cases h
 obtain ⟨rpy, rcy, rfl, -, -⟩ := id hry.1
 have hoy := made_ok hNy
 refine J.op rfl (op_alloc rfl rfl rfl Tryz.zeroValue26 rfl ?_)
 intro b14 hb14
 refine J.op rfl (op_store 0 rfl rfl rfl rfl rfl rfl Tryz.sizeOf26 rfl rfl (LSpl.c (LSpl.c (LSpl.c LSpl.z))) LSet.z ?_)
 refine J.nil (Ej.seq (Cj.seq (Cj.region (J.z (yl_loadAgg rfl rfl Tryz.isAgg26 Tryz.sizeOf26 (Blk.at 1 rfl) rfl rfl) ?_))))
 refine J.op rfl (op_alloc rfl rfl rfl Tryz.zeroValue26 rfl ?_)
 intro b15 hb15
 refine J.op rfl (op_store 0 rfl rfl rfl rfl rfl rfl Tryz.sizeOf26 rfl rfl (LSpl.c (LSpl.c (LSpl.c LSpl.z))) LSet.z ?_)
 refine J.nil (Ej.seq (Cj.seq ?_))
 have hmo : (ms.take (min ms.length 5)).length ≤ 5 := by rw [List.length_take]; omega
 have hfl : fx.length ≤ 6 := by rw [← nrm_len, hNx]; exact made_len a
 have htk := rec_take hr (Nat.min_le_left ms.length 5)
 refine Cj.drawSel [0, 1, 2, 3, 4] [] 11 (by kernel_rfl) ?_
 refine JA.fix ⟨(HSub.c 0 rfl (HSub.c 1 rfl (HSub.c 2 rfl (HSub.c 3 rfl (HSub.c 4 rfl HSub.n))))), CSub.n, (Le.refl _)⟩ (fun fx16 => ?_)
 refine JA.tk 1 rfl fx16 (yl_move rfl rfl) ?_
 refine JA.tk 2 rfl fx16 (yl_move rfl rfl) ?_
 refine JA.tk 3 rfl fx16 (yl_lenSlice rfl rfl Tryz.underlying23) ?_
 refine JA.tk 4 rfl fx16 (yl_min2 rfl rfl rfl) ?_
 refine JA.eqv 23 rfl (show _ = i64 ((min ms.length 5 : Nat) : Int) from (congrArg i64 (nmin ms.length 5))) ?_
 refine JA.tk 5 rfl fx16 (yl_sliceTo rfl rfl rfl Tryz.underlying23 Tryz.sizeOf35 (by omega)) ?_
 refine JA.tk 7 rfl fx16 (yl_fieldAddr (off' := 2) rfl rfl Tryz.underlying26 rfl Tryz.sizeOf23 rfl) ?_
 refine JA.tk 8 rfl fx16 (yl_load rfl rfl Tryz.isAgg23 (Blk.atC 2 rfl) rfl) ?_
 refine JA.step 0 (by kernel_rfl) rfl rfl (op_buildSlice0 rfl rfl rfl Tryz.underlying23 Tryz.sizeOf35 ?_)
 intro b17 hb17
 refine ⟨⟨(Le.refl _), (HSub.c 1 rfl (HSub.c 2 rfl (HSub.c 3 rfl (HSub.c 4 rfl (HSub.c 5 rfl HSub.n))))), CSub.n⟩, ?_⟩
 refine JA.pull (Pull.s (Pull.s (Pull.s (Pull.s (Pull.s Pull.z))))) ?_
 refine JA.pull (Pull.s (Pull.s (Pull.s (Pull.s (Pull.s Pull.z))))) ?_
 refine JA.pull (Pull.s (Pull.s (Pull.s (Pull.s (Pull.s Pull.z))))) ?_
 refine JA.pull (Pull.s (Pull.s (Pull.s (Pull.s (Pull.s Pull.z))))) ?_
 refine JA.pull (Pull.s (Pull.s (Pull.s (Pull.s (Pull.s Pull.z))))) ?_
 refine JA.step 6 (by kernel_rfl) rfl rfl (op_append (by' := 71) (n := 0) (g := some (b17, 0, [])) (xs := []) [_, _, _, _, _] rfl rfl rfl rfl rfl Tryz.underlying23 (.inr ⟨_, Tryz.underlying23⟩) (by kernel_rfl) Tryz.sizeOf35 Tryz.zeroValue35 rfl ⟨hb17, rfl, rfl⟩ rfl (Src.row fldC_len htk.1 (rec_one htk)) (by omega) ?_)
 intro g18 hg18
 refine ⟨⟨(Le.refl _), (HSub.c 0 rfl (HSub.c 1 rfl (HSub.c 2 rfl (HSub.c 3 rfl (HSub.c 4 rfl HSub.n))))), CSub.n⟩, ?_⟩
 refine JA.step 9 (by kernel_rfl) rfl rfl (op_append (by' := 71) [_, _, _, _, _] rfl rfl rfl rfl rfl Tryz.underlying23 (.inr ⟨_, Tryz.underlying23⟩) (by kernel_rfl) Tryz.sizeOf35 Tryz.zeroValue35 rfl hg18 rfl (Src.row fldC_len hrx.1 (rec_one hrx)) (by omega) ?_)
 intro g19 hg19
 refine ⟨⟨(Le.refl _), (HSub.c 0 rfl (HSub.c 1 rfl (HSub.c 2 rfl (HSub.c 3 rfl (HSub.c 4 rfl HSub.n))))), CSub.n⟩, ?_⟩
 refine JA.fix ⟨(HSub.c 0 rfl (HSub.c 1 rfl (HSub.c 2 rfl (HSub.c 3 rfl (HSub.c 4 rfl HSub.n))))), CSub.n, (Le.refl _)⟩ (fun fx20 => ?_)
 refine JA.tk 10 rfl fx20 (yl_fieldAddr (off' := 2) rfl rfl Tryz.underlying26 rfl Tryz.sizeOf23 rfl) ?_
 refine JA.last 11 (by kernel_rfl) rfl rfl rfl (op_store 0 rfl rfl rfl rfl (gV_cells _ _) (gV_one _ _) Tryz.sizeOf23 rfl rfl (LSpl.s (LSpl.s (LSpl.c LSpl.z))) LSet.z ?_)
 refine JA.done (by kernel_rfl) ?_
 refine Ej.seq (Cj.seq ?_)
 obtain ⟨zs, hzs⟩ : ∃ zs, zs = ms.take (min ms.length 5) ++ fx := ⟨_, rfl⟩
 have hgz : gOk w0.heap.size 4 zs.length (zs.flatMap fldC) g19 := by rw [hzs, List.length_append, List.flatMap_append]; exact gOk_same hg19 (by omega) rfl
 refine Cj.perm (H' := gH _ _ _ ++ [_, _, _, _, _]) List.perm_append_comm ?_
 rw [show gH _ ([] ++ (ms.take (min ms.length 5)).flatMap fldC ++ fx.flatMap fldC) g19 = gH _ (zs.flatMap fldC) g19 by rw [hzs, List.flatMap_append]; rfl]
 refine Cj.keepR fldC_len (by decide) hgz rfl (fun I9 hle9 hz1 => ?_)
 have hr := hr.mono hle9
 have hrx := hrx.mono hle9
 have hry := hry.mono hle9
 have htk := htk.mono hle9
 have hrz : RecS I9 zs (gV zs.length g19) := ⟨hz1, fun f hf => by
  rw [hzs] at hf
  rcases List.mem_append.1 hf with hf | hf
  · exact htk.2 f hf
  · exact hrx.2 f hf⟩
 have hoz : FOK zs ∧ ∀ f ∈ zs, f.data.length ≤ 2000000 := by rw [hzs]; exact ok_app (ok_take hom _) hox (by omega)
 obtain ⟨zp, zc, hze, -, -⟩ := id hz1
 have hgv : gV ((0 + (ms.take (min ms.length 5)).length) + fx.length) g19 = gV zs.length g19 := by rw [hzs, List.length_append, Nat.zero_add]
 rw [hgv, hze]
 rw [hze] at hrz
 refine Cj.drawSel [0, 1, 2, 3, 4] [] 26 (by kernel_rfl) ?_
 refine JA.fix ⟨(HSub.c 0 rfl (HSub.c 1 rfl (HSub.c 2 rfl (HSub.c 3 rfl (HSub.c 4 rfl HSub.n))))), CSub.n, (Le.refl _)⟩ (fun fx21 => ?_)
 refine JA.tk 0 rfl fx21 (yl_loadAgg rfl rfl Tryz.isAgg26 Tryz.sizeOf26 (Blk.atC 2 rfl) rfl rfl) ?_
 refine JA.tk 1 rfl fx21 (yl_loadAgg rfl rfl Tryz.isAgg26 Tryz.sizeOf26 (Blk.atC 1 rfl) rfl rfl) ?_
 refine JA.tk 3 rfl fx21 (yl_loadAgg rfl rfl Tryz.isAgg26 Tryz.sizeOf26 (Blk.atC 2 rfl) rfl rfl) ?_
 refine JA.tk 4 rfl fx21 (yl_loadAgg rfl rfl Tryz.isAgg26 Tryz.sizeOf26 (Blk.atC 1 rfl) rfl rfl) ?_
 refine JA.step 2 (by kernel_rfl) rfl rfl (op_pure rfl rfl rfl rfl rfl (Points_ok fx fy _ _ (Ke.mkind a) 109 (Ke.mkind b) 109 hox.1 hoy.1 hox.2 hoy.2 _ hrx hry) ?_)
 refine ⟨⟨(Le.refl _), (HSub.c 0 rfl (HSub.c 1 rfl (HSub.c 2 rfl (HSub.c 3 rfl (HSub.c 4 rfl HSub.n))))), CSub.n⟩, ?_⟩
 refine JA.step 5 (by kernel_rfl) rfl rfl (op_pure rfl rfl rfl rfl rfl (rPoints_ok fx fy _ _ (Ke.mkind a) 109 (Ke.mkind b) 109 hox.1 hoy.1 hox.2 hoy.2 _ hrx hry) ?_)
 refine ⟨⟨(Le.refl _), (HSub.c 0 rfl (HSub.c 1 rfl (HSub.c 2 rfl (HSub.c 3 rfl (HSub.c 4 rfl HSub.n))))), CSub.n⟩, ?_⟩
 refine JA.fix ⟨(HSub.c 0 rfl (HSub.c 1 rfl (HSub.c 2 rfl (HSub.c 3 rfl (HSub.c 4 rfl HSub.n))))), CSub.n, (Le.refl _)⟩ (fun fx22 => ?_)
 refine JA.tk 6 rfl fx22 (yl_eql rfl rfl rfl) ?_
 refine JA.eqv 36 rfl (show _ = .bool true from (congrArg Value.bool (beq_self_eq_true _))) ?_
 refine JA.tk 7 rfl fx22 (yl_move rfl rfl) ?_
 refine JA.tkG 8 7 37 true _ rfl fx22 rfl rfl rfl (yl_loadAgg rfl rfl Tryz.isAgg26 Tryz.sizeOf26 (Blk.atC 1 rfl) rfl rfl) ?_
 refine JA.tkG 9 7 37 true _ rfl fx22 rfl rfl rfl (yl_loadAgg rfl rfl Tryz.isAgg26 Tryz.sizeOf26 (Blk.atC 2 rfl) rfl rfl) ?_
 refine JA.tkG 11 7 37 true _ rfl fx22 rfl rfl rfl (yl_loadAgg rfl rfl Tryz.isAgg26 Tryz.sizeOf26 (Blk.atC 2 rfl) rfl rfl) ?_
 refine JA.tkG 12 7 37 true _ rfl fx22 rfl rfl rfl (yl_loadAgg rfl rfl Tryz.isAgg26 Tryz.sizeOf26 (Blk.atC 1 rfl) rfl rfl) ?_
 refine JA.stepG 10 7 37 true _ (by kernel_rfl) rfl rfl rfl rfl rfl (op_pure rfl rfl rfl rfl rfl (Points_ok fy fx _ _ (Ke.mkind b) 109 (Ke.mkind a) 109 hoy.1 hox.1 hoy.2 hox.2 _ hry hrx) ?_)
 refine ⟨⟨(Le.refl _), (HSub.c 0 rfl (HSub.c 1 rfl (HSub.c 2 rfl (HSub.c 3 rfl (HSub.c 4 rfl HSub.n))))), CSub.n⟩, ?_⟩
 refine JA.eqv 40 rfl (show _ = i64 (Ke.pts (Ke.feat (Ke.mkind a) fx) (Ke.feat (Ke.mkind b) fy)) from (congrArg i64 (Ke.pts_comm _ _))) ?_
 refine JA.stepG 13 7 37 true _ (by kernel_rfl) rfl rfl rfl rfl rfl (op_pure rfl rfl rfl rfl rfl (Points_ok fx fy _ _ (Ke.mkind a) 109 (Ke.mkind b) 109 hox.1 hoy.1 hox.2 hoy.2 _ hrx hry) ?_)
 refine ⟨⟨(Le.refl _), (HSub.c 0 rfl (HSub.c 1 rfl (HSub.c 2 rfl (HSub.c 3 rfl (HSub.c 4 rfl HSub.n))))), CSub.n⟩, ?_⟩
 refine JA.fix ⟨(HSub.c 0 rfl (HSub.c 1 rfl (HSub.c 2 rfl (HSub.c 3 rfl (HSub.c 4 rfl HSub.n))))), CSub.n, (Le.refl _)⟩ (fun fx23 => ?_)
 refine JA.tkG 14 7 37 true _ rfl fx23 rfl rfl rfl (yl_eql rfl rfl rfl) ?_
 refine JA.eqv 44 rfl (show _ = .bool true from (congrArg Value.bool (beq_self_eq_true _))) ?_
 refine JA.tk 15 rfl fx23 (yl_pick1 rfl rfl rfl rfl) ?_
 refine JA.tk 16 rfl fx23 (yl_move rfl rfl) ?_
 refine JA.tkG 17 16 46 true _ rfl fx23 rfl rfl rfl (yl_loadAgg rfl rfl Tryz.isAgg26 Tryz.sizeOf26 (Blk.atC 2 rfl) rfl rfl) ?_
 refine JA.tkG 18 16 46 true _ rfl fx23 rfl rfl rfl (yl_loadAgg rfl rfl Tryz.isAgg26 Tryz.sizeOf26 (Blk.atC 1 rfl) rfl rfl) ?_
 refine JA.tkG 20 16 46 true _ rfl fx23 rfl rfl rfl (yl_loadAgg rfl rfl Tryz.isAgg26 Tryz.sizeOf26 (Blk.atC 2 rfl) rfl rfl) ?_
 refine JA.tkG 21 16 46 true _ rfl fx23 rfl rfl rfl (yl_loadAgg rfl rfl Tryz.isAgg26 Tryz.sizeOf26 (Blk.atC 1 rfl) rfl rfl) ?_
 refine JA.stepG 19 16 46 true _ (by kernel_rfl) rfl rfl rfl rfl rfl (op_pure rfl rfl rfl rfl rfl (Same_ok fx fy _ _ (Ke.mkind a) 109 (Ke.mkind b) 109 hox.1 hoy.1 hox.2 hoy.2 _ hrx hry) ?_)
 refine ⟨⟨(Le.refl _), (HSub.c 0 rfl (HSub.c 1 rfl (HSub.c 2 rfl (HSub.c 3 rfl (HSub.c 4 rfl HSub.n))))), CSub.n⟩, ?_⟩
 refine JA.stepG 22 16 46 true _ (by kernel_rfl) rfl rfl rfl rfl rfl (op_pure rfl rfl rfl rfl rfl (rSame_ok fx fy _ _ (Ke.mkind a) 109 (Ke.mkind b) 109 hox.1 hoy.1 hox.2 hoy.2 _ hrx hry) ?_)
 refine ⟨⟨(Le.refl _), (HSub.c 0 rfl (HSub.c 1 rfl (HSub.c 2 rfl (HSub.c 3 rfl (HSub.c 4 rfl HSub.n))))), CSub.n⟩, ?_⟩
 refine JA.fix ⟨(HSub.c 0 rfl (HSub.c 1 rfl (HSub.c 2 rfl (HSub.c 3 rfl (HSub.c 4 rfl HSub.n))))), CSub.n, (Le.refl _)⟩ (fun fx24 => ?_)
 refine JA.tkG 23 16 46 true _ rfl fx24 rfl rfl rfl (yl_eqlBool rfl rfl rfl Tryz.underlying4) ?_
 refine JA.eqv 53 rfl (show _ = .bool true from (congrArg Value.bool (beq_self_eq_true _))) ?_
 refine JA.tk 24 rfl fx24 (yl_pick1 rfl rfl rfl rfl) ?_
 refine JA.tk 25 rfl fx24 (yl_assign rfl rfl) ?_
 refine JA.done (by kernel_rfl) ?_
 refine Ej.seq (Cj.seq (Cj.drawSel [0, 1, 2, 3, 4] [] 26 (by kernel_rfl) ?_))
 refine JA.fix ⟨(HSub.c 0 rfl (HSub.c 1 rfl (HSub.c 2 rfl (HSub.c 3 rfl (HSub.c 4 rfl HSub.n))))), CSub.n, (Le.refl _)⟩ (fun fx25 => ?_)
 refine JA.tk 0 rfl fx25 (yl_loadAgg rfl rfl Tryz.isAgg26 Tryz.sizeOf26 (Blk.atC 0 rfl) rfl rfl) ?_
 refine JA.tk 1 rfl fx25 (yl_loadAgg rfl rfl Tryz.isAgg26 Tryz.sizeOf26 (Blk.atC 1 rfl) rfl rfl) ?_
 refine JA.tk 3 rfl fx25 (yl_loadAgg rfl rfl Tryz.isAgg26 Tryz.sizeOf26 (Blk.atC 0 rfl) rfl rfl) ?_
 refine JA.tk 4 rfl fx25 (yl_loadAgg rfl rfl Tryz.isAgg26 Tryz.sizeOf26 (Blk.atC 1 rfl) rfl rfl) ?_
 refine JA.step 2 (by kernel_rfl) rfl rfl (op_pure rfl rfl rfl rfl rfl (Points_ok zs fy _ _ (Ke.mkind a) 109 (Ke.mkind b) 109 hoz.1 hoy.1 hoz.2 hoy.2 _ hrz hry) ?_)
 refine ⟨⟨(Le.refl _), (HSub.c 0 rfl (HSub.c 1 rfl (HSub.c 2 rfl (HSub.c 3 rfl (HSub.c 4 rfl HSub.n))))), CSub.n⟩, ?_⟩
 refine JA.step 5 (by kernel_rfl) rfl rfl (op_pure rfl rfl rfl rfl rfl (rPoints_ok zs fy _ _ (Ke.mkind a) 109 (Ke.mkind b) 109 hoz.1 hoy.1 hoz.2 hoy.2 _ hrz hry) ?_)
 refine ⟨⟨(Le.refl _), (HSub.c 0 rfl (HSub.c 1 rfl (HSub.c 2 rfl (HSub.c 3 rfl (HSub.c 4 rfl HSub.n))))), CSub.n⟩, ?_⟩
 refine JA.fix ⟨(HSub.c 0 rfl (HSub.c 1 rfl (HSub.c 2 rfl (HSub.c 3 rfl (HSub.c 4 rfl HSub.n))))), CSub.n, (Le.refl _)⟩ (fun fx26 => ?_)
 refine JA.tk 6 rfl fx26 (yl_eql rfl rfl rfl) ?_
 refine JA.eqv 61 rfl (show _ = .bool true from (congrArg Value.bool (beq_self_eq_true _))) ?_
 refine JA.tk 7 rfl fx26 (yl_move rfl rfl) ?_
 refine JA.tkG 8 7 62 true _ rfl fx26 rfl rfl rfl (yl_loadAgg rfl rfl Tryz.isAgg26 Tryz.sizeOf26 (Blk.atC 1 rfl) rfl rfl) ?_
 refine JA.tkG 9 7 62 true _ rfl fx26 rfl rfl rfl (yl_loadAgg rfl rfl Tryz.isAgg26 Tryz.sizeOf26 (Blk.atC 0 rfl) rfl rfl) ?_
 refine JA.tkG 11 7 62 true _ rfl fx26 rfl rfl rfl (yl_loadAgg rfl rfl Tryz.isAgg26 Tryz.sizeOf26 (Blk.atC 0 rfl) rfl rfl) ?_
 refine JA.tkG 12 7 62 true _ rfl fx26 rfl rfl rfl (yl_loadAgg rfl rfl Tryz.isAgg26 Tryz.sizeOf26 (Blk.atC 1 rfl) rfl rfl) ?_
 refine JA.stepG 10 7 62 true _ (by kernel_rfl) rfl rfl rfl rfl rfl (op_pure rfl rfl rfl rfl rfl (Points_ok fy zs _ _ (Ke.mkind b) 109 (Ke.mkind a) 109 hoy.1 hoz.1 hoy.2 hoz.2 _ hry hrz) ?_)
 refine ⟨⟨(Le.refl _), (HSub.c 0 rfl (HSub.c 1 rfl (HSub.c 2 rfl (HSub.c 3 rfl (HSub.c 4 rfl HSub.n))))), CSub.n⟩, ?_⟩
 refine JA.eqv 65 rfl (show _ = i64 (Ke.pts (Ke.feat (Ke.mkind a) zs) (Ke.feat (Ke.mkind b) fy)) from (congrArg i64 (Ke.pts_comm _ _))) ?_
 refine JA.stepG 13 7 62 true _ (by kernel_rfl) rfl rfl rfl rfl rfl (op_pure rfl rfl rfl rfl rfl (Points_ok zs fy _ _ (Ke.mkind a) 109 (Ke.mkind b) 109 hoz.1 hoy.1 hoz.2 hoy.2 _ hrz hry) ?_)
 refine ⟨⟨(Le.refl _), (HSub.c 0 rfl (HSub.c 1 rfl (HSub.c 2 rfl (HSub.c 3 rfl (HSub.c 4 rfl HSub.n))))), CSub.n⟩, ?_⟩
 refine JA.fix ⟨(HSub.c 0 rfl (HSub.c 1 rfl (HSub.c 2 rfl (HSub.c 3 rfl (HSub.c 4 rfl HSub.n))))), CSub.n, (Le.refl _)⟩ (fun fx27 => ?_)
 refine JA.tkG 14 7 62 true _ rfl fx27 rfl rfl rfl (yl_eql rfl rfl rfl) ?_
 refine JA.eqv 69 rfl (show _ = .bool true from (congrArg Value.bool (beq_self_eq_true _))) ?_
 refine JA.tk 15 rfl fx27 (yl_pick1 rfl rfl rfl rfl) ?_
 refine JA.tk 16 rfl fx27 (yl_move rfl rfl) ?_
 refine JA.tkG 17 16 71 true _ rfl fx27 rfl rfl rfl (yl_loadAgg rfl rfl Tryz.isAgg26 Tryz.sizeOf26 (Blk.atC 0 rfl) rfl rfl) ?_
 refine JA.tkG 18 16 71 true _ rfl fx27 rfl rfl rfl (yl_loadAgg rfl rfl Tryz.isAgg26 Tryz.sizeOf26 (Blk.atC 2 rfl) rfl rfl) ?_
 refine JA.tkG 20 16 71 true _ rfl fx27 rfl rfl rfl (yl_loadAgg rfl rfl Tryz.isAgg26 Tryz.sizeOf26 (Blk.atC 0 rfl) rfl rfl) ?_
 refine JA.tkG 21 16 71 true _ rfl fx27 rfl rfl rfl (yl_loadAgg rfl rfl Tryz.isAgg26 Tryz.sizeOf26 (Blk.atC 2 rfl) rfl rfl) ?_
 refine JA.stepG 19 16 71 true _ (by kernel_rfl) rfl rfl rfl rfl rfl (op_pure rfl rfl rfl rfl rfl (Points_ok zs fx _ _ (Ke.mkind a) 109 (Ke.mkind a) 109 hoz.1 hox.1 hoz.2 hox.2 _ hrz hrx) ?_)
 refine ⟨⟨(Le.refl _), (HSub.c 0 rfl (HSub.c 1 rfl (HSub.c 2 rfl (HSub.c 3 rfl (HSub.c 4 rfl HSub.n))))), CSub.n⟩, ?_⟩
 refine JA.stepG 22 16 71 true _ (by kernel_rfl) rfl rfl rfl rfl rfl (op_pure rfl rfl rfl rfl rfl (rPoints_ok zs fx _ _ (Ke.mkind a) 109 (Ke.mkind a) 109 hoz.1 hox.1 hoz.2 hox.2 _ hrz hrx) ?_)
 refine ⟨⟨(Le.refl _), (HSub.c 0 rfl (HSub.c 1 rfl (HSub.c 2 rfl (HSub.c 3 rfl (HSub.c 4 rfl HSub.n))))), CSub.n⟩, ?_⟩
 refine JA.fix ⟨(HSub.c 0 rfl (HSub.c 1 rfl (HSub.c 2 rfl (HSub.c 3 rfl (HSub.c 4 rfl HSub.n))))), CSub.n, (Le.refl _)⟩ (fun fx28 => ?_)
 refine JA.tkG 23 16 71 true _ rfl fx28 rfl rfl rfl (yl_eql rfl rfl rfl) ?_
 refine JA.eqv 78 rfl (show _ = .bool true from (congrArg Value.bool (beq_self_eq_true _))) ?_
 refine JA.tk 24 rfl fx28 (yl_pick1 rfl rfl rfl rfl) ?_
 refine JA.tk 25 rfl fx28 (yl_assign rfl rfl) ?_
 refine JA.done (by kernel_rfl) ?_
 refine Ej.seq (Cj.seq (Cj.drawSel [0, 1, 2, 3, 4] [] 17 (by kernel_rfl) ?_))
 refine JA.fix ⟨(HSub.c 0 rfl (HSub.c 1 rfl (HSub.c 2 rfl (HSub.c 3 rfl (HSub.c 4 rfl HSub.n))))), CSub.n, (Le.refl _)⟩ (fun fx29 => ?_)
 refine JA.tk 0 rfl fx29 (yl_move rfl rfl) ?_
 refine JA.tk 1 rfl fx29 (yl_move rfl rfl) ?_
 refine JA.tkG 2 1 81 true _ rfl fx29 rfl rfl rfl (yl_move rfl rfl) ?_
 refine JA.tk 3 rfl fx29 (yl_pick1 rfl rfl rfl rfl) ?_
 refine JA.tk 4 rfl fx29 (yl_move rfl rfl) ?_
 refine JA.tkG 5 4 84 true _ rfl fx29 rfl rfl rfl (yl_move rfl rfl) ?_
 refine JA.tk 6 rfl fx29 (yl_pick1 rfl rfl rfl rfl) ?_
 refine JA.tk 7 rfl fx29 (yl_move rfl rfl) ?_
 refine JA.tkG 8 7 87 true _ rfl fx29 rfl rfl rfl (yl_loadAgg rfl rfl Tryz.isAgg26 Tryz.sizeOf26 (Blk.atC 2 rfl) rfl rfl) ?_
 refine JA.tkG 9 7 87 true _ rfl fx29 rfl rfl rfl (yl_loadAgg rfl rfl Tryz.isAgg26 Tryz.sizeOf26 (Blk.atC 2 rfl) rfl rfl) ?_
 refine JA.tkG 11 7 87 true _ rfl fx29 rfl rfl rfl (yl_loadAgg rfl rfl Tryz.isAgg26 Tryz.sizeOf26 (Blk.atC 2 rfl) rfl rfl) ?_
 refine JA.tkG 12 7 87 true _ rfl fx29 rfl rfl rfl (yl_loadAgg rfl rfl Tryz.isAgg26 Tryz.sizeOf26 (Blk.atC 2 rfl) rfl rfl) ?_
 refine JA.stepG 10 7 87 true _ (by kernel_rfl) rfl rfl rfl rfl rfl (op_pure rfl rfl rfl rfl rfl (Points_ok fx fx _ _ (Ke.mkind a) 109 (Ke.mkind a) 109 hox.1 hox.1 hox.2 hox.2 _ hrx hrx) ?_)
 refine ⟨⟨(Le.refl _), (HSub.c 0 rfl (HSub.c 1 rfl (HSub.c 2 rfl (HSub.c 3 rfl (HSub.c 4 rfl HSub.n))))), CSub.n⟩, ?_⟩
 refine JA.stepG 13 7 87 true _ (by kernel_rfl) rfl rfl rfl rfl rfl (op_pure rfl rfl rfl rfl rfl (rPoints_ok fx fx _ _ (Ke.mkind a) 109 (Ke.mkind a) 109 hox.1 hox.1 hox.2 hox.2 _ hrx hrx) ?_)
 refine ⟨⟨(Le.refl _), (HSub.c 0 rfl (HSub.c 1 rfl (HSub.c 2 rfl (HSub.c 3 rfl (HSub.c 4 rfl HSub.n))))), CSub.n⟩, ?_⟩
 refine JA.fix ⟨(HSub.c 0 rfl (HSub.c 1 rfl (HSub.c 2 rfl (HSub.c 3 rfl (HSub.c 4 rfl HSub.n))))), CSub.n, (Le.refl _)⟩ (fun fx30 => ?_)
 refine JA.tkG 14 7 87 true _ rfl fx30 rfl rfl rfl (yl_eql rfl rfl rfl) ?_
 refine JA.eqv 94 rfl (show _ = .bool true from (congrArg Value.bool (beq_self_eq_true _))) ?_
 refine JA.tk 15 rfl fx30 (yl_pick1 rfl rfl rfl rfl) ?_
 refine JA.tk 16 rfl fx30 (yl_assign rfl rfl) ?_
 refine JA.done (by kernel_rfl) ?_
 refine Ej.seq (Cj.ret (Ej.bare ?_))
 refine Ej.ret1 rfl rfl rfl ?_
 exact ⟨rfl, rfl⟩
end Go.Proofs.YtadnofaleepkmaaGreatDoor
