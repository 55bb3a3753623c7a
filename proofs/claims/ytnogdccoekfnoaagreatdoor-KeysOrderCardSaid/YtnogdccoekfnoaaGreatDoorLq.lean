/-
  The law KeysRecords, walked. Own text, printed by a program. Conditions: none.
-/
import Derived.Test.YtnogdccoekfnoaaGreatDoorLr
import Derived.Test.YtnogdccoekfnoaaGreatDoorSn
namespace Go.Proofs.YtnogdccoekfnoaaGreatDoor
open Go Go.Sx
theorem all_len {fs : List Ke.Fld} (h : FOK fs) : (Ke.all fs).length ≤ 4300000000000 := by
  have h1 := puts_len (Ke.raw fs) []
  have h2 := rawB_len (l := fs) fun f hf => (h.2 f hf).1
  have h3 : (Ke.raw fs).length ≤ (rawB fs).length + 1 := by
    unfold Ke.raw Ke.titles
    rw [List.length_append]
    split <;> simp [rawB]
  have h4 := h.1
  unfold Ke.all
  rw [List.length_nil] at h1
  omega
theorem FOK.take {fs : List Ke.Fld} (h : FOK fs) (m : Nat) : FOK (fs.take m) := ⟨by rw [List.length_take]; have := h.1; omega, fun f hf => h.2 f (List.mem_of_mem_take hf)⟩
theorem RecS.take {I : Heap} {fs : List Ke.Fld} {p : Option Addr} {c : Nat} (h : RecS I fs (.slice p fs.length c)) {m : Nat} (hm : m ≤ fs.length) : RecS I (fs.take m) (.slice p m c) := ⟨RowS.take h.1 hm, fun f hf => h.2 f (List.mem_of_mem_take hf)⟩
set_option maxRecDepth 20000 in
set_option maxHeartbeats 1000000 in
theorem KeysRecords_ok (ps : List Pc) (v : Value) (wfs : List Ke.Fld) (wv : Value) (rk rl : UInt8) (hok : FOK wfs) (I : Heap) (hP : PcS I ps v) (hR : RecS I wfs wv) : Pure Tryz.prog 11 [v, recV rk rl wv] I (.bool true) := by
 refine Ctr.toPure ?_
 obtain ⟨pv, cv, rfl, hcv, hpv⟩ := id hR.1
 refine Ctr.of_body Tryz.func11 rfl (by decide) (Nat.le_of_ble_eq_true rfl) ?_
 intro w0 hw0
 refine Cj.seq (Cj.region (J.op rfl (op_box rfl rfl rfl rfl rfl ?_)))
 intro b1 hb1
 refine J.z (yl_assign rfl rfl) ?_
 refine J.nil (Ej.seq (Cj.seq (Cj.region (J.op rfl (op_pure rfl rfl rfl rfl rfl (sanity_ok _) ?_)))))
 refine J.z (yl_assign rfl rfl) ?_
 refine J.nil (Ej.seq (Cj.seq (Cj.region (J.z (yl_move rfl rfl) ?_))))
 refine J.op rfl (op_call (H1 := []) rfl rfl rfl rfl rfl (record_ok ps v _ hP) ?_ (fun _ _ _ _ h => by obtain ⟨_, _, h, _⟩ := h; cases h) (fun _ _ h => by obtain ⟨_, _, h, _⟩ := h; cases h))
 intro v2 I3 H4 hle5 hp6
 have hP := hP.mono hle5
 have hR := hR.mono hle5
 obtain ⟨fs, w, h, hrs, hsm, rfl⟩ := hp6; cases h
 obtain ⟨pw, cw, rfl, hcw, hpw⟩ := id hrs.1
 refine J.op rfl (op_alloc rfl rfl rfl Tryz.zeroValue51 rfl ?_)
 intro b7 hb7
 refine J.op rfl (op_store 0 rfl rfl rfl rfl rfl rfl Tryz.sizeOf51 rfl rfl (LSpl.c (LSpl.c (LSpl.c LSpl.z))) LSet.z ?_)
 refine J.nil (Ej.seq (Cj.seq (Cj.region (J.z (yl_fieldAddr (off' := 2) rfl rfl Tryz.underlying51 rfl Tryz.sizeOf49 rfl) ?_))))
 refine J.z (yl_load rfl rfl Tryz.isAgg49 (Blk.at 1 rfl) rfl) ?_
 refine J.z (yl_fieldAddr (off' := 2) rfl rfl Tryz.underlying51 rfl Tryz.sizeOf49 rfl) ?_
 refine J.z (yl_load rfl rfl Tryz.isAgg49 (Blk.at 1 rfl) rfl) ?_
 refine J.z (yl_lenSlice rfl rfl Tryz.underlying49) ?_
 refine J.z (yl_min2 rfl rfl rfl) ?_
 refine J.eqv 17 rfl (show _ = i64 ((min wfs.length 20 : Nat) : Int) from (congrArg i64 (by split <;> omega))) ?_
 refine J.z (yl_sliceTo rfl rfl rfl Tryz.underlying49 Tryz.sizeOf58 (by omega)) ?_
 refine J.z (yl_fieldAddr (off' := 2) rfl rfl Tryz.underlying51 rfl Tryz.sizeOf49 rfl) ?_
 refine J.op rfl (op_store 1 rfl rfl rfl rfl rfl rfl Tryz.sizeOf49 rfl rfl (LSpl.s (LSpl.s (LSpl.c LSpl.z))) (LSet.s LSet.z) ?_)
 refine J.nil (Ej.seq (Cj.join (ι := Heap) (fun J9 => RecS J9 (wfs.take (min wfs.length 20)) (.slice pv (min wfs.length 20) cv)) (fun J9 => [(3, ptr b1 0), (5, .bool true), (7, .bool true)]) (fun J9 => J9) (fun J9 => [(b1, cel 51 [u8 rk, u8 rl, .slice pv (min wfs.length 20) cv])]) ?_ (fun hcut => ?_)))
 ·
  intro J9 hR
  refine Cj.join (ι := Heap) (fun J8 => True) (fun J8 => [(5, .bool true), (7, .bool true), (8, .bool true)]) (fun J8 => J8) (fun J8 => []) ?_ (fun hcut => ?_)
  ·
   intro J8 _
   refine Cj.seq (Cj.region (J.z (yl_move rfl rfl) ?_))
   refine J.z (yl_move rfl rfl) ?_
   refine J.opG 1 45 true _ rfl rfl rfl rfl (op_yld (yl_move rfl rfl) rfl rfl ?_)
   refine J.z (yl_pick1 rfl rfl rfl rfl) ?_
   refine J.z (yl_move rfl rfl) ?_
   refine J.opG 4 48 true _ rfl rfl rfl rfl (op_yld (yl_move rfl rfl) rfl rfl ?_)
   refine J.z (yl_pick1 rfl rfl rfl rfl) ?_
   refine J.z (yl_assign rfl rfl) ?_
   refine J.nil (Ej.seq (Cj.ret (Ej.bare ?_)))
   refine Ej.ret1 rfl rfl rfl ?_
   exact ⟨rfl, rfl⟩
  ·
   refine Cj.drawSel [0] [] 13 (by kernel_rfl) ?_
   refine JA.fix ⟨(HSub.c 0 rfl HSub.n), CSub.n, (Le.refl _)⟩ (fun fx8 => ?_)
   refine JA.tk 0 rfl fx8 (yl_loadAgg rfl rfl Tryz.isAgg51 Tryz.sizeOf51 (Blk.atC 0 rfl) rfl rfl) ?_
   refine JA.tk 2 rfl fx8 (yl_loadAgg rfl rfl Tryz.isAgg51 Tryz.sizeOf51 (Blk.atC 0 rfl) rfl rfl) ?_
   refine JA.step 1 (by kernel_rfl) rfl rfl (op_pure rfl rfl rfl rfl rfl (Title_ok (wfs.take (min wfs.length 20)) _ rk rl (hok.take (min wfs.length 20)) _ hR) ?_)
   refine ⟨⟨(Le.refl _), (HSub.c 0 rfl HSub.n), CSub.n⟩, ?_⟩
   refine JA.step 3 (by kernel_rfl) rfl rfl (op_pure rfl rfl rfl rfl rfl (rTitle_ok (wfs.take (min wfs.length 20)) _ rk rl (hok.take (min wfs.length 20)) _ hR) ?_)
   refine ⟨⟨(Le.refl _), (HSub.c 0 rfl HSub.n), CSub.n⟩, ?_⟩
   refine JA.fix ⟨(HSub.c 0 rfl HSub.n), CSub.n, (Le.refl _)⟩ (fun fx9 => ?_)
   refine JA.tk 4 rfl fx9 (yl_eqlStr rfl rfl rfl) ?_
   refine JA.tk 5 rfl fx9 (yl_move rfl rfl) ?_
   refine JA.tkG 6 5 37 true _ rfl fx9 rfl rfl (beq_self_eq_true _) (yl_loadAgg rfl rfl Tryz.isAgg51 Tryz.sizeOf51 (Blk.atC 0 rfl) rfl rfl) ?_
   refine JA.tkG 8 5 37 true _ rfl fx9 rfl rfl (beq_self_eq_true _) (yl_loadAgg rfl rfl Tryz.isAgg51 Tryz.sizeOf51 (Blk.atC 0 rfl) rfl rfl) ?_
   refine JA.stepG 7 5 37 true _ (by kernel_rfl) rfl rfl rfl rfl (beq_self_eq_true _) (op_call (H1 := []) rfl rfl rfl rfl rfl (All_ok (wfs.take (min wfs.length 20)) _ rk rl (hok.take (min wfs.length 20)) _ hR) ?_ (fun _ _ _ _ h => by obtain ⟨_, h, _⟩ := h; cases h) (fun _ _ h => by obtain ⟨_, h, _⟩ := h; cases h))
   intro v10 I11 H12 hle13 hp14
   have hR := hR.mono hle13
   obtain ⟨vat39, h, at39, rfl⟩ := hp14; cases h
   refine ⟨⟨(Le.trans (Le.refl _) hle13), (HSub.c 0 rfl HSub.n), CSub.n⟩, ?_⟩
   refine JA.stepG 9 5 37 true _ (by kernel_rfl) rfl rfl rfl rfl (beq_self_eq_true _) (op_call (H1 := []) rfl rfl rfl rfl rfl (rAll_ok (wfs.take (min wfs.length 20)) _ rk rl (hok.take (min wfs.length 20)) _ hR) ?_ (fun _ _ _ _ h => by obtain ⟨_, h, _⟩ := h; cases h) (fun _ _ h => by obtain ⟨_, h, _⟩ := h; cases h))
   intro v15 I16 H17 hle18 hp19
   have hR := hR.mono hle18
   have at39 := at39.mono hle18
   obtain ⟨vbt41, h, bt41, rfl⟩ := hp19; cases h
   refine ⟨⟨(Le.trans (Le.trans (Le.refl _) hle13) hle18), (HSub.c 0 rfl HSub.n), CSub.n⟩, ?_⟩
   refine JA.stepG 10 5 37 true _ (by kernel_rfl) rfl rfl rfl rfl (beq_self_eq_true _) (op_pure rfl rfl rfl rfl rfl (Same_ok (Ke.all (wfs.take (min wfs.length 20))) (Ke.all (wfs.take (min wfs.length 20))) _ _ (by have := all_len (hok.take (min wfs.length 20)); omega) _ (StrP.of at39) bt41) ?_)
   refine ⟨⟨(Le.trans (Le.trans (Le.refl _) hle13) hle18), (HSub.c 0 rfl HSub.n), CSub.n⟩, ?_⟩
   refine JA.eqv 42 rfl (show _ = .bool true from (congrArg Value.bool (decide_eq_true rfl))) ?_
   refine JA.fix ⟨(HSub.c 0 rfl HSub.n), CSub.n, (Le.trans (Le.trans (Le.refl _) hle13) hle18)⟩ (fun fx20 => ?_)
   refine JA.tk 11 rfl fx20 (yl_pick1 rfl rfl (beq_self_eq_true _) rfl) ?_
   refine JA.tk 12 rfl fx20 (yl_assign rfl rfl) ?_
   refine JA.done (by kernel_rfl) ?_
   refine Ej.keep (Keeps.d Keeps.n) ?_
   exact hcut _ _ _ _ trivial ⟨rfl, rfl, rfl, trivial⟩ rfl rfl
 ·
  replace hR := hR.take (m := min wfs.length 20) (Nat.min_le_left _ _)
  refine Cj.drawSel [0, 1] [] 13 (by kernel_rfl) ?_
  refine JA.fix ⟨(HSub.c 0 rfl (HSub.c 1 rfl HSub.n)), CSub.n, (Le.refl _)⟩ (fun fx21 => ?_)
  refine JA.tk 0 rfl fx21 (yl_loadAgg rfl rfl Tryz.isAgg51 Tryz.sizeOf51 (Blk.atC 0 rfl) rfl rfl) ?_
  refine JA.tk 2 rfl fx21 (yl_loadAgg rfl rfl Tryz.isAgg51 Tryz.sizeOf51 (Blk.atC 0 rfl) rfl rfl) ?_
  refine JA.step 1 (by kernel_rfl) rfl rfl (op_pure rfl rfl rfl rfl rfl (Title_ok fs _ 97 109 hsm.ok _ hrs) ?_)
  refine ⟨⟨(Le.refl _), (HSub.c 0 rfl (HSub.c 1 rfl HSub.n)), CSub.n⟩, ?_⟩
  refine JA.step 3 (by kernel_rfl) rfl rfl (op_pure rfl rfl rfl rfl rfl (rTitle_ok fs _ 97 109 hsm.ok _ hrs) ?_)
  refine ⟨⟨(Le.refl _), (HSub.c 0 rfl (HSub.c 1 rfl HSub.n)), CSub.n⟩, ?_⟩
  refine JA.fix ⟨(HSub.c 0 rfl (HSub.c 1 rfl HSub.n)), CSub.n, (Le.refl _)⟩ (fun fx22 => ?_)
  refine JA.tk 4 rfl fx22 (yl_eqlStr rfl rfl rfl) ?_
  refine JA.tk 5 rfl fx22 (yl_move rfl rfl) ?_
  refine JA.tkG 6 5 25 true _ rfl fx22 rfl rfl (beq_self_eq_true _) (yl_loadAgg rfl rfl Tryz.isAgg51 Tryz.sizeOf51 (Blk.atC 0 rfl) rfl rfl) ?_
  refine JA.tkG 8 5 25 true _ rfl fx22 rfl rfl (beq_self_eq_true _) (yl_loadAgg rfl rfl Tryz.isAgg51 Tryz.sizeOf51 (Blk.atC 0 rfl) rfl rfl) ?_
  refine JA.stepG 7 5 25 true _ (by kernel_rfl) rfl rfl rfl rfl (beq_self_eq_true _) (op_call (H1 := []) rfl rfl rfl rfl rfl (All_ok fs _ 97 109 hsm.ok _ hrs) ?_ (fun _ _ _ _ h => by obtain ⟨_, h, _⟩ := h; cases h) (fun _ _ h => by obtain ⟨_, h, _⟩ := h; cases h))
  intro v23 I24 H25 hle26 hp27
  have hP := hP.mono hle26
  have hR := hR.mono hle26
  have hrs := hrs.mono hle26
  obtain ⟨vat27, h, at27, rfl⟩ := hp27; cases h
  refine ⟨⟨(Le.trans (Le.refl _) hle26), (HSub.c 0 rfl (HSub.c 1 rfl HSub.n)), CSub.n⟩, ?_⟩
  refine JA.stepG 9 5 25 true _ (by kernel_rfl) rfl rfl rfl rfl (beq_self_eq_true _) (op_call (H1 := []) rfl rfl rfl rfl rfl (rAll_ok fs _ 97 109 hsm.ok _ hrs) ?_ (fun _ _ _ _ h => by obtain ⟨_, h, _⟩ := h; cases h) (fun _ _ h => by obtain ⟨_, h, _⟩ := h; cases h))
  intro v28 I29 H30 hle31 hp32
  have hP := hP.mono hle31
  have hR := hR.mono hle31
  have hrs := hrs.mono hle31
  have at27 := at27.mono hle31
  obtain ⟨vbt29, h, bt29, rfl⟩ := hp32; cases h
  refine ⟨⟨(Le.trans (Le.trans (Le.refl _) hle26) hle31), (HSub.c 0 rfl (HSub.c 1 rfl HSub.n)), CSub.n⟩, ?_⟩
  refine JA.stepG 10 5 25 true _ (by kernel_rfl) rfl rfl rfl rfl (beq_self_eq_true _) (op_pure rfl rfl rfl rfl rfl (Same_ok (Ke.all fs) (Ke.all fs) _ _ (by have := all_len hsm.ok; omega) _ (StrP.of at27) bt29) ?_)
  refine ⟨⟨(Le.trans (Le.trans (Le.refl _) hle26) hle31), (HSub.c 0 rfl (HSub.c 1 rfl HSub.n)), CSub.n⟩, ?_⟩
  refine JA.eqv 30 rfl (show _ = .bool true from (congrArg Value.bool (decide_eq_true rfl))) ?_
  refine JA.fix ⟨(HSub.c 0 rfl (HSub.c 1 rfl HSub.n)), CSub.n, (Le.trans (Le.trans (Le.refl _) hle26) hle31)⟩ (fun fx33 => ?_)
  refine JA.tk 11 rfl fx33 (yl_pick1 rfl rfl (beq_self_eq_true _) rfl) ?_
  refine JA.tk 12 rfl fx33 (yl_assign rfl rfl) ?_
  refine JA.done (by kernel_rfl) ?_
  refine Ej.keep (Keeps.d (Keeps.k Keeps.n)) ?_
  exact hcut _ _ _ _ hR ⟨rfl, rfl, rfl, trivial⟩ rfl rfl

end Go.Proofs.YtnogdccoekfnoaaGreatDoor
