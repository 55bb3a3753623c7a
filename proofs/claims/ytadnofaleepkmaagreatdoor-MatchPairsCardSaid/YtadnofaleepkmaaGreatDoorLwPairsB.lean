/-
  The law MatchPairs. Own text, printed by a program. Conditions: none.
-/
import Derived.Test.YtadnofaleepkmaaGreatDoorPB14
import Derived.Test.YtadnofaleepkmaaGreatDoorMyB
import Derived.Test.YtadnofaleepkmaaGreatDoorPB16
namespace Go.Proofs.YtadnofaleepkmaaGreatDoor
open Go Go.Sx
theorem pairs_len (rs : List Rc) (h : rs.length ≤ 100000) : (pairsN rs).length ≤ 10000000000 := by
  have := pto_len rs rs.length
  rw [pto_all] at this
  exact sq_le h this
set_option maxRecDepth 20000 in
theorem MatchPairs_ok (qs : List Ke.Six) (hqs : ∀ q ∈ qs, SixOk q) (v : Value) (I : Heap) (hQ : RowS sixC I qs v) : Pure Tryz.prog 7 [v] I (.bool true) := by
 refine Ctr.toPure ?_
 refine Ctr.of_body Tryz.func7 rfl (by decide) (Nat.le_of_ble_eq_true rfl) ?_
 intro w0 hw0
 refine Cj.seq (Cj.region (J.z (yl_assign rfl rfl) ?_))
 refine J.nil (Ej.seq (Cj.seq (Cj.region (J.op rfl (op_pure rfl rfl rfl rfl rfl (sanity_ok _) ?_)))))
 refine J.z (yl_assign rfl rfl) ?_
 refine J.nil (Ej.seq (Cj.seq (Cj.region (J.z (yl_move rfl rfl) ?_))))
 refine J.op rfl (op_call (H1 := []) rfl rfl rfl rfl rfl (records_ok qs hqs _ _ hQ) ?_ (fun _ _ _ _ h => by obtain ⟨_, _, h, _⟩ := h; cases h) (fun _ _ h => by obtain ⟨_, _, h, _⟩ := h; cases h))
 intro v1 I2 H3 hle4 hp5
 have hQ := hQ.mono hle4
 obtain ⟨rs, w, h, hrs, h25, hok, rfl⟩ := hp5; cases h
 refine J.z (yl_assign rfl rfl) ?_
 refine J.nil (Ej.seq (Cj.seq (Cj.region (J.z (yl_move rfl rfl) ?_))))
 refine J.z (yl_move rfl rfl) ?_
 refine J.opG 1 9 true _ rfl rfl rfl rfl (op_yld (yl_move rfl rfl) rfl rfl ?_)
 refine J.opG 1 9 true _ rfl rfl rfl rfl (op_call (H1 := []) rfl rfl rfl rfl rfl (Pairs_ok rs (by omega) hok _ _ hrs) ?_ (fun _ _ _ _ h => by obtain ⟨_, h, _⟩ := h; cases h) (fun _ _ h => by obtain ⟨_, h, _⟩ := h; cases h))
 intro v6 I7 H8 hle9 hp10
 have hQ := hQ.mono hle9
 have hrs := hrs.mono hle9
 obtain ⟨vhp1, h, hp1, rfl⟩ := hp10; cases h
 refine J.opG 1 9 true _ rfl rfl rfl rfl (op_yld (yl_move rfl rfl) rfl rfl ?_)
 refine J.opG 1 9 true _ rfl rfl rfl rfl (op_call (H1 := []) rfl rfl rfl rfl rfl (rPairs_ok rs (by omega) hok _ _ hrs) ?_ (fun _ _ _ _ h => by obtain ⟨_, h, _⟩ := h; cases h) (fun _ _ h => by obtain ⟨_, h, _⟩ := h; cases h))
 intro v11 I12 H13 hle14 hp15
 have hQ := hQ.mono hle14
 have hrs := hrs.mono hle14
 have hp1 := hp1.mono hle14
 obtain ⟨vhp2, h, hp2, rfl⟩ := hp15; cases h
 refine J.opG 1 9 true _ rfl rfl rfl rfl (op_pure rfl rfl rfl rfl rfl (SamePairs_ok ((pairsN rs).map cst) ((pairsN rs).map cst) _ _ (by rw [List.length_map]; have := pairs_len rs (by omega); omega) _ (rowT hp1) (rowT hp2)) ?_)
 refine J.eqv 14 rfl (show _ = .bool true from (congrArg Value.bool (decide_eq_true rfl))) ?_
 refine J.z (yl_pick1 rfl rfl rfl rfl) ?_
 refine J.z (yl_assign rfl rfl) ?_
 refine J.nil (Ej.seq (Cj.ret (Ej.ret1 rfl rfl rfl ?_)))
 exact ⟨rfl, rfl⟩
end Go.Proofs.YtadnofaleepkmaaGreatDoor
