/-
  For all acts, all calls and every number (bulk at most 1048576) the law SearchSets returns true: result sets answer every sequence of calls as the reference does, also where the index changes in between. Each argument reads afterwards as it read before. Conditions: the tables that the row lists hold what the program's text lays; the bulk of the arguments is at most 1048576.
-/
import Derived.Test.YtekmeaoblpfnpaaGreatDoorNmS
import Derived.Test.YtekmeaoblpfnpaaGreatDoorPS16
import Derived.Test.YtekmeaoblpfnpaaGreatDoorFaSetsS
set_option linter.all false
set_option maxRecDepth 100000
set_option maxHeartbeats 40000000
namespace Go.Proofs.YtekmeaoblpfnpaaGreatDoor.searchSets
open Go.ChangeShapes Go.WideShapes Go.ChangeAt Go.RowKit Go.Sx Go.Lib Go.ChangeMaps
theorem contract (H : Type) (enc : TypeId × Value → H) (W : World) (base : Nat) (args : Array Value) (ds gs : List (DataW H)) (before : List MemPlace)
    (hval : ∀ (j : Nat) t v, Tryz.f9.params[j]? = some t → args[j]? = some v → Value.okWide Tryz.prog W .any base t v)
    (hW : DataW.Whole enc Tryz.prog Tryz.f9.params.toList Rows.searchSetsSpec.vars false W args.toList ds gs before) (hk : Rows.uptoSmall H (ds ++ gs) = true) (hL : laidMetH Tryz.prog Rows.searchSetsRow.laid W) :
    Calls Tryz.prog 9 args W fun e W' => ∃ v, e = .returned v ∧ Rows.searchSetsSpec.post enc Tryz.prog Tryz.f9 false true false false W args v W' := by
  have hW' := hW
  obtain ⟨p, q, hA0, hV, rfl, hfz, hnd⟩ := hW
  have hA : DataW.TrodAll enc Tryz.prog W 0 (fun _ => true) true Tryz.f9.params.toList args.toList ds p := hA0
  rw [Tryz.params9] at hA hval
  obtain ⟨v0, vs0, d0, ds0, p0, q0, hargs, rfl, rfl, t0, r0⟩ := trodAll_cons hA
  obtain ⟨v1, vs1, d1, ds1, p1, q1, rfl, rfl, rfl, t1, r1⟩ := trodAll_cons r0
  obtain ⟨v2, vs2, d2, ds2, p2, q2, rfl, rfl, rfl, t2, r2⟩ := trodAll_cons r1
  obtain ⟨rfl, rfl, rfl⟩ := trodAll_nil r2
  obtain rfl : args = #[v0, v1, v2] := by cases args; simp_all
  obtain ⟨rfl, rfl⟩ := trodVars_none hV
  obtain ⟨xs0, hX0, ho0, g0⟩ := b2N (hval 0 22 v0 rfl rfl) t0 (fun x hx => hW'.lt x (by simp [hx]))
  obtain ⟨cs1, hC1, hn1, g1⟩ := b1Y (hval 1 87 v1 rfl rfl) t1 (fun x hx => hW'.lt x (by simp [hx]))
  obtain ⟨n2, rfl, w2, g2⟩ := b5t WR (hval 2 3 v2 rfl rfl) t2
  clear hA0
  have hb := lY hk
  simp only [List.cons_append, List.nil_append, Rows.uptoBulkAll] at hb
  have hT := b6m (show laidMet Tryz.prog Rows.searchSetsRow.laid W from hL) (.tail _ (.head _)) (.tail _ (.tail _ (.head _)))
  refine (HW.calls (a3a xs0 _ ho0 cs1 _ (fun c hc => by have := hn1 c hc; omega) n2 (HW W) hT hX0 hC1)).mono fun e W' ⟨he, hB⟩ => ?_
  subst he
  exact ⟨_, rfl, b0K hB hW' rfl (fun _ _ _ => trodAll_cons_mk (shut_bool tU4 _) trodAll_mk0) (fun sp hsp => trodAll_cons_mk (g0 W' hB sp fun q hq => hsp q (by simp [hq])) (trodAll_cons_mk (g1 W' hB sp fun q hq => hsp q (by simp [hq])) (trodAll_cons_mk (g2 W' hB sp fun q hq => hsp q (by simp [hq])) trodAll_mk0))) (fun _ _ => rfl) (ok_one (by kernel_rfl) rfl (okWide_bool_mk tU4 _))⟩
theorem reads (os : Os) {H : Type} (enc : TypeId × Value → H) : ∃ places, DataW.whole enc Tryz.prog ((World.laidAll Tryz.prog os Rows.searchSetsUptoRow.laid).forCall (fun _ _ => 0) ⟨#[], #[.slice none 0 0, .slice none 0 0, .int .i64 0], []⟩).memory Tryz.f9.params.toList Rows.searchSetsSpec.vars false #[Value.slice none 0 0, Value.slice none 0 0, Value.int .i64 0].toList 8 = some ([.nil, .nil, .lit (.int .i64 0)], [], places) :=
  ⟨[], by kernel_rfl⟩
theorem lifted (os : Os) (started : os.Started) (H : Type) (enc : TypeId × Value → H) (F : Stop.Interp) :
    ReturnsInHanded {} Tryz.checked os 9 .any ((Rows.OpenSpec.upto Rows.searchSetsSpec).preRow enc Tryz.prog Tryz.f9 Rows.searchSetsUptoRow.domain false Rows.searchSetsUptoRow.laid) (((Rows.OpenSpec.upto Rows.searchSetsSpec).at F).post enc Tryz.prog Tryz.f9 false true false false) := by
  obtain ⟨places, hx⟩ := reads os enc
  refine returnsInHanded_of_row (C := Tryz.checked) (s := Rows.OpenSpec.upto Rows.searchSetsSpec) own started (by kernel_rfl) Tryz.func9
    (a4V os #[.slice none 0 0, .slice none 0 0, .int .i64 0] (by kernel_rfl) (by kernel_rfl) (by kernel_rfl)
      (OpenSpec.preRow_of_cond 8 hx (by kernel_rfl) (fun k hk => by cases hk; kernel_rfl) (by kernel_rfl) (laidMet_laidAll _ (by kernel_rfl) (by kernel_rfl)))) ?_
  intro W base args ds gs before hval hW _ hcond _ hL _ _
  exact contract H enc W base args ds gs before hval hW (hcond _ rfl) hL
theorem said : Rows.SearchSetsUptoSaid :=
  OpenClaim.holds_of_cond 9 Tryz.f9 rfl rfl rfl rfl rfl rfl rfl ⟨rfl, rfl, rfl, rfl, rfl⟩ rfl rfl rfl rfl rfl (by kernel_rfl) Tryz.func9 facts
    (lY (by kernel_rfl)) (by unfold Func.isWrapper; first | (rw [if_pos (by decide +kernel)]; kernel_rfl) | (rw [if_neg (by decide +kernel)]; exact ⟨rfl, rfl⟩))
    (fun os started H enc _ F => by rw [OpenClaim.pre_eq_preRow]; exact lifted os started H enc F)
theorem plain (f : FuncId) (fn : Func) (hf : Tryz.pinned.checked.prog.funcNamed "pinakes/pinakeslaw12.SearchSets" = some f) (hfn : Tryz.pinned.checked.prog.funcs[f]? = some fn) :
    true = Tryz.pinned.checked.prog.looks [] ∧ ∀ (j : Nat) t, fn.params[j]? = some t → Tryz.pinned.checked.prog.wantsStandIn t = false := by
  obtain rfl : f = 9 := Option.some.inj ((show Tryz.prog.funcNamed "pinakes/pinakeslaw12.SearchSets" = some 9 by kernel_rfl).symm.trans hf) |>.symm
  obtain rfl : fn = Tryz.f9 := (Option.some.inj (Tryz.func9.symm.trans hfn)).symm
  refine ⟨by kernel_rfl, fun j t ht => ?_⟩
  have hm := Array.mem_of_getElem? ht
  rw [Tryz.params9] at hm
  simp only [List.mem_toArray, List.mem_cons, List.not_mem_nil, or_false] at hm
  rcases hm with rfl | rfl | rfl
  · exact (show Tryz.prog.wantsStandIn 22 = false by kernel_rfl)
  · exact (show Tryz.prog.wantsStandIn 87 = false by kernel_rfl)
  exact (show Tryz.prog.wantsStandIn 3 = false by kernel_rfl)
theorem card : Rows.SearchSetsUptoCardSaid :=
  Claim7.holds_tied_plain_at .later [] _ _ _ _ said (fun _ h => by cases h) wfT (fun _ h => by cases h) searchSetsUpto_row_tie rfl ⟨rfl, rfl⟩ b8u rfl plain b8n
end Go.Proofs.YtekmeaoblpfnpaaGreatDoor.searchSets
