/-
  The law MatchWhole. Own text, printed by a program. Conditions: none.
-/
import Derived.Test.YtadnofaleepkmaaGreatDoorPA11
import Derived.Test.YtadnofaleepkmaaGreatDoorPA12
import Derived.Test.YtadnofaleepkmaaGreatDoorKeWholeA
namespace Go.Proofs.YtadnofaleepkmaaGreatDoor
open Go Go.Sx
def modN (N : Nat) (x : Int × Int) : Int × Int := (x.1 % (N : Int), x.2 % (N : Int))
theorem modN_next (N : Nat) {ps : List (Int × Int)} {k : Nat} {x : Int × Int} (h : ps[k]? = some x) : (ps.take (k + 1)).map (modN N) = (ps.take k).map (modN N) ++ [modN N x] := by
  obtain ⟨hlt, hg⟩ := List.getElem?_eq_some_iff.1 h
  rw [List.take_succ_eq_append_getElem hlt, hg, List.map_append]; rfl
theorem modN_rng {N : Nat} (h : 0 < N) (x : Int × Int) : 0 ≤ (modN N x).1 ∧ (modN N x).1 < (N : Int) ∧ 0 ≤ (modN N x).2 ∧ (modN N x).2 < (N : Int) := by
  unfold modN
  have h0 : (N : Int) ≠ 0 := by omega
  exact ⟨Int.emod_nonneg _ h0, Int.emod_lt_of_pos _ (by omega), Int.emod_nonneg _ h0, Int.emod_lt_of_pos _ (by omega)⟩
theorem valid_all {N : Nat} {ml : List (Int × Int)} (h : ∀ x ∈ ml, 0 ≤ x.1 ∧ x.1 < (N : Int) ∧ 0 ≤ x.2 ∧ x.2 < (N : Int)) : (Kp.valid N ml).length = ml.length := by
  induction ml with
  | nil => rfl
  | cons a r ih =>
    unfold Kp.valid at ih ⊢
    rw [List.filterMap_cons, if_pos (h a (.head _))]
    simp only [List.length_cons, ih fun x hx => h x (.tail _ hx)]
abbrev castL (l : List Nat) : List Int := l.map fun x : Nat => (x : Int)
theorem partsI_nat (N : Nat) (ml : List (Int × Int)) : partsI (N : Int) ml = ((Kp.roots N (Kp.lb N (Kp.valid N ml))).map (Kp.grp N (Kp.lb N (Kp.valid N ml)))).map castL := by
  unfold partsI
  rw [Int.toNat_natCast]; rfl
theorem kd_len {N : Nat} {V : Kp.Prs} {L : Nat → Nat} (hL : Kp.Lab N V L) {i r : Nat} (hr : (Kp.roots N L)[i]? = some r) (k : Nat) : (((Kp.roots N L).take i).flatMap (Kp.grp N L) ++ (Kp.grp N L r).take k).length ≤ N := by
  have h1 := Kp.flat_all hL
  have h2 : (((Kp.roots N L).take (i + 1)).flatMap (Kp.grp N L)).length ≤ ((Kp.roots N L).flatMap (Kp.grp N L)).length := by
    conv => rhs; rw [← List.take_append_drop (i + 1) (Kp.roots N L), List.flatMap_append, List.length_append]
    omega
  rw [Kp.flat_part hr, List.length_append] at h2
  have h4 : ((Kp.grp N L r).take k).length ≤ (Kp.grp N L r).length := by rw [List.length_take]; omega
  rw [List.length_append]; omega
theorem grp_len (N : Nat) (L : Nat → Nat) (r : Nat) : (Kp.grp N L r).length ≤ N := by
  have := List.length_filter_le (fun k => decide (L k = r)) (List.range N)
  rw [List.length_range] at this; exact this
theorem roots_len (N : Nat) (L : Nat → Nat) : (Kp.roots N L).length ≤ N := by
  have := List.length_filter_le (fun i => decide (L i = i)) (List.range N)
  rw [List.length_range] at this; exact this
theorem cast_at {l : List Nat} {k x : Nat} (h : l[k]? = some x) : (castL l)[k]? = some (x : Int) := by rw [List.getElem?_map, h]; rfl
theorem nil_parts (N : Nat) : (partsI (N : Int) []).length = N := by
  unfold partsI
  rw [List.length_map, Int.toNat_natCast]; exact Kp.parts_alone N
set_option maxRecDepth 20000 in
set_option maxHeartbeats 2000000 in
theorem MatchWhole_ok (n : Int) (ps : List (Int × Int)) (hps : ∀ x ∈ ps, In64 x.1 ∧ In64 x.2) (v : Value) (I : Heap) (hr : RowS twoC I ps v) : Pure Tryz.prog 11 [i64 n, v] I (.bool true) := by
 refine Ctr.toPure ?_
 obtain ⟨p, c, rfl, hc, -⟩ := id hr
 obtain ⟨N, hN⟩ : ∃ N : Nat, N = (n % 60).toNat := ⟨_, rfl⟩
 have hN60 : N < 60 := by omega
 refine Ctr.of_body Tryz.func11 rfl (by decide) (Nat.le_of_ble_eq_true rfl) ?_
 intro w0 hw0
 refine Cj.seq (Cj.region (J.z (yl_assign rfl rfl) ?_))
 refine J.nil (Ej.seq (Cj.seq (Cj.region (J.op rfl (op_pure rfl rfl rfl rfl rfl (sanity_ok _) ?_)))))
 refine J.z (yl_assign rfl rfl) ?_
 refine J.nil (Ej.seq (Cj.seq (Cj.region (J.z (yl_move rfl rfl) ?_))))
 refine J.op rfl (op_pure rfl rfl rfl rfl rfl (Mod_ok n 60 (by decide) (by decide) _) ?_)
 refine J.eqv 18 rfl (show _ = i64 (N : Int) from (by rw [hN]; exact congrArg i64 (by omega))) ?_
 refine J.z (yl_assign rfl rfl) ?_
 refine J.nil (Ej.seq (Cj.seq (Cj.region (J.z (yl_assign rfl rfl) ?_))))
 refine J.nil (Ej.seq (Cj.join (ι := Nat × Gs) (fun y => y.1 ≤ ps.length ∧ y.1 ≤ 60 ∧ (y.1 = 0 ∨ 0 < N) ∧ gOk w0.heap.size 2 ((ps.take y.1).map (modN N)).length (((ps.take y.1).map (modN N)).flatMap twoC) y.2) (fun y => [(5, .bool true), (6, i64 (N : Int)), (7, gV ((ps.take y.1).map (modN N)).length y.2)]) (fun y => I) (fun y => gH 56 (((ps.take y.1).map (modN N)).flatMap twoC) y.2) ?_ (fun hcut => ?_)))
 ·
  rintro ⟨i, g⟩ ⟨hi, hi60, hi0, hg⟩
  dsimp only at hi hi60 hi0 hg ⊢
  have hml : ((ps.take i).map (modN N)).length ≤ 60 := by rw [List.length_map, List.length_take]; omega
  refine Cj.seq ?_
  rw [show gH _ (((ps.take i).map (modN N)).flatMap twoC) g = gH _ (((ps.take i).map (modN N)).flatMap twoC) g ++ [] from (List.append_nil _).symm]
  refine Cj.keepR twoC_len (by decide) hg rfl (fun I9 hle9 hrow => ?_)
  have hr := hr.mono hle9
  obtain ⟨ml, hmld⟩ : ∃ ml, ml = (ps.take i).map (modN N) := ⟨_, rfl⟩
  have hmr : ∀ x ∈ ml, 0 ≤ x.1 ∧ x.1 < (N : Int) ∧ 0 ≤ x.2 ∧ x.2 < (N : Int) := fun x hx => by
   rw [hmld] at hx
   obtain ⟨z, hz, rfl⟩ := List.mem_map.1 hx
   have hi1 : 0 < N := hi0.resolve_left (fun e => by rw [e] at hz; cases hz)
   exact modN_rng hi1 z
  rw [← hmld] at hrow hml
  rw [← hmld]
  have hVl := valid_all hmr
  have hPI := partsI_nat N ml
  obtain ⟨V, hV⟩ : ∃ V, V = Kp.valid N ml := ⟨_, rfl⟩
  rw [← hV] at hVl hPI
  obtain ⟨L, hLd⟩ : ∃ L, L = Kp.lb N V := ⟨_, rfl⟩
  have hL : Kp.Lab N V L := by rw [hLd]; exact Kp.lb_lab fun q hq => Kp.valid_lt (hV ▸ hq)
  have hrtl := roots_len N L
  have hmany := Kp.parts_many N V
  rw [Kp.parts_grp, List.length_map, ← hLd] at hmany
  rw [← hLd] at hPI
  obtain ⟨mp, mc, hme, hmc, -⟩ := id hrow
  rw [hme]
  rw [hme] at hrow
  refine Cj.region (J.z (yl_move rfl rfl) ?_)
  refine J.z (yl_move rfl rfl) ?_
  refine J.op rfl (op_call (H1 := []) rfl rfl rfl rfl rfl (Parts_ok (N : Int) (by omega) ml (by omega) _ _ hrow) ?_ (fun _ _ _ _ h => by obtain ⟨_, h, _⟩ := h; cases h) (fun _ _ h => by obtain ⟨_, h, _⟩ := h; cases h))
  intro v1 I2 H3 hle4 hp5
  have hr := hr.mono hle4
  have hrow := hrow.mono hle4
  obtain ⟨vpt, h, ⟨vs, hvs, hvl, hvx⟩, rfl⟩ := hp5; cases h
  rw [hPI, List.length_map, List.length_map] at hvl
  rw [hPI] at hvx
  obtain ⟨vp, vc, rfl, hvc, -⟩ := id hvs
  refine J.z (yl_assign rfl rfl) ?_
  refine J.nil (Ej.seq (Cj.seq (Cj.region (J.z (yl_move rfl rfl) ?_))))
  refine J.op rfl (op_makeSlice (n := N) (c := N) (by1 := 8) (z := (.int .i64 0)) rfl rfl rfl rfl rfl Tryz.underlying62 (by kernel_rfl) rfl (by omega) (by omega) (by omega) ?_)
  intro b6 hb6
  refine J.z (yl_assign rfl rfl) ?_
  refine J.nil (Ej.seq (Cj.seq (Cj.region (J.z (yl_assign rfl rfl) ?_))))
  refine J.nil (Ej.seq (Cj.seq (Cj.seq (Cj.region (J.z (yl_assign rfl rfl) ?_)))))
  refine J.nil (Ej.seq (Cj.block (Cj.loop (ι := Nat × List Nat) (fun y => y.1 ≤ (Kp.roots N L).length ∧ Kp.Mk N L (Kp.roots N L) y.2 (((Kp.roots N L).take y.1).flatMap (Kp.grp N L))) (fun y => (Kp.roots N L).length - y.1) (fun y => [(5, .bool true), (6, i64 (N : Int)), (7, .slice mp ml.length mc), (9, .slice vp vs.length vc), (10, .slice (some ⟨b6, 0, none⟩) N N), (11, i64 ((((Kp.roots N L).take y.1).flatMap (Kp.grp N L)).length : Int)), (12, i64 (y.1 : Int))]) (fun y => _) (fun y => [(b6, cel 3 (y.2.map nat64))]) (0, List.replicate N 0) ⟨Nat.zero_le _, Kp.Mk.start N L _⟩ ⟨rfl, rfl, rfl, rfl, rfl, rfl, rfl, trivial⟩ rfl (by dsimp only; rw [List.map_replicate]; rfl) ?_)))
  rintro ⟨i, A⟩ ⟨hi, hA⟩
  dsimp only at hi hA ⊢
  refine Cj.seq (Cj.seq (Cj.region (J.z (yl_move rfl rfl) ?_)))
  refine J.z (yl_move rfl rfl) ?_
  refine J.z (yl_lenSlice rfl rfl Tryz.underlying59) ?_
  refine J.z (yl_lss rfl rfl rfl) ?_
  refine J.nil (Ej.seq (Cj.cond rfl (fun hc7 => ?_) (fun hc7 => ?_)))
  ·
   have hc7p := of_decide_eq_true hc7
   have hilt : i < (Kp.roots N L).length := by omega
   obtain ⟨r, hrget⟩ : ∃ x, (Kp.roots N L)[i]? = some x := ⟨_, List.getElem?_eq_getElem hilt⟩
   obtain ⟨vq, vcq, hve, hvcc, hvp⟩ := id hvs
   cases hve
   obtain ⟨vb, vo, vcs, vty, vfr, vsp, rfl, hvb, hvd⟩ := hvp (ne_nil_of (k := i) (by omega))
   obtain ⟨wv, hwv⟩ : ∃ x, vs[i]? = some x := ⟨_, List.getElem?_eq_getElem (by omega)⟩
   have hrxwv := hvx i wv (castL (Kp.grp N L r)) hwv (by rw [List.getElem?_map, List.getElem?_map, hrget]; rfl)
   have hhdwv := Kp.grp_head hL (List.mem_of_getElem? hrget)
   have hglwv : 0 < (Kp.grp N L r).length := (List.getElem?_eq_some_iff.1 hhdwv).1
   have hgNwv := grp_len N L r
   have hclwv : (castL (Kp.grp N L r)).length = (Kp.grp N L r).length := List.length_map _
   obtain ⟨qwv, cwv, rfl, hcwv, hqwv⟩ := hrxwv
   obtain ⟨lb, lbo, lbcs, lbty, lbfr, lbsp, rfl, hlb, hlbd⟩ := hqwv (ne_nil_of (k := 0) (by rw [hclwv]; exact hglwv))
   refine Cj.skip (Ej.seq (Cj.seq (Cj.block (Cj.seq (Cj.seq (Cj.region (J.z (yl_assign rfl rfl) ?_)))))))
   refine J.nil (Ej.seq (Cj.block (Cj.loop (ι := Nat × List Nat) (fun y => y.1 ≤ (Kp.grp N L r).length ∧ Kp.Mk N L (Kp.roots N L) y.2 ((((Kp.roots N L).take i).flatMap (Kp.grp N L)) ++ (Kp.grp N L r).take y.1)) (fun y => (Kp.grp N L r).length - y.1) (fun y => [(5, .bool true), (6, i64 (N : Int)), (7, .slice mp ml.length mc), (9, _), (10, .slice (some ⟨b6, 0, none⟩) N N), (11, i64 (((((Kp.roots N L).take i).flatMap (Kp.grp N L)) ++ (Kp.grp N L r).take y.1).length : Int)), (12, i64 (i : Int)), (13, i64 (y.1 : Int))]) (fun y => _) (fun y => [(b6, cel 3 (y.2.map nat64))]) (0, A) ⟨Nat.zero_le _, by dsimp only; rw [List.take_zero, List.append_nil]; exact hA⟩ ⟨rfl, rfl, rfl, rfl, rfl, by dsimp only; rw [List.take_zero, List.append_nil]; rfl, rfl, rfl, trivial⟩ rfl rfl ?_)))
   rintro ⟨k, A⟩ ⟨hk, hA⟩
   dsimp only at hk hA ⊢
   refine Cj.seq (Cj.seq (Cj.region (J.z (yl_move rfl rfl) ?_)))
   refine J.z (yl_move rfl rfl) ?_
   refine J.z (yl_move rfl rfl) ?_
   refine J.z (yl_indexAddr (off' := vo + i) rfl rfl rfl Tryz.underlying59 Tryz.sizeOf62 (by omega) (by omega) (by simp)) ?_
   refine J.z (yl_load rfl rfl Tryz.isAgg62 (Blk.imm hvb) (one_from (g := id) (fun _ => rfl) hvd hwv)) ?_
   refine J.z (yl_lenSlice rfl rfl Tryz.underlying62) ?_
   refine J.z (yl_lss rfl rfl rfl) ?_
   refine J.nil (Ej.seq (Cj.cond rfl (fun hc8 => ?_) (fun hc8 => ?_)))
   ·
    have hc8p := of_decide_eq_true hc8
    have hklt : k < (Kp.grp N L r).length := by omega
    obtain ⟨x, hxget⟩ : ∃ x, (Kp.grp N L r)[k]? = some x := ⟨_, List.getElem?_eq_getElem hklt⟩
    obtain ⟨hxn, htk⟩ := Kp.flat_next hrget hxget
    obtain ⟨hxN, hxL⟩ := Kp.grp_mem.1 (List.mem_of_getElem? hxget)
    have hz := hA.non x hxn
    have hal := hA.len
    have hrL : (Kp.roots N L)[i]? = some (L x) := by rw [hxL]; exact hrget
    have hdl := kd_len hL hrget k
    refine Cj.skip (Ej.seq (Cj.seq (Cj.block (Cj.seq (Cj.region (J.z (yl_move rfl rfl) ?_))))))
    refine J.z (yl_move rfl rfl) ?_
    refine J.z (yl_indexAddr (off' := vo + i) rfl rfl rfl Tryz.underlying59 Tryz.sizeOf62 (by omega) (by omega) (by simp)) ?_
    refine J.z (yl_load rfl rfl Tryz.isAgg62 (Blk.imm hvb) (one_from (g := id) (fun _ => rfl) hvd hwv)) ?_
    refine J.z (yl_move rfl rfl) ?_
    refine J.z (yl_indexAddr (off' := lbo + k) rfl rfl rfl Tryz.underlying62 Tryz.sizeOf3 (by omega) (by omega) (by simp)) ?_
    refine J.z (yl_load rfl rfl Tryz.isAgg3 (Blk.imm hlb) (one_from (fun _ => rfl) hlbd (cast_at hxget))) ?_
    refine J.z (yl_assign rfl rfl) ?_
    refine J.nil (Ej.seq (Cj.seq (Cj.seq (Cj.region (J.z (yl_move rfl rfl) ?_)))))
    refine J.z (yl_lss rfl rfl rfl) ?_
    refine J.z (yl_move rfl rfl) ?_
    refine J.opG 2 80 false _ rfl rfl rfl (decide_eq_false (by omega)) (op_yld (yl_move rfl rfl) rfl rfl ?_)
    refine J.opG 2 80 false _ rfl rfl rfl (decide_eq_false (by omega)) (op_yld (yl_move rfl rfl) rfl rfl ?_)
    refine J.opG 2 80 false _ rfl rfl rfl (decide_eq_false (by omega)) (op_yld (yl_geq rfl rfl rfl) rfl rfl ?_)
    refine J.z (yl_pick0 rfl rfl (decide_eq_false (by omega)) rfl) ?_
    refine J.z (yl_move rfl rfl) ?_
    refine J.opG 7 85 false _ rfl rfl rfl (decide_eq_false (by omega)) (op_yld (yl_move rfl rfl) rfl rfl ?_)
    refine J.opG 7 85 false _ rfl rfl rfl (decide_eq_false (by omega)) (op_yld (yl_move rfl rfl) rfl rfl ?_)
    refine J.opG 7 85 false _ rfl rfl rfl (decide_eq_false (by omega)) (op_yld (yl_indexAddr (off' := x) rfl rfl rfl Tryz.underlying62 Tryz.sizeOf3 (by omega) (by omega) (by simp)) rfl rfl ?_)
    refine J.opG 7 85 false _ rfl rfl rfl (decide_eq_false (by omega)) (op_yld (yl_load rfl rfl Tryz.isAgg3 (Blk.at 0 rfl) (nat_get (by omega))) rfl rfl ?_)
    refine J.eqv 89 rfl (show _ = i64 0 from (by rw [hz]; rfl)) ?_
    refine J.opG 7 85 false _ rfl rfl rfl (decide_eq_false (by omega)) (op_yld (yl_neq rfl rfl rfl) rfl rfl ?_)
    refine J.z (yl_pick0 rfl rfl (decide_eq_false (by omega)) rfl) ?_
    refine J.z (yl_move rfl rfl) ?_
    refine J.opG 14 92 false _ rfl rfl rfl (by first | rfl | decide) (op_yld (yl_move rfl rfl) rfl rfl ?_)
    refine J.opG 14 92 false _ rfl rfl rfl (by first | rfl | decide) (op_yld (yl_gtr rfl rfl rfl) rfl rfl ?_)
    refine J.opG 14 92 false _ rfl rfl rfl (by first | rfl | decide) (op_yld (yl_move rfl rfl) rfl rfl ?_)
    refine J.split 95 rfl (fun hg9 => ?_) (fun hg9 => ?_)
    ·
     have hg9p := of_decide_eq_true hg9
     obtain ⟨x0, hx0get⟩ : ∃ x, (Kp.grp N L r)[k - 1]? = some x := ⟨_, List.getElem?_eq_getElem (by omega)⟩
     have hx0 := Kp.inc_at (Kp.grp_inc N L r) (show k - 1 < k by omega) hx0get hxget
     refine J.opG 17 95 true _ rfl rfl rfl hg9 (op_yld (yl_move rfl rfl) rfl rfl ?_)
     refine J.opG 17 95 true _ rfl rfl rfl hg9 (op_yld (yl_move rfl rfl) rfl rfl ?_)
     refine J.opG 17 95 true _ rfl rfl rfl hg9 (op_yld (yl_move rfl rfl) rfl rfl ?_)
     refine J.opG 17 95 true _ rfl rfl rfl hg9 (op_yld (yl_indexAddr (off' := vo + i) rfl rfl rfl Tryz.underlying59 Tryz.sizeOf62 (by omega) (by omega) (by simp)) rfl rfl ?_)
     refine J.opG 17 95 true _ rfl rfl rfl hg9 (op_yld (yl_load rfl rfl Tryz.isAgg62 (Blk.imm hvb) (one_from (g := id) (fun _ => rfl) hvd hwv)) rfl rfl ?_)
     refine J.opG 17 95 true _ rfl rfl rfl hg9 (op_yld (yl_move rfl rfl) rfl rfl ?_)
     refine J.opG 17 95 true _ rfl rfl rfl hg9 (op_yld (yl_sub rfl rfl rfl (w64 (by omega))) rfl rfl ?_)
     refine J.opG 17 95 true _ rfl rfl rfl hg9 (op_yld (yl_indexAddr (off' := lbo + (k - 1)) rfl rfl rfl Tryz.underlying62 Tryz.sizeOf3 (by omega) (by omega) (by omega)) rfl rfl ?_)
     refine J.opG 17 95 true _ rfl rfl rfl hg9 (op_yld (yl_load rfl rfl Tryz.isAgg3 (Blk.imm hlb) (one_from (fun _ => rfl) hlbd (cast_at hx0get))) rfl rfl ?_)
     refine J.opG 17 95 true _ rfl rfl rfl hg9 (op_yld (yl_leq rfl rfl rfl) rfl rfl ?_)
     refine J.opG 14 92 false _ rfl rfl rfl (by first | rfl | decide) (op_yld (yl_pick1 rfl rfl hg9 rfl) rfl rfl ?_)
     refine J.z (yl_pick0 rfl rfl (by first | rfl | decide) rfl) ?_
     refine J.nil (Ej.seq (Cj.cond rfl (fun hc10 => Bool.noConfusion (Eq.trans (Eq.symm (decide_eq_false (by omega))) hc10)) (fun hc10 => ?_)))
     refine Cj.skip (Ej.seq (Cj.seq (Cj.region (J.z (yl_move rfl rfl) ?_))))
     refine J.z (yl_move rfl rfl) ?_
     refine J.z (yl_move rfl rfl) ?_
     refine J.z (yl_add rfl rfl rfl (w64 (by omega))) ?_
     refine J.z (yl_indexAddr (off' := x) rfl rfl rfl Tryz.underlying62 Tryz.sizeOf3 (by omega) (by omega) (by simp)) ?_
     refine J.op rfl (op_store1 0 rfl rfl rfl rfl rfl rfl Tryz.sizeOf3 rfl (.inl rfl) (by rw [List.length_map]; omega) LSet.z ?_)
     refine J.nil (Ej.seq (Cj.region (J.z (yl_move rfl rfl) ?_)))
     refine J.z (yl_add rfl rfl rfl (w64 (by omega))) ?_
     refine J.z (yl_assign rfl rfl) ?_
     refine J.nil (Ej.blkNormal (Ej.seq (Cj.region (J.z (yl_move rfl rfl) ?_))))
     refine J.z (yl_add rfl rfl rfl (w64 (by omega))) ?_
     refine J.z (yl_assign rfl rfl) ?_
     refine J.nil (Ej.round (k + 1, A.set x (i + 1)) ⟨by dsimp only; omega, by dsimp only; rw [htk, ← List.append_assoc]; exact hA.put hxN hrL⟩ (by dsimp only; omega) ⟨rfl, rfl, rfl, rfl, rfl, by dsimp only; rw [htk, ← List.append_assoc]; exact congrArg (fun n : Nat => some (i64 (n : Int))) (len_one _ _).symm, rfl, rfl, trivial⟩ rfl (by dsimp only; rw [List.map_set]; rfl))
    ·
     have hg9p := of_decide_eq_false hg9
     refine J.skip 17 95 96 true _ rfl rfl rfl hg9 rfl rfl ?_
     refine J.skip 17 95 97 true _ rfl rfl rfl hg9 rfl rfl ?_
     refine J.skip 17 95 98 true _ rfl rfl rfl hg9 rfl rfl ?_
     refine J.skip 17 95 99 true _ rfl rfl rfl hg9 rfl rfl ?_
     refine J.skip 17 95 100 true _ rfl rfl rfl hg9 rfl rfl ?_
     refine J.skip 17 95 101 true _ rfl rfl rfl hg9 rfl rfl ?_
     refine J.skip 17 95 102 true _ rfl rfl rfl hg9 rfl rfl ?_
     refine J.skip 17 95 103 true _ rfl rfl rfl hg9 rfl rfl ?_
     refine J.skip 17 95 104 true _ rfl rfl rfl hg9 rfl rfl ?_
     refine J.skip 17 95 105 true _ rfl rfl rfl hg9 rfl rfl ?_
     refine J.opG 14 92 false _ rfl rfl rfl (by first | rfl | decide) (op_yld (yl_pick0 rfl rfl hg9 rfl) rfl rfl ?_)
     refine J.z (yl_pick0 rfl rfl (by first | rfl | decide) rfl) ?_
     refine J.nil (Ej.seq (Cj.cond rfl (fun hc11 => Bool.noConfusion (Eq.trans (Eq.symm rfl) hc11)) (fun hc11 => ?_)))
     refine Cj.skip (Ej.seq (Cj.seq (Cj.region (J.z (yl_move rfl rfl) ?_))))
     refine J.z (yl_move rfl rfl) ?_
     refine J.z (yl_move rfl rfl) ?_
     refine J.z (yl_add rfl rfl rfl (w64 (by omega))) ?_
     refine J.z (yl_indexAddr (off' := x) rfl rfl rfl Tryz.underlying62 Tryz.sizeOf3 (by omega) (by omega) (by simp)) ?_
     refine J.op rfl (op_store1 0 rfl rfl rfl rfl rfl rfl Tryz.sizeOf3 rfl (.inl rfl) (by rw [List.length_map]; omega) LSet.z ?_)
     refine J.nil (Ej.seq (Cj.region (J.z (yl_move rfl rfl) ?_)))
     refine J.z (yl_add rfl rfl rfl (w64 (by omega))) ?_
     refine J.z (yl_assign rfl rfl) ?_
     refine J.nil (Ej.blkNormal (Ej.seq (Cj.region (J.z (yl_move rfl rfl) ?_))))
     refine J.z (yl_add rfl rfl rfl (w64 (by omega))) ?_
     refine J.z (yl_assign rfl rfl) ?_
     refine J.nil (Ej.round (k + 1, A.set x (i + 1)) ⟨by dsimp only; omega, by dsimp only; rw [htk, ← List.append_assoc]; exact hA.put hxN hrL⟩ (by dsimp only; omega) ⟨rfl, rfl, rfl, rfl, rfl, by dsimp only; rw [htk, ← List.append_assoc]; exact congrArg (fun n : Nat => some (i64 (n : Int))) (len_one _ _).symm, rfl, rfl, trivial⟩ rfl (by dsimp only; rw [List.map_set]; rfl))
   ·
    have hc8p := of_decide_eq_false hc8
    rw [show (Kp.grp N L r).take k = (Kp.grp N L r) from List.take_of_length_le (by omega)] at hA
    rw [show (Kp.grp N L r).take k = (Kp.grp N L r) from List.take_of_length_le (by omega)]
    refine Cj.exit (Ej.seqExit (Ej.loopExit (Ej.blkExit (Ej.seq (Cj.seq (Cj.drawSel [0] [] 26 (by kernel_rfl) ?_))))))
    refine JA.fix ⟨(HSub.c 0 rfl HSub.n), CSub.n, (Le.refl _)⟩ (fun fx12 => ?_)
    refine JA.tk 0 rfl fx12 (yl_move rfl rfl) ?_
    refine JA.tk 1 rfl fx12 (yl_move rfl rfl) ?_
    refine JA.tk 2 rfl fx12 (yl_indexAddr (off' := vo + i) rfl rfl rfl Tryz.underlying59 Tryz.sizeOf62 (by omega) (by omega) (by simp)) ?_
    refine JA.tk 3 rfl fx12 (yl_load rfl rfl Tryz.isAgg62 (Blk.immC hvb) (one_from (g := id) (fun _ => rfl) hvd hwv)) ?_
    refine JA.tk 4 rfl fx12 (yl_lenSlice rfl rfl Tryz.underlying62) ?_
    refine JA.tk 5 rfl fx12 (yl_eql rfl rfl rfl) ?_
    refine JA.tk 6 rfl fx12 (yl_move rfl rfl) ?_
    refine JA.tkG 7 6 121 false _ rfl fx12 rfl rfl (beq_eq_false_iff_ne.2 (by omega)) (yl_move rfl rfl) ?_
    refine JA.tkG 8 6 121 false _ rfl fx12 rfl rfl (beq_eq_false_iff_ne.2 (by omega)) (yl_gtr rfl rfl rfl) ?_
    refine JA.tkG 9 6 121 false _ rfl fx12 rfl rfl (beq_eq_false_iff_ne.2 (by omega)) (yl_move rfl rfl) ?_
    refine JA.split 124 rfl (fun hg13 => ?_) (fun hg13 => ?_)
    ·
     have hg13p := of_decide_eq_true hg13
     obtain ⟨r0, hr0get⟩ : ∃ x, (Kp.roots N L)[i - 1]? = some x := ⟨_, List.getElem?_eq_getElem (by omega)⟩
     have hr0 := Kp.inc_at (Kp.roots_inc N L) (show i - 1 < i by omega) hr0get hrget
     obtain ⟨w0v, hw0v⟩ : ∃ x, vs[(i - 1)]? = some x := ⟨_, List.getElem?_eq_getElem (by omega)⟩
     have hrxw0v := hvx (i - 1) w0v (castL (Kp.grp N L r0)) hw0v (by rw [List.getElem?_map, List.getElem?_map, hr0get]; rfl)
     have hhdw0v := Kp.grp_head hL (List.mem_of_getElem? hr0get)
     have hglw0v : 0 < (Kp.grp N L r0).length := (List.getElem?_eq_some_iff.1 hhdw0v).1
     have hgNw0v := grp_len N L r0
     have hclw0v : (castL (Kp.grp N L r0)).length = (Kp.grp N L r0).length := List.length_map _
     obtain ⟨qw0v, cw0v, rfl, hcw0v, hqw0v⟩ := hrxw0v
     obtain ⟨mb, mbo, mbcs, mbty, mbfr, mbsp, rfl, hmb, hmbd⟩ := hqw0v (ne_nil_of (k := 0) (by rw [hclw0v]; exact hglw0v))
     refine JA.tkG 10 9 124 true _ rfl fx12 rfl rfl hg13 (yl_move rfl rfl) ?_
     refine JA.tkG 11 9 124 true _ rfl fx12 rfl rfl hg13 (yl_move rfl rfl) ?_
     refine JA.tkG 12 9 124 true _ rfl fx12 rfl rfl hg13 (yl_indexAddr (off' := vo + i) rfl rfl rfl Tryz.underlying59 Tryz.sizeOf62 (by omega) (by omega) (by simp)) ?_
     refine JA.tkG 13 9 124 true _ rfl fx12 rfl rfl hg13 (yl_load rfl rfl Tryz.isAgg62 (Blk.immC hvb) (one_from (g := id) (fun _ => rfl) hvd hwv)) ?_
     refine JA.tkG 14 9 124 true _ rfl fx12 rfl rfl hg13 (yl_indexAddr (off' := lbo + 0) rfl rfl rfl Tryz.underlying62 Tryz.sizeOf3 (by decide) (by omega) (by simp)) ?_
     refine JA.tkG 15 9 124 true _ rfl fx12 rfl rfl hg13 (yl_load rfl rfl Tryz.isAgg3 (Blk.immC hlb) (one_from (fun _ => rfl) hlbd (cast_at hhdwv))) ?_
     refine JA.tkG 16 9 124 true _ rfl fx12 rfl rfl hg13 (yl_move rfl rfl) ?_
     refine JA.tkG 17 9 124 true _ rfl fx12 rfl rfl hg13 (yl_move rfl rfl) ?_
     refine JA.tkG 18 9 124 true _ rfl fx12 rfl rfl hg13 (yl_sub rfl rfl rfl (w64 (by omega))) ?_
     refine JA.tkG 19 9 124 true _ rfl fx12 rfl rfl hg13 (yl_indexAddr (off' := vo + (i - 1)) rfl rfl rfl Tryz.underlying59 Tryz.sizeOf62 (by omega) (by omega) (by omega)) ?_
     refine JA.tkG 20 9 124 true _ rfl fx12 rfl rfl hg13 (yl_load rfl rfl Tryz.isAgg62 (Blk.immC hvb) (one_from (g := id) (fun _ => rfl) hvd hw0v)) ?_
     refine JA.tkG 21 9 124 true _ rfl fx12 rfl rfl hg13 (yl_indexAddr (off' := mbo + 0) rfl rfl rfl Tryz.underlying62 Tryz.sizeOf3 (by decide) (by omega) (by simp)) ?_
     refine JA.stepG 22 9 124 true _ (by kernel_rfl) rfl rfl rfl rfl hg13 (op_yld (yl_load rfl rfl Tryz.isAgg3 (Blk.imm hmb) (one_from (fun _ => rfl) hmbd (cast_at hhdw0v))) rfl rfl ?_)
     refine ⟨⟨(Le.refl _), (HSub.c 0 rfl HSub.n), CSub.n⟩, ?_⟩
     refine JA.fix ⟨(HSub.c 0 rfl HSub.n), CSub.n, (Le.refl _)⟩ (fun fx14 => ?_)
     refine JA.tkG 23 9 124 true _ rfl fx14 rfl rfl hg13 (yl_leq rfl rfl rfl) ?_
     refine JA.tkG 24 6 121 false _ rfl fx14 rfl rfl (beq_eq_false_iff_ne.2 (by omega)) (yl_pick1 rfl rfl hg13 rfl) ?_
     refine JA.tk 25 rfl fx14 (yl_pick0 rfl rfl (beq_eq_false_iff_ne.2 (by omega)) rfl) ?_
     refine JA.done (by kernel_rfl) ?_
     refine Ej.seq (Cj.cond rfl (fun hc15 => Bool.noConfusion (Eq.trans (Eq.symm (decide_eq_false (by omega))) hc15)) (fun hc15 => ?_))
     refine Cj.skip (Ej.blkNormal (Ej.seq (Cj.region (J.z (yl_move rfl rfl) ?_))))
     refine J.z (yl_add rfl rfl rfl (w64 (by omega))) ?_
     refine J.z (yl_assign rfl rfl) ?_
     refine J.nil (Ej.round (i + 1, A) ⟨by dsimp only; omega, by dsimp only; rw [Kp.flat_part hrget]; exact hA⟩ (by dsimp only; omega) ⟨rfl, rfl, rfl, rfl, rfl, by dsimp only; rw [Kp.flat_part hrget]; rfl, rfl, trivial⟩ rfl rfl)
    ·
     have hg13p := of_decide_eq_false hg13
     refine JA.tkS 10 9 124 true _ rfl fx12 rfl rfl (.inl (congrArg Value.bool hg13)) ?_
     refine JA.tkS 11 9 124 true _ rfl fx12 rfl rfl (.inl (congrArg Value.bool hg13)) ?_
     refine JA.tkS 12 9 124 true _ rfl fx12 rfl rfl (.inl (congrArg Value.bool hg13)) ?_
     refine JA.tkS 13 9 124 true _ rfl fx12 rfl rfl (.inl (congrArg Value.bool hg13)) ?_
     refine JA.tkS 14 9 124 true _ rfl fx12 rfl rfl (.inl (congrArg Value.bool hg13)) ?_
     refine JA.tkS 15 9 124 true _ rfl fx12 rfl rfl (.inl (congrArg Value.bool hg13)) ?_
     refine JA.tkS 16 9 124 true _ rfl fx12 rfl rfl (.inl (congrArg Value.bool hg13)) ?_
     refine JA.tkS 17 9 124 true _ rfl fx12 rfl rfl (.inl (congrArg Value.bool hg13)) ?_
     refine JA.tkS 18 9 124 true _ rfl fx12 rfl rfl (.inl (congrArg Value.bool hg13)) ?_
     refine JA.tkS 19 9 124 true _ rfl fx12 rfl rfl (.inl (congrArg Value.bool hg13)) ?_
     refine JA.tkS 20 9 124 true _ rfl fx12 rfl rfl (.inl (congrArg Value.bool hg13)) ?_
     refine JA.tkS 21 9 124 true _ rfl fx12 rfl rfl (.inl (congrArg Value.bool hg13)) ?_
     refine JA.tkS 22 9 124 true _ rfl fx12 rfl rfl (.inl (congrArg Value.bool hg13)) ?_
     refine JA.tkS 23 9 124 true _ rfl fx12 rfl rfl (.inl (congrArg Value.bool hg13)) ?_
     refine JA.tkG 24 6 121 false _ rfl fx12 rfl rfl (beq_eq_false_iff_ne.2 (by omega)) (yl_pick0 rfl rfl hg13 rfl) ?_
     refine JA.tk 25 rfl fx12 (yl_pick0 rfl rfl (beq_eq_false_iff_ne.2 (by omega)) rfl) ?_
     refine JA.done (by kernel_rfl) ?_
     refine Ej.seq (Cj.cond rfl (fun hc16 => Bool.noConfusion (Eq.trans (Eq.symm rfl) hc16)) (fun hc16 => ?_))
     refine Cj.skip (Ej.blkNormal (Ej.seq (Cj.region (J.z (yl_move rfl rfl) ?_))))
     refine J.z (yl_add rfl rfl rfl (w64 (by omega))) ?_
     refine J.z (yl_assign rfl rfl) ?_
     refine J.nil (Ej.round (i + 1, A) ⟨by dsimp only; omega, by dsimp only; rw [Kp.flat_part hrget]; exact hA⟩ (by dsimp only; omega) ⟨rfl, rfl, rfl, rfl, rfl, by dsimp only; rw [Kp.flat_part hrget]; rfl, rfl, trivial⟩ rfl rfl)
  ·
   have hc7p := of_decide_eq_false hc7
   rw [show (Kp.roots N L).take i = (Kp.roots N L) from List.take_of_length_le (by omega)] at hA
   rw [show (Kp.roots N L).take i = (Kp.roots N L) from List.take_of_length_le (by omega), Kp.flat_all hL]
   refine Cj.exit (Ej.seqExit (Ej.loopExit (Ej.blkExit (Ej.seq (Cj.seq (Cj.seq (Cj.region (J.z (yl_assign rfl rfl) ?_))))))))
   refine J.nil (Ej.seq (Cj.block (Cj.loop (ι := Nat) (fun j => j ≤ ml.length) (fun j => ml.length - j) (fun j => [(5, .bool true), (6, i64 (N : Int)), (7, .slice mp ml.length mc), (9, .slice vp vs.length vc), (10, .slice (some ⟨b6, 0, none⟩) N N), (11, i64 (N : Int)), (15, i64 (j : Int))]) (fun j => _) (fun j => [(b6, cel 3 (A.map nat64))]) 0 (Nat.zero_le _) ⟨rfl, rfl, rfl, rfl, rfl, rfl, rfl, trivial⟩ rfl rfl ?_)))
   rintro j hj
   refine Cj.seq (Cj.seq (Cj.region (J.z (yl_move rfl rfl) ?_)))
   refine J.z (yl_move rfl rfl) ?_
   refine J.z (yl_lenSlice rfl rfl Tryz.underlying53) ?_
   refine J.z (yl_lss rfl rfl rfl) ?_
   refine J.nil (Ej.seq (Cj.cond rfl (fun hc17 => ?_) (fun hc17 => ?_)))
   ·
    have hc17p := of_decide_eq_true hc17
    have hjlt : j < ml.length := by omega
    obtain ⟨⟨x1, x2⟩, hget⟩ : ∃ x, ml[j]? = some x := ⟨_, List.getElem?_eq_getElem hjlt⟩
    have hmem := List.mem_of_getElem? hget
    obtain ⟨hx1, hx2, hx3, hx4⟩ := hmr _ hmem
    dsimp only at hx1 hx2 hx3 hx4
    obtain ⟨a, ha⟩ : ∃ a : Nat, x1 = (a : Int) := ⟨x1.toNat, by omega⟩
    obtain ⟨b, hb⟩ : ∃ b : Nat, x2 = (b : Int) := ⟨x2.toNat, by omega⟩
    subst ha; subst hb
    have haN : a < N := by omega
    have hbN : b < N := by omega
    have hab : (a, b) ∈ V := by rw [hV]; exact valid_mem hmem haN hbN
    have hsame := hA.same (Kp.inc_nodup (Kp.roots_inc N L)) ((Kp.flat_mem hL).2 haN) ((Kp.flat_mem hL).2 hbN) (hL.eq a b hab)
    have hal := hA.len
    obtain ⟨qp, qc, hqe, hqc, hqq⟩ := id hrow
    cases hqe
    obtain ⟨qb, qo, qcs, qty, qfr, qsp, rfl, hqb, hqd⟩ := hqq (ne_nil_of hjlt)
    refine Cj.skip (Ej.seq (Cj.seq (Cj.block (Cj.seq (Cj.drawSel [0] [] 17 (by kernel_rfl) ?_)))))
    refine JA.fix ⟨(HSub.c 0 rfl HSub.n), CSub.n, (Le.refl _)⟩ (fun fx18 => ?_)
    refine JA.tk 0 rfl fx18 (yl_move rfl rfl) ?_
    refine JA.tk 1 rfl fx18 (yl_move rfl rfl) ?_
    refine JA.tk 2 rfl fx18 (yl_move rfl rfl) ?_
    refine JA.tk 3 rfl fx18 (yl_indexAddr (off' := qo + j * 2) rfl rfl rfl Tryz.underlying53 Tryz.sizeOf56 (by omega) (by omega) (by simp)) ?_
    refine JA.tk 4 rfl fx18 (yl_indexArr (off' := qo + j * 2) rfl rfl rfl Tryz.underlying56 Tryz.sizeOf3 (by decide) (by decide) (by simp)) ?_
    refine JA.tk 5 rfl fx18 (yl_load rfl rfl Tryz.isAgg3 (Blk.immC hqb) (row_fcell twoC_len hqd hget 0 (by decide))) ?_
    refine JA.tk 6 rfl fx18 (yl_indexAddr (off' := a) rfl rfl rfl Tryz.underlying62 Tryz.sizeOf3 (by omega) (by omega) (by simp)) ?_
    refine JA.tk 7 rfl fx18 (yl_load rfl rfl Tryz.isAgg3 (Blk.atC 0 rfl) (nat_get (by omega))) ?_
    refine JA.tk 8 rfl fx18 (yl_move rfl rfl) ?_
    refine JA.tk 9 rfl fx18 (yl_move rfl rfl) ?_
    refine JA.tk 10 rfl fx18 (yl_move rfl rfl) ?_
    refine JA.tk 11 rfl fx18 (yl_indexAddr (off' := qo + j * 2) rfl rfl rfl Tryz.underlying53 Tryz.sizeOf56 (by omega) (by omega) (by simp)) ?_
    refine JA.tk 12 rfl fx18 (yl_indexArr (off' := qo + j * 2 + 1) rfl rfl rfl Tryz.underlying56 Tryz.sizeOf3 (by decide) (by decide) (by simp)) ?_
    refine JA.tk 13 rfl fx18 (yl_load rfl rfl Tryz.isAgg3 (Blk.immC hqb) (row_fcell twoC_len hqd hget 1 (by decide))) ?_
    refine JA.tk 14 rfl fx18 (yl_indexAddr (off' := b) rfl rfl rfl Tryz.underlying62 Tryz.sizeOf3 (by omega) (by omega) (by simp)) ?_
    refine JA.tk 15 rfl fx18 (yl_load rfl rfl Tryz.isAgg3 (Blk.atC 0 rfl) (nat_get (by omega))) ?_
    refine JA.eqv 162 rfl (show _ = i64 ((A.getD a 0 : Nat) : Int) from (by rw [hsame])) ?_
    refine JA.tk 16 rfl fx18 (yl_neq rfl rfl rfl) ?_
    refine JA.done (by kernel_rfl) ?_
    refine Ej.seq (Cj.cond rfl (fun hc19 => Bool.noConfusion (Eq.trans (Eq.symm (bne_self_eq_false _)) hc19)) (fun hc19 => ?_))
    refine Cj.skip (Ej.blkNormal (Ej.seq (Cj.region (J.z (yl_move rfl rfl) ?_))))
    refine J.z (yl_add rfl rfl rfl (w64 (by omega))) ?_
    refine J.z (yl_assign rfl rfl) ?_
    refine J.nil (Ej.round (j + 1) (by omega) (by omega) ⟨rfl, rfl, rfl, rfl, rfl, rfl, rfl, trivial⟩ rfl rfl)
   ·
    have hc17p := of_decide_eq_false hc17
    refine Cj.exit (Ej.seqExit (Ej.loopExit (Ej.blkExit (Ej.seq (Cj.seq (Cj.region (J.z (yl_move rfl rfl) ?_)))))))
    refine J.z (yl_move rfl rfl) ?_
    refine J.opG 1 165 true _ rfl rfl rfl rfl (op_yld (yl_move rfl rfl) rfl rfl ?_)
    refine J.opG 1 165 true _ rfl rfl rfl rfl (op_yld (yl_move rfl rfl) rfl rfl ?_)
    refine J.opG 1 165 true _ rfl rfl rfl rfl (op_yld (yl_eql rfl rfl rfl) rfl rfl ?_)
    refine J.eqv 168 rfl (show _ = .bool true from (congrArg Value.bool (beq_iff_eq.2 rfl))) ?_
    refine J.z (yl_pick1 rfl rfl rfl rfl) ?_
    refine J.z (yl_move rfl rfl) ?_
    refine J.opG 6 170 true _ rfl rfl rfl rfl (op_yld (yl_move rfl rfl) rfl rfl ?_)
    refine J.opG 6 170 true _ rfl rfl rfl rfl (op_yld (yl_lenSlice rfl rfl Tryz.underlying59) rfl rfl ?_)
    refine J.opG 6 170 true _ rfl rfl rfl rfl (op_yld (yl_move rfl rfl) rfl rfl ?_)
    refine J.opG 6 170 true _ rfl rfl rfl rfl (op_yld (yl_move rfl rfl) rfl rfl ?_)
    refine J.opG 6 170 true _ rfl rfl rfl rfl (op_yld (yl_lenSlice rfl rfl Tryz.underlying53) rfl rfl ?_)
    refine J.opG 6 170 true _ rfl rfl rfl rfl (op_yld (yl_sub rfl rfl rfl (w64 (by omega))) rfl rfl ?_)
    refine J.opG 6 170 true _ rfl rfl rfl rfl (op_yld (yl_geq rfl rfl rfl) rfl rfl ?_)
    refine J.eqv 177 rfl (show _ = .bool true from (congrArg Value.bool (decide_eq_true (by omega)))) ?_
    refine J.z (yl_pick1 rfl rfl rfl rfl) ?_
    refine J.z (yl_move rfl rfl) ?_
    refine J.opG 15 179 true _ rfl rfl rfl rfl (op_yld (yl_move rfl rfl) rfl rfl ?_)
    refine J.opG 15 179 true _ rfl rfl rfl rfl (op_call (H1 := []) rfl rfl rfl rfl rfl (Parts_ok (N : Int) (by omega) [] (by decide) _ _ (RowS.nil)) ?_ (fun _ _ _ _ h => by obtain ⟨_, h, _⟩ := h; cases h) (fun _ _ h => by obtain ⟨_, h, _⟩ := h; cases h))
    intro v20 I21 H22 hle23 hp24
    have hr := hr.mono hle23
    have hrow := hrow.mono hle23
    have hvs := hvs.mono hle23
    obtain ⟨vpn, h, ⟨vs2, hvs2, hvl2, -⟩, rfl⟩ := hp24; cases h
    rw [nil_parts] at hvl2
    obtain ⟨vp2, vc2, rfl, -, -⟩ := id hvs2
    refine J.opG 15 179 true _ rfl rfl rfl rfl (op_yld (yl_lenSlice rfl rfl Tryz.underlying59) rfl rfl ?_)
    refine J.opG 15 179 true _ rfl rfl rfl rfl (op_yld (yl_move rfl rfl) rfl rfl ?_)
    refine J.opG 15 179 true _ rfl rfl rfl rfl (op_yld (yl_eql rfl rfl rfl) rfl rfl ?_)
    refine J.eqv 184 rfl (show _ = .bool true from (congrArg Value.bool (beq_iff_eq.2 (by omega)))) ?_
    refine J.z (yl_pick1 rfl rfl rfl rfl) ?_
    refine J.z (yl_assign rfl rfl) ?_
    refine J.nil (Ej.seq (Cj.ret (Ej.bare ?_)))
    refine Ej.ret1 rfl rfl rfl ?_
    exact ⟨rfl, rfl⟩
 ·
  refine Cj.seq (Cj.region (J.z (yl_assign rfl rfl) ?_))
  refine J.nil (Ej.seq (Cj.block (Cj.loop (ι := Nat × Gs) (fun y => y.1 ≤ ps.length ∧ y.1 ≤ 60 ∧ (y.1 = 0 ∨ 0 < N) ∧ gOk w0.heap.size 2 ((ps.take y.1).map (modN N)).length (((ps.take y.1).map (modN N)).flatMap twoC) y.2) (fun y => 60 - y.1) (fun y => [(1, .slice p ps.length c), (5, .bool true), (6, i64 (N : Int)), (7, gV ((ps.take y.1).map (modN N)).length y.2), (8, i64 (y.1 : Int))]) (fun y => _) (fun y => gH 56 (((ps.take y.1).map (modN N)).flatMap twoC) y.2) (0, none) ⟨Nat.zero_le _, Nat.zero_le _, .inl rfl, rfl, rfl⟩ ⟨rfl, rfl, rfl, rfl, rfl, trivial⟩ rfl rfl ?_)))
  rintro ⟨i, g⟩ ⟨hi, hi60, hi0, hg⟩
  dsimp only at hi hi60 hi0 hg ⊢
  have hml : ((ps.take i).map (modN N)).length ≤ 60 := by rw [List.length_map, List.length_take]; omega
  refine Cj.seq (Cj.seq (Cj.region (J.z (yl_move rfl rfl) ?_)))
  refine J.z (yl_move rfl rfl) ?_
  refine J.z (yl_lenSlice rfl rfl Tryz.underlying53) ?_
  refine J.z (yl_lss rfl rfl rfl) ?_
  refine J.z (yl_move rfl rfl) ?_
  refine J.split 23 rfl (fun hg25 => ?_) (fun hg25 => ?_)
  ·
   have hg25p := of_decide_eq_true hg25
   refine J.opG 4 23 true _ rfl rfl rfl hg25 (op_yld (yl_move rfl rfl) rfl rfl ?_)
   refine J.opG 4 23 true _ rfl rfl rfl hg25 (op_yld (yl_lss rfl rfl rfl) rfl rfl ?_)
   refine J.z (yl_pick1 rfl rfl hg25 rfl) ?_
   refine J.z (yl_move rfl rfl) ?_
   refine J.split 27 rfl (fun hg26 => ?_) (fun hg26 => ?_)
   ·
    have hg26p := of_decide_eq_true hg26
    refine J.opG 8 27 true _ rfl rfl rfl hg26 (op_yld (yl_move rfl rfl) rfl rfl ?_)
    refine J.opG 8 27 true _ rfl rfl rfl hg26 (op_yld (yl_gtr rfl rfl rfl) rfl rfl ?_)
    refine J.z (yl_pick1 rfl rfl hg26 rfl) ?_
    refine J.nil (Ej.seq (Cj.cond rfl (fun hc27 => ?_) (fun hc27 => ?_)))
    ·
     have hc27p := of_decide_eq_true hc27
     refine Cj.skip (Ej.seq (Cj.seq (Cj.block ?_)))
     have hlt : i < ps.length := by omega
     have hlt2 : i < 60 := by omega
     have hN0 : 0 < N := by omega
     obtain ⟨x, hget⟩ : ∃ x, ps[i]? = some x := ⟨_, List.getElem?_eq_getElem hlt⟩
     obtain ⟨pp, pc, hpe, hpc, hpp⟩ := id hr
     cases hpe
     obtain ⟨pb, po, pcs, pty, pfr, psp, rfl, hpb, hpd⟩ := hpp (ne_nil_of hlt)
     obtain ⟨hx1, hx2⟩ := hps x (List.mem_of_getElem? hget)
     refine Cj.drawSel [] [] 19 (by kernel_rfl) ?_
     have hpb_7 := hpb
     refine JA.fix ⟨HSub.n, CSub.n, (Le.refl _)⟩ (fun fx28 => ?_)
     refine JA.tk 0 rfl fx28 (yl_move rfl rfl) ?_
     refine JA.tk 1 rfl fx28 (yl_move rfl rfl) ?_
     refine JA.tk 2 rfl fx28 (yl_move rfl rfl) ?_
     refine JA.tk 3 rfl fx28 (yl_indexAddr (off' := po + i * 2) rfl rfl rfl Tryz.underlying53 Tryz.sizeOf56 (by omega) (by omega) (by simp)) ?_
     refine JA.tk 4 rfl fx28 (yl_indexArr (off' := po + i * 2) rfl rfl rfl Tryz.underlying56 Tryz.sizeOf3 (by decide) (by decide) (by simp)) ?_
     refine JA.tk 5 rfl fx28 (yl_load rfl rfl Tryz.isAgg3 (Blk.immC hpb_7) (row_fcell twoC_len hpd hget 0 (by decide))) ?_
     refine JA.tk 6 rfl fx28 (yl_move rfl rfl) ?_
     refine JA.tk 8 rfl fx28 (yl_move rfl rfl) ?_
     refine JA.tk 9 rfl fx28 (yl_move rfl rfl) ?_
     refine JA.tk 10 rfl fx28 (yl_indexAddr (off' := po + i * 2) rfl rfl rfl Tryz.underlying53 Tryz.sizeOf56 (by omega) (by omega) (by simp)) ?_
     refine JA.tk 11 rfl fx28 (yl_indexArr (off' := po + i * 2 + 1) rfl rfl rfl Tryz.underlying56 Tryz.sizeOf3 (by decide) (by decide) (by simp)) ?_
     refine JA.tk 12 rfl fx28 (yl_load rfl rfl Tryz.isAgg3 (Blk.immC hpb_7) (row_fcell twoC_len hpd hget 1 (by decide))) ?_
     refine JA.tk 13 rfl fx28 (yl_move rfl rfl) ?_
     refine JA.step 7 (by kernel_rfl) rfl rfl (op_pure rfl rfl rfl rfl rfl (Mod_ok x.1 (N : Int) (by omega) (by omega) _) ?_)
     refine ⟨⟨(Le.refl _), HSub.n, CSub.n⟩, ?_⟩
     refine JA.step 14 (by kernel_rfl) rfl rfl (op_pure rfl rfl rfl rfl rfl (Mod_ok x.2 (N : Int) (by omega) (by omega) _) ?_)
     refine ⟨⟨(Le.refl _), HSub.n, CSub.n⟩, ?_⟩
     refine JA.fix ⟨HSub.n, CSub.n, (Le.refl _)⟩ (fun fx29 => ?_)
     refine JA.tk 15 rfl fx29 (yl_buildA (zs := [(.int .i64 0), (.int .i64 0)]) rfl rfl Tryz.zeroValue56 rfl Tryz.underlying56 Tryz.sizeOf3 rfl) ?_
     refine JA.step 16 (by kernel_rfl) rfl rfl (op_buildSlice rfl rfl rfl Tryz.underlying53 Tryz.sizeOf56 Tryz.zeroValue56 rfl rfl rfl rfl (LCat.agg rfl LCat.none) ?_)
     intro b30 hb30
     refine ⟨⟨(Le.refl _), HSub.n, CSub.n⟩, ?_⟩
     refine JA.step 17 (by kernel_rfl) rfl rfl (op_append (by' := 15) [_] rfl rfl rfl rfl rfl Tryz.underlying53 (.inr ⟨_, Tryz.underlying53⟩) (by kernel_rfl) Tryz.sizeOf56 Tryz.zeroValue56 rfl hg rfl (Src.slice (Blk.at 0 rfl) rfl rfl rfl) (by omega) ?_)
     intro g31 hg31
     refine ⟨⟨(Le.refl _), HSub.n, CSub.n⟩, ?_⟩
     refine JA.fix ⟨HSub.n, CSub.n, (Le.refl _)⟩ (fun fx32 => ?_)
     refine JA.tk 18 rfl fx32 (yl_assign rfl rfl) ?_
     refine JA.done (by kernel_rfl) ?_
     refine Ej.blkNormal (Ej.seq (Cj.region (J.z (yl_move rfl rfl) ?_)))
     refine J.z (yl_add rfl rfl rfl (w64 (by omega))) ?_
     refine J.z (yl_assign rfl rfl) ?_
     refine J.nil (Ej.keep (Keeps.d Keeps.r) ?_)
     refine Ej.round (i + 1, g31) ⟨by dsimp only; omega, by dsimp only; omega, .inr hN0, by dsimp only; rw [modN_next N hget, List.length_append, List.flatMap_append]; exact hg31⟩ (by dsimp only; omega) ⟨rfl, rfl, rfl, by dsimp only; rw [modN_next N hget]; exact congrArg (fun n => some (gV n g31)) (len_one _ _).symm, rfl, trivial⟩ rfl (by dsimp only; rw [modN_next N hget, List.flatMap_append]; rfl)
    ·
     have hc27p := of_decide_eq_false hc27
     refine Cj.exit (Ej.seqExit (Ej.loopExit (Ej.blkExit ?_)))
     exact hcut (i, g) _ _ _ ⟨hi, hi60, hi0, hg⟩ ⟨rfl, rfl, rfl, trivial⟩ rfl rfl
   ·
    have hg26p := of_decide_eq_false hg26
    refine J.skip 8 27 28 true _ rfl rfl rfl hg26 rfl rfl ?_
    refine J.skip 8 27 29 true _ rfl rfl rfl hg26 rfl rfl ?_
    refine J.z (yl_pick0 rfl rfl hg26 rfl) ?_
    refine J.nil (Ej.seq (Cj.cond rfl (fun hc33 => Bool.noConfusion (Eq.trans (Eq.symm rfl) hc33)) (fun hc33 => ?_)))
    refine Cj.exit (Ej.seqExit (Ej.loopExit (Ej.blkExit ?_)))
    exact hcut (i, g) _ _ _ ⟨hi, hi60, hi0, hg⟩ ⟨rfl, rfl, rfl, trivial⟩ rfl rfl
  ·
   have hg25p := of_decide_eq_false hg25
   refine J.skip 4 23 24 true _ rfl rfl rfl hg25 rfl rfl ?_
   refine J.skip 4 23 25 true _ rfl rfl rfl hg25 rfl rfl ?_
   refine J.z (yl_pick0 rfl rfl hg25 rfl) ?_
   refine J.z (yl_move rfl rfl) ?_
   refine J.skip 8 27 28 true _ rfl rfl rfl rfl rfl rfl ?_
   refine J.skip 8 27 29 true _ rfl rfl rfl rfl rfl rfl ?_
   refine J.z (yl_pick0 rfl rfl rfl rfl) ?_
   refine J.nil (Ej.seq (Cj.cond rfl (fun hc34 => Bool.noConfusion (Eq.trans (Eq.symm rfl) hc34)) (fun hc34 => ?_)))
   refine Cj.exit (Ej.seqExit (Ej.loopExit (Ej.blkExit ?_)))
   exact hcut (i, g) _ _ _ ⟨hi, hi60, hi0, hg⟩ ⟨rfl, rfl, rfl, trivial⟩ rfl rfl
end Go.Proofs.YtadnofaleepkmaaGreatDoor
