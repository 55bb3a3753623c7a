/-
  The law MatchChosen. Own text, printed by a program. Conditions: none.
-/
import Derived.Test.YtadnofaleepkmaaGreatDoorPA11
import Derived.Test.YtadnofaleepkmaaGreatDoorPA12
import Derived.Test.YtadnofaleepkmaaGreatDoorPrLA
namespace Go.Proofs.YtadnofaleepkmaaGreatDoor
open Go Go.Sx
theorem pto_pre (rs : List Rc) {a : Nat} : ∀ {m : Nat}, a ≤ m → ∃ t, pto rs m = pto rs a ++ t
  | 0, h => ⟨[], by rw [show a = 0 by omega, List.append_nil]⟩
  | m + 1, h => by
    rcases Nat.lt_or_ge m a with g | g
    · exact ⟨[], by rw [show a = m + 1 by omega, List.append_nil]⟩
    · obtain ⟨t, ht⟩ := pto_pre rs (m := m) g
      exact ⟨t ++ prow rs m rs.length, by rw [pto_next, ht, List.append_assoc]⟩
theorem prow_pre (rs : List Rc) {a b : Nat} (hab : a < b) : ∀ {m : Nat}, b ≤ m → ∃ t, prow rs a m = prow rs a b ++ t
  | 0, h => by omega
  | m + 1, h => by
    rcases Nat.lt_or_ge m b with g | g
    · exact ⟨[], by rw [show b = m + 1 by omega, List.append_nil]⟩
    · obtain ⟨t, ht⟩ := prow_pre rs hab (m := m) g
      rw [prow_next rs (by omega), ht]
      exact ⟨_, List.append_assoc _ _ _⟩
theorem pairs_at (rs : List Rc) {a b : Nat} (hab : a < b) (hb : b < rs.length) (hc : (Ke.common (ksOf rs a) (ksOf rs b) && smOf rs a b) = true) : (pairsN rs)[(pto rs a ++ prow rs a b).length]? = some (a, b) := by
  obtain ⟨t, ht⟩ := pto_pre rs (a := a + 1) (m := rs.length) (by omega)
  obtain ⟨u, hu⟩ := prow_pre rs (a := a) (b := b + 1) (by omega) (m := rs.length) (by omega)
  rw [← pto_all, ht, pto_next, hu, prow_next rs hab, if_pos hc]
  simp only [← List.append_assoc]
  rw [List.append_assoc (pto rs a ++ prow rs a b ++ [(a, b)]), List.getElem?_append_left (by simp), List.getElem?_append_right (Nat.le_refl _), Nat.sub_self]; rfl
theorem any_next {α : Type} {l : List α} {k : Nat} {x : α} (f : α → Bool) (h : l[k]? = some x) : (l.take (k + 1)).any f = ((l.take k).any f || f x) := by
  obtain ⟨hlt, hg⟩ := List.getElem?_eq_some_iff.1 h
  rw [List.take_succ_eq_append_getElem hlt, hg, List.any_append]; simp
set_option maxRecDepth 20000 in
set_option maxHeartbeats 1000000 in
theorem MatchChosen_ok (qs : List Ke.Six) (hqs : ∀ q ∈ qs, SixOk q) (v : Value) (I : Heap) (hQ : RowS sixC I qs v) : Pure Tryz.prog 8 [v] I (.bool true) := by
 refine Ctr.toPure ?_
 refine Ctr.of_body Tryz.func8 rfl (by decide) (Nat.le_of_ble_eq_true rfl) ?_
 intro w0 hw0
 refine Cj.seq (Cj.region (J.z (yl_assign rfl rfl) ?_))
 refine J.nil (Ej.seq (Cj.seq (Cj.region (J.op rfl (op_pure rfl rfl rfl rfl rfl (sanity_ok _) ?_)))))
 refine J.z (yl_assign rfl rfl) ?_
 refine J.nil (Ej.seq (Cj.seq (Cj.region (J.z (yl_move rfl rfl) ?_))))
 refine J.op rfl (op_call (H1 := []) rfl rfl rfl rfl rfl (records_ok qs hqs _ _ hQ) ?_ (fun _ _ _ _ h => by obtain ⟨_, _, h, _⟩ := h; cases h) (fun _ _ h => by obtain ⟨_, _, h, _⟩ := h; cases h))
 intro v1 I2 H3 hle4 hp5
 have hQ := hQ.mono hle4
 obtain ⟨rs, w, h, hrs, h25, hok, rfl⟩ := hp5; cases h
 refine J.z (yl_assign rfl rfl) ?_
 refine J.nil (Ej.seq (Cj.seq (Cj.region (J.z (yl_move rfl rfl) ?_))))
 refine J.op rfl (op_call (H1 := []) rfl rfl rfl rfl rfl (Pairs_ok rs (by omega) hok _ _ hrs) ?_ (fun _ _ _ _ h => by obtain ⟨_, h, _⟩ := h; cases h) (fun _ _ h => by obtain ⟨_, h, _⟩ := h; cases h))
 intro v6 I7 H8 hle9 hp10
 have hQ := hQ.mono hle9
 have hrs := hrs.mono hle9
 obtain ⟨vhp1, h, hp1, rfl⟩ := hp10; cases h
 refine J.z (yl_assign rfl rfl) ?_
 refine J.nil (Ej.seq (Cj.seq ?_))
 obtain ⟨p, c, rfl, hc, -⟩ := id hrs.1
 obtain ⟨p2, c2, rfl, hc2, -⟩ := id hp1
 have hptl := pto_len rs rs.length
 have hpsz := pairs_len0 rs (by omega)
 refine Cj.region (J.z (yl_assign rfl rfl) ?_)
 refine J.nil (Ej.seq (Cj.seq (Cj.seq (Cj.region (J.z (yl_assign rfl rfl) ?_)))))
 refine J.nil (Ej.seq (Cj.block (Cj.loop (ι := Nat × Heap) (fun y => y.1 ≤ rs.length ∧ RecsS y.2 rs (.slice p rs.length c) ∧ RowS twoN y.2 (pairsN rs) (.slice p2 (pairsN rs).length c2)) (fun y => rs.length - y.1) (fun y => [(3, .bool true), (4, .slice p rs.length c), (5, .slice p2 (pairsN rs).length c2), (6, i64 ((pto rs y.1).length : Int)), (7, i64 (y.1 : Int))]) (fun y => y.2) (fun y => []) (0, _) ⟨Nat.zero_le _, hrs, hp1⟩ ⟨rfl, rfl, rfl, rfl, rfl, trivial⟩ rfl rfl ?_)))
 rintro ⟨a, Ja⟩ ⟨ha, hrs, hps⟩
 dsimp only at ha hrs hps ⊢
 refine Cj.seq (Cj.seq (Cj.region (J.z (yl_move rfl rfl) ?_)))
 refine J.z (yl_move rfl rfl) ?_
 refine J.z (yl_lenSlice rfl rfl Tryz.underlying50) ?_
 refine J.z (yl_lss rfl rfl rfl) ?_
 refine J.nil (Ej.seq (Cj.cond rfl (fun hc11 => ?_) (fun hc11 => ?_)))
 ·
  have hc11p := of_decide_eq_true hc11
  refine Cj.skip (Ej.seq (Cj.seq (Cj.block (Cj.seq (Cj.region (J.z (yl_move rfl rfl) ?_))))))
  refine J.z (yl_add rfl rfl rfl (w64 (by omega))) ?_
  refine J.z (yl_assign rfl rfl) ?_
  refine J.nil (Ej.seq (Cj.block (Cj.loop (ι := Nat × Heap) (fun y => a < y.1 ∧ y.1 ≤ rs.length ∧ RecsS y.2 rs (.slice p rs.length c) ∧ RowS twoN y.2 (pairsN rs) (.slice p2 (pairsN rs).length c2)) (fun y => rs.length - y.1) (fun y => [(3, .bool true), (4, .slice p rs.length c), (5, .slice p2 (pairsN rs).length c2), (6, i64 ((pto rs a ++ prow rs a y.1).length : Int)), (7, i64 (a : Int)), (8, i64 (y.1 : Int))]) (fun y => y.2) (fun y => []) (a + 1, _) ⟨Nat.lt_succ_self a, by dsimp only; omega, hrs, hps⟩ ⟨rfl, rfl, rfl, by dsimp only; rw [prow_start, List.append_nil]; rfl, rfl, rfl, trivial⟩ rfl rfl ?_)))
  rintro ⟨b, Jb⟩ ⟨hab, hb, hrs, hps⟩
  dsimp only at hab hb hrs hps ⊢
  refine Cj.seq (Cj.seq (Cj.region (J.z (yl_move rfl rfl) ?_)))
  refine J.z (yl_move rfl rfl) ?_
  refine J.z (yl_lenSlice rfl rfl Tryz.underlying50) ?_
  refine J.z (yl_lss rfl rfl rfl) ?_
  refine J.nil (Ej.seq (Cj.cond rfl (fun hc12 => ?_) (fun hc12 => ?_)))
  ·
   have hc12p := of_decide_eq_true hc12
   have hlt : b < rs.length := by omega
   have hltA : a < rs.length := by omega
   obtain ⟨rA, hgetA⟩ : ∃ r, rs[a]? = some r := ⟨_, List.getElem?_eq_getElem hltA⟩
   have hrmA := List.mem_of_getElem? hgetA
   have hrDA := getD_of hgetA
   have hRA := hrs.2 rA hrmA
   obtain ⟨hok1A, hok2A⟩ := hok rA hrmA
   have hltB : b < rs.length := by omega
   obtain ⟨rB, hgetB⟩ : ∃ r, rs[b]? = some r := ⟨_, List.getElem?_eq_getElem hltB⟩
   have hrmB := List.mem_of_getElem? hgetB
   have hrDB := getD_of hgetB
   have hRB := hrs.2 rB hrmB
   obtain ⟨hok1B, hok2B⟩ := hok rB hrmB
   obtain ⟨⟨pp, pc, hpe, hpc, hpp⟩, -⟩ := id hrs
   cases hpe
   obtain ⟨pb, po, pcs, pty, pfr, psp, rfl, hpb, hpd⟩ := hpp (ne_nil_of hlt)
   refine Cj.skip (Ej.seq (Cj.seq (Cj.block (Cj.seq (Cj.region (J.z (yl_move rfl rfl) ?_))))))
   refine J.z (yl_move rfl rfl) ?_
   refine J.z (yl_indexAddr (off' := po + a * 3) rfl rfl rfl Tryz.underlying50 Tryz.sizeOf26 (by omega) (by omega) (by simp)) ?_
   refine J.z (yl_loadAgg rfl rfl Tryz.isAgg26 Tryz.sizeOf26 (Blk.imm hpb) (row_from rcC_len hpd hgetA) rfl) ?_
   refine J.op rfl (op_call (H1 := []) rfl rfl rfl rfl rfl (All_ok rA.fs _ rA.k rA.l hok1A _ hRA) ?_ (fun _ _ _ _ h => by obtain ⟨_, h, _⟩ := h; cases h) (fun _ _ h => by obtain ⟨_, h, _⟩ := h; cases h))
   intro v13 I14 H15 hle16 hp17
   have hrs := hrs.mono hle16
   have hps := hps.mono hle16
   have hpb := hle16 _ _ hpb
   have hRA := hRA.mono hle16
   have hRB := hRB.mono hle16
   obtain ⟨vka, h, ka, rfl⟩ := hp17; cases h
   obtain ⟨pka, cka, rfl⟩ := StrS_sl ka
   have lka := all_len hok1A
   refine J.z (yl_assign rfl rfl) ?_
   refine J.nil (Ej.seq (Cj.seq (Cj.region (J.z (yl_move rfl rfl) ?_))))
   refine J.z (yl_move rfl rfl) ?_
   refine J.z (yl_indexAddr (off' := po + b * 3) rfl rfl rfl Tryz.underlying50 Tryz.sizeOf26 (by omega) (by omega) (by simp)) ?_
   refine J.z (yl_loadAgg rfl rfl Tryz.isAgg26 Tryz.sizeOf26 (Blk.imm hpb) (row_from rcC_len hpd hgetB) rfl) ?_
   refine J.op rfl (op_call (H1 := []) rfl rfl rfl rfl rfl (All_ok rB.fs _ rB.k rB.l hok1B _ hRB) ?_ (fun _ _ _ _ h => by obtain ⟨_, h, _⟩ := h; cases h) (fun _ _ h => by obtain ⟨_, h, _⟩ := h; cases h))
   intro v18 I19 H20 hle21 hp22
   have hrs := hrs.mono hle21
   have hps := hps.mono hle21
   have hpb := hle21 _ _ hpb
   have hRA := hRA.mono hle21
   have hRB := hRB.mono hle21
   have ka := ka.mono hle21
   obtain ⟨vkb, h, kb, rfl⟩ := hp22; cases h
   obtain ⟨pkb, ckb, rfl⟩ := StrS_sl kb
   have lkb := all_len hok1B
   refine J.z (yl_assign rfl rfl) ?_
   refine J.nil (Ej.seq (Cj.seq (Cj.region (J.z (yl_assign rfl rfl) ?_))))
   refine J.nil (Ej.seq (Cj.seq (Cj.seq (Cj.region (J.z (yl_assign rfl rfl) ?_)))))
   refine J.nil (Ej.seq (Cj.block (Cj.loop (ι := Nat × Bool) (fun y => y.1 ≤ (Ke.all rA.fs).length ∧ y.2 = (((Ke.all rA.fs).take y.1).any fun k => (Ke.all rB.fs).contains k)) (fun y => (Ke.all rA.fs).length - y.1) (fun y => [(3, .bool true), (4, .slice (some ⟨pb, po, none⟩) rs.length c), (5, .slice p2 (pairsN rs).length c2), (6, i64 ((pto rs a ++ prow rs a b).length : Int)), (7, i64 (a : Int)), (8, i64 (b : Int)), (9, _), (10, _), (11, .bool y.2), (12, i64 (y.1 : Int))]) (fun y => _) (fun y => []) (0, false) ⟨Nat.zero_le _, rfl⟩ ⟨rfl, rfl, rfl, rfl, rfl, rfl, rfl, rfl, rfl, rfl, trivial⟩ rfl rfl ?_)))
   rintro ⟨x, sh⟩ ⟨hx, hsh⟩
   dsimp only at hx hsh ⊢
   refine Cj.seq (Cj.seq (Cj.region (J.z (yl_move rfl rfl) ?_)))
   refine J.z (yl_move rfl rfl) ?_
   refine J.z (yl_lenSlice rfl rfl Tryz.underlying31) ?_
   refine J.z (yl_lss rfl rfl rfl) ?_
   refine J.nil (Ej.seq (Cj.cond rfl (fun hc23 => ?_) (fun hc23 => ?_)))
   ·
    have hc23p := of_decide_eq_true hc23
    have hxlt : x < (Ke.all rA.fs).length := by omega
    obtain ⟨kx, hxget⟩ : ∃ k, (Ke.all rA.fs)[x]? = some k := ⟨_, List.getElem?_eq_getElem hxlt⟩
    obtain ⟨kab, kac, kas, hkae, hkab⟩ := ka.some (ne_nil_of hxlt)
    cases hkae
    refine Cj.skip (Ej.seq (Cj.seq (Cj.block (Cj.seq (Cj.region (J.z (yl_assign rfl rfl) ?_))))))
    refine J.nil (Ej.seq (Cj.block (Cj.loop (ι := Nat × Bool) (fun y => y.1 ≤ (Ke.all rB.fs).length ∧ y.2 = ((((Ke.all rA.fs).take x).any fun k => (Ke.all rB.fs).contains k) || ((Ke.all rB.fs).take y.1).any fun k => kx == k)) (fun y => (Ke.all rB.fs).length - y.1) (fun y => [(3, .bool true), (4, .slice (some ⟨pb, po, none⟩) rs.length c), (5, .slice p2 (pairsN rs).length c2), (6, i64 ((pto rs a ++ prow rs a b).length : Int)), (7, i64 (a : Int)), (8, i64 (b : Int)), (9, _), (10, _), (11, .bool y.2), (12, i64 (x : Int)), (13, i64 (y.1 : Int))]) (fun y => _) (fun y => []) (0, sh) ⟨Nat.zero_le _, by dsimp only; rw [hsh, List.take_zero, List.any_nil, Bool.or_false]⟩ ⟨rfl, rfl, rfl, rfl, rfl, rfl, rfl, rfl, rfl, rfl, rfl, trivial⟩ rfl rfl ?_)))
    rintro ⟨z, sh2⟩ ⟨hz, hsh2⟩
    dsimp only at hz hsh2 ⊢
    refine Cj.seq (Cj.seq (Cj.region (J.z (yl_move rfl rfl) ?_)))
    refine J.z (yl_move rfl rfl) ?_
    refine J.z (yl_lenSlice rfl rfl Tryz.underlying31) ?_
    refine J.z (yl_lss rfl rfl rfl) ?_
    refine J.nil (Ej.seq (Cj.cond rfl (fun hc24 => ?_) (fun hc24 => ?_)))
    ·
     have hc24p := of_decide_eq_true hc24
     have hzlt : z < (Ke.all rB.fs).length := by omega
     obtain ⟨ky, hyget⟩ : ∃ k, (Ke.all rB.fs)[z]? = some k := ⟨_, List.getElem?_eq_getElem hzlt⟩
     obtain ⟨kbb, kbc, kbs, hkbe, hkbb⟩ := kb.some (ne_nil_of hzlt)
     cases hkbe
     refine Cj.skip (Ej.seq (Cj.seq (Cj.block (Cj.drawSel [] [] 13 (by kernel_rfl) ?_))))
     refine JA.fix ⟨HSub.n, CSub.n, (Le.refl _)⟩ (fun fx25 => ?_)
     refine JA.tk 0 rfl fx25 (yl_move rfl rfl) ?_
     refine JA.tk 1 rfl fx25 (yl_move rfl rfl) ?_
     refine JA.split 56 rfl (fun hg26 => ?_) (fun hg26 => ?_)
     ·
      have hg56 := hg26
      refine JA.tkS 2 1 56 false _ rfl fx25 rfl rfl (.inl (congrArg Value.bool hg26)) ?_
      refine JA.tkS 3 1 56 false _ rfl fx25 rfl rfl (.inl (congrArg Value.bool hg26)) ?_
      refine JA.tkS 4 1 56 false _ rfl fx25 rfl rfl (.inl (congrArg Value.bool hg26)) ?_
      refine JA.tkS 5 1 56 false _ rfl fx25 rfl rfl (.inl (congrArg Value.bool hg26)) ?_
      refine JA.tkS 6 1 56 false _ rfl fx25 rfl rfl (.inl (congrArg Value.bool hg26)) ?_
      refine JA.tkS 7 1 56 false _ rfl fx25 rfl rfl (.inl (congrArg Value.bool hg26)) ?_
      refine JA.tkS 8 1 56 false _ rfl fx25 rfl rfl (.inl (congrArg Value.bool hg26)) ?_
      refine JA.tkS 9 1 56 false _ rfl fx25 rfl rfl (.inl (congrArg Value.bool hg26)) ?_
      refine JA.tkS 10 1 56 false _ rfl fx25 rfl rfl (.inl (congrArg Value.bool hg26)) ?_
      refine JA.tk 11 rfl fx25 (yl_pick1 rfl rfl hg26 rfl) ?_
      refine JA.tk 12 rfl fx25 (yl_assign rfl rfl) ?_
      refine JA.done (by kernel_rfl) ?_
      refine Ej.blkNormal (Ej.seq (Cj.region (J.z (yl_move rfl rfl) ?_)))
      refine J.z (yl_add rfl rfl rfl (w64 (by omega))) ?_
      refine J.z (yl_assign rfl rfl) ?_
      refine J.nil (Ej.round (z + 1, true) ⟨by dsimp only; omega, by dsimp only; rw [any_next _ hyget, ← Bool.or_assoc, ← hsh2, hg56, Bool.true_or]⟩ (by dsimp only; omega) ⟨rfl, rfl, rfl, rfl, rfl, rfl, rfl, rfl, rfl, rfl, rfl, trivial⟩ rfl rfl)
     ·
      have hg56 := hg26
      refine JA.tkG 2 1 56 false _ rfl fx25 rfl rfl hg26 (yl_move rfl rfl) ?_
      refine JA.tkG 3 1 56 false _ rfl fx25 rfl rfl hg26 (yl_move rfl rfl) ?_
      refine JA.tkG 4 1 56 false _ rfl fx25 rfl rfl hg26 (yl_indexAddr (off' := x) rfl rfl rfl Tryz.underlying31 Tryz.sizeOf9 (by omega) (by omega) (by simp)) ?_
      refine JA.tkG 5 1 56 false _ rfl fx25 rfl rfl hg26 (yl_load rfl rfl Tryz.isAgg9 (Blk.immC hkab) (str_get hxget)) ?_
      refine JA.tkG 6 1 56 false _ rfl fx25 rfl rfl hg26 (yl_move rfl rfl) ?_
      refine JA.tkG 7 1 56 false _ rfl fx25 rfl rfl hg26 (yl_move rfl rfl) ?_
      refine JA.tkG 8 1 56 false _ rfl fx25 rfl rfl hg26 (yl_indexAddr (off' := z) rfl rfl rfl Tryz.underlying31 Tryz.sizeOf9 (by omega) (by omega) (by simp)) ?_
      refine JA.tkG 9 1 56 false _ rfl fx25 rfl rfl hg26 (yl_load rfl rfl Tryz.isAgg9 (Blk.immC hkbb) (str_get hyget)) ?_
      refine JA.tkG 10 1 56 false _ rfl fx25 rfl rfl hg26 (yl_eqlStr rfl rfl rfl) ?_
      refine JA.tk 11 rfl fx25 (yl_pick0 rfl rfl hg26 rfl) ?_
      refine JA.tk 12 rfl fx25 (yl_assign rfl rfl) ?_
      refine JA.done (by kernel_rfl) ?_
      refine Ej.blkNormal (Ej.seq (Cj.region (J.z (yl_move rfl rfl) ?_)))
      refine J.z (yl_add rfl rfl rfl (w64 (by omega))) ?_
      refine J.z (yl_assign rfl rfl) ?_
      refine J.nil (Ej.round (z + 1, kx == ky) ⟨by dsimp only; omega, by dsimp only; rw [any_next _ hyget, ← Bool.or_assoc, ← hsh2, hg56, Bool.false_or]⟩ (by dsimp only; omega) ⟨rfl, rfl, rfl, rfl, rfl, rfl, rfl, rfl, rfl, rfl, rfl, trivial⟩ rfl rfl)
    ·
     have hc24p := of_decide_eq_false hc24
     rw [show (Ke.all rB.fs).take z = (Ke.all rB.fs) from List.take_of_length_le (by omega)] at hsh2
     refine Cj.exit (Ej.seqExit (Ej.loopExit (Ej.blkExit (Ej.blkNormal (Ej.seq (Cj.region (J.z (yl_move rfl rfl) ?_)))))))
     refine J.z (yl_add rfl rfl rfl (w64 (by omega))) ?_
     refine J.z (yl_assign rfl rfl) ?_
     refine J.nil (Ej.round (x + 1, sh2) ⟨by dsimp only; omega, by dsimp only; rw [hsh2, any_next _ hxget, contains_any]⟩ (by dsimp only; omega) ⟨rfl, rfl, rfl, rfl, rfl, rfl, rfl, rfl, rfl, rfl, trivial⟩ rfl rfl)
   ·
    have hc23p := of_decide_eq_false hc23
    have hshC : sh = Ke.common (ksOf rs a) (ksOf rs b) := by rw [hsh, List.take_of_length_le (by omega)]; unfold ksOf; rw [hrDA, hrDB]; rfl
    have hsmE : decide (Ke.pts (Ke.feat rA.k rA.fs) (Ke.feat rB.k rB.fs) ≥ 40) = smOf rs a b := by unfold smOf ftOf; rw [hrDA, hrDB]
    refine Cj.exit (Ej.seqExit (Ej.loopExit (Ej.blkExit (Ej.seq (Cj.seq (Cj.seq (Cj.drawSel [] [] 14 (by kernel_rfl) ?_)))))))
    have hpb_21 := hpb
    refine JA.fix ⟨HSub.n, CSub.n, (Le.refl _)⟩ (fun fx27 => ?_)
    refine JA.tk 0 rfl fx27 (yl_move rfl rfl) ?_
    refine JA.tk 1 rfl fx27 (yl_not rfl rfl) ?_
    refine JA.tk 2 rfl fx27 (yl_move rfl rfl) ?_
    refine JA.split 69 rfl (fun hg28 => ?_) (fun hg28 => ?_)
    ·
     have hcc : ¬ (Ke.common (ksOf rs a) (ksOf rs b) && smOf rs a b) = true := by have h := hg28; rw [Bool.not_eq_true'] at h; rw [← hshC, h]; simp
     refine JA.tkS 3 2 69 false _ rfl fx27 rfl rfl (.inl (congrArg Value.bool hg28)) ?_
     refine JA.tkS 4 2 69 false _ rfl fx27 rfl rfl (.inl (congrArg Value.bool hg28)) ?_
     refine JA.tkS 5 2 69 false _ rfl fx27 rfl rfl (.inl (congrArg Value.bool hg28)) ?_
     refine JA.tkS 6 2 69 false _ rfl fx27 rfl rfl (.inl (congrArg Value.bool hg28)) ?_
     refine JA.tkS 7 2 69 false _ rfl fx27 rfl rfl (.inl (congrArg Value.bool hg28)) ?_
     refine JA.tkS 8 2 69 false _ rfl fx27 rfl rfl (.inl (congrArg Value.bool hg28)) ?_
     refine JA.tkS 9 2 69 false _ rfl fx27 rfl rfl (.inl (congrArg Value.bool hg28)) ?_
     refine JA.tkS 10 2 69 false _ rfl fx27 rfl rfl (.inl (congrArg Value.bool hg28)) ?_
     refine JA.tkS 11 2 69 false _ rfl fx27 rfl rfl (.inl (congrArg Value.bool hg28)) ?_
     refine JA.tkS 12 2 69 false _ rfl fx27 rfl rfl (.inl (congrArg Value.bool hg28)) ?_
     refine JA.tk 13 rfl fx27 (yl_pick1 rfl rfl hg28 rfl) ?_
     refine JA.done (by kernel_rfl) ?_
     refine Ej.seq (Cj.cond rfl (fun hc29 => ?_) (fun hc29 => Bool.noConfusion (Eq.trans (Eq.symm rfl) hc29)))
     refine Cj.exit (Ej.seqExit (Ej.blkExit (Ej.seq (Cj.region (J.z (yl_move rfl rfl) ?_)))))
     refine J.z (yl_add rfl rfl rfl (w64 (by omega))) ?_
     refine J.z (yl_assign rfl rfl) ?_
     refine J.nil (Ej.round (b + 1, _) ⟨by dsimp only; omega, by dsimp only; omega, hrs, hps⟩ (by dsimp only; omega) ⟨rfl, rfl, rfl, by dsimp only; rw [prow_next rs hab, if_neg hcc, List.append_nil]; rfl, rfl, rfl, trivial⟩ rfl rfl)
    ·
     have hsT : Ke.common (ksOf rs a) (ksOf rs b) = true := by have h := hg28; rw [Bool.not_eq_false'] at h; rw [← hshC]; exact h
     refine JA.tkG 3 2 69 false _ rfl fx27 rfl rfl hg28 (yl_move rfl rfl) ?_
     refine JA.tkG 4 2 69 false _ rfl fx27 rfl rfl hg28 (yl_move rfl rfl) ?_
     refine JA.tkG 5 2 69 false _ rfl fx27 rfl rfl hg28 (yl_indexAddr (off' := po + a * 3) rfl rfl rfl Tryz.underlying50 Tryz.sizeOf26 (by omega) (by omega) (by simp)) ?_
     refine JA.tkG 6 2 69 false _ rfl fx27 rfl rfl hg28 (yl_loadAgg rfl rfl Tryz.isAgg26 Tryz.sizeOf26 (Blk.immC hpb_21) (row_from rcC_len hpd hgetA) rfl) ?_
     refine JA.tkG 7 2 69 false _ rfl fx27 rfl rfl hg28 (yl_move rfl rfl) ?_
     refine JA.tkG 8 2 69 false _ rfl fx27 rfl rfl hg28 (yl_move rfl rfl) ?_
     refine JA.tkG 9 2 69 false _ rfl fx27 rfl rfl hg28 (yl_indexAddr (off' := po + b * 3) rfl rfl rfl Tryz.underlying50 Tryz.sizeOf26 (by omega) (by omega) (by simp)) ?_
     refine JA.tkG 10 2 69 false _ rfl fx27 rfl rfl hg28 (yl_loadAgg rfl rfl Tryz.isAgg26 Tryz.sizeOf26 (Blk.immC hpb_21) (row_from rcC_len hpd hgetB) rfl) ?_
     refine JA.stepG 11 2 69 false _ (by kernel_rfl) rfl rfl rfl rfl hg28 (op_pure rfl rfl rfl rfl rfl (Same_ok rA.fs rB.fs _ _ rA.k rA.l rB.k rB.l hok1A hok1B hok2A hok2B _ hRA hRB) ?_)
     refine ⟨⟨(Le.refl _), HSub.n, CSub.n⟩, ?_⟩
     refine JA.eqv 78 rfl (show _ = .bool (smOf rs a b) from (congrArg Value.bool hsmE)) ?_
     refine JA.fix ⟨HSub.n, CSub.n, (Le.refl _)⟩ (fun fx30 => ?_)
     refine JA.tkG 12 2 69 false _ rfl fx30 rfl rfl hg28 (yl_not rfl rfl) ?_
     refine JA.tk 13 rfl fx30 (yl_pick0 rfl rfl hg28 rfl) ?_
     refine JA.done (by kernel_rfl) ?_
     refine Ej.seq (Cj.cond rfl (fun hc31 => ?_) (fun hc31 => ?_))
     ·
      have hcc : ¬ (Ke.common (ksOf rs a) (ksOf rs b) && smOf rs a b) = true := by have h := hc31; rw [Bool.not_eq_true'] at h; rw [h]; simp
      refine Cj.exit (Ej.seqExit (Ej.blkExit (Ej.seq (Cj.region (J.z (yl_move rfl rfl) ?_)))))
      refine J.z (yl_add rfl rfl rfl (w64 (by omega))) ?_
      refine J.z (yl_assign rfl rfl) ?_
      refine J.nil (Ej.round (b + 1, _) ⟨by dsimp only; omega, by dsimp only; omega, hrs, hps⟩ (by dsimp only; omega) ⟨rfl, rfl, rfl, by dsimp only; rw [prow_next rs hab, if_neg hcc, List.append_nil]; rfl, rfl, rfl, trivial⟩ rfl rfl)
     ·
      have hcc : (Ke.common (ksOf rs a) (ksOf rs b) && smOf rs a b) = true := by have h := hc31; rw [Bool.not_eq_false'] at h; rw [hsT, h]; rfl
      refine Cj.skip (Ej.seq (Cj.seq (Cj.seq ?_)))
      have hpa := pairs_at rs hab hlt hcc
      obtain ⟨hpl, -⟩ := List.getElem?_eq_some_iff.1 hpa
      obtain ⟨qp, qc, hqe, hqc, hqq⟩ := id hps
      cases hqe
      obtain ⟨qb, qo, qcs, qty, qfr, qsp, rfl, hqb, hqd⟩ := hqq (ne_nil_of hpl)
      refine Cj.region (J.z (yl_move rfl rfl) ?_)
      refine J.z (yl_move rfl rfl) ?_
      refine J.z (yl_lenSlice rfl rfl Tryz.underlying53) ?_
      refine J.z (yl_geq rfl rfl rfl) ?_
      refine J.z (yl_move rfl rfl) ?_
      refine J.opG 4 85 false _ rfl rfl rfl (decide_eq_false (by omega)) (op_yld (yl_move rfl rfl) rfl rfl ?_)
      refine J.opG 4 85 false _ rfl rfl rfl (decide_eq_false (by omega)) (op_yld (yl_move rfl rfl) rfl rfl ?_)
      refine J.opG 4 85 false _ rfl rfl rfl (decide_eq_false (by omega)) (op_yld (yl_indexAddr (off' := qo + (pto rs a ++ prow rs a b).length * 2) rfl rfl rfl Tryz.underlying53 Tryz.sizeOf56 (by omega) (by omega) (by rw [Int.toNat_natCast])) rfl rfl ?_)
      refine J.opG 4 85 false _ rfl rfl rfl (decide_eq_false (by omega)) (op_yld (yl_loadAgg rfl rfl Tryz.isAgg56 Tryz.sizeOf56 (Blk.imm hqb) (row_from twoN_len hqd hpa) rfl) rfl rfl ?_)
      refine J.opG 4 85 false _ rfl rfl rfl (decide_eq_false (by omega)) (op_yld (yl_move rfl rfl) rfl rfl ?_)
      refine J.opG 4 85 false _ rfl rfl rfl (decide_eq_false (by omega)) (op_yld (yl_move rfl rfl) rfl rfl ?_)
      refine J.opG 4 85 false _ rfl rfl rfl (decide_eq_false (by omega)) (op_yld (yl_buildA (zs := [(.int .i64 0), (.int .i64 0)]) rfl rfl Tryz.zeroValue56 rfl Tryz.underlying56 Tryz.sizeOf3 rfl) rfl rfl ?_)
      refine J.opG 4 85 false _ rfl rfl rfl (decide_eq_false (by omega)) (op_yld (yl_neqA2 (a := cst (a, b)) (b := cst (a, b)) rfl rfl rfl rfl rfl Tryz.underlying56 Tryz.underlying3 (by kernel_rfl) Tryz.isAgg3 (by kernel_rfl)) rfl rfl ?_)
      refine J.z (yl_pick0 rfl rfl (decide_eq_false (by omega)) rfl) ?_
      refine J.nil (Ej.seq (Cj.cond rfl (fun hc32 => Bool.noConfusion (Eq.trans (Eq.symm (bne_self_eq_false _)) hc32)) (fun hc32 => ?_)))
      refine Cj.skip (Ej.seq (Cj.region (J.z (yl_move rfl rfl) ?_)))
      refine J.z (yl_add rfl rfl rfl (w64 (by omega))) ?_
      refine J.z (yl_assign rfl rfl) ?_
      refine J.nil (Ej.blkNormal (Ej.seq (Cj.region (J.z (yl_move rfl rfl) ?_))))
      refine J.z (yl_add rfl rfl rfl (w64 (by omega))) ?_
      refine J.z (yl_assign rfl rfl) ?_
      refine J.nil (Ej.round (b + 1, _) ⟨by dsimp only; omega, by dsimp only; omega, hrs, hps⟩ (by dsimp only; omega) ⟨rfl, rfl, rfl, by dsimp only; rw [prow_next rs hab, if_pos hcc, ← List.append_assoc]; exact congrArg (fun n : Nat => some (i64 (n : Int))) (len_one _ _).symm, rfl, rfl, trivial⟩ rfl rfl)
  ·
   have hc12p := of_decide_eq_false hc12
   have hbn : b = rs.length := by omega
   subst hbn
   refine Cj.exit (Ej.seqExit (Ej.loopExit (Ej.blkExit (Ej.blkNormal (Ej.seq (Cj.region (J.z (yl_move rfl rfl) ?_)))))))
   refine J.z (yl_add rfl rfl rfl (w64 (by omega))) ?_
   refine J.z (yl_assign rfl rfl) ?_
   refine J.nil (Ej.round (a + 1, _) ⟨by dsimp only; omega, hrs, hps⟩ (by dsimp only; omega) ⟨rfl, rfl, rfl, by dsimp only; rw [pto_next]; rfl, rfl, trivial⟩ rfl rfl)
 ·
  have hc11p := of_decide_eq_false hc11
  have han : a = rs.length := by omega
  subst han
  refine Cj.exit (Ej.seqExit (Ej.loopExit (Ej.blkExit (Ej.seq (Cj.seq (Cj.region (J.z (yl_move rfl rfl) ?_)))))))
  refine J.z (yl_move rfl rfl) ?_
  refine J.opG 1 98 true _ rfl rfl rfl rfl (op_yld (yl_move rfl rfl) rfl rfl ?_)
  refine J.opG 1 98 true _ rfl rfl rfl rfl (op_yld (yl_move rfl rfl) rfl rfl ?_)
  refine J.opG 1 98 true _ rfl rfl rfl rfl (op_yld (yl_lenSlice rfl rfl Tryz.underlying53) rfl rfl ?_)
  refine J.opG 1 98 true _ rfl rfl rfl rfl (op_yld (yl_eql rfl rfl rfl) rfl rfl ?_)
  refine J.eqv 102 rfl (show _ = .bool true from (congrArg Value.bool (by rw [pto_all]; exact beq_self_eq_true _))) ?_
  refine J.z (yl_pick1 rfl rfl rfl rfl) ?_
  refine J.z (yl_assign rfl rfl) ?_
  refine J.nil (Ej.seq (Cj.ret (Ej.ret1 rfl rfl rfl ?_)))
  exact ⟨rfl, rfl⟩
end Go.Proofs.YtadnofaleepkmaaGreatDoor
