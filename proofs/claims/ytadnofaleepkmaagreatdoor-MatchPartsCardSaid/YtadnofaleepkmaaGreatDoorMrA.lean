/-
  The reference's Parts. Own text, printed by a program. Conditions: none.
-/
import Derived.Test.YtadnofaleepkmaaGreatDoorPA10
namespace Go.Proofs.YtadnofaleepkmaaGreatDoor
open Go Go.Sx
theorem prt_self {R : Nat → Nat} {k : Nat} (h : ∀ i, i < k → R i ≤ i) : prt R k k = [] := by
  unfold prt
  rw [List.filter_eq_nil_iff]
  intro i hi
  have h1 := List.mem_range.1 hi
  have h2 := h i h1
  simp only [decide_eq_true_eq]; omega
theorem parts_row2 {N : Nat} {V : Kp.Prs} {R : Nat → Nat} (hR : Kp.Lab N V R) (hV : ∀ p ∈ V, p.1 < N ∧ p.2 < N) {I : Heap} {vs : List Value} {w : Value} (hw : RowS valC I vs w) (hl : vs.length = (rts R N).length) (hv : ∀ (k : Nat) (u : Value) (r : Nat), vs[k]? = some u → (rts R N)[k]? = some r → RowS natC I (prt R N r) u) : PartR I ((Kp.parts N (Kp.lb N V)).map fun l => l.map fun x : Nat => (x : Int)) w := by
  rw [Kp.parts_eq (n := N) (L := Kp.lb N V) (M := R) fun i hi => (Kp.lb_lab hV).unique hR hi]
  refine ⟨vs, hw, by rw [hl]; simp [Kp.parts, rts], fun k u x hu hx => ?_⟩
  have hp : Kp.parts N R = (rts R N).map fun i => prt R N i := rfl
  rw [hp, List.map_map, List.getElem?_map] at hx
  cases hk : (rts R N)[k]? with
  | none => rw [hk] at hx; cases hx
  | some i =>
    rw [hk] at hx
    cases hx
    exact RowS.cast (fun _ => rfl) (hv k u i hu hk)
theorem mu_less {P P2 : List Nat} {c c2 : Bool} (hc : c = true) (hs : P2.sum ≤ P.sum) (h2 : c2 = true → P2.sum < P.sum) : 2 * P2.sum + (if c2 = true then 1 else 0) < 2 * P.sum + (if c = true then 1 else 0) := by
  subst hc
  cases c2 with
  | true => have := h2 rfl; simp; omega
  | false => simp; omega
theorem settled_next {P : List Nat} {W : Kp.Prs} {a b : Nat} (h : ∀ q ∈ W, P.getD q.1 0 = P.getD q.2 0) (hab : P.getD a 0 = P.getD b 0) : ∀ q ∈ W ++ [(a, b)], P.getD q.1 0 = P.getD q.2 0 := fun q hq => by
  rcases List.mem_append.1 hq with hq | hq
  · exact h q hq
  · rw [List.mem_singleton.1 hq]; exact hab
theorem vs_next {vs : List Value} {l : List Nat} {P : Nat → Value → Prop} (hl : vs.length = l.length) (hv : ∀ (k : Nat) (u : Value) (r : Nat), vs[k]? = some u → l[k]? = some r → P r u) {x : Value} {y : Nat} (hx : P y x) : ∀ (k : Nat) (u : Value) (r : Nat), (vs ++ [x])[k]? = some u → (l ++ [y])[k]? = some r → P r u := by
  intro k u r h1 h2
  rcases Nat.lt_or_ge k vs.length with h | h
  · rw [List.getElem?_append_left h] at h1
    rw [List.getElem?_append_left (by omega)] at h2
    exact hv k u r h1 h2
  · rw [List.getElem?_append_right h] at h1
    rw [List.getElem?_append_right (by omega)] at h2
    have hk : k - vs.length = 0 := by
      rcases Nat.eq_zero_or_pos (k - vs.length) with g | g
      · exact g
      · rw [List.getElem?_eq_none (by simp; omega)] at h1; cases h1
    rw [hk] at h1
    rw [show k - l.length = 0 by omega] at h2
    cases h1; cases h2
    exact hx
set_option maxRecDepth 20000 in
set_option maxHeartbeats 2000000 in
theorem rParts_ok (n : Int) (hn : n ≤ 100000) (ps : List (Int × Int)) (hps : ps.length ≤ 100000000) (v : Value) (I : Heap) (hr : RowS twoC I ps v) : Ctr Tryz.prog 32 [i64 n, v] I [] (fun e I' H' => ∃ w, e = .returned w ∧ PartR I' (partsI n ps) w ∧ H' = []) := by
 obtain ⟨p, c, rfl, hc, -⟩ := id hr
 unfold partsI
 obtain ⟨N, hN⟩ : ∃ N, N = n.toNat := ⟨_, rfl⟩
 rw [← hN]
 obtain ⟨V, hV⟩ : ∃ V, V = Kp.valid N ps := ⟨_, rfl⟩
 rw [← hV]
 have hVl : ∀ p ∈ V, p.1 < N ∧ p.2 < N := fun p hp => Kp.valid_lt (hV ▸ hp)
 refine Ctr.of_body Tryz.func32 rfl (by decide) (Nat.le_of_ble_eq_true rfl) ?_
 intro w0 hw0
 refine Cj.seq (Cj.region (J.z (yl_assign rfl rfl) ?_))
 refine J.nil (Ej.seq (Cj.seq (Cj.region (J.z (yl_assign rfl rfl) ?_))))
 refine J.nil (Ej.seq (Cj.seq (Cj.region (J.z (yl_move rfl rfl) ?_))))
 refine J.z (yl_max2 rfl rfl rfl) ?_
 refine J.eqv 17 rfl (show _ = i64 (N : Int) from (by rw [hN]; exact congrArg i64 (ntop n))) ?_
 refine J.op rfl (op_makeSlice (n := N) (c := N) (by1 := 8) (z := (.int .i64 0)) rfl rfl rfl rfl rfl Tryz.underlying62 (by kernel_rfl) rfl (by omega) (by omega) (by omega) ?_)
 intro b1 hb1
 refine J.z (yl_assign rfl rfl) ?_
 refine J.nil (Ej.seq (Cj.seq (Cj.seq (Cj.region (J.z (yl_assign rfl rfl) ?_)))))
 refine J.nil (Ej.seq (Cj.block (Cj.loop (ι := Nat) (fun j => j ≤ N) (fun j => N - j) (fun j => [(0, i64 n), (1, .slice p ps.length c), (5, .slice none 0 0), (6, .slice (some ⟨b1, 0, none⟩) N N), (7, i64 (j : Int))]) (fun j => I) (fun j => [(b1, cel 3 ((List.range j).map nat64 ++ List.replicate (N - j) (i64 0)))]) 0 (Nat.zero_le _) ⟨rfl, rfl, rfl, rfl, rfl, trivial⟩ rfl rfl ?_)))
 rintro j hj
 refine Cj.seq (Cj.seq (Cj.region (J.z (yl_move rfl rfl) ?_)))
 refine J.z (yl_move rfl rfl) ?_
 refine J.z (yl_lss rfl rfl rfl) ?_
 refine J.nil (Ej.seq (Cj.cond rfl (fun hc2 => ?_) (fun hc2 => ?_)))
 ·
  have hc2p := of_decide_eq_true hc2
  refine Cj.skip (Ej.seq (Cj.seq (Cj.block (Cj.region (J.z (yl_move rfl rfl) ?_)))))
  refine J.z (yl_move rfl rfl) ?_
  refine J.z (yl_move rfl rfl) ?_
  refine J.z (yl_indexAddr (off' := j) rfl rfl rfl Tryz.underlying62 Tryz.sizeOf3 (by omega) (by omega) (by simp)) ?_
  refine J.op rfl (op_store1 0 rfl rfl rfl rfl rfl rfl Tryz.sizeOf3 rfl (.inl rfl) (by simp; omega) LSet.z ?_)
  refine J.nil (Ej.blkNormal (Ej.seq (Cj.region (J.z (yl_move rfl rfl) ?_))))
  refine J.z (yl_add rfl rfl rfl (w64 (by omega))) ?_
  refine J.z (yl_assign rfl rfl) ?_
  refine J.nil (Ej.round (j + 1) (by omega) (by omega) ⟨rfl, rfl, rfl, rfl, rfl, trivial⟩ rfl (by rw [← fill_next (by omega)]; rfl))
 ·
  have hc2p := of_decide_eq_false hc2
  have hfull : (List.range j).map nat64 ++ List.replicate (N - j) (i64 0) = (List.range N).map nat64 := by rw [show j = N by omega, Nat.sub_self]; simp
  refine Cj.exit (Ej.seqExit (Ej.loopExit (Ej.blkExit (Ej.seq (Cj.seq (Cj.region (J.z (yl_assign rfl rfl) ?_)))))))
  refine J.nil (Ej.seq (Cj.seq (Cj.block (Cj.loop (ι := List Nat × Bool) (fun y => Kp.For N V y.1 ∧ (y.2 = false → ∀ q ∈ V, y.1.getD q.1 0 = y.1.getD q.2 0)) (fun y => 2 * y.1.sum + (if y.2 = true then 1 else 0)) (fun y => [(0, i64 n), (1, .slice p ps.length c), (5, .slice none 0 0), (6, .slice (some ⟨b1, 0, none⟩) N N), (8, .bool y.2)]) (fun y => _) (fun y => [(b1, cel 3 (y.1.map nat64))]) (List.range N, true) ⟨Kp.For.start N V, fun h => by cases h⟩ ⟨rfl, rfl, rfl, rfl, rfl, trivial⟩ rfl (by dsimp only; rw [hfull]) ?_))))
  rintro ⟨P, ch⟩ ⟨hF, hst⟩
  dsimp only at hF hst ⊢
  refine Cj.seq (Cj.seq (Cj.region (J.z (yl_move rfl rfl) ?_)))
  refine J.nil (Ej.seq (Cj.cond rfl (fun hc3 => ?_) (fun hc3 => ?_)))
  ·
   have hch : ch = true := hc3
   refine Cj.skip (Ej.seq (Cj.block (Cj.seq (Cj.region (J.z (yl_assign rfl rfl) ?_)))))
   refine J.nil (Ej.seq (Cj.seq (Cj.region (J.z (yl_assign rfl rfl) ?_))))
   refine J.nil (Ej.seq (Cj.block (Cj.loop (ι := Nat × List Nat × Bool) (fun y => y.1 ≤ ps.length ∧ Kp.For N V y.2.1 ∧ y.2.1.sum ≤ P.sum ∧ (y.2.2 = true → y.2.1.sum < P.sum) ∧ (y.2.2 = false → y.2.1 = P ∧ ∀ q ∈ Kp.valid N (ps.take y.1), P.getD q.1 0 = P.getD q.2 0)) (fun y => ps.length - y.1) (fun y => [(0, i64 n), (1, .slice p ps.length c), (5, .slice none 0 0), (6, .slice (some ⟨b1, 0, none⟩) N N), (8, .bool y.2.2), (9, i64 (y.1 : Int))]) (fun y => _) (fun y => [(b1, cel 3 (y.2.1.map nat64))]) (0, P, false) ⟨Nat.zero_le _, hF, Nat.le_refl _, fun h => (by cases h), fun _ => ⟨rfl, fun q hq => by cases hq⟩⟩ ⟨rfl, rfl, rfl, rfl, rfl, rfl, trivial⟩ rfl rfl ?_)))
   rintro ⟨k, P2, ch2⟩ ⟨hk, hF2, hsm, hc2, hd2⟩
   dsimp only at hk hF2 hsm hc2 hd2 ⊢
   refine Cj.seq (Cj.seq (Cj.region (J.z (yl_move rfl rfl) ?_)))
   refine J.z (yl_move rfl rfl) ?_
   refine J.z (yl_lenSlice rfl rfl Tryz.underlying53) ?_
   refine J.z (yl_lss rfl rfl rfl) ?_
   refine J.nil (Ej.seq (Cj.cond rfl (fun hc4 => ?_) (fun hc4 => ?_)))
   ·
    have hc4p := of_decide_eq_true hc4
    have hlt : k < ps.length := by omega
    obtain ⟨⟨x1, x2⟩, hget⟩ : ∃ x, ps[k]? = some x := ⟨_, List.getElem?_eq_getElem hlt⟩
    obtain ⟨pp, pc, hpe, hpc, hpp⟩ := id hr
    cases hpe
    obtain ⟨pb, po, pcs, pty, pfr, psp, rfl, hpb, hpd⟩ := hpp (ne_nil_of hlt)
    have hvn := valid_next (N := N) hget
    have hpl := hF2.len
    refine Cj.skip (Ej.seq (Cj.seq (Cj.block (Cj.seq (Cj.region (J.z (yl_move rfl rfl) ?_))))))
    refine J.z (yl_move rfl rfl) ?_
    refine J.z (yl_indexAddr (off' := po + k * 2) rfl rfl rfl Tryz.underlying53 Tryz.sizeOf56 (by omega) (by omega) (by simp)) ?_
    refine J.z (yl_indexArr (off' := po + k * 2) rfl rfl rfl Tryz.underlying56 Tryz.sizeOf3 (by decide) (by decide) (by simp)) ?_
    refine J.z (yl_load rfl rfl Tryz.isAgg3 (Blk.imm hpb) (row_fcell twoC_len hpd hget 0 (by decide))) ?_
    refine J.z (yl_assign rfl rfl) ?_
    refine J.nil (Ej.seq (Cj.seq (Cj.region (J.z (yl_move rfl rfl) ?_))))
    refine J.z (yl_move rfl rfl) ?_
    refine J.z (yl_indexAddr (off' := po + k * 2) rfl rfl rfl Tryz.underlying53 Tryz.sizeOf56 (by omega) (by omega) (by simp)) ?_
    refine J.z (yl_indexArr (off' := po + k * 2 + 1) rfl rfl rfl Tryz.underlying56 Tryz.sizeOf3 (by decide) (by decide) (by simp)) ?_
    refine J.z (yl_load rfl rfl Tryz.isAgg3 (Blk.imm hpb) (row_fcell twoC_len hpd hget 1 (by decide))) ?_
    refine J.z (yl_assign rfl rfl) ?_
    refine J.nil (Ej.seq (Cj.seq (Cj.drawSel [0] [] 27 (by kernel_rfl) ?_)))
    refine JA.fix ⟨(HSub.c 0 rfl HSub.n), CSub.n, (Le.refl _)⟩ (fun fx5 => ?_)
    refine JA.tk 0 rfl fx5 (yl_move rfl rfl) ?_
    refine JA.tk 1 rfl fx5 (yl_geq rfl rfl rfl) ?_
    refine JA.tk 2 rfl fx5 (yl_move rfl rfl) ?_
    refine JA.split 47 rfl (fun hg6 => ?_) (fun hg6 => ?_)
    ·
     have hg6p := of_decide_eq_true hg6
     refine JA.tkG 3 2 47 true _ rfl fx5 rfl rfl hg6 (yl_move rfl rfl) ?_
     refine JA.tkG 4 2 47 true _ rfl fx5 rfl rfl hg6 (yl_move rfl rfl) ?_
     refine JA.tkG 5 2 47 true _ rfl fx5 rfl rfl hg6 (yl_lss rfl rfl rfl) ?_
     refine JA.tk 6 rfl fx5 (yl_pick1 rfl rfl hg6 rfl) ?_
     refine JA.tk 7 rfl fx5 (yl_move rfl rfl) ?_
     refine JA.split 52 rfl (fun hg7 => ?_) (fun hg7 => ?_)
     ·
      have hg7p := of_decide_eq_true hg7
      refine JA.tkG 8 7 52 true _ rfl fx5 rfl rfl hg7 (yl_move rfl rfl) ?_
      refine JA.tkG 9 7 52 true _ rfl fx5 rfl rfl hg7 (yl_geq rfl rfl rfl) ?_
      refine JA.tk 10 rfl fx5 (yl_pick1 rfl rfl hg7 rfl) ?_
      refine JA.tk 11 rfl fx5 (yl_move rfl rfl) ?_
      refine JA.split 56 rfl (fun hg8 => ?_) (fun hg8 => ?_)
      ·
       have hg8p := of_decide_eq_true hg8
       refine JA.tkG 12 11 56 true _ rfl fx5 rfl rfl hg8 (yl_move rfl rfl) ?_
       refine JA.tkG 13 11 56 true _ rfl fx5 rfl rfl hg8 (yl_move rfl rfl) ?_
       refine JA.tkG 14 11 56 true _ rfl fx5 rfl rfl hg8 (yl_lss rfl rfl rfl) ?_
       refine JA.tk 15 rfl fx5 (yl_pick1 rfl rfl hg8 rfl) ?_
       refine JA.tk 16 rfl fx5 (yl_move rfl rfl) ?_
       refine JA.split 61 rfl (fun hg9 => ?_) (fun hg9 => ?_)
       ·
        have hg9p := of_decide_eq_true hg9
        obtain ⟨a, ha⟩ : ∃ a : Nat, x1 = (a : Int) := ⟨x1.toNat, by omega⟩
        obtain ⟨b, hb⟩ : ∃ b : Nat, x2 = (b : Int) := ⟨x2.toNat, by omega⟩
        subst ha; subst hb
        have haN : a < N := by omega
        have hbN : b < N := by omega
        dsimp only at hvn
        rw [if_pos (by omega), Int.toNat_natCast, Int.toNat_natCast] at hvn
        have hab : (a, b) ∈ V := by rw [hV]; exact valid_mem (List.mem_of_getElem? hget) haN hbN
        refine JA.tkG 17 16 61 true _ rfl fx5 rfl rfl hg9 (yl_move rfl rfl) ?_
        refine JA.tkG 18 16 61 true _ rfl fx5 rfl rfl hg9 (yl_move rfl rfl) ?_
        refine JA.tkG 19 16 61 true _ rfl fx5 rfl rfl hg9 (yl_indexAddr (off' := a) rfl rfl rfl Tryz.underlying62 Tryz.sizeOf3 (by omega) (by omega) (by simp)) ?_
        refine JA.tkG 20 16 61 true _ rfl fx5 rfl rfl hg9 (yl_load rfl rfl Tryz.isAgg3 (Blk.atC 0 rfl) (nat_get (by omega))) ?_
        refine JA.tkG 21 16 61 true _ rfl fx5 rfl rfl hg9 (yl_move rfl rfl) ?_
        refine JA.tkG 22 16 61 true _ rfl fx5 rfl rfl hg9 (yl_move rfl rfl) ?_
        refine JA.tkG 23 16 61 true _ rfl fx5 rfl rfl hg9 (yl_indexAddr (off' := b) rfl rfl rfl Tryz.underlying62 Tryz.sizeOf3 (by omega) (by omega) (by simp)) ?_
        refine JA.tkG 24 16 61 true _ rfl fx5 rfl rfl hg9 (yl_load rfl rfl Tryz.isAgg3 (Blk.atC 0 rfl) (nat_get (by omega))) ?_
        refine JA.tkG 25 16 61 true _ rfl fx5 rfl rfl hg9 (yl_neq rfl rfl rfl) ?_
        refine JA.tk 26 rfl fx5 (yl_pick1 rfl rfl hg9 rfl) ?_
        refine JA.done (by kernel_rfl) ?_
        refine Ej.seq (Cj.cond rfl (fun hc10 => ?_) (fun hc10 => ?_))
        ·
         have hc10p := bne_iff_ne.1 hc10
         have hne : P2.getD a 0 ≠ P2.getD b 0 := by omega
         have hlless := Kp.label_less (by omega) (by omega) hne
         refine Cj.seq (Cj.drawSel [0] [] 10 (by kernel_rfl) ?_)
         refine JA.fix ⟨(HSub.c 0 rfl HSub.n), CSub.n, (Le.refl _)⟩ (fun fx11 => ?_)
         refine JA.tk 0 rfl fx11 (yl_move rfl rfl) ?_
         refine JA.tk 1 rfl fx11 (yl_move rfl rfl) ?_
         refine JA.tk 2 rfl fx11 (yl_indexAddr (off' := a) rfl rfl rfl Tryz.underlying62 Tryz.sizeOf3 (by omega) (by omega) (by simp)) ?_
         refine JA.tk 3 rfl fx11 (yl_load rfl rfl Tryz.isAgg3 (Blk.atC 0 rfl) (nat_get (by omega))) ?_
         refine JA.tk 4 rfl fx11 (yl_move rfl rfl) ?_
         refine JA.tk 5 rfl fx11 (yl_move rfl rfl) ?_
         refine JA.tk 6 rfl fx11 (yl_indexAddr (off' := b) rfl rfl rfl Tryz.underlying62 Tryz.sizeOf3 (by omega) (by omega) (by simp)) ?_
         refine JA.tk 7 rfl fx11 (yl_load rfl rfl Tryz.isAgg3 (Blk.atC 0 rfl) (nat_get (by omega))) ?_
         refine JA.tk 8 rfl fx11 (yl_min2 rfl rfl rfl) ?_
         refine JA.eqv 80 rfl (show _ = i64 ((min (P2.getD a 0) (P2.getD b 0) : Nat) : Int) from (congrArg i64 (nmin _ _))) ?_
         refine JA.tk 9 rfl fx11 (yl_assign rfl rfl) ?_
         refine JA.done (by kernel_rfl) ?_
         refine Ej.seq (Cj.seq (Cj.region (J.z (yl_move rfl rfl) ?_)))
         refine J.z (yl_move rfl rfl) ?_
         refine J.z (yl_move rfl rfl) ?_
         refine J.z (yl_indexAddr (off' := a) rfl rfl rfl Tryz.underlying62 Tryz.sizeOf3 (by omega) (by omega) (by simp)) ?_
         refine J.op rfl (op_store1 0 rfl rfl rfl rfl rfl rfl Tryz.sizeOf3 rfl (.inl rfl) (by rw [List.length_map]; omega) LSet.z ?_)
         refine J.nil (Ej.seq (Cj.seq (Cj.region (J.z (yl_move rfl rfl) ?_))))
         refine J.z (yl_move rfl rfl) ?_
         refine J.z (yl_move rfl rfl) ?_
         refine J.z (yl_indexAddr (off' := b) rfl rfl rfl Tryz.underlying62 Tryz.sizeOf3 (by omega) (by omega) (by simp)) ?_
         refine J.op rfl (op_store1 0 rfl rfl rfl rfl rfl rfl Tryz.sizeOf3 rfl (.inl rfl) (by rw [List.length_set, List.length_map]; omega) LSet.z ?_)
         refine J.nil (Ej.seq (Cj.region (J.z (yl_assign rfl rfl) ?_)))
         refine J.nil (Ej.blkNormal (Ej.seq (Cj.region (J.z (yl_move rfl rfl) ?_))))
         refine J.z (yl_add rfl rfl rfl (w64 (by omega))) ?_
         refine J.z (yl_assign rfl rfl) ?_
         refine J.nil (Ej.round (k + 1, (P2.set a (min (P2.getD a 0) (P2.getD b 0))).set b (min (P2.getD a 0) (P2.getD b 0)), true) ⟨by dsimp only; omega, hF2.label haN hbN hab, by dsimp only; omega, fun _ => (by dsimp only; omega), fun h => by cases h⟩ (by dsimp only; omega) ⟨rfl, rfl, rfl, rfl, rfl, rfl, trivial⟩ rfl (by dsimp only; rw [List.map_set, List.map_set]; rfl))
        ·
         have hc10p := bne_f hc10
         have heq : P2.getD a 0 = P2.getD b 0 := by omega
         refine Cj.skip (Ej.blkNormal (Ej.seq (Cj.region (J.z (yl_move rfl rfl) ?_))))
         refine J.z (yl_add rfl rfl rfl (w64 (by omega))) ?_
         refine J.z (yl_assign rfl rfl) ?_
         refine J.nil (Ej.round (k + 1, P2, ch2) ⟨by dsimp only; omega, hF2, hsm, hc2, fun h => ⟨(hd2 h).1, by dsimp only; rw [hvn]; exact settled_next (hd2 h).2 (by rw [← (hd2 h).1]; exact heq)⟩⟩ (by dsimp only; omega) ⟨rfl, rfl, rfl, rfl, rfl, rfl, trivial⟩ rfl rfl)
       ·
        have hg9p := of_decide_eq_false hg9
        dsimp only at hvn
        rw [if_neg (by omega)] at hvn
        refine JA.tkS 17 16 61 true _ rfl fx5 rfl rfl (.inl (congrArg Value.bool hg9)) ?_
        refine JA.tkS 18 16 61 true _ rfl fx5 rfl rfl (.inl (congrArg Value.bool hg9)) ?_
        refine JA.tkS 19 16 61 true _ rfl fx5 rfl rfl (.inl (congrArg Value.bool hg9)) ?_
        refine JA.tkS 20 16 61 true _ rfl fx5 rfl rfl (.inl (congrArg Value.bool hg9)) ?_
        refine JA.tkS 21 16 61 true _ rfl fx5 rfl rfl (.inl (congrArg Value.bool hg9)) ?_
        refine JA.tkS 22 16 61 true _ rfl fx5 rfl rfl (.inl (congrArg Value.bool hg9)) ?_
        refine JA.tkS 23 16 61 true _ rfl fx5 rfl rfl (.inl (congrArg Value.bool hg9)) ?_
        refine JA.tkS 24 16 61 true _ rfl fx5 rfl rfl (.inl (congrArg Value.bool hg9)) ?_
        refine JA.tkS 25 16 61 true _ rfl fx5 rfl rfl (.inl (congrArg Value.bool hg9)) ?_
        refine JA.tk 26 rfl fx5 (yl_pick0 rfl rfl hg9 rfl) ?_
        refine JA.done (by kernel_rfl) ?_
        refine Ej.seq (Cj.cond rfl (fun hc12 => Bool.noConfusion (Eq.trans (Eq.symm rfl) hc12)) (fun hc12 => ?_))
        refine Cj.skip (Ej.blkNormal (Ej.seq (Cj.region (J.z (yl_move rfl rfl) ?_))))
        refine J.z (yl_add rfl rfl rfl (w64 (by omega))) ?_
        refine J.z (yl_assign rfl rfl) ?_
        refine J.nil (Ej.round (k + 1, P2, ch2) ⟨by dsimp only; omega, hF2, hsm, hc2, fun h => ⟨(hd2 h).1, by dsimp only; rw [hvn, List.append_nil]; exact (hd2 h).2⟩⟩ (by dsimp only; omega) ⟨rfl, rfl, rfl, rfl, rfl, rfl, trivial⟩ rfl rfl)
      ·
       have hg8p := of_decide_eq_false hg8
       dsimp only at hvn
       rw [if_neg (by omega)] at hvn
       refine JA.tkS 12 11 56 true _ rfl fx5 rfl rfl (.inl (congrArg Value.bool hg8)) ?_
       refine JA.tkS 13 11 56 true _ rfl fx5 rfl rfl (.inl (congrArg Value.bool hg8)) ?_
       refine JA.tkS 14 11 56 true _ rfl fx5 rfl rfl (.inl (congrArg Value.bool hg8)) ?_
       refine JA.tk 15 rfl fx5 (yl_pick0 rfl rfl hg8 rfl) ?_
       refine JA.tk 16 rfl fx5 (yl_move rfl rfl) ?_
       refine JA.tkS 17 16 61 true _ rfl fx5 rfl rfl (.inl (congrArg Value.bool rfl)) ?_
       refine JA.tkS 18 16 61 true _ rfl fx5 rfl rfl (.inl (congrArg Value.bool rfl)) ?_
       refine JA.tkS 19 16 61 true _ rfl fx5 rfl rfl (.inl (congrArg Value.bool rfl)) ?_
       refine JA.tkS 20 16 61 true _ rfl fx5 rfl rfl (.inl (congrArg Value.bool rfl)) ?_
       refine JA.tkS 21 16 61 true _ rfl fx5 rfl rfl (.inl (congrArg Value.bool rfl)) ?_
       refine JA.tkS 22 16 61 true _ rfl fx5 rfl rfl (.inl (congrArg Value.bool rfl)) ?_
       refine JA.tkS 23 16 61 true _ rfl fx5 rfl rfl (.inl (congrArg Value.bool rfl)) ?_
       refine JA.tkS 24 16 61 true _ rfl fx5 rfl rfl (.inl (congrArg Value.bool rfl)) ?_
       refine JA.tkS 25 16 61 true _ rfl fx5 rfl rfl (.inl (congrArg Value.bool rfl)) ?_
       refine JA.tk 26 rfl fx5 (yl_pick0 rfl rfl rfl rfl) ?_
       refine JA.done (by kernel_rfl) ?_
       refine Ej.seq (Cj.cond rfl (fun hc13 => Bool.noConfusion (Eq.trans (Eq.symm rfl) hc13)) (fun hc13 => ?_))
       refine Cj.skip (Ej.blkNormal (Ej.seq (Cj.region (J.z (yl_move rfl rfl) ?_))))
       refine J.z (yl_add rfl rfl rfl (w64 (by omega))) ?_
       refine J.z (yl_assign rfl rfl) ?_
       refine J.nil (Ej.round (k + 1, P2, ch2) ⟨by dsimp only; omega, hF2, hsm, hc2, fun h => ⟨(hd2 h).1, by dsimp only; rw [hvn, List.append_nil]; exact (hd2 h).2⟩⟩ (by dsimp only; omega) ⟨rfl, rfl, rfl, rfl, rfl, rfl, trivial⟩ rfl rfl)
     ·
      have hg7p := of_decide_eq_false hg7
      dsimp only at hvn
      rw [if_neg (by omega)] at hvn
      refine JA.tkS 8 7 52 true _ rfl fx5 rfl rfl (.inl (congrArg Value.bool hg7)) ?_
      refine JA.tkS 9 7 52 true _ rfl fx5 rfl rfl (.inl (congrArg Value.bool hg7)) ?_
      refine JA.tk 10 rfl fx5 (yl_pick0 rfl rfl hg7 rfl) ?_
      refine JA.tk 11 rfl fx5 (yl_move rfl rfl) ?_
      refine JA.tkS 12 11 56 true _ rfl fx5 rfl rfl (.inl (congrArg Value.bool rfl)) ?_
      refine JA.tkS 13 11 56 true _ rfl fx5 rfl rfl (.inl (congrArg Value.bool rfl)) ?_
      refine JA.tkS 14 11 56 true _ rfl fx5 rfl rfl (.inl (congrArg Value.bool rfl)) ?_
      refine JA.tk 15 rfl fx5 (yl_pick0 rfl rfl rfl rfl) ?_
      refine JA.tk 16 rfl fx5 (yl_move rfl rfl) ?_
      refine JA.tkS 17 16 61 true _ rfl fx5 rfl rfl (.inl (congrArg Value.bool rfl)) ?_
      refine JA.tkS 18 16 61 true _ rfl fx5 rfl rfl (.inl (congrArg Value.bool rfl)) ?_
      refine JA.tkS 19 16 61 true _ rfl fx5 rfl rfl (.inl (congrArg Value.bool rfl)) ?_
      refine JA.tkS 20 16 61 true _ rfl fx5 rfl rfl (.inl (congrArg Value.bool rfl)) ?_
      refine JA.tkS 21 16 61 true _ rfl fx5 rfl rfl (.inl (congrArg Value.bool rfl)) ?_
      refine JA.tkS 22 16 61 true _ rfl fx5 rfl rfl (.inl (congrArg Value.bool rfl)) ?_
      refine JA.tkS 23 16 61 true _ rfl fx5 rfl rfl (.inl (congrArg Value.bool rfl)) ?_
      refine JA.tkS 24 16 61 true _ rfl fx5 rfl rfl (.inl (congrArg Value.bool rfl)) ?_
      refine JA.tkS 25 16 61 true _ rfl fx5 rfl rfl (.inl (congrArg Value.bool rfl)) ?_
      refine JA.tk 26 rfl fx5 (yl_pick0 rfl rfl rfl rfl) ?_
      refine JA.done (by kernel_rfl) ?_
      refine Ej.seq (Cj.cond rfl (fun hc14 => Bool.noConfusion (Eq.trans (Eq.symm rfl) hc14)) (fun hc14 => ?_))
      refine Cj.skip (Ej.blkNormal (Ej.seq (Cj.region (J.z (yl_move rfl rfl) ?_))))
      refine J.z (yl_add rfl rfl rfl (w64 (by omega))) ?_
      refine J.z (yl_assign rfl rfl) ?_
      refine J.nil (Ej.round (k + 1, P2, ch2) ⟨by dsimp only; omega, hF2, hsm, hc2, fun h => ⟨(hd2 h).1, by dsimp only; rw [hvn, List.append_nil]; exact (hd2 h).2⟩⟩ (by dsimp only; omega) ⟨rfl, rfl, rfl, rfl, rfl, rfl, trivial⟩ rfl rfl)
    ·
     have hg6p := of_decide_eq_false hg6
     dsimp only at hvn
     rw [if_neg (by omega)] at hvn
     refine JA.tkS 3 2 47 true _ rfl fx5 rfl rfl (.inl (congrArg Value.bool hg6)) ?_
     refine JA.tkS 4 2 47 true _ rfl fx5 rfl rfl (.inl (congrArg Value.bool hg6)) ?_
     refine JA.tkS 5 2 47 true _ rfl fx5 rfl rfl (.inl (congrArg Value.bool hg6)) ?_
     refine JA.tk 6 rfl fx5 (yl_pick0 rfl rfl hg6 rfl) ?_
     refine JA.tk 7 rfl fx5 (yl_move rfl rfl) ?_
     refine JA.tkS 8 7 52 true _ rfl fx5 rfl rfl (.inl (congrArg Value.bool rfl)) ?_
     refine JA.tkS 9 7 52 true _ rfl fx5 rfl rfl (.inl (congrArg Value.bool rfl)) ?_
     refine JA.tk 10 rfl fx5 (yl_pick0 rfl rfl rfl rfl) ?_
     refine JA.tk 11 rfl fx5 (yl_move rfl rfl) ?_
     refine JA.tkS 12 11 56 true _ rfl fx5 rfl rfl (.inl (congrArg Value.bool rfl)) ?_
     refine JA.tkS 13 11 56 true _ rfl fx5 rfl rfl (.inl (congrArg Value.bool rfl)) ?_
     refine JA.tkS 14 11 56 true _ rfl fx5 rfl rfl (.inl (congrArg Value.bool rfl)) ?_
     refine JA.tk 15 rfl fx5 (yl_pick0 rfl rfl rfl rfl) ?_
     refine JA.tk 16 rfl fx5 (yl_move rfl rfl) ?_
     refine JA.tkS 17 16 61 true _ rfl fx5 rfl rfl (.inl (congrArg Value.bool rfl)) ?_
     refine JA.tkS 18 16 61 true _ rfl fx5 rfl rfl (.inl (congrArg Value.bool rfl)) ?_
     refine JA.tkS 19 16 61 true _ rfl fx5 rfl rfl (.inl (congrArg Value.bool rfl)) ?_
     refine JA.tkS 20 16 61 true _ rfl fx5 rfl rfl (.inl (congrArg Value.bool rfl)) ?_
     refine JA.tkS 21 16 61 true _ rfl fx5 rfl rfl (.inl (congrArg Value.bool rfl)) ?_
     refine JA.tkS 22 16 61 true _ rfl fx5 rfl rfl (.inl (congrArg Value.bool rfl)) ?_
     refine JA.tkS 23 16 61 true _ rfl fx5 rfl rfl (.inl (congrArg Value.bool rfl)) ?_
     refine JA.tkS 24 16 61 true _ rfl fx5 rfl rfl (.inl (congrArg Value.bool rfl)) ?_
     refine JA.tkS 25 16 61 true _ rfl fx5 rfl rfl (.inl (congrArg Value.bool rfl)) ?_
     refine JA.tk 26 rfl fx5 (yl_pick0 rfl rfl rfl rfl) ?_
     refine JA.done (by kernel_rfl) ?_
     refine Ej.seq (Cj.cond rfl (fun hc15 => Bool.noConfusion (Eq.trans (Eq.symm rfl) hc15)) (fun hc15 => ?_))
     refine Cj.skip (Ej.blkNormal (Ej.seq (Cj.region (J.z (yl_move rfl rfl) ?_))))
     refine J.z (yl_add rfl rfl rfl (w64 (by omega))) ?_
     refine J.z (yl_assign rfl rfl) ?_
     refine J.nil (Ej.round (k + 1, P2, ch2) ⟨by dsimp only; omega, hF2, hsm, hc2, fun h => ⟨(hd2 h).1, by dsimp only; rw [hvn, List.append_nil]; exact (hd2 h).2⟩⟩ (by dsimp only; omega) ⟨rfl, rfl, rfl, rfl, rfl, rfl, trivial⟩ rfl rfl)
   ·
    have hc4p := of_decide_eq_false hc4
    have hvt : Kp.valid N (ps.take k) = V := by rw [hV, List.take_of_length_le (by omega)]
    refine Cj.exit (Ej.seqExit (Ej.loopExit (Ej.blkExit (Ej.blkNormal (Ej.round (P2, ch2) ⟨hF2, fun h => by rw [(hd2 h).1, ← hvt]; exact (hd2 h).2⟩ (mu_less hch hsm hc2) ⟨rfl, rfl, rfl, rfl, rfl, trivial⟩ rfl rfl)))))
  ·
   have hcf : ch = false := hc3
   obtain ⟨R, hRd⟩ : ∃ R : Nat → Nat, R = fun i => P.getD i 0 := ⟨_, rfl⟩
   refine Cj.exit (Ej.seqExit (Ej.loopExit (Ej.blkExit (Ej.seq (Cj.seq (Cj.seq (Cj.region (J.z (yl_assign rfl rfl) ?_))))))))
   refine J.nil (Ej.seq (Cj.block (Cj.loop (ι := Nat × Heap × List Value × Gs) (fun y => y.1 ≤ N ∧ Le I y.2.1 ∧ gOk w0.heap.size 1 y.2.2.1.length y.2.2.1 y.2.2.2 ∧ y.2.2.1.length = (rts R y.1).length ∧ ∀ (k : Nat) (u : Value) (r : Nat), y.2.2.1[k]? = some u → (rts R y.1)[k]? = some r → RowS natC y.2.1 (prt R N r) u) (fun y => N - y.1) (fun y => [(0, i64 n), (5, gV y.2.2.1.length y.2.2.2), (6, .slice (some ⟨b1, 0, none⟩) N N), (13, i64 (y.1 : Int))]) (fun y => y.2.1) (fun y => (b1, cel 3 (P.map nat64)) :: gH 62 y.2.2.1 y.2.2.2) (0, _, [], none) ⟨Nat.zero_le _, Le.refl _, ⟨rfl, rfl⟩, rfl, fun k u r h => by cases h⟩ ⟨rfl, rfl, rfl, rfl, trivial⟩ rfl rfl ?_)))
   rintro ⟨i, Jh, vs, g⟩ ⟨hi, hIJ, hg, hvl, hvs⟩
   dsimp only at hi hIJ hg hvl hvs ⊢
   have hrl := rts_len R i
   have hpl := hF.len
   refine Cj.seq (Cj.seq (Cj.region (J.z (yl_move rfl rfl) ?_)))
   refine J.z (yl_move rfl rfl) ?_
   refine J.z (yl_lss rfl rfl rfl) ?_
   refine J.nil (Ej.seq (Cj.cond rfl (fun hc16 => ?_) (fun hc16 => ?_)))
   ·
    have hc16p := of_decide_eq_true hc16
    refine Cj.skip (Ej.seq (Cj.seq (Cj.block (Cj.seq (Cj.seq (Cj.region (J.z (yl_move rfl rfl) ?_)))))))
    refine J.z (yl_move rfl rfl) ?_
    refine J.z (yl_indexAddr (off' := i) rfl rfl rfl Tryz.underlying62 Tryz.sizeOf3 (by omega) (by omega) (by simp)) ?_
    refine J.z (yl_load rfl rfl Tryz.isAgg3 (Blk.at 0 rfl) (nat_get (by omega))) ?_
    refine J.z (yl_move rfl rfl) ?_
    refine J.z (yl_neq rfl rfl rfl) ?_
    refine J.nil (Ej.seq (Cj.cond rfl (fun hc17 => ?_) (fun hc17 => ?_)))
    ·
     have hc17p := bne_iff_ne.1 hc17
     have hrt : R i ≠ i := fun e => by rw [hRd] at e; dsimp only at e; omega
     refine Cj.exit (Ej.seqExit (Ej.blkExit (Ej.seq (Cj.region (J.z (yl_move rfl rfl) ?_)))))
     refine J.z (yl_add rfl rfl rfl (w64 (by omega))) ?_
     refine J.z (yl_assign rfl rfl) ?_
     refine J.nil (Ej.round (i + 1, _, vs, g) ⟨by dsimp only; omega, hIJ, hg, by dsimp only; rw [rts_next, if_neg hrt, List.append_nil]; exact hvl, by dsimp only; rw [rts_next, if_neg hrt, List.append_nil]; exact hvs⟩ (by dsimp only; omega) ⟨rfl, rfl, rfl, rfl, trivial⟩ rfl rfl)
    ·
     have hc17p := bne_f hc17
     have hrt : R i = i := by rw [hRd]; dsimp only; omega
     have hms : prt R i i = [] := prt_self fun x hx => by rw [hRd]; exact hF.le x (by omega)
     refine Cj.skip (Ej.seq (Cj.seq (Cj.region (J.z (yl_assign rfl rfl) ?_))))
     refine J.nil (Ej.seq (Cj.seq (Cj.seq (Cj.region (J.z (yl_move rfl rfl) ?_)))))
     refine J.z (yl_assign rfl rfl) ?_
     refine J.nil (Ej.seq (Cj.block (Cj.loop (ι := Nat × Gs) (fun y => i ≤ y.1 ∧ y.1 ≤ N ∧ gOk w0.heap.size 1 (prt R y.1 i).length ((prt R y.1 i).flatMap natC) y.2) (fun y => N - y.1) (fun y => [(0, i64 n), (5, gV vs.length g), (6, .slice (some ⟨b1, 0, none⟩) N N), (13, i64 (i : Int)), (14, gV (prt R y.1 i).length y.2), (15, i64 (y.1 : Int))]) (fun y => _) (fun y => (b1, cel 3 (P.map nat64)) :: (gH 62 vs g ++ gH 3 ((prt R y.1 i).flatMap natC) y.2)) (i, none) ⟨Nat.le_refl _, by dsimp only; omega, by dsimp only; rw [hms]; exact ⟨rfl, rfl⟩⟩ ⟨rfl, rfl, rfl, rfl, by dsimp only; rw [hms]; rfl, rfl, trivial⟩ rfl (by dsimp only; rw [hms, show gH _ (([] : List Nat).flatMap natC) none = [] from rfl, List.append_nil]) ?_)))
     rintro ⟨k, h⟩ ⟨hik, hk, hh⟩
     dsimp only at hik hk hh ⊢
     have hml := prt_len R k i
     refine Cj.seq (Cj.seq (Cj.region (J.z (yl_move rfl rfl) ?_)))
     refine J.z (yl_move rfl rfl) ?_
     refine J.z (yl_lss rfl rfl rfl) ?_
     refine J.nil (Ej.seq (Cj.cond rfl (fun hc18 => ?_) (fun hc18 => ?_)))
     ·
      have hc18p := of_decide_eq_true hc18
      refine Cj.skip (Ej.seq (Cj.seq (Cj.block (Cj.seq (Cj.region (J.z (yl_move rfl rfl) ?_))))))
      refine J.z (yl_move rfl rfl) ?_
      refine J.z (yl_indexAddr (off' := k) rfl rfl rfl Tryz.underlying62 Tryz.sizeOf3 (by omega) (by omega) (by simp)) ?_
      refine J.z (yl_load rfl rfl Tryz.isAgg3 (Blk.at 0 rfl) (nat_get (by omega))) ?_
      refine J.z (yl_move rfl rfl) ?_
      refine J.z (yl_eql rfl rfl rfl) ?_
      refine J.nil (Ej.seq (Cj.cond rfl (fun hc19 => ?_) (fun hc19 => ?_)))
      ·
       have hc19p := eq_of_beq hc19
       have hmk : R k = i := by rw [hRd]; dsimp only; omega
       refine Cj.region (J.z (yl_move rfl rfl) ?_)
       refine J.z (yl_move rfl rfl) ?_
       refine J.op rfl (op_buildSlice rfl rfl rfl Tryz.underlying62 Tryz.sizeOf3 Tryz.zeroValue3 rfl rfl rfl rfl (LCat.one rfl LCat.none) ?_)
       intro b20 hb20
       refine J.op rfl (op_append (by' := 7) ([_, _] ++ gH _ _ _) rfl rfl rfl rfl rfl Tryz.underlying62 (.inr ⟨_, Tryz.underlying62⟩) (by kernel_rfl) Tryz.sizeOf3 Tryz.zeroValue3 rfl hh rfl (Src.slice (Blk.at 0 rfl) rfl rfl rfl) (by omega) ?_)
       intro g21 hg21
       refine J.z (yl_assign rfl rfl) ?_
       refine J.nil (Ej.blkNormal (Ej.seq (Cj.region (J.z (yl_move rfl rfl) ?_))))
       refine J.z (yl_add rfl rfl rfl (w64 (by omega))) ?_
       refine J.z (yl_assign rfl rfl) ?_
       refine J.nil (Ej.keep (Keeps.d (Keeps.k Keeps.r)) ?_)
       refine Ej.round (k + 1, g21) ⟨by dsimp only; omega, by dsimp only; omega, by dsimp only; rw [prt_next, if_pos hmk, List.length_append, List.flatMap_append]; exact hg21⟩ (by dsimp only; omega) ⟨rfl, rfl, rfl, rfl, by dsimp only; rw [prt_next, if_pos hmk, List.length_append]; rfl, rfl, trivial⟩ rfl (by dsimp only; rw [prt_next, if_pos hmk, List.flatMap_append]; rfl)
      ·
       have hc19p := ne_of_beq_false hc19
       have hmk : R k ≠ i := fun e => by rw [hRd] at e; dsimp only at e; omega
       refine Cj.skip (Ej.blkNormal (Ej.seq (Cj.region (J.z (yl_move rfl rfl) ?_))))
       refine J.z (yl_add rfl rfl rfl (w64 (by omega))) ?_
       refine J.z (yl_assign rfl rfl) ?_
       refine J.nil (Ej.round (k + 1, h) ⟨by dsimp only; omega, by dsimp only; omega, by dsimp only; rw [prt_next, if_neg hmk, List.append_nil]; exact hh⟩ (by dsimp only; omega) ⟨rfl, rfl, rfl, rfl, by dsimp only; rw [prt_next, if_neg hmk, List.append_nil]; rfl, rfl, trivial⟩ rfl (by dsimp only; rw [prt_next, if_neg hmk, List.append_nil]))
     ·
      have hc18p := of_decide_eq_false hc18
      refine Cj.exit (Ej.seqExit (Ej.loopExit (Ej.blkExit (Ej.seq ?_))))
      have hkN : N = k := by omega
      rw [← hkN] at hh
      rw [← hkN]
      refine Cj.perm (H' := gH _ _ _ ++ ([_] ++ gH _ _ _)) (perm_last [_] _ _) ?_
      refine Cj.keepR natC_len (by decide) hh rfl (fun I8 hle8 hss => ?_)
      have hIJ := hIJ.trans hle8
      have hvs := fun k u r h1 h2 => (hvs k u r h1 h2).mono hle8
      obtain ⟨xp, xc, hxv, -⟩ := id hss
      have hxs : RowS natC I8 (prt R N i) (.slice xp (prt R N i).length xc) := hxv ▸ hss
      refine Cj.region (J.z (yl_move rfl rfl) ?_)
      refine J.z (yl_move rfl rfl) ?_
      refine J.eqv 117 rfl (show _ = .slice xp _ xc from hxv) ?_
      refine J.op rfl (op_buildSlice rfl rfl rfl Tryz.underlying59 Tryz.sizeOf62 Tryz.zeroValue62 rfl rfl rfl rfl (LCat.one rfl LCat.none) ?_)
      intro b22 hb22
      refine J.op rfl (op_append (by' := 23) [_, _] rfl rfl rfl rfl rfl Tryz.underlying59 (.inr ⟨_, Tryz.underlying59⟩) (by kernel_rfl) Tryz.sizeOf62 Tryz.zeroValue62 rfl hg rfl (Src.slice (Blk.at 0 rfl) rfl rfl rfl) (by omega) ?_)
      intro g23 hg23
      refine J.z (yl_assign rfl rfl) ?_
      refine J.nil (Ej.blkNormal (Ej.seq (Cj.region (J.z (yl_move rfl rfl) ?_))))
      refine J.z (yl_add rfl rfl rfl (w64 (by omega))) ?_
      refine J.z (yl_assign rfl rfl) ?_
      refine J.nil (Ej.keep (Keeps.d (Keeps.k Keeps.r)) ?_)
      refine Ej.round (i + 1, _, vs ++ [.slice xp _ xc], g23) ⟨by dsimp only; omega, hIJ, by dsimp only; rw [List.length_append]; exact hg23, by dsimp only; rw [rts_next, if_pos hrt, List.length_append, List.length_append, hvl]; rfl, by dsimp only; rw [rts_next, if_pos hrt]; exact vs_next hvl hvs hxs⟩ (by dsimp only; omega) ⟨rfl, by dsimp only; rw [List.length_append]; rfl, rfl, rfl, trivial⟩ rfl rfl
   ·
    have hc16p := of_decide_eq_false hc16
    refine Cj.exit (Ej.seqExit (Ej.loopExit (Ej.blkExit (Ej.seq (Cj.seq (Cj.region (J.z (yl_move rfl rfl) ?_)))))))
    refine J.z (yl_assign rfl rfl) ?_
    refine J.nil (Ej.seq (Cj.ret ?_))
    have hmk : N = i := by omega
    subst hmk
    refine Ej.perm (H' := gH _ _ _ ++ [_]) List.perm_append_comm ?_
    rw [← val_flat vs] at hg
    rw [← val_flat vs]
    refine Ej.keepR valC_len (by decide) hg (by rw [val_flat]) (fun I8 hle8 hw => ?_)
    rw [val_flat] at hw ⊢
    refine Ej.bare ?_
    refine Ej.ret1 rfl rfl rfl ?_
    exact ⟨_, rfl, parts_row2 (R := R) (by rw [hRd]; exact hF.labels (hst hcf)) hVl hw hvl (fun k u r h1 h2 => (hvs k u r h1 h2).mono hle8), rfl⟩
end Go.Proofs.YtadnofaleepkmaaGreatDoor
