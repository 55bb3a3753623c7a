/-
  The contract of the reference's Parse. Own text, printed by a program. Conditions: none.
-/
import Derived.Test.YtlfpehljahgbkaaGreatDoorCqD
namespace Cq
theorem head_text (rest : List UInt8) (j : Nat) : (head rest j).1.text.length ≤ rest.length := by
  cases rest with
  | nil => simp [head]
  | cons c r =>
    unfold head
    by_cases h34 : c = 34
    · simp only [h34, if_true]
      cases hq : quoted r with
      | none => simp
      | some q => have := quoted_len _ r q (Nat.le_refl _) hq; simp; omega
    · simp only [h34, if_false]
      split
      · rename_i h1
        have : r ≠ [] := fun he => by simp [he] at h1
        have := List.length_pos_iff.2 this
        simp; omega
      · split
        · rename_i h1
          have : r ≠ [] := fun he => by simp [he] at h1
          have := List.length_pos_iff.2 this
          simp; omega
        · split
          · simp
          · split
            · exact (List.takeWhile_sublist _).length_le
            · simp
theorem toks_good (s : List UInt8) : ∀ f i, i ≤ s.length → s.length - i < f → Rst (toks s f i) ∧ (toks s f i).length ≤ s.length + 1 - i ∧ ∀ t ∈ toks s f i, t.text.length ≤ s.length
  | 0, i, _, h => by omega
  | f + 1, i, hi, hf => by
    have ht : (lex s i).1.text.length ≤ s.length := by
      have := head_text (s.drop (skip s i)) (skip s i); simp only [lex]; simp at this; omega
    simp only [toks]
    cases ho : over (lex s i).1 with
    | true => exact ⟨⟨[], _, rfl, ho⟩, by simp; omega, by simpa using ht⟩
    | false =>
      have hl := lex_len s i hi ho
      obtain ⟨⟨l, x, h1, h2⟩, h3, h4⟩ := toks_good s f _ hl.2 (by omega)
      simp only [Bool.false_eq_true, if_false]
      exact ⟨⟨_ :: l, x, by rw [h1]; rfl, h2⟩, by simp; omega, fun t h => (List.mem_cons.1 h).elim (fun h => h ▸ ht) (h4 t)⟩
end Cq
namespace Go.Proofs.YtlfpehljahgbkaaGreatDoor
open Go Go.Sx
theorem rclause_rquery : ∀ f, (∀ g, g ≤ f → CSpec g) ∧ ∀ g, g ≤ f → QSpec g
  | 0 => ⟨fun g hg pb bt ct k deep all spt ts I hpre hf => by obtain ⟨t, r, rfl⟩ := hpre.good.ne; omega, fun g hg pb bt ct k deep all spt ts I hpre hf => by omega⟩
  | f + 1 => by
    obtain ⟨hc, hq⟩ := rclause_rquery f
    have h1 : CSpec (f + 1) := rclause_step f (hq f (Nat.le_refl _))
    exact ⟨fun g hg => (Nat.lt_or_eq_of_le hg).elim (fun h => hc g (by omega)) (fun h => h ▸ h1), fun g hg => (Nat.lt_or_eq_of_le hg).elim (fun h => hq g (by omega)) (fun h => h ▸ rquery_step f hc)⟩
theorem rquery_ok (f : Nat) : QSpec f := (rclause_rquery f).2 f (Nat.le_refl _)
set_option maxRecDepth 20000 in
theorem rParse_ok (s : List UInt8) (hs : s.length ≤ 1000000000) (I : Heap) : Ctr Tryz.prog 29 [str s] I []
    (fun e I' H' => (∃ v, e = .returned (.tuple #[v, i64 (Cq.parse s).2.1, i64 (Cq.parse s).2.2]) ∧ QV I' (Cq.parse s).1 v) ∧ H' = []) := by
  obtain ⟨hgood, hlen, htx0⟩ := Cq.toks_good s (s.length + 1) 0 (by omega) (by omega)
  change Cq.Rst (Cq.tokens s) at hgood; change (Cq.tokens s).length ≤ _ at hlen
  have htx : ∀ t ∈ Cq.tokens s, t.text.length ≤ 1000000000 := fun t h => Nat.le_trans (htx0 t h) hs
  refine Ctr.of_body Tryz.func29 rfl (by decide) (Nat.le_of_ble_eq_true rfl) ?_
  intro w0 hw0
  refine Cj.seq ?_
  refine Cj.region ?_
  refine J.op rfl (op_alloc rfl rfl rfl Tryz.zeroValue28 rfl ?_)
  intro b1 hb1
  refine J.y (yl_assign rfl rfl) rfl rfl rfl ?_
  refine J.y (yl_assign rfl rfl) rfl rfl rfl ?_
  refine J.nil ?_
  refine Ej.seq ?_
  refine Cj.seq ?_
  refine Cj.region ?_
  refine J.y (yl_move rfl rfl) rfl rfl rfl ?_
  refine J.op rfl (op_call (H1 := []) rfl rfl rfl rfl rfl (Tokens_ok s hs _) ?_ (fun _ _ _ _ h => by obtain ⟨⟨_, h, _⟩, _⟩ := h; cases h) (fun _ _ h => by obtain ⟨⟨_, h, _⟩, _⟩ := h; cases h))
  intro v2 I3 H4 hle5 hp6
  obtain ⟨⟨v, h1, bt, ct, spt, rfl, hbt⟩, rfl⟩ := hp6; cases h1
  refine J.y (yl_buildS (pl := #[(0, 1), (1, 1), (2, 1), (3, 1), (4, 1)]) rfl rfl Tryz.zeroValue88 rfl Tryz.underlying88 (fun w => by simp [Tryz.sizeOf3, Tryz.sizeOf32, Tryz.sizeOf47]) (LBld.part rfl rfl rfl (LSpl.c LSpl.z) LBld.none)) rfl rfl rfl ?_
  refine J.op rfl (op_box rfl rfl rfl rfl rfl ?_)
  intro b7 hb7
  refine J.y (yl_assign rfl rfl) rfl rfl rfl ?_
  refine J.nil ?_
  refine Ej.seq ?_
  refine Cj.seq ?_
  refine Cj.region ?_
  refine J.y (yl_move rfl rfl) rfl rfl rfl ?_
  refine J.pull Pull.z ?_
  refine J.op rfl (op_call (H1 := [_]) rfl rfl rfl rfl rfl (rquery_ok (4 * s.length + 9) b7 bt ct 0 0 (Cq.tokens s) spt (Cq.tokens s) _ ⟨hbt, rfl, hgood, by omega, htx⟩ (by omega) (by omega)) ?_ (fun _ _ _ _ h => by obtain ⟨_, h⟩ := h.ret; cases h) (fun _ _ h => by obtain ⟨_, h⟩ := h.ret; cases h))
  intro v8 I9 H10 hle11 hp12
  have hbt := hle11 _ _ hbt
  rcases hq : Cq.query (4 * s.length + 9) 0 (Cq.tokens s) with ⟨q, ts2⟩ | ⟨pe, ee⟩
  all_goals have hless := (Cq.less (4 * s.length + 9)).2.1 0 (Cq.tokens s) hgood
  ·
    rw [hq] at hp12 hless
    obtain ⟨vq, k2, h1, ⟨pq, cq, rfl, hps⟩, rfl, hdr⟩ := hp12
    cases h1
    obtain ⟨hg2, hlen2⟩ := hless
    obtain ⟨t, r, rfl⟩ := hg2.ne
    have hlt2 := drop_lt hdr
    refine J.op rfl (op_alloc rfl rfl rfl Tryz.zeroValue28 rfl ?_)
    intro b13 hb13
    refine J.op rfl (op_store 0 rfl rfl rfl rfl rfl rfl Tryz.sizeOf28 rfl rfl (LSpl.c (LSpl.c (LSpl.c (LSpl.c (LSpl.c LSpl.z))))) LSet.z ?_)
    refine J.nil ?_
    refine Ej.seq ?_
    refine Cj.seq ?_
    refine Cj.seq ?_
    refine Cj.drawSel [0, 1, 2] [] 19 (by kernel_rfl) ?_
    refine JA.take 0 rfl rfl (by kernel_rfl) (by kernel_rfl) (by kernel_rfl) (fun _ _ _ h => h) rfl rfl rfl (HSub.c 0 rfl (HSub.c 1 rfl (HSub.c 2 rfl HSub.n))) CSub.n (Le.refl _) (yl_move rfl rfl) ?_
    refine JA.take 1 rfl rfl (by kernel_rfl) (by kernel_rfl) (by kernel_rfl) (fun _ _ _ h => h) rfl rfl rfl (HSub.c 0 rfl (HSub.c 1 rfl (HSub.c 2 rfl HSub.n))) CSub.n (Le.refl _) (yl_nilCheck rfl rfl) ?_
    refine JA.take 2 rfl rfl (by kernel_rfl) (by kernel_rfl) (by kernel_rfl) (fun _ _ _ h => h) rfl rfl rfl (HSub.c 0 rfl (HSub.c 1 rfl (HSub.c 2 rfl HSub.n))) CSub.n (Le.refl _) (yl_fieldAddr (off' := 4) rfl rfl Tryz.underlying88 rfl Tryz.sizeOf32 rfl) ?_
    refine JA.take 3 rfl rfl (by kernel_rfl) (by kernel_rfl) (by kernel_rfl) (fun _ _ _ h => h) rfl rfl rfl (HSub.c 0 rfl (HSub.c 1 rfl (HSub.c 2 rfl HSub.n))) CSub.n (Le.refl _) (yl_load rfl rfl Tryz.isAgg32 (Blk.atC 1 rfl) rfl) ?_
    refine JA.take 4 rfl rfl (by kernel_rfl) (by kernel_rfl) (by kernel_rfl) (fun _ _ _ h => h) rfl rfl rfl (HSub.c 0 rfl (HSub.c 1 rfl (HSub.c 2 rfl HSub.n))) CSub.n (Le.refl _) (yl_eql rfl rfl rfl) ?_
    refine JA.take 5 rfl rfl (by kernel_rfl) (by kernel_rfl) (by kernel_rfl) (fun _ _ _ h => h) rfl rfl rfl (HSub.c 0 rfl (HSub.c 1 rfl (HSub.c 2 rfl HSub.n))) CSub.n (Le.refl _) (yl_move rfl rfl) ?_
    refine JA.takeG 6 5 18 true _ rfl rfl (by kernel_rfl) (by kernel_rfl) (by kernel_rfl) (fun _ _ _ h => h) rfl rfl rfl rfl rfl rfl (HSub.c 0 rfl (HSub.c 1 rfl (HSub.c 2 rfl HSub.n))) CSub.n (Le.refl _) (yl_move rfl rfl) ?_
    refine JA.takeG 7 5 18 true _ rfl rfl (by kernel_rfl) (by kernel_rfl) (by kernel_rfl) (fun _ _ _ h => h) rfl rfl rfl rfl rfl rfl (HSub.c 0 rfl (HSub.c 1 rfl (HSub.c 2 rfl HSub.n))) CSub.n (Le.refl _) (yl_nilCheck rfl rfl) ?_
    refine JA.takeG 8 5 18 true _ rfl rfl (by kernel_rfl) (by kernel_rfl) (by kernel_rfl) (fun _ _ _ h => h) rfl rfl rfl rfl rfl rfl (HSub.c 0 rfl (HSub.c 1 rfl (HSub.c 2 rfl HSub.n))) CSub.n (Le.refl _) (yl_fieldAddr (off' := 0) rfl rfl Tryz.underlying88 rfl Tryz.sizeOf47 rfl) ?_
    refine JA.takeG 9 5 18 true _ rfl rfl (by kernel_rfl) (by kernel_rfl) (by kernel_rfl) (fun _ _ _ h => h) rfl rfl rfl rfl rfl rfl (HSub.c 0 rfl (HSub.c 1 rfl (HSub.c 2 rfl HSub.n))) CSub.n (Le.refl _) (yl_load rfl rfl Tryz.isAgg47 (Blk.atC 1 rfl) rfl) ?_
    refine JA.takeG 10 5 18 true _ rfl rfl (by kernel_rfl) (by kernel_rfl) (by kernel_rfl) (fun _ _ _ h => h) rfl rfl rfl rfl rfl rfl (HSub.c 0 rfl (HSub.c 1 rfl (HSub.c 2 rfl HSub.n))) CSub.n (Le.refl _) (yl_move rfl rfl) ?_
    refine JA.takeG 11 5 18 true _ rfl rfl (by kernel_rfl) (by kernel_rfl) (by kernel_rfl) (fun _ _ _ h => h) rfl rfl rfl rfl rfl rfl (HSub.c 0 rfl (HSub.c 1 rfl (HSub.c 2 rfl HSub.n))) CSub.n (Le.refl _) (yl_nilCheck rfl rfl) ?_
    refine JA.takeG 12 5 18 true _ rfl rfl (by kernel_rfl) (by kernel_rfl) (by kernel_rfl) (fun _ _ _ h => h) rfl rfl rfl rfl rfl rfl (HSub.c 0 rfl (HSub.c 1 rfl (HSub.c 2 rfl HSub.n))) CSub.n (Le.refl _) (yl_fieldAddr (off' := 1) rfl rfl Tryz.underlying88 rfl Tryz.sizeOf3 rfl) ?_
    refine JA.takeG 13 5 18 true _ rfl rfl (by kernel_rfl) (by kernel_rfl) (by kernel_rfl) (fun _ _ _ h => h) rfl rfl rfl rfl rfl rfl (HSub.c 0 rfl (HSub.c 1 rfl (HSub.c 2 rfl HSub.n))) CSub.n (Le.refl _) (yl_load rfl rfl Tryz.isAgg3 (Blk.atC 1 rfl) rfl) ?_
    refine JA.takeG 14 5 18 true _ rfl rfl (by kernel_rfl) (by kernel_rfl) (by kernel_rfl) (fun _ _ _ h => h) rfl rfl rfl rfl rfl rfl (HSub.c 0 rfl (HSub.c 1 rfl (HSub.c 2 rfl HSub.n))) CSub.n (Le.refl _) (yl_indexAddr (off' := k2 * 3) rfl rfl rfl Tryz.underlying47 Tryz.sizeOf50 (by omega) (by omega) (by simp)) ?_
    refine JA.takeG 15 5 18 true _ rfl rfl (by kernel_rfl) (by kernel_rfl) (by kernel_rfl) (fun _ _ _ h => h) rfl rfl rfl rfl rfl rfl (HSub.c 0 rfl (HSub.c 1 rfl (HSub.c 2 rfl HSub.n))) CSub.n (Le.refl _) (yl_fieldAddr rfl rfl Tryz.underlying50 rfl Tryz.sizeOf3 rfl) ?_
    refine JA.takeG 16 5 18 true _ rfl rfl (by kernel_rfl) (by kernel_rfl) (by kernel_rfl) (fun _ _ _ h => h) rfl rfl rfl rfl rfl rfl (HSub.c 0 rfl (HSub.c 1 rfl (HSub.c 2 rfl HSub.n))) CSub.n (Le.refl _) (yl_load rfl rfl Tryz.isAgg3 (Blk.immC hbt) (by simpa [Cq.tokC] using tok_cell hdr 0 (by omega))) ?_
    refine JA.takeG 17 5 18 true _ rfl rfl (by kernel_rfl) (by kernel_rfl) (by kernel_rfl) (fun _ _ _ h => h) rfl rfl rfl rfl rfl rfl (HSub.c 0 rfl (HSub.c 1 rfl (HSub.c 2 rfl HSub.n))) CSub.n (Le.refl _) (yl_neq rfl rfl rfl) ?_
    refine JA.take 18 rfl rfl (by kernel_rfl) (by kernel_rfl) (by kernel_rfl) (fun _ _ _ h => h) rfl rfl rfl (HSub.c 0 rfl (HSub.c 1 rfl (HSub.c 2 rfl HSub.n))) CSub.n (Le.refl _) (yl_pick1 rfl rfl rfl rfl) ?_
    refine JA.done (by kernel_rfl) ?_
    refine Ej.seq ?_
    refine Cj.cond rfl (fun hc14 => ?_) (fun hc14 => ?_)
    ·
      have hc14p := bne_iff_ne.1 hc14
      have hk0 : t.kind ≠ 0 := by have := bne_iff_ne.1 hc14; omega
      refine Cj.drawSel [0, 2] [(b7, 0, .slice (some ⟨bt, 0, none⟩) (Cq.tokens s).length ct), (b7, 1, i64 k2)] 12 (by kernel_rfl) ?_
      have hbt_4 := hbt
      refine JA.take 0 rfl rfl (by kernel_rfl) (by kernel_rfl) (by kernel_rfl) (fun _ _ _ h => h) rfl rfl rfl (HSub.c 0 rfl (HSub.c 2 rfl HSub.n)) (CSub.c 1 rfl rfl (CSub.c 1 rfl rfl CSub.n)) (Le.refl _) (yl_move rfl rfl) ?_
      refine JA.take 1 rfl rfl (by kernel_rfl) (by kernel_rfl) (by kernel_rfl) (fun _ _ _ h => h) rfl rfl rfl (HSub.c 0 rfl (HSub.c 2 rfl HSub.n)) (CSub.c 1 rfl rfl (CSub.c 1 rfl rfl CSub.n)) (Le.refl _) (yl_move rfl rfl) ?_
      refine JA.take 2 rfl rfl (by kernel_rfl) (by kernel_rfl) (by kernel_rfl) (fun _ _ _ h => h) rfl rfl rfl (HSub.c 0 rfl (HSub.c 2 rfl HSub.n)) (CSub.c 1 rfl rfl (CSub.c 1 rfl rfl CSub.n)) (Le.refl _) (yl_nilCheck rfl rfl) ?_
      refine JA.take 3 rfl rfl (by kernel_rfl) (by kernel_rfl) (by kernel_rfl) (fun _ _ _ h => h) rfl rfl rfl (HSub.c 0 rfl (HSub.c 2 rfl HSub.n)) (CSub.c 1 rfl rfl (CSub.c 1 rfl rfl CSub.n)) (Le.refl _) (yl_fieldAddr (off' := 0) rfl rfl Tryz.underlying88 rfl Tryz.sizeOf47 rfl) ?_
      refine JA.take 4 rfl rfl (by kernel_rfl) (by kernel_rfl) (by kernel_rfl) (fun _ _ _ h => h) rfl rfl rfl (HSub.c 0 rfl (HSub.c 2 rfl HSub.n)) (CSub.c 1 rfl rfl (CSub.c 1 rfl rfl CSub.n)) (Le.refl _) (yl_loadC rfl rfl Tryz.isAgg47 (SC.cell 0 rfl)) ?_
      refine JA.take 5 rfl rfl (by kernel_rfl) (by kernel_rfl) (by kernel_rfl) (fun _ _ _ h => h) rfl rfl rfl (HSub.c 0 rfl (HSub.c 2 rfl HSub.n)) (CSub.c 1 rfl rfl (CSub.c 1 rfl rfl CSub.n)) (Le.refl _) (yl_move rfl rfl) ?_
      refine JA.take 6 rfl rfl (by kernel_rfl) (by kernel_rfl) (by kernel_rfl) (fun _ _ _ h => h) rfl rfl rfl (HSub.c 0 rfl (HSub.c 2 rfl HSub.n)) (CSub.c 1 rfl rfl (CSub.c 1 rfl rfl CSub.n)) (Le.refl _) (yl_nilCheck rfl rfl) ?_
      refine JA.take 7 rfl rfl (by kernel_rfl) (by kernel_rfl) (by kernel_rfl) (fun _ _ _ h => h) rfl rfl rfl (HSub.c 0 rfl (HSub.c 2 rfl HSub.n)) (CSub.c 1 rfl rfl (CSub.c 1 rfl rfl CSub.n)) (Le.refl _) (yl_fieldAddr (off' := 1) rfl rfl Tryz.underlying88 rfl Tryz.sizeOf3 rfl) ?_
      refine JA.take 8 rfl rfl (by kernel_rfl) (by kernel_rfl) (by kernel_rfl) (fun _ _ _ h => h) rfl rfl rfl (HSub.c 0 rfl (HSub.c 2 rfl HSub.n)) (CSub.c 1 rfl rfl (CSub.c 1 rfl rfl CSub.n)) (Le.refl _) (yl_loadC rfl rfl Tryz.isAgg3 (SC.cell 1 rfl)) ?_
      refine JA.take 9 rfl rfl (by kernel_rfl) (by kernel_rfl) (by kernel_rfl) (fun _ _ _ h => h) rfl rfl rfl (HSub.c 0 rfl (HSub.c 2 rfl HSub.n)) (CSub.c 1 rfl rfl (CSub.c 1 rfl rfl CSub.n)) (Le.refl _) (yl_indexAddr (off' := k2 * 3) rfl rfl rfl Tryz.underlying47 Tryz.sizeOf50 (by omega) (by omega) (by simp)) ?_
      refine JA.take 10 rfl rfl (by kernel_rfl) (by kernel_rfl) (by kernel_rfl) (fun _ _ _ h => h) rfl rfl rfl (HSub.c 0 rfl (HSub.c 2 rfl HSub.n)) (CSub.c 1 rfl rfl (CSub.c 1 rfl rfl CSub.n)) (Le.refl _) (yl_loadAgg rfl rfl Tryz.isAgg50 Tryz.sizeOf50 (Blk.immC hbt_4) (tok_at hdr) rfl) ?_
      refine JA.pull (Pull.s Pull.z) ?_
      refine JA.step 11 (by kernel_rfl) rfl rfl (op_call (H1 := [_]) rfl rfl rfl rfl rfl (rfail_ok _ _ _ _ _ _ _ _) ?_ (fun _ _ _ _ h => by cases h.1) (fun _ _ h => by cases h.1))
      intro v15 I16 H17 hle18 hp19
      have hbt := hle18 _ _ hbt
      have hps := hps.mono hle18
      obtain ⟨hv15, rfl⟩ := hp19; cases hv15
      refine ⟨⟨(Le.trans (Le.refl _) hle18), (HSub.c 1 rfl (HSub.c 2 rfl HSub.n)), (CSub.c 0 rfl rfl (CSub.c 0 rfl rfl CSub.n))⟩, ?_⟩
      refine JA.done (by kernel_rfl) ?_
      refine Ej.seq ?_
      refine Cj.seq ?_
      refine Cj.seq ?_
      refine Cj.region ?_
      refine J.y (yl_move rfl rfl) rfl rfl rfl ?_
      refine J.y (yl_nilCheck rfl rfl) rfl rfl rfl ?_
      refine J.y (yl_fieldAddr (off' := 4) rfl rfl Tryz.underlying88 rfl Tryz.sizeOf32 rfl) rfl rfl rfl ?_
      refine J.y (yl_load rfl rfl Tryz.isAgg32 (Blk.at 0 rfl) rfl) rfl rfl rfl ?_
      refine J.y (yl_neq rfl rfl rfl) rfl rfl rfl ?_
      refine J.nil ?_
      refine Ej.seq ?_
      refine Cj.cond rfl (fun hc20 => ?_) (fun hc20 => Bool.noConfusion (Eq.trans (Eq.symm rfl) hc20))
      refine Cj.seq ?_
      refine Cj.drawSel [0, 1, 2] [] 12 (by kernel_rfl) ?_
      refine JA.take 0 rfl rfl (by kernel_rfl) (by kernel_rfl) (by kernel_rfl) (fun _ _ _ h => h) rfl rfl rfl (HSub.c 0 rfl (HSub.c 1 rfl (HSub.c 2 rfl HSub.n))) CSub.n (Le.refl _) (yl_buildS (pl := #[(0, 1), (1, 1), (2, 1), (3, 1), (4, 1)]) rfl rfl Tryz.zeroValue28 rfl Tryz.underlying28 (fun w => by simp [Tryz.sizeOf26, Tryz.sizeOf3, Tryz.sizeOf9]) LBld.none) ?_
      refine JA.take 1 rfl rfl (by kernel_rfl) (by kernel_rfl) (by kernel_rfl) (fun _ _ _ h => h) rfl rfl rfl (HSub.c 0 rfl (HSub.c 1 rfl (HSub.c 2 rfl HSub.n))) CSub.n (Le.refl _) (yl_move rfl rfl) ?_
      refine JA.take 2 rfl rfl (by kernel_rfl) (by kernel_rfl) (by kernel_rfl) (fun _ _ _ h => h) rfl rfl rfl (HSub.c 0 rfl (HSub.c 1 rfl (HSub.c 2 rfl HSub.n))) CSub.n (Le.refl _) (yl_nilCheck rfl rfl) ?_
      refine JA.take 3 rfl rfl (by kernel_rfl) (by kernel_rfl) (by kernel_rfl) (fun _ _ _ h => h) rfl rfl rfl (HSub.c 0 rfl (HSub.c 1 rfl (HSub.c 2 rfl HSub.n))) CSub.n (Le.refl _) (yl_fieldAddr (off' := 3) rfl rfl Tryz.underlying88 rfl Tryz.sizeOf3 rfl) ?_
      refine JA.take 4 rfl rfl (by kernel_rfl) (by kernel_rfl) (by kernel_rfl) (fun _ _ _ h => h) rfl rfl rfl (HSub.c 0 rfl (HSub.c 1 rfl (HSub.c 2 rfl HSub.n))) CSub.n (Le.refl _) (yl_load rfl rfl Tryz.isAgg3 (Blk.atC 0 rfl) rfl) ?_
      refine JA.take 5 rfl rfl (by kernel_rfl) (by kernel_rfl) (by kernel_rfl) (fun _ _ _ h => h) rfl rfl rfl (HSub.c 0 rfl (HSub.c 1 rfl (HSub.c 2 rfl HSub.n))) CSub.n (Le.refl _) (yl_move rfl rfl) ?_
      refine JA.take 6 rfl rfl (by kernel_rfl) (by kernel_rfl) (by kernel_rfl) (fun _ _ _ h => h) rfl rfl rfl (HSub.c 0 rfl (HSub.c 1 rfl (HSub.c 2 rfl HSub.n))) CSub.n (Le.refl _) (yl_nilCheck rfl rfl) ?_
      refine JA.take 7 rfl rfl (by kernel_rfl) (by kernel_rfl) (by kernel_rfl) (fun _ _ _ h => h) rfl rfl rfl (HSub.c 0 rfl (HSub.c 1 rfl (HSub.c 2 rfl HSub.n))) CSub.n (Le.refl _) (yl_fieldAddr (off' := 4) rfl rfl Tryz.underlying88 rfl Tryz.sizeOf32 rfl) ?_
      refine JA.take 8 rfl rfl (by kernel_rfl) (by kernel_rfl) (by kernel_rfl) (fun _ _ _ h => h) rfl rfl rfl (HSub.c 0 rfl (HSub.c 1 rfl (HSub.c 2 rfl HSub.n))) CSub.n (Le.refl _) (yl_load rfl rfl Tryz.isAgg32 (Blk.atC 0 rfl) rfl) ?_
      refine JA.step 9 (by kernel_rfl) rfl rfl (op_store 2 rfl rfl rfl rfl rfl rfl Tryz.sizeOf28 rfl rfl (LSpl.c (LSpl.c (LSpl.c (LSpl.c (LSpl.c LSpl.z))))) (LSet.s (LSet.s LSet.z)) ?_)
      refine ⟨⟨(Le.refl _), (HSub.c 0 rfl (HSub.c 1 rfl (HSub.c 2 rfl HSub.n))), CSub.n⟩, ?_⟩
      refine JA.take 10 rfl rfl (by kernel_rfl) (by kernel_rfl) (by kernel_rfl) (fun _ _ _ h => h) rfl rfl rfl (HSub.c 0 rfl (HSub.c 1 rfl (HSub.c 2 rfl HSub.n))) CSub.n (Le.refl _) (yl_assign rfl rfl) ?_
      refine JA.take 11 rfl rfl (by kernel_rfl) (by kernel_rfl) (by kernel_rfl) (fun _ _ _ h => h) rfl rfl rfl (HSub.c 0 rfl (HSub.c 1 rfl (HSub.c 2 rfl HSub.n))) CSub.n (Le.refl _) (yl_assign rfl rfl) ?_
      refine JA.done (by kernel_rfl) ?_
      refine Ej.seq ?_
      refine Cj.ret ?_
      refine Ej.seqRet ?_
      refine Ej.retCell3 (Keeps.d (Keeps.d (Keeps.d Keeps.n))) rfl rfl rfl (Blk.at 2 rfl) Tryz.isAgg28 Tryz.sizeOf28 rfl rfl rfl ?_
      have hev : Cq.parse s = (Cq.zero, t.pos, 40) := by simp only [Cq.parse, hq, if_neg hk0]
      rw [hev]
      exact ⟨⟨_, rfl, ⟨none, 0, rfl, .inl rfl⟩⟩, rfl⟩
    ·
      have hc14p := bne_f hc14
      have hk0 : t.kind = 0 := by have := bne_f hc14; omega
      refine Cj.skip ?_
      refine Ej.seq ?_
      refine Cj.seq ?_
      refine Cj.seq ?_
      refine Cj.region ?_
      refine J.y (yl_move rfl rfl) rfl rfl rfl ?_
      refine J.y (yl_nilCheck rfl rfl) rfl rfl rfl ?_
      refine J.y (yl_fieldAddr (off' := 4) rfl rfl Tryz.underlying88 rfl Tryz.sizeOf32 rfl) rfl rfl rfl ?_
      refine J.y (yl_load rfl rfl Tryz.isAgg32 (Blk.at 1 rfl) rfl) rfl rfl rfl ?_
      refine J.y (yl_neq rfl rfl rfl) rfl rfl rfl ?_
      refine J.nil ?_
      refine Ej.seq ?_
      refine Cj.cond rfl (fun hc21 => Bool.noConfusion (Eq.trans (Eq.symm rfl) hc21)) (fun hc21 => ?_)
      refine Cj.skip ?_
      refine Ej.seq ?_
      refine Cj.seq ?_
      refine Cj.region ?_
      refine J.y (yl_loadAgg rfl rfl Tryz.isAgg28 Tryz.sizeOf28 (Blk.at 0 rfl) rfl rfl) rfl rfl rfl ?_
      refine J.op rfl (op_store 2 rfl rfl rfl rfl rfl rfl Tryz.sizeOf28 rfl rfl (LSpl.c (LSpl.c (LSpl.c (LSpl.c (LSpl.c LSpl.z))))) (LSet.s (LSet.s LSet.z)) ?_)
      refine J.y (yl_assign rfl rfl) rfl rfl rfl ?_
      refine J.y (yl_assign rfl rfl) rfl rfl rfl ?_
      refine J.nil ?_
      refine Ej.seq ?_
      refine Cj.ret ?_
      refine Ej.retCell3 (Keeps.d (Keeps.d (Keeps.d Keeps.n))) rfl rfl rfl (Blk.at 2 rfl) Tryz.isAgg28 Tryz.sizeOf28 rfl rfl rfl ?_
      have hev : Cq.parse s = (q, 0, 0) := by simp only [Cq.parse, hq, if_pos hk0]
      rw [hev]
      exact ⟨⟨_, rfl, ⟨pq, cq, rfl, hps⟩⟩, rfl⟩
  ·
    rw [hq] at hp12
    obtain ⟨qe, pq, cq, k2, deep2, h1, rfl, hne⟩ := hp12
    cases h1
    refine J.op rfl (op_alloc rfl rfl rfl Tryz.zeroValue28 rfl ?_)
    intro b22 hb22
    refine J.op rfl (op_store 0 rfl rfl rfl rfl rfl rfl Tryz.sizeOf28 rfl rfl (LSpl.c (LSpl.c (LSpl.c (LSpl.c (LSpl.c LSpl.z))))) LSet.z ?_)
    refine J.nil ?_
    refine Ej.seq ?_
    refine Cj.seq ?_
    refine Cj.seq ?_
    refine Cj.drawSel [0, 1, 2] [] 19 (by kernel_rfl) ?_
    refine JA.take 0 rfl rfl (by kernel_rfl) (by kernel_rfl) (by kernel_rfl) (fun _ _ _ h => h) rfl rfl rfl (HSub.c 0 rfl (HSub.c 1 rfl (HSub.c 2 rfl HSub.n))) CSub.n (Le.refl _) (yl_move rfl rfl) ?_
    refine JA.take 1 rfl rfl (by kernel_rfl) (by kernel_rfl) (by kernel_rfl) (fun _ _ _ h => h) rfl rfl rfl (HSub.c 0 rfl (HSub.c 1 rfl (HSub.c 2 rfl HSub.n))) CSub.n (Le.refl _) (yl_nilCheck rfl rfl) ?_
    refine JA.take 2 rfl rfl (by kernel_rfl) (by kernel_rfl) (by kernel_rfl) (fun _ _ _ h => h) rfl rfl rfl (HSub.c 0 rfl (HSub.c 1 rfl (HSub.c 2 rfl HSub.n))) CSub.n (Le.refl _) (yl_fieldAddr (off' := 4) rfl rfl Tryz.underlying88 rfl Tryz.sizeOf32 rfl) ?_
    refine JA.take 3 rfl rfl (by kernel_rfl) (by kernel_rfl) (by kernel_rfl) (fun _ _ _ h => h) rfl rfl rfl (HSub.c 0 rfl (HSub.c 1 rfl (HSub.c 2 rfl HSub.n))) CSub.n (Le.refl _) (yl_load rfl rfl Tryz.isAgg32 (Blk.atC 1 rfl) rfl) ?_
    refine JA.take 4 rfl rfl (by kernel_rfl) (by kernel_rfl) (by kernel_rfl) (fun _ _ _ h => h) rfl rfl rfl (HSub.c 0 rfl (HSub.c 1 rfl (HSub.c 2 rfl HSub.n))) CSub.n (Le.refl _) (yl_eql rfl rfl rfl) ?_
    refine JA.take 5 rfl rfl (by kernel_rfl) (by kernel_rfl) (by kernel_rfl) (fun _ _ _ h => h) rfl rfl rfl (HSub.c 0 rfl (HSub.c 1 rfl (HSub.c 2 rfl HSub.n))) CSub.n (Le.refl _) (yl_move rfl rfl) ?_
    refine JA.takeS 6 5 18 true _ rfl rfl (by kernel_rfl) (by kernel_rfl) (by kernel_rfl) (fun _ _ _ h => h) rfl rfl rfl (.inl (congrArg Value.bool (show ((ee : Int) == 0) = false by simpa using hne))) rfl rfl (HSub.c 0 rfl (HSub.c 1 rfl (HSub.c 2 rfl HSub.n))) CSub.n (Le.refl _) ?_
    refine JA.takeS 7 5 18 true _ rfl rfl (by kernel_rfl) (by kernel_rfl) (by kernel_rfl) (fun _ _ _ h => h) rfl rfl rfl (.inl (congrArg Value.bool (show ((ee : Int) == 0) = false by simpa using hne))) rfl rfl (HSub.c 0 rfl (HSub.c 1 rfl (HSub.c 2 rfl HSub.n))) CSub.n (Le.refl _) ?_
    refine JA.takeS 8 5 18 true _ rfl rfl (by kernel_rfl) (by kernel_rfl) (by kernel_rfl) (fun _ _ _ h => h) rfl rfl rfl (.inl (congrArg Value.bool (show ((ee : Int) == 0) = false by simpa using hne))) rfl rfl (HSub.c 0 rfl (HSub.c 1 rfl (HSub.c 2 rfl HSub.n))) CSub.n (Le.refl _) ?_
    refine JA.takeS 9 5 18 true _ rfl rfl (by kernel_rfl) (by kernel_rfl) (by kernel_rfl) (fun _ _ _ h => h) rfl rfl rfl (.inl (congrArg Value.bool (show ((ee : Int) == 0) = false by simpa using hne))) rfl rfl (HSub.c 0 rfl (HSub.c 1 rfl (HSub.c 2 rfl HSub.n))) CSub.n (Le.refl _) ?_
    refine JA.takeS 10 5 18 true _ rfl rfl (by kernel_rfl) (by kernel_rfl) (by kernel_rfl) (fun _ _ _ h => h) rfl rfl rfl (.inl (congrArg Value.bool (show ((ee : Int) == 0) = false by simpa using hne))) rfl rfl (HSub.c 0 rfl (HSub.c 1 rfl (HSub.c 2 rfl HSub.n))) CSub.n (Le.refl _) ?_
    refine JA.takeS 11 5 18 true _ rfl rfl (by kernel_rfl) (by kernel_rfl) (by kernel_rfl) (fun _ _ _ h => h) rfl rfl rfl (.inl (congrArg Value.bool (show ((ee : Int) == 0) = false by simpa using hne))) rfl rfl (HSub.c 0 rfl (HSub.c 1 rfl (HSub.c 2 rfl HSub.n))) CSub.n (Le.refl _) ?_
    refine JA.takeS 12 5 18 true _ rfl rfl (by kernel_rfl) (by kernel_rfl) (by kernel_rfl) (fun _ _ _ h => h) rfl rfl rfl (.inl (congrArg Value.bool (show ((ee : Int) == 0) = false by simpa using hne))) rfl rfl (HSub.c 0 rfl (HSub.c 1 rfl (HSub.c 2 rfl HSub.n))) CSub.n (Le.refl _) ?_
    refine JA.takeS 13 5 18 true _ rfl rfl (by kernel_rfl) (by kernel_rfl) (by kernel_rfl) (fun _ _ _ h => h) rfl rfl rfl (.inl (congrArg Value.bool (show ((ee : Int) == 0) = false by simpa using hne))) rfl rfl (HSub.c 0 rfl (HSub.c 1 rfl (HSub.c 2 rfl HSub.n))) CSub.n (Le.refl _) ?_
    refine JA.takeS 14 5 18 true _ rfl rfl (by kernel_rfl) (by kernel_rfl) (by kernel_rfl) (fun _ _ _ h => h) rfl rfl rfl (.inl (congrArg Value.bool (show ((ee : Int) == 0) = false by simpa using hne))) rfl rfl (HSub.c 0 rfl (HSub.c 1 rfl (HSub.c 2 rfl HSub.n))) CSub.n (Le.refl _) ?_
    refine JA.takeS 15 5 18 true _ rfl rfl (by kernel_rfl) (by kernel_rfl) (by kernel_rfl) (fun _ _ _ h => h) rfl rfl rfl (.inl (congrArg Value.bool (show ((ee : Int) == 0) = false by simpa using hne))) rfl rfl (HSub.c 0 rfl (HSub.c 1 rfl (HSub.c 2 rfl HSub.n))) CSub.n (Le.refl _) ?_
    refine JA.takeS 16 5 18 true _ rfl rfl (by kernel_rfl) (by kernel_rfl) (by kernel_rfl) (fun _ _ _ h => h) rfl rfl rfl (.inl (congrArg Value.bool (show ((ee : Int) == 0) = false by simpa using hne))) rfl rfl (HSub.c 0 rfl (HSub.c 1 rfl (HSub.c 2 rfl HSub.n))) CSub.n (Le.refl _) ?_
    refine JA.takeS 17 5 18 true _ rfl rfl (by kernel_rfl) (by kernel_rfl) (by kernel_rfl) (fun _ _ _ h => h) rfl rfl rfl (.inl (congrArg Value.bool (show ((ee : Int) == 0) = false by simpa using hne))) rfl rfl (HSub.c 0 rfl (HSub.c 1 rfl (HSub.c 2 rfl HSub.n))) CSub.n (Le.refl _) ?_
    refine JA.take 18 rfl rfl (by kernel_rfl) (by kernel_rfl) (by kernel_rfl) (fun _ _ _ h => h) rfl rfl rfl (HSub.c 0 rfl (HSub.c 1 rfl (HSub.c 2 rfl HSub.n))) CSub.n (Le.refl _) (yl_pick0 rfl rfl (show ((ee : Int) == 0) = false by simpa using hne) rfl) ?_
    refine JA.done (by kernel_rfl) ?_
    refine Ej.seq ?_
    refine Cj.cond rfl (fun hc23 => Bool.noConfusion (Eq.trans (Eq.symm rfl) hc23)) (fun hc23 => ?_)
    refine Cj.skip ?_
    refine Ej.seq ?_
    refine Cj.seq ?_
    refine Cj.seq ?_
    refine Cj.region ?_
    refine J.y (yl_move rfl rfl) rfl rfl rfl ?_
    refine J.y (yl_nilCheck rfl rfl) rfl rfl rfl ?_
    refine J.y (yl_fieldAddr (off' := 4) rfl rfl Tryz.underlying88 rfl Tryz.sizeOf32 rfl) rfl rfl rfl ?_
    refine J.y (yl_load rfl rfl Tryz.isAgg32 (Blk.at 1 rfl) rfl) rfl rfl rfl ?_
    refine J.y (yl_neq rfl rfl rfl) rfl rfl rfl ?_
    refine J.nil ?_
    refine Ej.seq ?_
    refine Cj.cond rfl (fun hc24 => ?_) (fun hc24 => Bool.noConfusion (Eq.trans (Eq.symm (show ((ee : Int) != 0) = true by simpa using hne)) hc24))
    refine Cj.seq ?_
    refine Cj.drawSel [0, 1, 2] [] 12 (by kernel_rfl) ?_
    refine JA.take 0 rfl rfl (by kernel_rfl) (by kernel_rfl) (by kernel_rfl) (fun _ _ _ h => h) rfl rfl rfl (HSub.c 0 rfl (HSub.c 1 rfl (HSub.c 2 rfl HSub.n))) CSub.n (Le.refl _) (yl_buildS (pl := #[(0, 1), (1, 1), (2, 1), (3, 1), (4, 1)]) rfl rfl Tryz.zeroValue28 rfl Tryz.underlying28 (fun w => by simp [Tryz.sizeOf26, Tryz.sizeOf3, Tryz.sizeOf9]) LBld.none) ?_
    refine JA.take 1 rfl rfl (by kernel_rfl) (by kernel_rfl) (by kernel_rfl) (fun _ _ _ h => h) rfl rfl rfl (HSub.c 0 rfl (HSub.c 1 rfl (HSub.c 2 rfl HSub.n))) CSub.n (Le.refl _) (yl_move rfl rfl) ?_
    refine JA.take 2 rfl rfl (by kernel_rfl) (by kernel_rfl) (by kernel_rfl) (fun _ _ _ h => h) rfl rfl rfl (HSub.c 0 rfl (HSub.c 1 rfl (HSub.c 2 rfl HSub.n))) CSub.n (Le.refl _) (yl_nilCheck rfl rfl) ?_
    refine JA.take 3 rfl rfl (by kernel_rfl) (by kernel_rfl) (by kernel_rfl) (fun _ _ _ h => h) rfl rfl rfl (HSub.c 0 rfl (HSub.c 1 rfl (HSub.c 2 rfl HSub.n))) CSub.n (Le.refl _) (yl_fieldAddr (off' := 3) rfl rfl Tryz.underlying88 rfl Tryz.sizeOf3 rfl) ?_
    refine JA.take 4 rfl rfl (by kernel_rfl) (by kernel_rfl) (by kernel_rfl) (fun _ _ _ h => h) rfl rfl rfl (HSub.c 0 rfl (HSub.c 1 rfl (HSub.c 2 rfl HSub.n))) CSub.n (Le.refl _) (yl_load rfl rfl Tryz.isAgg3 (Blk.atC 1 rfl) rfl) ?_
    refine JA.take 5 rfl rfl (by kernel_rfl) (by kernel_rfl) (by kernel_rfl) (fun _ _ _ h => h) rfl rfl rfl (HSub.c 0 rfl (HSub.c 1 rfl (HSub.c 2 rfl HSub.n))) CSub.n (Le.refl _) (yl_move rfl rfl) ?_
    refine JA.take 6 rfl rfl (by kernel_rfl) (by kernel_rfl) (by kernel_rfl) (fun _ _ _ h => h) rfl rfl rfl (HSub.c 0 rfl (HSub.c 1 rfl (HSub.c 2 rfl HSub.n))) CSub.n (Le.refl _) (yl_nilCheck rfl rfl) ?_
    refine JA.take 7 rfl rfl (by kernel_rfl) (by kernel_rfl) (by kernel_rfl) (fun _ _ _ h => h) rfl rfl rfl (HSub.c 0 rfl (HSub.c 1 rfl (HSub.c 2 rfl HSub.n))) CSub.n (Le.refl _) (yl_fieldAddr (off' := 4) rfl rfl Tryz.underlying88 rfl Tryz.sizeOf32 rfl) ?_
    refine JA.take 8 rfl rfl (by kernel_rfl) (by kernel_rfl) (by kernel_rfl) (fun _ _ _ h => h) rfl rfl rfl (HSub.c 0 rfl (HSub.c 1 rfl (HSub.c 2 rfl HSub.n))) CSub.n (Le.refl _) (yl_load rfl rfl Tryz.isAgg32 (Blk.atC 1 rfl) rfl) ?_
    refine JA.step 9 (by kernel_rfl) rfl rfl (op_store 2 rfl rfl rfl rfl rfl rfl Tryz.sizeOf28 rfl rfl (LSpl.c (LSpl.c (LSpl.c (LSpl.c (LSpl.c LSpl.z))))) (LSet.s (LSet.s LSet.z)) ?_)
    refine ⟨⟨(Le.refl _), (HSub.c 0 rfl (HSub.c 1 rfl (HSub.c 2 rfl HSub.n))), CSub.n⟩, ?_⟩
    refine JA.take 10 rfl rfl (by kernel_rfl) (by kernel_rfl) (by kernel_rfl) (fun _ _ _ h => h) rfl rfl rfl (HSub.c 0 rfl (HSub.c 1 rfl (HSub.c 2 rfl HSub.n))) CSub.n (Le.refl _) (yl_assign rfl rfl) ?_
    refine JA.take 11 rfl rfl (by kernel_rfl) (by kernel_rfl) (by kernel_rfl) (fun _ _ _ h => h) rfl rfl rfl (HSub.c 0 rfl (HSub.c 1 rfl (HSub.c 2 rfl HSub.n))) CSub.n (Le.refl _) (yl_assign rfl rfl) ?_
    refine JA.done (by kernel_rfl) ?_
    refine Ej.seq ?_
    refine Cj.ret ?_
    refine Ej.seqRet ?_
    refine Ej.retCell3 (Keeps.d (Keeps.d (Keeps.d Keeps.n))) rfl rfl rfl (Blk.at 2 rfl) Tryz.isAgg28 Tryz.sizeOf28 rfl rfl rfl ?_
    have hev : Cq.parse s = (Cq.zero, pe, ee) := by simp only [Cq.parse, hq]
    rw [hev]
    exact ⟨⟨_, rfl, ⟨none, 0, rfl, .inl rfl⟩⟩, rfl⟩

end Go.Proofs.YtlfpehljahgbkaaGreatDoor
