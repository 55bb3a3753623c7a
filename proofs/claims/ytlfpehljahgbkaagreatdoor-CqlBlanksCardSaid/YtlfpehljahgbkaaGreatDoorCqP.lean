/-
  Contracts of cql's parser: open, clause, query. Own text, printed by a program. Conditions: none.
-/
import Derived.Test.YtlfpehljahgbkaaGreatDoorCqCur
import Derived.Test.YtlfpehljahgbkaaGreatDoorSxLib
namespace Go.Proofs.YtlfpehljahgbkaaGreatDoor
open Go Go.Sx
/-- What a reading function leaves: the query and the state behind it, or a panic with the error. -/
def COut (pb : Nat) (s : List UInt8) (deep : Nat) (res : Cq.Res) : Ending → Heap → HL → Prop := fun e I' H' =>
  match res with
  | .ok q ts2 => ∃ v i2 t2, e = .returned v ∧ QV I' q v ∧ H' = PH pb s i2 t2 deep ∧ Cq.Cur s i2 t2 ts2
  | .err p er => e = .panicked (faultC p er) ∧ H' = []
def CCSpec (f : Nat) : Prop := ∀ (pb i deep : Nat) (s : List UInt8) (t : Cq.Tok) (ts : List Cq.Tok) (I : Heap), Cq.Cur s i t ts → Tabs I → s.length ≤ 1000000000 → 2 * ts.length + 1 ≤ f → deep ≤ 50 →
  Ctr Tryz.prog 55 [ptr pb 0] I (PH pb s i t deep) (COut pb s deep (Cq.clause f deep ts))
def CQSpec (f : Nat) : Prop := ∀ (pb i deep : Nat) (s : List UInt8) (t : Cq.Tok) (ts : List Cq.Tok) (I : Heap), Cq.Cur s i t ts → Tabs I → s.length ≤ 1000000000 → 2 * ts.length + 2 ≤ f → deep ≤ 50 →
  Ctr Tryz.prog 34 [ptr pb 0] I (PH pb s i t deep) (COut pb s deep (Cq.query f deep ts))
def COSpec (f : Nat) : Prop := ∀ (pb i deep : Nat) (s : List UInt8) (t : Cq.Tok) (r : List Cq.Tok) (I : Heap), Cq.Cur s i t (t :: r) → Tabs I → s.length ≤ 1000000000 → 2 * r.length + 2 ≤ f → deep ≤ 50 → Cq.lp t = true →
  Ctr Tryz.prog 75 [ptr pb 0] I (PH pb s i t deep) (COut pb s deep (Cq.clause (f + 1) deep (t :: r)))
set_option maxRecDepth 20000 in
theorem copen_step (f : Nat) (ih : CQSpec f) : COSpec f := by
  intro pb i deep s t r I hcur ht hs hf hd hlp
  obtain ⟨hi, hcur2⟩ := hcur.next (Cq.over_lp hlp)
  refine Ctr.of_body Tryz.func75 rfl (by decide) (Nat.le_of_ble_eq_true rfl) ?_
  intro w0 hw0
  refine Cj.seq ?_
  refine Cj.region ?_
  refine J.op rfl (op_alloc rfl rfl rfl Tryz.zeroValue28 rfl ?_)
  intro b1 hb1
  refine J.nil ?_
  refine Ej.seq ?_
  refine Cj.seq ?_
  refine Cj.region ?_
  refine J.y (yl_move rfl rfl) rfl rfl rfl ?_
  refine J.y (yl_nilCheck rfl rfl) rfl rfl rfl ?_
  refine J.y (yl_fieldAddr (off' := 5) rfl rfl Tryz.underlying78 rfl Tryz.sizeOf3 rfl) rfl rfl rfl ?_
  refine J.y (yl_load rfl rfl Tryz.isAgg3 (Blk.at 1 rfl) rfl) rfl rfl rfl ?_
  refine J.y (yl_add rfl rfl rfl (w64 (by omega))) rfl rfl rfl ?_
  refine J.eqv 8 rfl (show _ = i64 ((deep + 1 : Nat) : Int) from (by simp)) ?_
  refine J.y (yl_nilCheck rfl rfl) rfl rfl rfl ?_
  refine J.y (yl_fieldAddr (off' := 5) rfl rfl Tryz.underlying78 rfl Tryz.sizeOf3 rfl) rfl rfl rfl ?_
  refine J.op rfl (op_store 1 rfl rfl rfl rfl rfl rfl Tryz.sizeOf3 rfl rfl (LSpl.s (LSpl.s (LSpl.s (LSpl.s (LSpl.s (LSpl.c LSpl.z)))))) (LSet.s LSet.z) ?_)
  refine J.nil ?_
  refine Ej.seq ?_
  refine Cj.seq ?_
  refine Cj.seq ?_
  refine Cj.region ?_
  refine J.y (yl_move rfl rfl) rfl rfl rfl ?_
  refine J.y (yl_nilCheck rfl rfl) rfl rfl rfl ?_
  refine J.y (yl_fieldAddr (off' := 5) rfl rfl Tryz.underlying78 rfl Tryz.sizeOf3 rfl) rfl rfl rfl ?_
  refine J.y (yl_load rfl rfl Tryz.isAgg3 (Blk.at 1 rfl) rfl) rfl rfl rfl ?_
  refine J.y (yl_gtr rfl rfl rfl) rfl rfl rfl ?_
  refine J.nil ?_
  refine Ej.seq ?_
  refine Cj.cond rfl (fun hc2 => ?_) (fun hc2 => ?_)
  ·
    have hc2p := of_decide_eq_true hc2
    refine Cj.region ?_
    refine J.y (yl_move rfl rfl) rfl rfl rfl ?_
    refine J.y (yl_move rfl rfl) rfl rfl rfl ?_
    refine J.y (yl_nilCheck rfl rfl) rfl rfl rfl ?_
    refine J.y (yl_fieldAddr (off' := 0) rfl rfl Tryz.underlying78 rfl Tryz.sizeOf76 rfl) rfl rfl rfl ?_
    refine J.y (yl_fieldAddr (off' := 2) rfl rfl Tryz.underlying76 rfl Tryz.sizeOf74 rfl) rfl rfl rfl ?_
    refine J.y (yl_loadAgg rfl rfl Tryz.isAgg74 Tryz.sizeOf74 (Blk.at 1 rfl) rfl rfl) rfl rfl rfl ?_
    refine J.op rfl (op_call (H1 := []) rfl rfl rfl rfl rfl (cfail_ok _ _ _ _) (fun _ _ _ _ h => by cases h.1) ?_ (fun _ _ h => by cases h.1))
    ·
      intro v3 I4 H5 hle6 hp7
      have ht := ht.mono hle6
      obtain ⟨h, rfl⟩ := hp7; cases h
      refine Ej.seqPanic ?_
      refine Ej.bare ?_
      refine Ej.pan rfl ?_
      show COut pb s deep (Cq.clause (f + 1) deep (t :: r)) _ _ _
      have hev : Cq.clause (f + 1) deep (t :: r) = .err t.pos 41 := by simp [Cq.clause, hlp]; omega
      rw [hev]
      exact ⟨rfl, rfl⟩
  ·
    have hc2p := of_decide_eq_false hc2
    refine Cj.skip ?_
    refine Ej.seq ?_
    refine Cj.seq ?_
    refine Cj.region ?_
    refine J.y (yl_move rfl rfl) rfl rfl rfl ?_
    refine J.y (yl_nilCheck rfl rfl) rfl rfl rfl ?_
    refine J.y (yl_fieldAddr (off' := 0) rfl rfl Tryz.underlying78 rfl Tryz.sizeOf76 rfl) rfl rfl rfl ?_
    refine J.pull (Pull.s Pull.z) ?_
    refine J.op rfl (op_call (H1 := [_]) rfl rfl rfl rfl rfl (scan_ok _ _ s _ _ _ _ _ hi hs _) ?_ (fun _ _ _ _ h => by cases h.1) (fun _ _ h => by cases h.1))
    intro v8 I9 H10 hle11 hp12
    have ht := ht.mono hle11
    obtain ⟨h, rfl⟩ := hp12; cases h
    refine J.nil ?_
    refine Ej.seq ?_
    refine Cj.seq ?_
    refine Cj.region ?_
    refine J.y (yl_move rfl rfl) rfl rfl rfl ?_
    rcases hq : Cq.query f (deep + 1) r with ⟨q, ts2⟩ | ⟨pe, ee⟩
    ·
      skip
      refine J.pull Pull.z ?_
      refine J.op rfl (op_call (H1 := [_]) rfl rfl rfl rfl rfl ((by have h := ih pb (Cq.lex s i).2 (deep + 1) s (Cq.lex s i).1 r _ hcur2 ht hs hf (by omega); rw [hq] at h; exact h)) ?_ (fun _ _ _ _ h => by obtain ⟨_, _, _, h, _⟩ := h; cases h) (fun _ _ h => by obtain ⟨_, _, _, h, _⟩ := h; cases h))
      intro v13 I14 H15 hle16 hp17
      have ht := ht.mono hle16
      obtain ⟨vq, i2, t2, h, ⟨pq, cq, rfl, hps⟩, rfl, hcur3⟩ := hp17; cases h
      obtain ⟨r2, rfl⟩ := hcur3.cons
      refine J.op rfl (op_alloc rfl rfl rfl Tryz.zeroValue28 rfl ?_)
      intro b18 hb18
      refine J.op rfl (op_store 0 rfl rfl rfl rfl rfl rfl Tryz.sizeOf28 rfl rfl (LSpl.c (LSpl.c (LSpl.c (LSpl.c (LSpl.c LSpl.z))))) LSet.z ?_)
      refine J.nil ?_
      refine Ej.seq ?_
      refine Cj.seq ?_
      refine Cj.seq ?_
      refine Cj.region ?_
      refine J.y (yl_move rfl rfl) rfl rfl rfl ?_
      refine J.y (yl_nilCheck rfl rfl) rfl rfl rfl ?_
      refine J.y (yl_fieldAddr (off' := 0) rfl rfl Tryz.underlying78 rfl Tryz.sizeOf76 rfl) rfl rfl rfl ?_
      refine J.pull (Pull.s Pull.z) ?_
      refine J.op rfl (op_call (H1 := [_]) rfl rfl rfl rfl rfl (cis_ok pb s i2 t2 (deep + 1) [41] _) ?_ (fun _ _ _ _ h => by cases h.1) (fun _ _ h => by cases h.1))
      intro v19 I20 H21 hle22 hp23
      have ht := ht.mono hle22
      have hps := hps.mono hle22
      obtain ⟨h, rfl⟩ := hp23; cases h
      refine J.y (yl_not rfl rfl) rfl rfl rfl ?_
      refine J.nil ?_
      refine Ej.seq ?_
      refine Cj.cond rfl (fun hc24 => ?_) (fun hc24 => ?_)
      ·
        have hrp : Cq.rp t2 = false := by have h := hc24; rw [Bool.not_eq_true'] at h; exact h
        refine Cj.region ?_
        refine J.y (yl_move rfl rfl) rfl rfl rfl ?_
        refine J.y (yl_move rfl rfl) rfl rfl rfl ?_
        refine J.y (yl_nilCheck rfl rfl) rfl rfl rfl ?_
        refine J.y (yl_fieldAddr (off' := 0) rfl rfl Tryz.underlying78 rfl Tryz.sizeOf76 rfl) rfl rfl rfl ?_
        refine J.y (yl_fieldAddr (off' := 2) rfl rfl Tryz.underlying76 rfl Tryz.sizeOf74 rfl) rfl rfl rfl ?_
        refine J.y (yl_loadAgg rfl rfl Tryz.isAgg74 Tryz.sizeOf74 (Blk.at 0 rfl) rfl rfl) rfl rfl rfl ?_
        refine J.op rfl (op_call (H1 := []) rfl rfl rfl rfl rfl (cfail_ok _ _ _ _) (fun _ _ _ _ h => by cases h.1) ?_ (fun _ _ h => by cases h.1))
        ·
          intro v25 I26 H27 hle28 hp29
          have ht := ht.mono hle28
          have hps := hps.mono hle28
          obtain ⟨h, rfl⟩ := hp29; cases h
          refine Ej.seqPanic ?_
          refine Ej.bare ?_
          refine Ej.pan rfl ?_
          show COut pb s deep (Cq.clause (f + 1) deep (t :: r)) _ _ _
          have hev : Cq.clause (f + 1) deep (t :: r) = .err t2.pos 40 := by simp only [Cq.clause, hlp, if_true, hq, hrp]; rw [if_neg (by omega)]; rfl
          rw [hev]
          exact ⟨rfl, rfl⟩
      ·
        have hrp : Cq.rp t2 = true := by have h := hc24; simpa [Cq.rp] using h
        obtain ⟨hi2, hcur4⟩ := hcur3.next (Cq.over_rp hrp)
        refine Cj.skip ?_
        refine Ej.seq ?_
        refine Cj.seq ?_
        refine Cj.region ?_
        refine J.y (yl_move rfl rfl) rfl rfl rfl ?_
        refine J.y (yl_nilCheck rfl rfl) rfl rfl rfl ?_
        refine J.y (yl_fieldAddr (off' := 5) rfl rfl Tryz.underlying78 rfl Tryz.sizeOf3 rfl) rfl rfl rfl ?_
        refine J.y (yl_load rfl rfl Tryz.isAgg3 (Blk.at 0 rfl) rfl) rfl rfl rfl ?_
        refine J.y (yl_sub rfl rfl rfl (w64 (by omega))) rfl rfl rfl ?_
        refine J.eqv 45 rfl (show _ = i64 (deep : Int) from (by congr 1; omega)) ?_
        refine J.y (yl_nilCheck rfl rfl) rfl rfl rfl ?_
        refine J.y (yl_fieldAddr (off' := 5) rfl rfl Tryz.underlying78 rfl Tryz.sizeOf3 rfl) rfl rfl rfl ?_
        refine J.op rfl (op_store 0 rfl rfl rfl rfl rfl rfl Tryz.sizeOf3 rfl rfl (LSpl.s (LSpl.s (LSpl.s (LSpl.s (LSpl.s (LSpl.c LSpl.z)))))) LSet.z ?_)
        refine J.nil ?_
        refine Ej.seq ?_
        refine Cj.seq ?_
        refine Cj.region ?_
        refine J.y (yl_move rfl rfl) rfl rfl rfl ?_
        refine J.y (yl_nilCheck rfl rfl) rfl rfl rfl ?_
        refine J.y (yl_fieldAddr (off' := 0) rfl rfl Tryz.underlying78 rfl Tryz.sizeOf76 rfl) rfl rfl rfl ?_
        refine J.pull Pull.z ?_
        refine J.op rfl (op_call (H1 := [_]) rfl rfl rfl rfl rfl (scan_ok _ _ s _ _ _ _ _ hi2 hs _) ?_ (fun _ _ _ _ h => by cases h.1) (fun _ _ h => by cases h.1))
        intro v30 I31 H32 hle33 hp34
        have ht := ht.mono hle33
        have hps := hps.mono hle33
        obtain ⟨h, rfl⟩ := hp34; cases h
        refine J.nil ?_
        refine Ej.seq ?_
        refine Cj.seq ?_
        refine Cj.region ?_
        refine J.y (yl_loadAgg rfl rfl Tryz.isAgg28 Tryz.sizeOf28 (Blk.at 1 rfl) rfl rfl) rfl rfl rfl ?_
        refine J.op rfl (op_store 2 rfl rfl rfl rfl rfl rfl Tryz.sizeOf28 rfl rfl (LSpl.c (LSpl.c (LSpl.c (LSpl.c (LSpl.c LSpl.z))))) (LSet.s (LSet.s LSet.z)) ?_)
        refine J.nil ?_
        refine Ej.seq ?_
        refine Cj.ret ?_
        refine Ej.retCellK (Keeps.k (Keeps.d (Keeps.d Keeps.n))) rfl rfl rfl (Blk.at 2 rfl) Tryz.isAgg28 Tryz.sizeOf28 rfl ?_
        show COut pb s deep (Cq.clause (f + 1) deep (t :: r)) _ _ _
        have hev : Cq.clause (f + 1) deep (t :: r) = .ok q r2 := by simp only [Cq.clause, hlp, if_true, hq, hrp]; rw [if_neg (by omega)]
        rw [hev]
        exact ⟨_, _, _, rfl, ⟨pq, cq, rfl, hps⟩, rfl, hcur4⟩
    ·
      skip
      refine J.pull Pull.z ?_
      refine J.op rfl (op_call (H1 := [_]) rfl rfl rfl rfl rfl ((by have h := ih pb (Cq.lex s i).2 (deep + 1) s (Cq.lex s i).1 r _ hcur2 ht hs hf (by omega); rw [hq] at h; exact h)) (fun _ _ _ _ h => by cases h.1) ?_ (fun _ _ h => by cases h.1))
      ·
        intro v35 I36 H37 hle38 hp39
        have ht := ht.mono hle38
        obtain ⟨h, rfl⟩ := hp39; cases h
        refine Ej.seqPanic ?_
        refine Ej.bare ?_
        refine Ej.pan rfl ?_
        show COut pb s deep (Cq.clause (f + 1) deep (t :: r)) _ _ _
        have hev : Cq.clause (f + 1) deep (t :: r) = .err pe ee := by simp only [Cq.clause, hlp, if_true, hq]; rw [if_neg (by omega)]
        rw [hev]
        exact ⟨rfl, rfl⟩

set_option maxRecDepth 20000 in
theorem cclause_step (f : Nat) (ih : COSpec f) : CCSpec (f + 1) := by
  intro pb i deep s t ts I hcur ht hs hf hd
  obtain ⟨r, rfl⟩ := hcur.cons
  have htx := hcur.txt
  refine Ctr.of_body Tryz.func55 rfl (by decide) (Nat.le_of_ble_eq_true rfl) ?_
  intro w0 hw0
  refine Cj.seq ?_
  refine Cj.region ?_
  refine J.op rfl (op_alloc rfl rfl rfl Tryz.zeroValue28 rfl ?_)
  intro b1 hb1
  refine J.nil ?_
  refine Ej.seq ?_
  refine Cj.seq ?_
  refine Cj.region ?_
  refine J.op rfl (op_makeMap rfl rfl rfl ?_)
  intro b2 hb2
  refine J.y (yl_move rfl rfl) rfl rfl rfl ?_
  refine J.y (yl_makeFunc rfl rfl rfl) rfl rfl rfl ?_
  refine J.op rfl (op_insert1 0 rfl rfl rfl rfl rfl Tryz.underlying133 Tryz.underlying9 rfl LSet.z ?_)
  refine J.y (yl_move rfl rfl) rfl rfl rfl ?_
  refine J.y (yl_assign rfl rfl) rfl rfl rfl ?_
  refine J.nil ?_
  refine Ej.seq ?_
  refine Cj.seq ?_
  refine Cj.region ?_
  refine J.y (yl_move rfl rfl) rfl rfl rfl ?_
  refine J.y (yl_nilCheck rfl rfl) rfl rfl rfl ?_
  refine J.y (yl_fieldAddr (off' := 0) rfl rfl Tryz.underlying78 rfl Tryz.sizeOf76 rfl) rfl rfl rfl ?_
  refine J.y (yl_fieldAddr (off' := 2) rfl rfl Tryz.underlying76 rfl Tryz.sizeOf74 rfl) rfl rfl rfl ?_
  refine J.y (yl_loadAgg rfl rfl Tryz.isAgg74 Tryz.sizeOf74 (Blk.at 2 rfl) rfl rfl) rfl rfl rfl ?_
  refine J.op rfl (op_alloc rfl rfl rfl Tryz.zeroValue74 rfl ?_)
  intro b3 hb3
  refine J.op rfl (op_store 0 rfl rfl rfl rfl rfl rfl Tryz.sizeOf74 rfl rfl (LSpl.c (LSpl.c (LSpl.c LSpl.z))) LSet.z ?_)
  refine J.nil ?_
  refine Ej.seq ?_
  refine Cj.seq ?_
  refine Cj.seq ?_
  refine Cj.region ?_
  refine J.y (yl_move rfl rfl) rfl rfl rfl ?_
  refine J.y (yl_fieldAddr (off' := 1) rfl rfl Tryz.underlying74 rfl Tryz.sizeOf9 rfl) rfl rfl rfl ?_
  refine J.y (yl_load rfl rfl Tryz.isAgg9 (Blk.at 0 rfl) rfl) rfl rfl rfl ?_
  by_cases htx0 : t.text = [40]
  ·
    skip
    refine J.y (yl_lookupHit rfl rfl (congrArg (fun z => some (str z)) htx0) Tryz.underlying133 Tryz.underlying9 (Blk.at 1 rfl)) rfl rfl rfl ?_
    refine J.y (yl_move rfl rfl) rfl rfl rfl ?_
    refine J.y (yl_extract rfl rfl rfl) rfl rfl rfl ?_
    refine J.y (yl_extract rfl rfl rfl) rfl rfl rfl ?_
    refine J.y (yl_assign rfl rfl) rfl rfl rfl ?_
    refine J.y (yl_assign rfl rfl) rfl rfl rfl ?_
    refine J.nil ?_
    refine Ej.seq ?_
    refine Cj.seq ?_
    refine Cj.region ?_
    refine J.y (yl_move rfl rfl) rfl rfl rfl ?_
    refine J.y (yl_move rfl rfl) rfl rfl rfl ?_
    refine J.opG 1 25 true _ rfl rfl rfl rfl (op_yld (yl_fieldAddr (off' := 0) rfl rfl Tryz.underlying74 rfl Tryz.sizeOf72 rfl) rfl rfl ?_)
    refine J.opG 1 25 true _ rfl rfl rfl rfl (op_yld (yl_load rfl rfl Tryz.isAgg72 (Blk.at 0 rfl) rfl) rfl rfl ?_)
    refine J.opG 1 25 true _ rfl rfl rfl rfl (op_yld (yl_eql rfl rfl rfl) rfl rfl ?_)
    refine J.y (yl_pick1 rfl rfl rfl rfl) rfl rfl rfl ?_
    refine J.nil ?_
    refine Ej.seq ?_
    refine Cj.cond rfl (fun hc4 => ?_) (fun hc4 => ?_)
    ·
      have hc4p := eq_of_beq hc4
      have hk1 : t.kind = 1 := by have := eq_of_beq hc4; omega
      have hlp : Cq.lp t = true := by simp [Cq.lp, hk1, htx0]
      refine Cj.seq ?_
      refine Cj.region ?_
      refine J.y (yl_move rfl rfl) rfl rfl rfl ?_
      rcases hq : Cq.clause (f + 1) deep (t :: r) with ⟨q, ts2⟩ | ⟨pe, ee⟩
      ·
        skip
        refine J.pull (Pull.s (Pull.s (Pull.s Pull.z))) ?_
        refine J.op rfl (op_call (H1 := [_]) rfl rfl rfl rfl rfl ((by have h := ih pb i deep s t r _ hcur ht hs (by simp at hf; omega) hd hlp; rw [hq] at h; exact h)) ?_ (fun _ _ _ _ h => by obtain ⟨_, _, _, h, _⟩ := h; cases h) (fun _ _ h => by obtain ⟨_, _, _, h, _⟩ := h; cases h))
        intro v5 I6 H7 hle8 hp9
        have ht := ht.mono hle8
        obtain ⟨vq, i2, t2, h, ⟨pq, cq, rfl, hps⟩, rfl, hcur3⟩ := hp9; cases h
        refine J.op rfl (op_store 3 rfl rfl rfl rfl rfl rfl Tryz.sizeOf28 rfl rfl (LSpl.c (LSpl.c (LSpl.c (LSpl.c (LSpl.c LSpl.z))))) (LSet.s (LSet.s (LSet.s LSet.z))) ?_)
        refine J.nil ?_
        refine Ej.seq ?_
        refine Cj.ret ?_
        refine Ej.seqRet ?_
        refine Ej.retCellK (Keeps.k (Keeps.d (Keeps.d (Keeps.d Keeps.n)))) rfl rfl rfl (Blk.at 3 rfl) Tryz.isAgg28 Tryz.sizeOf28 rfl ?_
        exact ⟨_, _, _, rfl, ⟨pq, cq, rfl, hps⟩, rfl, hcur3⟩
      ·
        skip
        refine J.pull (Pull.s (Pull.s (Pull.s Pull.z))) ?_
        refine J.op rfl (op_call (H1 := [_]) rfl rfl rfl rfl rfl ((by have h := ih pb i deep s t r _ hcur ht hs (by simp at hf; omega) hd hlp; rw [hq] at h; exact h)) (fun _ _ _ _ h => by cases h.1) ?_ (fun _ _ h => by cases h.1))
        ·
          intro v10 I11 H12 hle13 hp14
          have ht := ht.mono hle13
          obtain ⟨h, rfl⟩ := hp14; cases h
          refine Ej.seqPanic ?_
          refine Ej.seqPanic ?_
          refine Ej.bare ?_
          refine Ej.pan rfl ?_
          exact ⟨rfl, rfl⟩
    ·
      have hc4p := ne_of_beq_false hc4
      have hlp : Cq.lp t = false := by have := ne_of_beq_false hc4; simp [Cq.lp]; omega
      refine Cj.skip ?_
      refine Ej.seq ?_
      refine Cj.seq ?_
      refine Cj.region ?_
      refine J.y (yl_move rfl rfl) rfl rfl rfl ?_
      refine J.y (yl_loadAgg rfl rfl Tryz.isAgg74 Tryz.sizeOf74 (Blk.at 0 rfl) rfl rfl) rfl rfl rfl ?_
      rcases hT : Cq.isTerm t with _ | _
      ·
        skip
        refine J.op rfl (op_call (H1 := []) rfl rfl rfl rfl rfl ((by have h := cterm_ok (ptr pb 0) t (by omega) _ ht; rw [hT] at h; exact h)) (fun _ _ _ _ h => by cases h.1) ?_ (fun _ _ h => by cases h.1))
        ·
          intro v15 I16 H17 hle18 hp19
          have ht := ht.mono hle18
          obtain ⟨h, rfl⟩ := hp19; cases h
          refine Ej.seqPanic ?_
          refine Ej.bare ?_
          refine Ej.pan rfl ?_
          show COut pb s deep (Cq.clause (f + 1) deep (t :: r)) _ _ _
          have hev : Cq.clause (f + 1) deep (t :: r) = .err t.pos 40 := by simp [Cq.clause, hlp, hT]
          rw [hev]
          exact ⟨rfl, rfl⟩
      ·
        obtain ⟨hi, hcur2⟩ := hcur.next (Cq.over_term hT)
        obtain ⟨r2, rfl⟩ := hcur2.cons
        have htx2 := hcur2.txt
        refine J.op rfl (op_call (H1 := []) rfl rfl rfl rfl rfl ((by have h := cterm_ok (ptr pb 0) t (by omega) _ ht; rw [hT] at h; exact h)) ?_ (fun _ _ _ _ h => by cases h.1) (fun _ _ h => by cases h.1))
        intro v20 I21 H22 hle23 hp24
        have ht := ht.mono hle23
        obtain ⟨h, rfl⟩ := hp24; cases h
        refine J.y (yl_buildS (pl := #[(0, 1), (1, 1), (2, 1), (3, 1), (4, 1)]) rfl rfl Tryz.zeroValue28 rfl Tryz.underlying28 (fun w => by simp [Tryz.sizeOf26, Tryz.sizeOf3, Tryz.sizeOf9]) (LBld.part rfl rfl rfl (LSpl.c LSpl.z) (LBld.part rfl rfl rfl (LSpl.s (LSpl.c LSpl.z)) (LBld.part rfl rfl rfl (LSpl.s (LSpl.s (LSpl.c LSpl.z))) (LBld.part rfl rfl rfl (LSpl.s (LSpl.s (LSpl.s (LSpl.c LSpl.z)))) LBld.none))))) rfl rfl rfl ?_
        refine J.op rfl (op_alloc rfl rfl rfl Tryz.zeroValue28 rfl ?_)
        intro b25 hb25
        refine J.op rfl (op_store 0 rfl rfl rfl rfl rfl rfl Tryz.sizeOf28 rfl rfl (LSpl.c (LSpl.c (LSpl.c (LSpl.c (LSpl.c LSpl.z))))) LSet.z ?_)
        refine J.nil ?_
        refine Ej.seq ?_
        refine Cj.seq ?_
        refine Cj.region ?_
        refine J.y (yl_move rfl rfl) rfl rfl rfl ?_
        refine J.y (yl_nilCheck rfl rfl) rfl rfl rfl ?_
        refine J.y (yl_fieldAddr (off' := 0) rfl rfl Tryz.underlying78 rfl Tryz.sizeOf76 rfl) rfl rfl rfl ?_
        refine J.pull (Pull.s (Pull.s (Pull.s (Pull.s Pull.z)))) ?_
        refine J.op rfl (op_call (H1 := [_]) rfl rfl rfl rfl rfl (scan_ok _ _ s _ _ _ _ _ hi hs _) ?_ (fun _ _ _ _ h => by cases h.1) (fun _ _ h => by cases h.1))
        intro v26 I27 H28 hle29 hp30
        have ht := ht.mono hle29
        obtain ⟨h, rfl⟩ := hp30; cases h
        refine J.nil ?_
        refine Ej.seq ?_
        refine Cj.seq ?_
        refine Cj.seq ?_
        refine Cj.region ?_
        refine J.y (yl_fieldAddr (off' := 0) rfl rfl Tryz.underlying74 rfl Tryz.sizeOf72 rfl) rfl rfl rfl ?_
        refine J.y (yl_load rfl rfl Tryz.isAgg72 (Blk.at 2 rfl) rfl) rfl rfl rfl ?_
        refine J.y (yl_neq rfl rfl rfl) rfl rfl rfl ?_
        refine J.y (yl_move rfl rfl) rfl rfl rfl ?_
        refine J.split 43 rfl (fun hg31 => ?_) (fun hg31 => ?_)
        ·
          have hk3 : t.kind ≠ 3 := by have := bne_iff_ne.1 hg31; omega
          refine J.skip 3 43 44 false _ rfl rfl rfl hg31 rfl rfl ?_
          refine J.skip 3 43 45 false _ rfl rfl rfl hg31 rfl rfl ?_
          refine J.skip 3 43 46 false _ rfl rfl rfl hg31 rfl rfl ?_
          refine J.skip 3 43 47 false _ rfl rfl rfl hg31 rfl rfl ?_
          refine J.skip 3 43 48 false _ rfl rfl rfl hg31 rfl rfl ?_
          refine J.skip 3 43 49 false _ rfl rfl rfl hg31 rfl rfl ?_
          refine J.skip 3 43 50 false _ rfl rfl rfl hg31 rfl rfl ?_
          refine J.y (yl_pick1 rfl rfl hg31 rfl) rfl rfl rfl ?_
          refine J.nil ?_
          refine Ej.seq ?_
          refine Cj.cond rfl (fun hc32 => ?_) (fun hc32 => Bool.noConfusion (Eq.trans (Eq.symm rfl) hc32))
          refine Cj.seq ?_
          refine Cj.region ?_
          refine J.y (yl_loadAgg rfl rfl Tryz.isAgg28 Tryz.sizeOf28 (Blk.at 1 rfl) rfl rfl) rfl rfl rfl ?_
          refine J.op rfl (op_store 4 rfl rfl rfl rfl rfl rfl Tryz.sizeOf28 rfl rfl (LSpl.c (LSpl.c (LSpl.c (LSpl.c (LSpl.c LSpl.z))))) (LSet.s (LSet.s (LSet.s (LSet.s LSet.z)))) ?_)
          refine J.nil ?_
          refine Ej.seq ?_
          refine Cj.ret ?_
          refine Ej.seqRet ?_
          refine Ej.retCellK (Keeps.k (Keeps.d (Keeps.d (Keeps.d (Keeps.d Keeps.n))))) rfl rfl rfl (Blk.at 4 rfl) Tryz.isAgg28 Tryz.sizeOf28 rfl ?_
          show COut pb s deep (Cq.clause (f + 1) deep (t :: (Cq.lex s i).1 :: r2)) _ _ _
          have hev : Cq.clause (f + 1) deep (t :: (Cq.lex s i).1 :: r2) = .ok ⟨1, [97, 110, 121], [61], t.text, .nil⟩ ((Cq.lex s i).1 :: r2) := by simp [Cq.clause, hlp, hT, hk3]
          rw [hev]
          exact ⟨_, _, _, rfl, ⟨none, 0, rfl, .inl rfl⟩, rfl, hcur2⟩
        ·
          have hk3 : t.kind = 3 := by have := bne_f hg31; omega
          refine J.opG 3 43 false _ rfl rfl rfl hg31 (op_yld (yl_move rfl rfl) rfl rfl ?_)
          refine J.opG 3 43 false _ rfl rfl rfl hg31 (op_yld (yl_nilCheck rfl rfl) rfl rfl ?_)
          refine J.opG 3 43 false _ rfl rfl rfl hg31 (op_yld (yl_fieldAddr (off' := 0) rfl rfl Tryz.underlying78 rfl Tryz.sizeOf76 rfl) rfl rfl ?_)
          refine J.opG 3 43 false _ rfl rfl rfl hg31 (op_yld (yl_fieldAddr (off' := 2) rfl rfl Tryz.underlying76 rfl Tryz.sizeOf74 rfl) rfl rfl ?_)
          refine J.opG 3 43 false _ rfl rfl rfl hg31 (op_yld (yl_loadAgg rfl rfl Tryz.isAgg74 Tryz.sizeOf74 (Blk.at 0 rfl) rfl rfl) rfl rfl ?_)
          refine J.opG 3 43 false _ rfl rfl rfl hg31 (op_pure rfl rfl rfl rfl rfl (crelation_ok (Cq.lex s i).1 (by omega) _ ht) ?_)
          refine J.opG 3 43 false _ rfl rfl rfl hg31 (op_yld (yl_not rfl rfl) rfl rfl ?_)
          refine J.y (yl_pick0 rfl rfl hg31 rfl) rfl rfl rfl ?_
          refine J.nil ?_
          refine Ej.seq ?_
          refine Cj.cond rfl (fun hc33 => ?_) (fun hc33 => ?_)
          ·
            have hrel : Cq.relation (Cq.lex s i).1 = false := by have h := hc33; rw [Bool.not_eq_true'] at h; exact h
            refine Cj.seq ?_
            refine Cj.region ?_
            refine J.y (yl_loadAgg rfl rfl Tryz.isAgg28 Tryz.sizeOf28 (Blk.at 1 rfl) rfl rfl) rfl rfl rfl ?_
            refine J.op rfl (op_store 4 rfl rfl rfl rfl rfl rfl Tryz.sizeOf28 rfl rfl (LSpl.c (LSpl.c (LSpl.c (LSpl.c (LSpl.c LSpl.z))))) (LSet.s (LSet.s (LSet.s (LSet.s LSet.z)))) ?_)
            refine J.nil ?_
            refine Ej.seq ?_
            refine Cj.ret ?_
            refine Ej.seqRet ?_
            refine Ej.retCellK (Keeps.k (Keeps.d (Keeps.d (Keeps.d (Keeps.d Keeps.n))))) rfl rfl rfl (Blk.at 4 rfl) Tryz.isAgg28 Tryz.sizeOf28 rfl ?_
            show COut pb s deep (Cq.clause (f + 1) deep (t :: (Cq.lex s i).1 :: r2)) _ _ _
            have hev : Cq.clause (f + 1) deep (t :: (Cq.lex s i).1 :: r2) = .ok ⟨1, [97, 110, 121], [61], t.text, .nil⟩ ((Cq.lex s i).1 :: r2) := by simp [Cq.clause, hlp, hT, hk3, hrel]
            rw [hev]
            exact ⟨_, _, _, rfl, ⟨none, 0, rfl, .inl rfl⟩, rfl, hcur2⟩
          ·
            have hrel : Cq.relation (Cq.lex s i).1 = true := by have h := hc33; rw [Bool.not_eq_false'] at h; exact h
            obtain ⟨hi2, hcur3⟩ := hcur2.next (Cq.over_rel hrel)
            obtain ⟨r3, rfl⟩ := hcur3.cons
            have htx3 := hcur3.txt
            refine Cj.skip ?_
            refine Ej.seq ?_
            refine Cj.seq ?_
            refine Cj.drawSel [0, 2, 3, 4] [] 14 (by kernel_rfl) ?_
            refine JA.take 0 rfl rfl (by kernel_rfl) (by kernel_rfl) (by kernel_rfl) (fun _ _ _ h => h) rfl rfl rfl (HSub.c 0 rfl (HSub.c 2 rfl (HSub.c 3 rfl (HSub.c 4 rfl HSub.n)))) CSub.n (Le.refl _) (yl_fieldAddr (off' := 1) rfl rfl Tryz.underlying74 rfl Tryz.sizeOf9 rfl) ?_
            refine JA.take 1 rfl rfl (by kernel_rfl) (by kernel_rfl) (by kernel_rfl) (fun _ _ _ h => h) rfl rfl rfl (HSub.c 0 rfl (HSub.c 2 rfl (HSub.c 3 rfl (HSub.c 4 rfl HSub.n)))) CSub.n (Le.refl _) (yl_load rfl rfl Tryz.isAgg9 (Blk.atC 1 rfl) rfl) ?_
            refine JA.take 3 rfl rfl (by kernel_rfl) (by kernel_rfl) (by kernel_rfl) (fun _ _ _ h => h) rfl rfl rfl (HSub.c 0 rfl (HSub.c 2 rfl (HSub.c 3 rfl (HSub.c 4 rfl HSub.n)))) CSub.n (Le.refl _) (yl_move rfl rfl) ?_
            refine JA.take 4 rfl rfl (by kernel_rfl) (by kernel_rfl) (by kernel_rfl) (fun _ _ _ h => h) rfl rfl rfl (HSub.c 0 rfl (HSub.c 2 rfl (HSub.c 3 rfl (HSub.c 4 rfl HSub.n)))) CSub.n (Le.refl _) (yl_nilCheck rfl rfl) ?_
            refine JA.take 5 rfl rfl (by kernel_rfl) (by kernel_rfl) (by kernel_rfl) (fun _ _ _ h => h) rfl rfl rfl (HSub.c 0 rfl (HSub.c 2 rfl (HSub.c 3 rfl (HSub.c 4 rfl HSub.n)))) CSub.n (Le.refl _) (yl_fieldAddr (off' := 0) rfl rfl Tryz.underlying78 rfl Tryz.sizeOf76 rfl) ?_
            refine JA.take 6 rfl rfl (by kernel_rfl) (by kernel_rfl) (by kernel_rfl) (fun _ _ _ h => h) rfl rfl rfl (HSub.c 0 rfl (HSub.c 2 rfl (HSub.c 3 rfl (HSub.c 4 rfl HSub.n)))) CSub.n (Le.refl _) (yl_fieldAddr (off' := 2) rfl rfl Tryz.underlying76 rfl Tryz.sizeOf74 rfl) ?_
            refine JA.take 7 rfl rfl (by kernel_rfl) (by kernel_rfl) (by kernel_rfl) (fun _ _ _ h => h) rfl rfl rfl (HSub.c 0 rfl (HSub.c 2 rfl (HSub.c 3 rfl (HSub.c 4 rfl HSub.n)))) CSub.n (Le.refl _) (yl_fieldAddr (off' := 3) rfl rfl Tryz.underlying74 rfl Tryz.sizeOf9 rfl) ?_
            refine JA.take 8 rfl rfl (by kernel_rfl) (by kernel_rfl) (by kernel_rfl) (fun _ _ _ h => h) rfl rfl rfl (HSub.c 0 rfl (HSub.c 2 rfl (HSub.c 3 rfl (HSub.c 4 rfl HSub.n)))) CSub.n (Le.refl _) (yl_load rfl rfl Tryz.isAgg9 (Blk.atC 0 rfl) rfl) ?_
            refine JA.step 2 (by kernel_rfl) rfl rfl (op_pure rfl rfl rfl rfl rfl (csmall_ok t.text (by omega) _ ht) ?_)
            refine ⟨⟨(Le.refl _), (HSub.c 0 rfl (HSub.c 2 rfl (HSub.c 3 rfl (HSub.c 4 rfl HSub.n)))), CSub.n⟩, ?_⟩
            refine JA.take 10 rfl rfl (by kernel_rfl) (by kernel_rfl) (by kernel_rfl) (fun _ _ _ h => h) rfl rfl rfl (HSub.c 0 rfl (HSub.c 2 rfl (HSub.c 3 rfl (HSub.c 4 rfl HSub.n)))) CSub.n (Le.refl _) (yl_fieldAddr (off' := 1) rfl rfl Tryz.underlying28 rfl Tryz.sizeOf9 rfl) ?_
            refine JA.step 9 (by kernel_rfl) rfl rfl (op_pure rfl rfl rfl rfl rfl (csmall_ok (Cq.lex s i).1.text (by omega) _ ht) ?_)
            refine ⟨⟨(Le.refl _), (HSub.c 0 rfl (HSub.c 2 rfl (HSub.c 3 rfl (HSub.c 4 rfl HSub.n)))), CSub.n⟩, ?_⟩
            refine JA.step 11 (by kernel_rfl) rfl rfl (op_store 1 rfl rfl rfl rfl rfl rfl Tryz.sizeOf9 rfl rfl (LSpl.s (LSpl.c LSpl.z)) (LSet.s LSet.z) ?_)
            refine ⟨⟨(Le.refl _), (HSub.c 0 rfl (HSub.c 2 rfl (HSub.c 3 rfl (HSub.c 4 rfl HSub.n)))), CSub.n⟩, ?_⟩
            refine JA.take 12 rfl rfl (by kernel_rfl) (by kernel_rfl) (by kernel_rfl) (fun _ _ _ h => h) rfl rfl rfl (HSub.c 0 rfl (HSub.c 2 rfl (HSub.c 3 rfl (HSub.c 4 rfl HSub.n)))) CSub.n (Le.refl _) (yl_fieldAddr (off' := 2) rfl rfl Tryz.underlying28 rfl Tryz.sizeOf9 rfl) ?_
            refine JA.step 13 (by kernel_rfl) rfl rfl (op_store 1 rfl rfl rfl rfl rfl rfl Tryz.sizeOf9 rfl rfl (LSpl.s (LSpl.s (LSpl.c LSpl.z))) (LSet.s LSet.z) ?_)
            refine ⟨⟨(Le.refl _), (HSub.c 0 rfl (HSub.c 2 rfl (HSub.c 3 rfl (HSub.c 4 rfl HSub.n)))), CSub.n⟩, ?_⟩
            refine JA.done (by kernel_rfl) ?_
            refine Ej.seq ?_
            refine Cj.seq ?_
            refine Cj.seq ?_
            refine Cj.drawSel [0, 1, 2, 3, 4] [] 5 (by kernel_rfl) ?_
            refine JA.take 1 rfl rfl (by kernel_rfl) (by kernel_rfl) (by kernel_rfl) (fun _ _ _ h => h) rfl rfl rfl (HSub.c 0 rfl (HSub.c 1 rfl (HSub.c 2 rfl (HSub.c 3 rfl (HSub.c 4 rfl HSub.n))))) CSub.n (Le.refl _) (yl_fieldAddr (off' := 1) rfl rfl Tryz.underlying28 rfl Tryz.sizeOf9 rfl) ?_
            refine JA.take 2 rfl rfl (by kernel_rfl) (by kernel_rfl) (by kernel_rfl) (fun _ _ _ h => h) rfl rfl rfl (HSub.c 0 rfl (HSub.c 1 rfl (HSub.c 2 rfl (HSub.c 3 rfl (HSub.c 4 rfl HSub.n))))) CSub.n (Le.refl _) (yl_load rfl rfl Tryz.isAgg9 (Blk.atC 1 rfl) rfl) ?_
            refine JA.step 0 (by kernel_rfl) rfl rfl (op_call (H1 := []) rfl rfl rfl rfl rfl (cindexes_ok _) ?_ (fun _ _ _ _ h => by obtain ⟨⟨_, h, _⟩, _⟩ := h; cases h) (fun _ _ h => by obtain ⟨⟨_, h, _⟩, _⟩ := h; cases h))
            intro v34 I35 H36 hle37 hp38
            have ht := ht.mono hle37
            obtain ⟨⟨v34x, hv34, hsv34⟩, rfl⟩ := hp38; cases hv34
            refine ⟨⟨(Le.trans (Le.refl _) hle37), (HSub.c 0 rfl (HSub.c 1 rfl (HSub.c 2 rfl (HSub.c 3 rfl (HSub.c 4 rfl HSub.n))))), CSub.n⟩, ?_⟩
            refine JA.step 3 (by kernel_rfl) rfl rfl (op_pure rfl rfl rfl rfl rfl (Contains_ok Cq.indexes _ _ (by decide) _ hsv34) ?_)
            refine ⟨⟨(Le.trans (Le.refl _) hle37), (HSub.c 0 rfl (HSub.c 1 rfl (HSub.c 2 rfl (HSub.c 3 rfl (HSub.c 4 rfl HSub.n))))), CSub.n⟩, ?_⟩
            refine JA.eqv 68 rfl (show _ = .bool (Cq.indexes.contains (Cq.small t.text)) from (by rw [(small2_in (l := Cq.indexes) (by decide) t.text).1])) ?_
            refine JA.take 4 rfl rfl (by kernel_rfl) (by kernel_rfl) (by kernel_rfl) (fun _ _ _ h => h) rfl rfl rfl (HSub.c 0 rfl (HSub.c 1 rfl (HSub.c 2 rfl (HSub.c 3 rfl (HSub.c 4 rfl HSub.n))))) CSub.n (Le.trans (Le.refl _) hle37) (yl_not rfl rfl) ?_
            refine JA.done (by kernel_rfl) ?_
            refine Ej.seq ?_
            refine Cj.cond rfl (fun hc39 => ?_) (fun hc39 => ?_)
            ·
              have hix : ¬ Cq.small t.text ∈ Cq.indexes := by have h := hc39; rw [Bool.not_eq_true'] at h; simpa using h
              refine Cj.region ?_
              refine J.y (yl_move rfl rfl) rfl rfl rfl ?_
              refine J.y (yl_loadAgg rfl rfl Tryz.isAgg74 Tryz.sizeOf74 (Blk.at 2 rfl) rfl rfl) rfl rfl rfl ?_
              refine J.op rfl (op_call (H1 := []) rfl rfl rfl rfl rfl (cfail_ok _ _ _ _) (fun _ _ _ _ h => by cases h.1) ?_ (fun _ _ h => by cases h.1))
              ·
                intro v40 I41 H42 hle43 hp44
                have ht := ht.mono hle43
                have hsv34 := hsv34.mono hle43
                obtain ⟨h, rfl⟩ := hp44; cases h
                refine Ej.seqPanic ?_
                refine Ej.bare ?_
                refine Ej.pan rfl ?_
                show COut pb s deep (Cq.clause (f + 1) deep (t :: (Cq.lex s i).1 :: (Cq.lex s (Cq.lex s i).2).1 :: r3)) _ _ _
                have hev : Cq.clause (f + 1) deep (t :: (Cq.lex s i).1 :: (Cq.lex s (Cq.lex s i).2).1 :: r3) = .err t.pos 42 := by simp [Cq.clause, hlp, hT, hk3, hrel, hix]
                rw [hev]
                exact ⟨rfl, rfl⟩
            ·
              have hix0 : Cq.indexes.contains (Cq.small t.text) = true := by have h := hc39; rw [Bool.not_eq_false'] at h; exact h
              have hix : Cq.small t.text ∈ Cq.indexes := by simpa using hix0
              have hs1 := (small2_in (l := Cq.indexes) (by decide) t.text).2 hix0
              have hs2 := (small2_in (l := Cq.relations) (by decide) (Cq.lex s i).1.text).2 (by have h := hrel; simp only [Cq.relation, Bool.and_eq_true] at h; exact h.1)
              refine Cj.skip ?_
              refine Ej.seq ?_
              refine Cj.seq ?_
              refine Cj.region ?_
              refine J.y (yl_move rfl rfl) rfl rfl rfl ?_
              refine J.y (yl_nilCheck rfl rfl) rfl rfl rfl ?_
              refine J.y (yl_fieldAddr (off' := 0) rfl rfl Tryz.underlying78 rfl Tryz.sizeOf76 rfl) rfl rfl rfl ?_
              refine J.pull Pull.z ?_
              refine J.op rfl (op_call (H1 := [_]) rfl rfl rfl rfl rfl (scan_ok _ _ s _ _ _ _ _ hi2 hs _) ?_ (fun _ _ _ _ h => by cases h.1) (fun _ _ h => by cases h.1))
              intro v45 I46 H47 hle48 hp49
              have ht := ht.mono hle48
              have hsv34 := hsv34.mono hle48
              obtain ⟨h, rfl⟩ := hp49; cases h
              refine J.nil ?_
              refine Ej.seq ?_
              refine Cj.seq ?_
              refine Cj.region ?_
              refine J.y (yl_move rfl rfl) rfl rfl rfl ?_
              refine J.y (yl_move rfl rfl) rfl rfl rfl ?_
              refine J.y (yl_nilCheck rfl rfl) rfl rfl rfl ?_
              refine J.y (yl_fieldAddr (off' := 0) rfl rfl Tryz.underlying78 rfl Tryz.sizeOf76 rfl) rfl rfl rfl ?_
              refine J.y (yl_fieldAddr (off' := 2) rfl rfl Tryz.underlying76 rfl Tryz.sizeOf74 rfl) rfl rfl rfl ?_
              refine J.y (yl_loadAgg rfl rfl Tryz.isAgg74 Tryz.sizeOf74 (Blk.at 0 rfl) rfl rfl) rfl rfl rfl ?_
              rcases hT3 : Cq.isTerm (Cq.lex s (Cq.lex s i).2).1 with _ | _
              ·
                skip
                refine J.op rfl (op_call (H1 := []) rfl rfl rfl rfl rfl ((by have h := cterm_ok (ptr pb 0) (Cq.lex s (Cq.lex s i).2).1 (by omega) _ ht; rw [hT3] at h; exact h)) (fun _ _ _ _ h => by cases h.1) ?_ (fun _ _ h => by cases h.1))
                ·
                  intro v50 I51 H52 hle53 hp54
                  have ht := ht.mono hle53
                  have hsv34 := hsv34.mono hle53
                  obtain ⟨h, rfl⟩ := hp54; cases h
                  refine Ej.seqPanic ?_
                  refine Ej.bare ?_
                  refine Ej.pan rfl ?_
                  show COut pb s deep (Cq.clause (f + 1) deep (t :: (Cq.lex s i).1 :: (Cq.lex s (Cq.lex s i).2).1 :: r3)) _ _ _
                  have hev : Cq.clause (f + 1) deep (t :: (Cq.lex s i).1 :: (Cq.lex s (Cq.lex s i).2).1 :: r3) = .err (Cq.lex s (Cq.lex s i).2).1.pos 40 := by simp [Cq.clause, hlp, hT, hk3, hrel, hix, hT3]
                  rw [hev]
                  exact ⟨rfl, rfl⟩
              ·
                obtain ⟨hi3, hcur4⟩ := hcur3.next (Cq.over_term hT3)
                refine J.op rfl (op_call (H1 := []) rfl rfl rfl rfl rfl ((by have h := cterm_ok (ptr pb 0) (Cq.lex s (Cq.lex s i).2).1 (by omega) _ ht; rw [hT3] at h; exact h)) ?_ (fun _ _ _ _ h => by cases h.1) (fun _ _ h => by cases h.1))
                intro v55 I56 H57 hle58 hp59
                have ht := ht.mono hle58
                have hsv34 := hsv34.mono hle58
                obtain ⟨h, rfl⟩ := hp59; cases h
                refine J.y (yl_fieldAddr (off' := 3) rfl rfl Tryz.underlying28 rfl Tryz.sizeOf9 rfl) rfl rfl rfl ?_
                refine J.op rfl (op_store 1 rfl rfl rfl rfl rfl rfl Tryz.sizeOf9 rfl rfl (LSpl.s (LSpl.s (LSpl.s (LSpl.c LSpl.z)))) (LSet.s LSet.z) ?_)
                refine J.nil ?_
                refine Ej.seq ?_
                refine Cj.seq ?_
                refine Cj.region ?_
                refine J.y (yl_move rfl rfl) rfl rfl rfl ?_
                refine J.y (yl_nilCheck rfl rfl) rfl rfl rfl ?_
                refine J.y (yl_fieldAddr (off' := 0) rfl rfl Tryz.underlying78 rfl Tryz.sizeOf76 rfl) rfl rfl rfl ?_
                refine J.pull Pull.z ?_
                refine J.op rfl (op_call (H1 := [_]) rfl rfl rfl rfl rfl (scan_ok _ _ s _ _ _ _ _ hi3 hs _) ?_ (fun _ _ _ _ h => by cases h.1) (fun _ _ h => by cases h.1))
                intro v60 I61 H62 hle63 hp64
                have ht := ht.mono hle63
                have hsv34 := hsv34.mono hle63
                obtain ⟨h, rfl⟩ := hp64; cases h
                refine J.nil ?_
                refine Ej.seq ?_
                refine Cj.seq ?_
                refine Cj.region ?_
                refine J.y (yl_loadAgg rfl rfl Tryz.isAgg28 Tryz.sizeOf28 (Blk.at 1 rfl) rfl rfl) rfl rfl rfl ?_
                refine J.op rfl (op_store 4 rfl rfl rfl rfl rfl rfl Tryz.sizeOf28 rfl rfl (LSpl.c (LSpl.c (LSpl.c (LSpl.c (LSpl.c LSpl.z))))) (LSet.s (LSet.s (LSet.s (LSet.s LSet.z)))) ?_)
                refine J.nil ?_
                refine Ej.seq ?_
                refine Cj.ret ?_
                refine Ej.retCellK (Keeps.k (Keeps.d (Keeps.d (Keeps.d (Keeps.d Keeps.n))))) rfl rfl rfl (Blk.at 4 rfl) Tryz.isAgg28 Tryz.sizeOf28 rfl ?_
                show COut pb s deep (Cq.clause (f + 1) deep (t :: (Cq.lex s i).1 :: (Cq.lex s (Cq.lex s i).2).1 :: r3)) _ _ _
                have hev : Cq.clause (f + 1) deep (t :: (Cq.lex s i).1 :: (Cq.lex s (Cq.lex s i).2).1 :: r3) = .ok ⟨1, Cq.small t.text, Cq.small (Cq.lex s i).1.text, (Cq.lex s (Cq.lex s i).2).1.text, .nil⟩ r3 := by simp [Cq.clause, hlp, hT, hk3, hrel, hix, hT3]
                rw [hev]
                exact ⟨_, _, _, rfl, ⟨none, 0, by rw [hs1, hs2]; rfl, .inl rfl⟩, rfl, hcur4⟩
  ·
    have hlp : Cq.lp t = false := by simp [Cq.lp, htx0]
    refine J.y (yl_lookupMiss htx0 rfl rfl rfl Tryz.underlying133 Tryz.underlying9 Tryz.zeroValue79 (Blk.at 1 rfl)) rfl rfl rfl ?_
    refine J.y (yl_move rfl rfl) rfl rfl rfl ?_
    refine J.y (yl_extract rfl rfl rfl) rfl rfl rfl ?_
    refine J.y (yl_extract rfl rfl rfl) rfl rfl rfl ?_
    refine J.y (yl_assign rfl rfl) rfl rfl rfl ?_
    refine J.y (yl_assign rfl rfl) rfl rfl rfl ?_
    refine J.nil ?_
    refine Ej.seq ?_
    refine Cj.seq ?_
    refine Cj.region ?_
    refine J.y (yl_move rfl rfl) rfl rfl rfl ?_
    refine J.y (yl_move rfl rfl) rfl rfl rfl ?_
    refine J.skip 1 25 26 true _ rfl rfl rfl rfl rfl rfl ?_
    refine J.skip 1 25 27 true _ rfl rfl rfl rfl rfl rfl ?_
    refine J.skip 1 25 28 true _ rfl rfl rfl rfl rfl rfl ?_
    refine J.y (yl_pick0 rfl rfl rfl rfl) rfl rfl rfl ?_
    refine J.nil ?_
    refine Ej.seq ?_
    refine Cj.cond rfl (fun hc65 => Bool.noConfusion (Eq.trans (Eq.symm rfl) hc65)) (fun hc65 => ?_)
    refine Cj.skip ?_
    refine Ej.seq ?_
    refine Cj.seq ?_
    refine Cj.region ?_
    refine J.y (yl_move rfl rfl) rfl rfl rfl ?_
    refine J.y (yl_loadAgg rfl rfl Tryz.isAgg74 Tryz.sizeOf74 (Blk.at 0 rfl) rfl rfl) rfl rfl rfl ?_
    rcases hT : Cq.isTerm t with _ | _
    ·
      skip
      refine J.op rfl (op_call (H1 := []) rfl rfl rfl rfl rfl ((by have h := cterm_ok (ptr pb 0) t (by omega) _ ht; rw [hT] at h; exact h)) (fun _ _ _ _ h => by cases h.1) ?_ (fun _ _ h => by cases h.1))
      ·
        intro v66 I67 H68 hle69 hp70
        have ht := ht.mono hle69
        obtain ⟨h, rfl⟩ := hp70; cases h
        refine Ej.seqPanic ?_
        refine Ej.bare ?_
        refine Ej.pan rfl ?_
        show COut pb s deep (Cq.clause (f + 1) deep (t :: r)) _ _ _
        have hev : Cq.clause (f + 1) deep (t :: r) = .err t.pos 40 := by simp [Cq.clause, hlp, hT]
        rw [hev]
        exact ⟨rfl, rfl⟩
    ·
      obtain ⟨hi, hcur2⟩ := hcur.next (Cq.over_term hT)
      obtain ⟨r2, rfl⟩ := hcur2.cons
      have htx2 := hcur2.txt
      refine J.op rfl (op_call (H1 := []) rfl rfl rfl rfl rfl ((by have h := cterm_ok (ptr pb 0) t (by omega) _ ht; rw [hT] at h; exact h)) ?_ (fun _ _ _ _ h => by cases h.1) (fun _ _ h => by cases h.1))
      intro v71 I72 H73 hle74 hp75
      have ht := ht.mono hle74
      obtain ⟨h, rfl⟩ := hp75; cases h
      refine J.y (yl_buildS (pl := #[(0, 1), (1, 1), (2, 1), (3, 1), (4, 1)]) rfl rfl Tryz.zeroValue28 rfl Tryz.underlying28 (fun w => by simp [Tryz.sizeOf26, Tryz.sizeOf3, Tryz.sizeOf9]) (LBld.part rfl rfl rfl (LSpl.c LSpl.z) (LBld.part rfl rfl rfl (LSpl.s (LSpl.c LSpl.z)) (LBld.part rfl rfl rfl (LSpl.s (LSpl.s (LSpl.c LSpl.z))) (LBld.part rfl rfl rfl (LSpl.s (LSpl.s (LSpl.s (LSpl.c LSpl.z)))) LBld.none))))) rfl rfl rfl ?_
      refine J.op rfl (op_alloc rfl rfl rfl Tryz.zeroValue28 rfl ?_)
      intro b76 hb76
      refine J.op rfl (op_store 0 rfl rfl rfl rfl rfl rfl Tryz.sizeOf28 rfl rfl (LSpl.c (LSpl.c (LSpl.c (LSpl.c (LSpl.c LSpl.z))))) LSet.z ?_)
      refine J.nil ?_
      refine Ej.seq ?_
      refine Cj.seq ?_
      refine Cj.region ?_
      refine J.y (yl_move rfl rfl) rfl rfl rfl ?_
      refine J.y (yl_nilCheck rfl rfl) rfl rfl rfl ?_
      refine J.y (yl_fieldAddr (off' := 0) rfl rfl Tryz.underlying78 rfl Tryz.sizeOf76 rfl) rfl rfl rfl ?_
      refine J.pull (Pull.s (Pull.s (Pull.s (Pull.s Pull.z)))) ?_
      refine J.op rfl (op_call (H1 := [_]) rfl rfl rfl rfl rfl (scan_ok _ _ s _ _ _ _ _ hi hs _) ?_ (fun _ _ _ _ h => by cases h.1) (fun _ _ h => by cases h.1))
      intro v77 I78 H79 hle80 hp81
      have ht := ht.mono hle80
      obtain ⟨h, rfl⟩ := hp81; cases h
      refine J.nil ?_
      refine Ej.seq ?_
      refine Cj.seq ?_
      refine Cj.seq ?_
      refine Cj.region ?_
      refine J.y (yl_fieldAddr (off' := 0) rfl rfl Tryz.underlying74 rfl Tryz.sizeOf72 rfl) rfl rfl rfl ?_
      refine J.y (yl_load rfl rfl Tryz.isAgg72 (Blk.at 2 rfl) rfl) rfl rfl rfl ?_
      refine J.y (yl_neq rfl rfl rfl) rfl rfl rfl ?_
      refine J.y (yl_move rfl rfl) rfl rfl rfl ?_
      refine J.split 43 rfl (fun hg82 => ?_) (fun hg82 => ?_)
      ·
        have hk3 : t.kind ≠ 3 := by have := bne_iff_ne.1 hg82; omega
        refine J.skip 3 43 44 false _ rfl rfl rfl hg82 rfl rfl ?_
        refine J.skip 3 43 45 false _ rfl rfl rfl hg82 rfl rfl ?_
        refine J.skip 3 43 46 false _ rfl rfl rfl hg82 rfl rfl ?_
        refine J.skip 3 43 47 false _ rfl rfl rfl hg82 rfl rfl ?_
        refine J.skip 3 43 48 false _ rfl rfl rfl hg82 rfl rfl ?_
        refine J.skip 3 43 49 false _ rfl rfl rfl hg82 rfl rfl ?_
        refine J.skip 3 43 50 false _ rfl rfl rfl hg82 rfl rfl ?_
        refine J.y (yl_pick1 rfl rfl hg82 rfl) rfl rfl rfl ?_
        refine J.nil ?_
        refine Ej.seq ?_
        refine Cj.cond rfl (fun hc83 => ?_) (fun hc83 => Bool.noConfusion (Eq.trans (Eq.symm rfl) hc83))
        refine Cj.seq ?_
        refine Cj.region ?_
        refine J.y (yl_loadAgg rfl rfl Tryz.isAgg28 Tryz.sizeOf28 (Blk.at 1 rfl) rfl rfl) rfl rfl rfl ?_
        refine J.op rfl (op_store 4 rfl rfl rfl rfl rfl rfl Tryz.sizeOf28 rfl rfl (LSpl.c (LSpl.c (LSpl.c (LSpl.c (LSpl.c LSpl.z))))) (LSet.s (LSet.s (LSet.s (LSet.s LSet.z)))) ?_)
        refine J.nil ?_
        refine Ej.seq ?_
        refine Cj.ret ?_
        refine Ej.seqRet ?_
        refine Ej.retCellK (Keeps.k (Keeps.d (Keeps.d (Keeps.d (Keeps.d Keeps.n))))) rfl rfl rfl (Blk.at 4 rfl) Tryz.isAgg28 Tryz.sizeOf28 rfl ?_
        show COut pb s deep (Cq.clause (f + 1) deep (t :: (Cq.lex s i).1 :: r2)) _ _ _
        have hev : Cq.clause (f + 1) deep (t :: (Cq.lex s i).1 :: r2) = .ok ⟨1, [97, 110, 121], [61], t.text, .nil⟩ ((Cq.lex s i).1 :: r2) := by simp [Cq.clause, hlp, hT, hk3]
        rw [hev]
        exact ⟨_, _, _, rfl, ⟨none, 0, rfl, .inl rfl⟩, rfl, hcur2⟩
      ·
        have hk3 : t.kind = 3 := by have := bne_f hg82; omega
        refine J.opG 3 43 false _ rfl rfl rfl hg82 (op_yld (yl_move rfl rfl) rfl rfl ?_)
        refine J.opG 3 43 false _ rfl rfl rfl hg82 (op_yld (yl_nilCheck rfl rfl) rfl rfl ?_)
        refine J.opG 3 43 false _ rfl rfl rfl hg82 (op_yld (yl_fieldAddr (off' := 0) rfl rfl Tryz.underlying78 rfl Tryz.sizeOf76 rfl) rfl rfl ?_)
        refine J.opG 3 43 false _ rfl rfl rfl hg82 (op_yld (yl_fieldAddr (off' := 2) rfl rfl Tryz.underlying76 rfl Tryz.sizeOf74 rfl) rfl rfl ?_)
        refine J.opG 3 43 false _ rfl rfl rfl hg82 (op_yld (yl_loadAgg rfl rfl Tryz.isAgg74 Tryz.sizeOf74 (Blk.at 0 rfl) rfl rfl) rfl rfl ?_)
        refine J.opG 3 43 false _ rfl rfl rfl hg82 (op_pure rfl rfl rfl rfl rfl (crelation_ok (Cq.lex s i).1 (by omega) _ ht) ?_)
        refine J.opG 3 43 false _ rfl rfl rfl hg82 (op_yld (yl_not rfl rfl) rfl rfl ?_)
        refine J.y (yl_pick0 rfl rfl hg82 rfl) rfl rfl rfl ?_
        refine J.nil ?_
        refine Ej.seq ?_
        refine Cj.cond rfl (fun hc84 => ?_) (fun hc84 => ?_)
        ·
          have hrel : Cq.relation (Cq.lex s i).1 = false := by have h := hc84; rw [Bool.not_eq_true'] at h; exact h
          refine Cj.seq ?_
          refine Cj.region ?_
          refine J.y (yl_loadAgg rfl rfl Tryz.isAgg28 Tryz.sizeOf28 (Blk.at 1 rfl) rfl rfl) rfl rfl rfl ?_
          refine J.op rfl (op_store 4 rfl rfl rfl rfl rfl rfl Tryz.sizeOf28 rfl rfl (LSpl.c (LSpl.c (LSpl.c (LSpl.c (LSpl.c LSpl.z))))) (LSet.s (LSet.s (LSet.s (LSet.s LSet.z)))) ?_)
          refine J.nil ?_
          refine Ej.seq ?_
          refine Cj.ret ?_
          refine Ej.seqRet ?_
          refine Ej.retCellK (Keeps.k (Keeps.d (Keeps.d (Keeps.d (Keeps.d Keeps.n))))) rfl rfl rfl (Blk.at 4 rfl) Tryz.isAgg28 Tryz.sizeOf28 rfl ?_
          show COut pb s deep (Cq.clause (f + 1) deep (t :: (Cq.lex s i).1 :: r2)) _ _ _
          have hev : Cq.clause (f + 1) deep (t :: (Cq.lex s i).1 :: r2) = .ok ⟨1, [97, 110, 121], [61], t.text, .nil⟩ ((Cq.lex s i).1 :: r2) := by simp [Cq.clause, hlp, hT, hk3, hrel]
          rw [hev]
          exact ⟨_, _, _, rfl, ⟨none, 0, rfl, .inl rfl⟩, rfl, hcur2⟩
        ·
          have hrel : Cq.relation (Cq.lex s i).1 = true := by have h := hc84; rw [Bool.not_eq_false'] at h; exact h
          obtain ⟨hi2, hcur3⟩ := hcur2.next (Cq.over_rel hrel)
          obtain ⟨r3, rfl⟩ := hcur3.cons
          have htx3 := hcur3.txt
          refine Cj.skip ?_
          refine Ej.seq ?_
          refine Cj.seq ?_
          refine Cj.drawSel [0, 2, 3, 4] [] 14 (by kernel_rfl) ?_
          refine JA.take 0 rfl rfl (by kernel_rfl) (by kernel_rfl) (by kernel_rfl) (fun _ _ _ h => h) rfl rfl rfl (HSub.c 0 rfl (HSub.c 2 rfl (HSub.c 3 rfl (HSub.c 4 rfl HSub.n)))) CSub.n (Le.refl _) (yl_fieldAddr (off' := 1) rfl rfl Tryz.underlying74 rfl Tryz.sizeOf9 rfl) ?_
          refine JA.take 1 rfl rfl (by kernel_rfl) (by kernel_rfl) (by kernel_rfl) (fun _ _ _ h => h) rfl rfl rfl (HSub.c 0 rfl (HSub.c 2 rfl (HSub.c 3 rfl (HSub.c 4 rfl HSub.n)))) CSub.n (Le.refl _) (yl_load rfl rfl Tryz.isAgg9 (Blk.atC 1 rfl) rfl) ?_
          refine JA.take 3 rfl rfl (by kernel_rfl) (by kernel_rfl) (by kernel_rfl) (fun _ _ _ h => h) rfl rfl rfl (HSub.c 0 rfl (HSub.c 2 rfl (HSub.c 3 rfl (HSub.c 4 rfl HSub.n)))) CSub.n (Le.refl _) (yl_move rfl rfl) ?_
          refine JA.take 4 rfl rfl (by kernel_rfl) (by kernel_rfl) (by kernel_rfl) (fun _ _ _ h => h) rfl rfl rfl (HSub.c 0 rfl (HSub.c 2 rfl (HSub.c 3 rfl (HSub.c 4 rfl HSub.n)))) CSub.n (Le.refl _) (yl_nilCheck rfl rfl) ?_
          refine JA.take 5 rfl rfl (by kernel_rfl) (by kernel_rfl) (by kernel_rfl) (fun _ _ _ h => h) rfl rfl rfl (HSub.c 0 rfl (HSub.c 2 rfl (HSub.c 3 rfl (HSub.c 4 rfl HSub.n)))) CSub.n (Le.refl _) (yl_fieldAddr (off' := 0) rfl rfl Tryz.underlying78 rfl Tryz.sizeOf76 rfl) ?_
          refine JA.take 6 rfl rfl (by kernel_rfl) (by kernel_rfl) (by kernel_rfl) (fun _ _ _ h => h) rfl rfl rfl (HSub.c 0 rfl (HSub.c 2 rfl (HSub.c 3 rfl (HSub.c 4 rfl HSub.n)))) CSub.n (Le.refl _) (yl_fieldAddr (off' := 2) rfl rfl Tryz.underlying76 rfl Tryz.sizeOf74 rfl) ?_
          refine JA.take 7 rfl rfl (by kernel_rfl) (by kernel_rfl) (by kernel_rfl) (fun _ _ _ h => h) rfl rfl rfl (HSub.c 0 rfl (HSub.c 2 rfl (HSub.c 3 rfl (HSub.c 4 rfl HSub.n)))) CSub.n (Le.refl _) (yl_fieldAddr (off' := 3) rfl rfl Tryz.underlying74 rfl Tryz.sizeOf9 rfl) ?_
          refine JA.take 8 rfl rfl (by kernel_rfl) (by kernel_rfl) (by kernel_rfl) (fun _ _ _ h => h) rfl rfl rfl (HSub.c 0 rfl (HSub.c 2 rfl (HSub.c 3 rfl (HSub.c 4 rfl HSub.n)))) CSub.n (Le.refl _) (yl_load rfl rfl Tryz.isAgg9 (Blk.atC 0 rfl) rfl) ?_
          refine JA.step 2 (by kernel_rfl) rfl rfl (op_pure rfl rfl rfl rfl rfl (csmall_ok t.text (by omega) _ ht) ?_)
          refine ⟨⟨(Le.refl _), (HSub.c 0 rfl (HSub.c 2 rfl (HSub.c 3 rfl (HSub.c 4 rfl HSub.n)))), CSub.n⟩, ?_⟩
          refine JA.take 10 rfl rfl (by kernel_rfl) (by kernel_rfl) (by kernel_rfl) (fun _ _ _ h => h) rfl rfl rfl (HSub.c 0 rfl (HSub.c 2 rfl (HSub.c 3 rfl (HSub.c 4 rfl HSub.n)))) CSub.n (Le.refl _) (yl_fieldAddr (off' := 1) rfl rfl Tryz.underlying28 rfl Tryz.sizeOf9 rfl) ?_
          refine JA.step 9 (by kernel_rfl) rfl rfl (op_pure rfl rfl rfl rfl rfl (csmall_ok (Cq.lex s i).1.text (by omega) _ ht) ?_)
          refine ⟨⟨(Le.refl _), (HSub.c 0 rfl (HSub.c 2 rfl (HSub.c 3 rfl (HSub.c 4 rfl HSub.n)))), CSub.n⟩, ?_⟩
          refine JA.step 11 (by kernel_rfl) rfl rfl (op_store 1 rfl rfl rfl rfl rfl rfl Tryz.sizeOf9 rfl rfl (LSpl.s (LSpl.c LSpl.z)) (LSet.s LSet.z) ?_)
          refine ⟨⟨(Le.refl _), (HSub.c 0 rfl (HSub.c 2 rfl (HSub.c 3 rfl (HSub.c 4 rfl HSub.n)))), CSub.n⟩, ?_⟩
          refine JA.take 12 rfl rfl (by kernel_rfl) (by kernel_rfl) (by kernel_rfl) (fun _ _ _ h => h) rfl rfl rfl (HSub.c 0 rfl (HSub.c 2 rfl (HSub.c 3 rfl (HSub.c 4 rfl HSub.n)))) CSub.n (Le.refl _) (yl_fieldAddr (off' := 2) rfl rfl Tryz.underlying28 rfl Tryz.sizeOf9 rfl) ?_
          refine JA.step 13 (by kernel_rfl) rfl rfl (op_store 1 rfl rfl rfl rfl rfl rfl Tryz.sizeOf9 rfl rfl (LSpl.s (LSpl.s (LSpl.c LSpl.z))) (LSet.s LSet.z) ?_)
          refine ⟨⟨(Le.refl _), (HSub.c 0 rfl (HSub.c 2 rfl (HSub.c 3 rfl (HSub.c 4 rfl HSub.n)))), CSub.n⟩, ?_⟩
          refine JA.done (by kernel_rfl) ?_
          refine Ej.seq ?_
          refine Cj.seq ?_
          refine Cj.seq ?_
          refine Cj.drawSel [0, 1, 2, 3, 4] [] 5 (by kernel_rfl) ?_
          refine JA.take 1 rfl rfl (by kernel_rfl) (by kernel_rfl) (by kernel_rfl) (fun _ _ _ h => h) rfl rfl rfl (HSub.c 0 rfl (HSub.c 1 rfl (HSub.c 2 rfl (HSub.c 3 rfl (HSub.c 4 rfl HSub.n))))) CSub.n (Le.refl _) (yl_fieldAddr (off' := 1) rfl rfl Tryz.underlying28 rfl Tryz.sizeOf9 rfl) ?_
          refine JA.take 2 rfl rfl (by kernel_rfl) (by kernel_rfl) (by kernel_rfl) (fun _ _ _ h => h) rfl rfl rfl (HSub.c 0 rfl (HSub.c 1 rfl (HSub.c 2 rfl (HSub.c 3 rfl (HSub.c 4 rfl HSub.n))))) CSub.n (Le.refl _) (yl_load rfl rfl Tryz.isAgg9 (Blk.atC 1 rfl) rfl) ?_
          refine JA.step 0 (by kernel_rfl) rfl rfl (op_call (H1 := []) rfl rfl rfl rfl rfl (cindexes_ok _) ?_ (fun _ _ _ _ h => by obtain ⟨⟨_, h, _⟩, _⟩ := h; cases h) (fun _ _ h => by obtain ⟨⟨_, h, _⟩, _⟩ := h; cases h))
          intro v85 I86 H87 hle88 hp89
          have ht := ht.mono hle88
          obtain ⟨⟨v85x, hv85, hsv85⟩, rfl⟩ := hp89; cases hv85
          refine ⟨⟨(Le.trans (Le.refl _) hle88), (HSub.c 0 rfl (HSub.c 1 rfl (HSub.c 2 rfl (HSub.c 3 rfl (HSub.c 4 rfl HSub.n))))), CSub.n⟩, ?_⟩
          refine JA.step 3 (by kernel_rfl) rfl rfl (op_pure rfl rfl rfl rfl rfl (Contains_ok Cq.indexes _ _ (by decide) _ hsv85) ?_)
          refine ⟨⟨(Le.trans (Le.refl _) hle88), (HSub.c 0 rfl (HSub.c 1 rfl (HSub.c 2 rfl (HSub.c 3 rfl (HSub.c 4 rfl HSub.n))))), CSub.n⟩, ?_⟩
          refine JA.eqv 68 rfl (show _ = .bool (Cq.indexes.contains (Cq.small t.text)) from (by rw [(small2_in (l := Cq.indexes) (by decide) t.text).1])) ?_
          refine JA.take 4 rfl rfl (by kernel_rfl) (by kernel_rfl) (by kernel_rfl) (fun _ _ _ h => h) rfl rfl rfl (HSub.c 0 rfl (HSub.c 1 rfl (HSub.c 2 rfl (HSub.c 3 rfl (HSub.c 4 rfl HSub.n))))) CSub.n (Le.trans (Le.refl _) hle88) (yl_not rfl rfl) ?_
          refine JA.done (by kernel_rfl) ?_
          refine Ej.seq ?_
          refine Cj.cond rfl (fun hc90 => ?_) (fun hc90 => ?_)
          ·
            have hix : ¬ Cq.small t.text ∈ Cq.indexes := by have h := hc90; rw [Bool.not_eq_true'] at h; simpa using h
            refine Cj.region ?_
            refine J.y (yl_move rfl rfl) rfl rfl rfl ?_
            refine J.y (yl_loadAgg rfl rfl Tryz.isAgg74 Tryz.sizeOf74 (Blk.at 2 rfl) rfl rfl) rfl rfl rfl ?_
            refine J.op rfl (op_call (H1 := []) rfl rfl rfl rfl rfl (cfail_ok _ _ _ _) (fun _ _ _ _ h => by cases h.1) ?_ (fun _ _ h => by cases h.1))
            ·
              intro v91 I92 H93 hle94 hp95
              have ht := ht.mono hle94
              have hsv85 := hsv85.mono hle94
              obtain ⟨h, rfl⟩ := hp95; cases h
              refine Ej.seqPanic ?_
              refine Ej.bare ?_
              refine Ej.pan rfl ?_
              show COut pb s deep (Cq.clause (f + 1) deep (t :: (Cq.lex s i).1 :: (Cq.lex s (Cq.lex s i).2).1 :: r3)) _ _ _
              have hev : Cq.clause (f + 1) deep (t :: (Cq.lex s i).1 :: (Cq.lex s (Cq.lex s i).2).1 :: r3) = .err t.pos 42 := by simp [Cq.clause, hlp, hT, hk3, hrel, hix]
              rw [hev]
              exact ⟨rfl, rfl⟩
          ·
            have hix0 : Cq.indexes.contains (Cq.small t.text) = true := by have h := hc90; rw [Bool.not_eq_false'] at h; exact h
            have hix : Cq.small t.text ∈ Cq.indexes := by simpa using hix0
            have hs1 := (small2_in (l := Cq.indexes) (by decide) t.text).2 hix0
            have hs2 := (small2_in (l := Cq.relations) (by decide) (Cq.lex s i).1.text).2 (by have h := hrel; simp only [Cq.relation, Bool.and_eq_true] at h; exact h.1)
            refine Cj.skip ?_
            refine Ej.seq ?_
            refine Cj.seq ?_
            refine Cj.region ?_
            refine J.y (yl_move rfl rfl) rfl rfl rfl ?_
            refine J.y (yl_nilCheck rfl rfl) rfl rfl rfl ?_
            refine J.y (yl_fieldAddr (off' := 0) rfl rfl Tryz.underlying78 rfl Tryz.sizeOf76 rfl) rfl rfl rfl ?_
            refine J.pull Pull.z ?_
            refine J.op rfl (op_call (H1 := [_]) rfl rfl rfl rfl rfl (scan_ok _ _ s _ _ _ _ _ hi2 hs _) ?_ (fun _ _ _ _ h => by cases h.1) (fun _ _ h => by cases h.1))
            intro v96 I97 H98 hle99 hp100
            have ht := ht.mono hle99
            have hsv85 := hsv85.mono hle99
            obtain ⟨h, rfl⟩ := hp100; cases h
            refine J.nil ?_
            refine Ej.seq ?_
            refine Cj.seq ?_
            refine Cj.region ?_
            refine J.y (yl_move rfl rfl) rfl rfl rfl ?_
            refine J.y (yl_move rfl rfl) rfl rfl rfl ?_
            refine J.y (yl_nilCheck rfl rfl) rfl rfl rfl ?_
            refine J.y (yl_fieldAddr (off' := 0) rfl rfl Tryz.underlying78 rfl Tryz.sizeOf76 rfl) rfl rfl rfl ?_
            refine J.y (yl_fieldAddr (off' := 2) rfl rfl Tryz.underlying76 rfl Tryz.sizeOf74 rfl) rfl rfl rfl ?_
            refine J.y (yl_loadAgg rfl rfl Tryz.isAgg74 Tryz.sizeOf74 (Blk.at 0 rfl) rfl rfl) rfl rfl rfl ?_
            rcases hT3 : Cq.isTerm (Cq.lex s (Cq.lex s i).2).1 with _ | _
            ·
              skip
              refine J.op rfl (op_call (H1 := []) rfl rfl rfl rfl rfl ((by have h := cterm_ok (ptr pb 0) (Cq.lex s (Cq.lex s i).2).1 (by omega) _ ht; rw [hT3] at h; exact h)) (fun _ _ _ _ h => by cases h.1) ?_ (fun _ _ h => by cases h.1))
              ·
                intro v101 I102 H103 hle104 hp105
                have ht := ht.mono hle104
                have hsv85 := hsv85.mono hle104
                obtain ⟨h, rfl⟩ := hp105; cases h
                refine Ej.seqPanic ?_
                refine Ej.bare ?_
                refine Ej.pan rfl ?_
                show COut pb s deep (Cq.clause (f + 1) deep (t :: (Cq.lex s i).1 :: (Cq.lex s (Cq.lex s i).2).1 :: r3)) _ _ _
                have hev : Cq.clause (f + 1) deep (t :: (Cq.lex s i).1 :: (Cq.lex s (Cq.lex s i).2).1 :: r3) = .err (Cq.lex s (Cq.lex s i).2).1.pos 40 := by simp [Cq.clause, hlp, hT, hk3, hrel, hix, hT3]
                rw [hev]
                exact ⟨rfl, rfl⟩
            ·
              obtain ⟨hi3, hcur4⟩ := hcur3.next (Cq.over_term hT3)
              refine J.op rfl (op_call (H1 := []) rfl rfl rfl rfl rfl ((by have h := cterm_ok (ptr pb 0) (Cq.lex s (Cq.lex s i).2).1 (by omega) _ ht; rw [hT3] at h; exact h)) ?_ (fun _ _ _ _ h => by cases h.1) (fun _ _ h => by cases h.1))
              intro v106 I107 H108 hle109 hp110
              have ht := ht.mono hle109
              have hsv85 := hsv85.mono hle109
              obtain ⟨h, rfl⟩ := hp110; cases h
              refine J.y (yl_fieldAddr (off' := 3) rfl rfl Tryz.underlying28 rfl Tryz.sizeOf9 rfl) rfl rfl rfl ?_
              refine J.op rfl (op_store 1 rfl rfl rfl rfl rfl rfl Tryz.sizeOf9 rfl rfl (LSpl.s (LSpl.s (LSpl.s (LSpl.c LSpl.z)))) (LSet.s LSet.z) ?_)
              refine J.nil ?_
              refine Ej.seq ?_
              refine Cj.seq ?_
              refine Cj.region ?_
              refine J.y (yl_move rfl rfl) rfl rfl rfl ?_
              refine J.y (yl_nilCheck rfl rfl) rfl rfl rfl ?_
              refine J.y (yl_fieldAddr (off' := 0) rfl rfl Tryz.underlying78 rfl Tryz.sizeOf76 rfl) rfl rfl rfl ?_
              refine J.pull Pull.z ?_
              refine J.op rfl (op_call (H1 := [_]) rfl rfl rfl rfl rfl (scan_ok _ _ s _ _ _ _ _ hi3 hs _) ?_ (fun _ _ _ _ h => by cases h.1) (fun _ _ h => by cases h.1))
              intro v111 I112 H113 hle114 hp115
              have ht := ht.mono hle114
              have hsv85 := hsv85.mono hle114
              obtain ⟨h, rfl⟩ := hp115; cases h
              refine J.nil ?_
              refine Ej.seq ?_
              refine Cj.seq ?_
              refine Cj.region ?_
              refine J.y (yl_loadAgg rfl rfl Tryz.isAgg28 Tryz.sizeOf28 (Blk.at 1 rfl) rfl rfl) rfl rfl rfl ?_
              refine J.op rfl (op_store 4 rfl rfl rfl rfl rfl rfl Tryz.sizeOf28 rfl rfl (LSpl.c (LSpl.c (LSpl.c (LSpl.c (LSpl.c LSpl.z))))) (LSet.s (LSet.s (LSet.s (LSet.s LSet.z)))) ?_)
              refine J.nil ?_
              refine Ej.seq ?_
              refine Cj.ret ?_
              refine Ej.retCellK (Keeps.k (Keeps.d (Keeps.d (Keeps.d (Keeps.d Keeps.n))))) rfl rfl rfl (Blk.at 4 rfl) Tryz.isAgg28 Tryz.sizeOf28 rfl ?_
              show COut pb s deep (Cq.clause (f + 1) deep (t :: (Cq.lex s i).1 :: (Cq.lex s (Cq.lex s i).2).1 :: r3)) _ _ _
              have hev : Cq.clause (f + 1) deep (t :: (Cq.lex s i).1 :: (Cq.lex s (Cq.lex s i).2).1 :: r3) = .ok ⟨1, Cq.small t.text, Cq.small (Cq.lex s i).1.text, (Cq.lex s (Cq.lex s i).2).1.text, .nil⟩ r3 := by simp [Cq.clause, hlp, hT, hk3, hrel, hix, hT3]
              rw [hev]
              exact ⟨_, _, _, rfl, ⟨none, 0, by rw [hs1, hs2]; rfl, .inl rfl⟩, rfl, hcur4⟩

/-- A state of the loop over operators. -/
structure CSt where
  f : Nat
  q : Cq.Qn
  p : Option Addr
  c : Nat
  i : Nat
  t : Cq.Tok
  ts : List Cq.Tok
  I : Heap
def CQPre (s : List UInt8) (f deep : Nat) (ts : List Cq.Tok) (j : CSt) : Prop :=
  Cq.Cur s j.i j.t j.ts ∧ Cq.query (f + 1) deep ts = Cq.more j.f deep j.q j.ts ∧ PS j.I j.q.ps j.p ∧ 2 * j.ts.length + 1 ≤ j.f ∧ j.f ≤ f ∧ Tabs j.I

set_option maxRecDepth 20000 in
theorem cquery_step (f : Nat) (ih : ∀ g, g ≤ f → CCSpec g) : CQSpec (f + 1) := by
  intro pb i deep s t ts I hcur ht hs hf hd
  refine Ctr.of_body Tryz.func34 rfl (by decide) (Nat.le_of_ble_eq_true rfl) ?_
  intro w0 hw0
  refine Cj.seq ?_
  refine Cj.region ?_
  refine J.op rfl (op_alloc rfl rfl rfl Tryz.zeroValue28 rfl ?_)
  intro b1 hb1
  refine J.nil ?_
  refine Ej.seq ?_
  refine Cj.seq ?_
  refine Cj.region ?_
  refine J.y (yl_move rfl rfl) rfl rfl rfl ?_
  rcases hq : Cq.clause f deep ts with ⟨q, ts2⟩ | ⟨pe, ee⟩
  ·
    skip
    refine J.pull (Pull.s Pull.z) ?_
    refine J.op rfl (op_call (H1 := [_]) rfl rfl rfl rfl rfl ((by have h := ih f (Nat.le_refl _) pb i deep s t ts _ hcur ht hs (by omega) hd; rw [hq] at h; exact h)) ?_ (fun _ _ _ _ h => by obtain ⟨_, _, _, h, _⟩ := h; cases h) (fun _ _ h => by obtain ⟨_, _, _, h, _⟩ := h; cases h))
    intro v2 I3 H4 hle5 hp6
    have ht := ht.mono hle5
    obtain ⟨vq, i2, t2, h, ⟨pq, cq, rfl, hps⟩, rfl, hcur2⟩ := hp6; cases h
    refine J.op rfl (op_alloc rfl rfl rfl Tryz.zeroValue28 rfl ?_)
    intro b7 hb7
    refine J.op rfl (op_store 0 rfl rfl rfl rfl rfl rfl Tryz.sizeOf28 rfl rfl (LSpl.c (LSpl.c (LSpl.c (LSpl.c (LSpl.c LSpl.z))))) LSet.z ?_)
    refine J.nil ?_
    refine Ej.seq ?_
    refine Cj.seq ?_
    refine Cj.block ?_
    refine Cj.loop (ι := CSt) (fun j => CQPre s f deep ts j) (fun j => j.ts.length) (fun j => [(0, ptr pb 0), (2, ptr b1 0), (3, ptr b7 0)]) (fun j => j.I) (fun j => [(b7, cel 28 (qCells j.q j.p j.c)), (pb, cel 78 (str s :: i64 j.i :: tokR j.t [i64 deep])), (b1, cel 28 (qCells Cq.zero none 0))]) ⟨f, q, pq, cq, i2, t2, ts2, _⟩ ⟨hcur2, by simp only [Cq.query, hq], hps, by have h := (Cq.less f).1 deep ts hcur.good; rw [hq] at h; have := h.2; dsimp only; omega, Nat.le_refl _, ht⟩ ⟨rfl, rfl, rfl, trivial⟩ rfl rfl ?_
    clear hps ht
    rintro ⟨f', q, p, c, i', t, ts', I1⟩ ⟨hcur1, heq, hps, hf', hff, ht⟩
    dsimp only at hcur1 heq hps hf' hff ht ⊢
    obtain ⟨r, rfl⟩ := hcur1.cons
    obtain ⟨g, rfl⟩ : ∃ g, f' = g + 1 := ⟨f' - 1, by simp at hf'; omega⟩
    have htx := hcur1.txt
    refine Cj.seq ?_
    refine Cj.seq ?_
    refine Cj.region ?_
    refine J.y (yl_move rfl rfl) rfl rfl rfl ?_
    refine J.y (yl_nilCheck rfl rfl) rfl rfl rfl ?_
    refine J.y (yl_fieldAddr (off' := 0) rfl rfl Tryz.underlying78 rfl Tryz.sizeOf76 rfl) rfl rfl rfl ?_
    refine J.y (yl_fieldAddr (off' := 2) rfl rfl Tryz.underlying76 rfl Tryz.sizeOf74 rfl) rfl rfl rfl ?_
    refine J.y (yl_loadAgg rfl rfl Tryz.isAgg74 Tryz.sizeOf74 (Blk.at 1 rfl) rfl rfl) rfl rfl rfl ?_
    refine J.op rfl (op_pure rfl rfl rfl rfl rfl (coperator_ok t (by omega) _ ht) ?_)
    refine J.y (yl_gtr rfl rfl rfl) rfl rfl rfl ?_
    refine J.nil ?_
    refine Ej.seq ?_
    refine Cj.cond rfl (fun hc8 => ?_) (fun hc8 => ?_)
    ·
      have hc8p := of_decide_eq_true hc8
      have hop : Cq.operator t ≠ 0 := by have := of_decide_eq_true hc8; omega
      obtain ⟨hi, hcur2⟩ := hcur1.next (Cq.over_op hop)
      refine Cj.skip ?_
      refine Ej.seq ?_
      refine Cj.block ?_
      refine Cj.seq ?_
      refine Cj.region ?_
      refine J.y (yl_move rfl rfl) rfl rfl rfl ?_
      refine J.y (yl_nilCheck rfl rfl) rfl rfl rfl ?_
      refine J.y (yl_fieldAddr (off' := 0) rfl rfl Tryz.underlying78 rfl Tryz.sizeOf76 rfl) rfl rfl rfl ?_
      refine J.y (yl_fieldAddr (off' := 2) rfl rfl Tryz.underlying76 rfl Tryz.sizeOf74 rfl) rfl rfl rfl ?_
      refine J.y (yl_loadAgg rfl rfl Tryz.isAgg74 Tryz.sizeOf74 (Blk.at 1 rfl) rfl rfl) rfl rfl rfl ?_
      refine J.op rfl (op_pure rfl rfl rfl rfl rfl (coperator_ok t (by omega) _ ht) ?_)
      refine J.y (yl_assign rfl rfl) rfl rfl rfl ?_
      refine J.nil ?_
      refine Ej.seq ?_
      refine Cj.seq ?_
      refine Cj.region ?_
      refine J.y (yl_move rfl rfl) rfl rfl rfl ?_
      refine J.y (yl_nilCheck rfl rfl) rfl rfl rfl ?_
      refine J.y (yl_fieldAddr (off' := 0) rfl rfl Tryz.underlying78 rfl Tryz.sizeOf76 rfl) rfl rfl rfl ?_
      refine J.pull (Pull.s Pull.z) ?_
      refine J.op rfl (op_call (H1 := [_]) rfl rfl rfl rfl rfl (scan_ok _ _ s _ _ _ _ _ hi hs _) ?_ (fun _ _ _ _ h => by cases h.1) (fun _ _ h => by cases h.1))
      intro v9 I10 H11 hle12 hp13
      have ht := ht.mono hle12
      have hps := hps.mono hle12
      obtain ⟨h, rfl⟩ := hp13; cases h
      refine J.nil ?_
      refine Ej.seq ?_
      refine Cj.drawSel [1, 2] [] 6 (by kernel_rfl) ?_
      refine JA.take 0 (by kernel_rfl) rfl (by kernel_rfl) (by kernel_rfl) (by kernel_rfl) (fun _ _ _ h => h) rfl rfl rfl (HSub.c 1 rfl (HSub.c 2 rfl HSub.n)) CSub.n (Le.refl _) (yl_move rfl rfl) ?_
      refine JA.take 1 (by kernel_rfl) rfl (by kernel_rfl) (by kernel_rfl) (by kernel_rfl) (fun _ _ _ h => h) rfl rfl rfl (HSub.c 1 rfl (HSub.c 2 rfl HSub.n)) CSub.n (Le.refl _) (yl_loadAgg rfl rfl Tryz.isAgg28 Tryz.sizeOf28 (Blk.atC 0 rfl) rfl rfl) ?_
      refine JA.take 2 (by kernel_rfl) rfl (by kernel_rfl) (by kernel_rfl) (by kernel_rfl) (fun _ _ _ h => h) rfl rfl rfl (HSub.c 1 rfl (HSub.c 2 rfl HSub.n)) CSub.n (Le.refl _) (yl_move rfl rfl) ?_
      rcases hq : Cq.clause g deep r with ⟨q2, ts2⟩ | ⟨pe, ee⟩
      ·
        skip
        refine JA.pull Pull.z ?_
        refine JA.step 3 (by kernel_rfl) rfl rfl (op_call (H1 := [_]) rfl rfl rfl rfl rfl ((by have h := ih g (by omega) pb (Cq.lex s i').2 deep s (Cq.lex s i').1 r _ hcur2 ht hs (by simp at hf'; omega) hd; rw [hq] at h; exact h)) ?_ (fun _ _ _ _ h => by obtain ⟨_, _, _, h, _⟩ := h; cases h) (fun _ _ h => by obtain ⟨_, _, _, h, _⟩ := h; cases h))
        intro v14 I15 H16 hle17 hp18
        have ht := ht.mono hle17
        have hps := hps.mono hle17
        obtain ⟨vq, i2, t2, h, ⟨pq, cq, rfl, hps2⟩, rfl, hcur3⟩ := hp18; cases h
        refine ⟨⟨(Le.trans (Le.refl _) hle17), (HSub.c 1 rfl (HSub.c 2 rfl HSub.n)), CSub.n⟩, ?_⟩
        refine JA.step 4 (by kernel_rfl) rfl rfl (op_buildSlice rfl rfl rfl Tryz.underlying26 Tryz.sizeOf28 Tryz.zeroValue28 rfl rfl rfl rfl (LCat.agg rfl (LCat.agg rfl LCat.none)) ?_)
        intro b19 hb19
        refine ⟨⟨(Le.trans (Le.refl _) hle17), (HSub.c 2 rfl (HSub.c 3 rfl HSub.n)), CSub.n⟩, ?_⟩
        refine JA.persist hb19 (fun I21 hle20 hb19i => ?_)
        have ht := ht.mono hle20
        have hps := hps.mono hle20
        have hps2 := hps2.mono hle20
        refine JA.take 5 (by kernel_rfl) rfl (by kernel_rfl) (by kernel_rfl) (by kernel_rfl) (fun _ _ _ h => h) rfl rfl rfl (HSub.c 1 rfl (HSub.c 2 rfl HSub.n)) CSub.n (Le.trans (Le.trans (Le.refl _) hle17) hle20) (yl_buildS (pl := #[(0, 1), (1, 1), (2, 1), (3, 1), (4, 1)]) rfl rfl Tryz.zeroValue28 rfl Tryz.underlying28 (fun w => by simp [Tryz.sizeOf26, Tryz.sizeOf3, Tryz.sizeOf9]) (LBld.part rfl rfl rfl (LSpl.c LSpl.z) (LBld.part rfl rfl rfl (LSpl.s (LSpl.s (LSpl.s (LSpl.s (LSpl.c LSpl.z))))) LBld.none))) ?_
        refine JA.last 6 (by kernel_rfl) rfl rfl rfl (op_store 1 rfl rfl rfl rfl rfl rfl Tryz.sizeOf28 rfl rfl (LSpl.c (LSpl.c (LSpl.c (LSpl.c (LSpl.c LSpl.z))))) (LSet.s LSet.z) ?_)
        refine JA.done (by kernel_rfl) ?_
        refine Ej.blkNormal ?_
        refine Ej.keep (Keeps.k (Keeps.k (Keeps.k Keeps.n))) ?_
        refine Ej.pull (Pull.s (Pull.s Pull.z)) ?_
        refine Ej.pull (Pull.s Pull.z) ?_
        refine Ej.pull (Pull.s (Pull.s Pull.z)) ?_
        refine Ej.round ⟨g, Cq.two (Cq.operator t) q q2, some ⟨b19, 0, none⟩, 2, i2, t2, ts2, _⟩ ⟨hcur3, by rw [heq]; simp only [Cq.more, hop, if_false, hq], PS.two hps hps2 hb19i, by have h := (Cq.less g).1 deep r hcur2.good; rw [hq] at h; have := h.2; simp at hf' ⊢; omega, by dsimp only; omega, ht⟩ (by have h := (Cq.less g).1 deep r hcur2.good; rw [hq] at h; have := h.2; simp; omega) ⟨rfl, rfl, rfl, trivial⟩ rfl rfl
      ·
        skip
        refine JA.pull Pull.z ?_
        refine JA.step 3 (by kernel_rfl) rfl rfl (op_call (H1 := [_]) rfl rfl rfl rfl rfl ((by have h := ih g (by omega) pb (Cq.lex s i').2 deep s (Cq.lex s i').1 r _ hcur2 ht hs (by simp at hf'; omega) hd; rw [hq] at h; exact h)) (fun _ _ _ _ h => by cases h.1) ?_ (fun _ _ h => by cases h.1))
        ·
          intro v22 I23 H24 hle25 hp26
          have ht := ht.mono hle25
          have hps := hps.mono hle25
          obtain ⟨h, rfl⟩ := hp26; cases h
          refine Ej.blkPanic ?_
          refine Ej.loopPanic ?_
          refine Ej.blkPanic ?_
          refine Ej.seqPanic ?_
          refine Ej.bare ?_
          refine Ej.pan rfl ?_
          show COut pb s deep (Cq.query (f + 1) deep ts) _ _ _
          have hev : Cq.query (f + 1) deep ts = .err pe ee := by rw [heq]; simp only [Cq.more, hop, if_false, hq]
          rw [hev]
          exact ⟨rfl, rfl⟩
    ·
      have hc8p := of_decide_eq_false hc8
      have hop : Cq.operator t = 0 := by have := of_decide_eq_false hc8; omega
      refine Cj.exit ?_
      refine Ej.seqExit ?_
      refine Ej.loopExit ?_
      refine Ej.blkExit ?_
      refine Ej.seq ?_
      refine Cj.seq ?_
      refine Cj.region ?_
      refine J.y (yl_loadAgg rfl rfl Tryz.isAgg28 Tryz.sizeOf28 (Blk.at 0 rfl) rfl rfl) rfl rfl rfl ?_
      refine J.op rfl (op_store 2 rfl rfl rfl rfl rfl rfl Tryz.sizeOf28 rfl rfl (LSpl.c (LSpl.c (LSpl.c (LSpl.c (LSpl.c LSpl.z))))) (LSet.s (LSet.s LSet.z)) ?_)
      refine J.nil ?_
      refine Ej.seq ?_
      refine Cj.ret ?_
      refine Ej.retCellK (Keeps.d (Keeps.k (Keeps.d Keeps.n))) rfl rfl rfl (Blk.at 2 rfl) Tryz.isAgg28 Tryz.sizeOf28 rfl ?_
      show COut pb s deep (Cq.query (f + 1) deep ts) _ _ _
      rw [heq]
      simp only [Cq.more, hop, if_true]
      exact ⟨_, _, _, rfl, ⟨p, c, rfl, hps⟩, rfl, hcur1⟩
  ·
    skip
    refine J.pull (Pull.s Pull.z) ?_
    refine J.op rfl (op_call (H1 := [_]) rfl rfl rfl rfl rfl ((by have h := ih f (Nat.le_refl _) pb i deep s t ts _ hcur ht hs (by omega) hd; rw [hq] at h; exact h)) (fun _ _ _ _ h => by cases h.1) ?_ (fun _ _ h => by cases h.1))
    ·
      intro v27 I28 H29 hle30 hp31
      have ht := ht.mono hle30
      obtain ⟨h, rfl⟩ := hp31; cases h
      refine Ej.seqPanic ?_
      refine Ej.bare ?_
      refine Ej.pan rfl ?_
      show COut pb s deep (Cq.query (f + 1) deep ts) _ _ _
      have hev : Cq.query (f + 1) deep ts = .err pe ee := by simp only [Cq.query, hq]
      rw [hev]
      exact ⟨rfl, rfl⟩

theorem cclause_cquery : ∀ f, (∀ g, g ≤ f → CCSpec g) ∧ ∀ g, g ≤ f → CQSpec g
  | 0 => ⟨fun g hg => by obtain rfl : g = 0 := by omega
                         intro pb i deep s t ts I hcur ht hs hf hd; omega, fun g hg => by obtain rfl : g = 0 := by omega
                                                                                          intro pb i deep s t ts I hcur ht hs hf hd; omega⟩
  | f + 1 => by
    obtain ⟨h1, h2⟩ := cclause_cquery f
    refine ⟨fun g hg => ?_, fun g hg => ?_⟩
    · rcases Nat.lt_or_ge f g with h | h
      · obtain rfl : g = f + 1 := by omega
        exact cclause_step f (copen_step f (h2 f (Nat.le_refl _)))
      · exact h1 g h
    · rcases Nat.lt_or_ge f g with h | h
      · obtain rfl : g = f + 1 := by omega
        exact cquery_step f h1
      · exact h2 g h
theorem cquery_ok (f : Nat) : CQSpec f := (cclause_cquery f).2 f (Nat.le_refl _)

end Go.Proofs.YtlfpehljahgbkaaGreatDoor
