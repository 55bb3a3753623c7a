/-
  Contracts of cql's lexer: content, scan, is. Own text, printed by a program. Conditions: none.
-/
import Derived.Test.YtlfpehljahgbkaaGreatDoorCqScan
namespace Go.Proofs.YtlfpehljahgbkaaGreatDoor
open Go Go.Sx
theorem perm_in {α : Type} {x : α} {R G : List α} : ((x :: G) ++ R).Perm (x :: (R ++ G)) := List.Perm.cons _ List.perm_append_comm
theorem perm_out {α : Type} {x : α} {R G : List α} : (x :: (R ++ G)).Perm ((x :: G) ++ R) := List.Perm.cons _ List.perm_append_comm
set_option maxRecDepth 20000 in
theorem content_ok (x : Value) (s : List UInt8) (tb : Nat) (kd tx pos : Value) (h0 : 0 < s.length) (hs : s.length ≤ 1000000000) (I : Heap) : Ctr Tryz.prog 53 [x, str s, ptr tb 0] I [(tb, cel 74 [kd, tx, pos])]
    (fun e _I' H' => ((Cq.quotedAt s 0).2 ≠ 0 ∧ e = .returned (i64 (Cq.quotedAt s 0).2) ∧ H' = [(tb, cel 74 [kd, str (Cq.quotedAt s 0).1, pos])]) ∨ ((Cq.quotedAt s 0).2 = 0 ∧ e = .returned (i64 s.length) ∧ H' = [(tb, cel 74 [i64 4, tx, pos])])) := by
  refine Ctr.of_body Tryz.func53 rfl (by decide) (Nat.le_of_ble_eq_true rfl) ?_
  intro w0 hw0
  refine Cj.seq ?_
  refine Cj.region ?_
  refine J.y (yl_assign rfl rfl) rfl rfl rfl ?_
  refine J.nil ?_
  refine Ej.seq ?_
  refine Cj.seq ?_
  refine Cj.region ?_
  refine J.op rfl (op_alloc rfl rfl rfl Tryz.zeroValue65 rfl ?_)
  intro b1 hb1
  refine J.nil ?_
  refine Ej.seq ?_
  refine Cj.seq ?_
  refine Cj.seq ?_
  refine Cj.region ?_
  refine J.y (yl_assign rfl rfl) rfl rfl rfl ?_
  refine J.nil ?_
  refine Ej.seq ?_
  refine Cj.block ?_
  refine Cj.loop (ι := Nat × List UInt8 × Bool × Gs) (fun j => Cq.QInv s 0 j.1 j.2.1 ∧ gOk 0 1 j.2.1.length (bcs j.2.1) j.2.2.2 ∧ (j.2.1 = [] → j.2.2.2 = none)) (fun j => s.length + 1 - j.1) (fun j => [(1, str s), (2, ptr tb 0), (7, ptr b1 0), (8, i64 (j.1 : Int))]) (fun j => I) (fun j => (b1, cel 65 [if j.2.2.1 then ptr b1 0 else .pointer none, gV j.2.1.length j.2.2.2]) :: (tb, cel 74 [kd, tx, pos]) :: gH 5 (bcs j.2.1) j.2.2.2) (1, [], false, none) ⟨Cq.QInv.start s 0 (by omega), ⟨rfl, rfl⟩, fun _ => rfl⟩ ⟨rfl, rfl, rfl, rfl, trivial⟩ rfl rfl ?_
  rintro ⟨k, out, p, g⟩ ⟨hq, hg, hn⟩
  dsimp only at hq hg hn ⊢
  have hlo := hq.lo; have hle0 := hq.le; have hol := hq.ol
  refine Cj.seq ?_
  refine Cj.seq ?_
  refine Cj.region ?_
  refine J.y (yl_move rfl rfl) rfl rfl rfl ?_
  refine J.y (yl_move rfl rfl) rfl rfl rfl ?_
  refine J.y (yl_lenStr rfl rfl Tryz.underlying9) rfl rfl rfl ?_
  refine J.y (yl_lss rfl rfl rfl) rfl rfl rfl ?_
  refine J.nil ?_
  refine Ej.seq ?_
  refine Cj.cond rfl (fun hc2 => ?_) (fun hc2 => ?_)
  ·
    have hc2p := of_decide_eq_true hc2
    have hlt : k < s.length := by omega
    obtain ⟨c, hget⟩ : ∃ c, s[k]? = some c := ⟨_, List.getElem?_eq_getElem hlt⟩
    refine Cj.skip ?_
    refine Ej.seq ?_
    refine Cj.seq ?_
    refine Cj.block ?_
    refine Cj.seq ?_
    refine Cj.region ?_
    refine J.y (yl_move rfl rfl) rfl rfl rfl ?_
    refine J.y (yl_move rfl rfl) rfl rfl rfl ?_
    refine J.y (yl_index rfl rfl rfl Tryz.underlying9 (by omega) hget) rfl rfl rfl ?_
    refine J.y (yl_assign rfl rfl) rfl rfl rfl ?_
    refine J.nil ?_
    refine Ej.seq ?_
    refine Cj.seq ?_
    refine Cj.seq ?_
    refine Cj.region ?_
    refine J.y (yl_move rfl rfl) rfl rfl rfl ?_
    refine J.y (yl_eql rfl rfl rfl) rfl rfl rfl ?_
    refine J.nil ?_
    refine Ej.seq ?_
    refine Cj.cond rfl (fun hc3 => ?_) (fun hc3 => ?_)
    ·
      have hc3p := eq_of_beq hc3
      have h34 : c = 34 := u8_is (d := 34) (eq_of_beq hc3)
      refine Cj.seq ?_
      refine Cj.region ?_
      refine J.y (yl_move rfl rfl) rfl rfl rfl ?_
      refine J.perm (perm_in (R := [_])) ?_
      refine J.op rfl (op_call (H1 := BldH _ _ _ _) rfl rfl rfl rfl rfl (Ctr.still (String_ok _ out p g hg hn (by omega) _)) ?_ (fun _ _ _ _ h => by cases h.2.1) (fun _ _ h => by cases h.2.1))
      intro v4 I5 H6 hle7 hp8
      obtain ⟨rfl, h, rfl⟩ := hp8; cases h
      refine J.y (yl_nilCheck rfl rfl) rfl rfl rfl ?_
      refine J.y (yl_fieldAddr (off' := 1) rfl rfl Tryz.underlying74 rfl Tryz.sizeOf9 rfl) rfl rfl rfl ?_
      refine J.op rfl (op_store 0 rfl rfl rfl rfl rfl rfl Tryz.sizeOf9 rfl rfl (LSpl.s (LSpl.c LSpl.z)) LSet.z ?_)
      refine J.nil ?_
      refine Ej.seq ?_
      refine Cj.seq ?_
      refine Cj.region ?_
      refine J.y (yl_move rfl rfl) rfl rfl rfl ?_
      refine J.y (yl_add rfl rfl rfl (w64 (by omega))) rfl rfl rfl ?_
      refine J.y (yl_assign rfl rfl) rfl rfl rfl ?_
      refine J.nil ?_
      refine Ej.seq ?_
      refine Cj.ret ?_
      refine Ej.seqRet ?_
      refine Ej.blkRet ?_
      refine Ej.seqRet ?_
      refine Ej.loopRet ?_
      refine Ej.blkRet ?_
      refine Ej.seqRet ?_
      refine Ej.keep (Keeps.k Keeps.n) ?_
      refine Ej.ret1 rfl rfl rfl ?_
      have he := hq.quote c hget h34
      rw [he]
      exact .inl ⟨by simp, rfl, rfl⟩
    ·
      have hc3p := ne_of_beq_false hc3
      have h34 : c ≠ 34 := u8_not (d := 34) (ne_of_beq_false hc3)
      refine Cj.skip ?_
      refine Ej.seq ?_
      refine Cj.seq ?_
      refine Cj.seq ?_
      refine Cj.region ?_
      refine J.y (yl_move rfl rfl) rfl rfl rfl ?_
      refine J.y (yl_eql rfl rfl rfl) rfl rfl rfl ?_
      refine J.nil ?_
      refine Ej.seq ?_
      refine Cj.cond rfl (fun hc10 => ?_) (fun hc10 => ?_)
      ·
        have hc10p := eq_of_beq hc10
        have h92 : c = 92 := u8_is (d := 92) (eq_of_beq hc10)
        refine Cj.seq ?_
        refine Cj.region ?_
        refine J.y (yl_move rfl rfl) rfl rfl rfl ?_
        refine J.y (yl_add rfl rfl rfl (w64 (by omega))) rfl rfl rfl ?_
        refine J.y (yl_assign rfl rfl) rfl rfl rfl ?_
        refine J.nil ?_
        refine Ej.seq ?_
        refine Cj.seq ?_
        refine Cj.seq ?_
        refine Cj.region ?_
        refine J.y (yl_move rfl rfl) rfl rfl rfl ?_
        refine J.y (yl_move rfl rfl) rfl rfl rfl ?_
        refine J.y (yl_lenStr rfl rfl Tryz.underlying9) rfl rfl rfl ?_
        refine J.y (yl_eql rfl rfl rfl) rfl rfl rfl ?_
        refine J.nil ?_
        refine Ej.seq ?_
        refine Cj.cond rfl (fun hc11 => ?_) (fun hc11 => ?_)
        ·
          have hc11p := eq_of_beq hc11
          refine Cj.exit ?_
          refine Ej.seqExit ?_
          refine Ej.seqExit ?_
          refine Ej.blkOther rfl ?_
          refine Ej.seqExit ?_
          refine Ej.loopExit ?_
          refine Ej.blkExit ?_
          refine Ej.seq ?_
          refine Cj.seq ?_
          refine Cj.region ?_
          refine J.y (yl_move rfl rfl) rfl rfl rfl ?_
          refine J.y (yl_nilCheck rfl rfl) rfl rfl rfl ?_
          refine J.y (yl_fieldAddr (off' := 0) rfl rfl Tryz.underlying74 rfl Tryz.sizeOf72 rfl) rfl rfl rfl ?_
          refine J.op rfl (op_store 1 rfl rfl rfl rfl rfl rfl Tryz.sizeOf72 rfl rfl (LSpl.c LSpl.z) (LSet.s LSet.z) ?_)
          refine J.nil ?_
          refine Ej.seq ?_
          refine Cj.seq ?_
          refine Cj.region ?_
          refine J.y (yl_move rfl rfl) rfl rfl rfl ?_
          refine J.y (yl_lenStr rfl rfl Tryz.underlying9) rfl rfl rfl ?_
          refine J.y (yl_assign rfl rfl) rfl rfl rfl ?_
          refine J.nil ?_
          refine Ej.seq ?_
          refine Cj.ret ?_
          refine Ej.keep (GH_drop) ?_
          refine Ej.ret1 rfl rfl rfl ?_
          have he := (hq.fin hlt c hget h92 (by omega)).past (by omega)
          rw [he]
          exact .inr ⟨rfl, rfl, rfl⟩
        ·
          have hc11p := ne_of_beq_false hc11
          have hlt2 : k + 1 < s.length := by omega
          obtain ⟨d, hget2⟩ : ∃ d, s[k + 1]? = some d := ⟨_, List.getElem?_eq_getElem hlt2⟩
          refine Cj.skip ?_
          refine Ej.seq ?_
          refine Cj.region ?_
          refine J.y (yl_move rfl rfl) rfl rfl rfl ?_
          refine J.y (yl_move rfl rfl) rfl rfl rfl ?_
          refine J.y (yl_index rfl rfl rfl Tryz.underlying9 (by omega) hget2) rfl rfl rfl ?_
          refine J.y (yl_assign rfl rfl) rfl rfl rfl ?_
          refine J.nil ?_
          refine Ej.seq ?_
          refine Cj.region ?_
          refine J.y (yl_move rfl rfl) rfl rfl rfl ?_
          refine J.perm (perm_in (R := [_])) ?_
          refine J.op rfl (op_call (H1 := BldH _ _ _ _) rfl rfl rfl rfl rfl (Ctr.still (WriteByte_ok _ out d p g hg (by omega) _)) ?_ (fun _ _ _ _ h => by cases h.2.1) (fun _ _ h => by cases h.2.1))
          intro v12 I13 H14 hle15 hp16
          obtain ⟨rfl, h, g17, hg17, rfl⟩ := hp16; cases h
          refine J.perm (perm_out (R := [_])) ?_
          refine J.nil ?_
          refine Ej.blkNormal ?_
          refine Ej.seq ?_
          refine Cj.region ?_
          refine J.y (yl_move rfl rfl) rfl rfl rfl ?_
          refine J.y (yl_add rfl rfl rfl (w64 (by omega))) rfl rfl rfl ?_
          refine J.y (yl_assign rfl rfl) rfl rfl rfl ?_
          refine J.nil ?_
          refine Ej.round ((k + 1 + 1), out ++ [d], true, g17) ⟨hq.esc hlt c hget h92 d hget2, hg17, fun h => absurd h (by simp)⟩ (by dsimp only; omega) ⟨rfl, rfl, rfl, rfl, trivial⟩ rfl rfl
      ·
        have hc10p := ne_of_beq_false hc10
        have h92 : c ≠ 92 := u8_not (d := 92) (ne_of_beq_false hc10)
        refine Cj.skip ?_
        refine Ej.seq ?_
        refine Cj.region ?_
        refine J.y (yl_move rfl rfl) rfl rfl rfl ?_
        refine J.perm (perm_in (R := [_])) ?_
        refine J.op rfl (op_call (H1 := BldH _ _ _ _) rfl rfl rfl rfl rfl (Ctr.still (WriteByte_ok _ out c p g hg (by omega) _)) ?_ (fun _ _ _ _ h => by cases h.2.1) (fun _ _ h => by cases h.2.1))
        intro v18 I19 H20 hle21 hp22
        obtain ⟨rfl, h, g23, hg23, rfl⟩ := hp22; cases h
        refine J.perm (perm_out (R := [_])) ?_
        refine J.nil ?_
        refine Ej.blkNormal ?_
        refine Ej.seq ?_
        refine Cj.region ?_
        refine J.y (yl_move rfl rfl) rfl rfl rfl ?_
        refine J.y (yl_add rfl rfl rfl (w64 (by omega))) rfl rfl rfl ?_
        refine J.y (yl_assign rfl rfl) rfl rfl rfl ?_
        refine J.nil ?_
        refine Ej.round ((k + 1), out ++ [c], true, g23) ⟨hq.byte hlt c hget h34 h92, hg23, fun h => absurd h (by simp)⟩ (by dsimp only; omega) ⟨rfl, rfl, rfl, rfl, trivial⟩ rfl rfl
  ·
    have hc2p := of_decide_eq_false hc2
    refine Cj.exit ?_
    refine Ej.seqExit ?_
    refine Ej.loopExit ?_
    refine Ej.blkExit ?_
    refine Ej.seq ?_
    refine Cj.seq ?_
    refine Cj.region ?_
    refine J.y (yl_move rfl rfl) rfl rfl rfl ?_
    refine J.y (yl_nilCheck rfl rfl) rfl rfl rfl ?_
    refine J.y (yl_fieldAddr (off' := 0) rfl rfl Tryz.underlying74 rfl Tryz.sizeOf72 rfl) rfl rfl rfl ?_
    refine J.op rfl (op_store 1 rfl rfl rfl rfl rfl rfl Tryz.sizeOf72 rfl rfl (LSpl.c LSpl.z) (LSet.s LSet.z) ?_)
    refine J.nil ?_
    refine Ej.seq ?_
    refine Cj.seq ?_
    refine Cj.region ?_
    refine J.y (yl_move rfl rfl) rfl rfl rfl ?_
    refine J.y (yl_lenStr rfl rfl Tryz.underlying9) rfl rfl rfl ?_
    refine J.y (yl_assign rfl rfl) rfl rfl rfl ?_
    refine J.nil ?_
    refine Ej.seq ?_
    refine Cj.ret ?_
    refine Ej.keep (GH_drop) ?_
    refine Ej.ret1 rfl rfl rfl ?_
    have he := hq.past (by omega)
    rw [he]
    exact .inr ⟨rfl, rfl, rfl⟩

/-- A token's cells. -/
def tokR (t : Cq.Tok) (l : List Value) : List Value := i64 t.kind :: str t.text :: i64 t.pos :: l

set_option maxRecDepth 20000 in
theorem scan_ok (pb T : Nat) (s : List UInt8) (i : Nat) (k0 x0 a0 : Value) (rs : List Value) (hi : i ≤ s.length) (hs : s.length ≤ 1000000000) (I : Heap) : Ctr Tryz.prog 33 [ptr pb 0] I [(pb, cel T (str s :: i64 i :: k0 :: x0 :: a0 :: rs))]
    (fun e _I' H' => e = .returned (.tuple #[]) ∧ H' = [(pb, cel T (str s :: i64 (Cq.lex s i).2 :: tokR (Cq.lex s i).1 rs))]) := by
  obtain ⟨hj0, hj⟩ := Cq.skip_le s i hi
  obtain ⟨rest, hrest⟩ : ∃ rest, s.drop (Cq.skip s i) = rest := ⟨_, rfl⟩
  have hrl : Cq.skip s i + rest.length = s.length := by rw [← hrest, List.length_drop]; omega
  have htl : (Lib.trimLeftS (s.drop i) blanks).length ≤ (s.drop i).length := (List.dropWhile_sublist _).length_le
  have hdl : (s.drop i).length ≤ s.length := by rw [List.length_drop]; omega
  refine Ctr.of_body Tryz.func33 rfl (by decide) (Nat.le_of_ble_eq_true rfl) ?_
  intro w0 hw0
  refine Cj.seq ?_
  refine Cj.drawSel [] [(pb, 0, str s), (pb, 1, i64 i)] 29 (by kernel_rfl) ?_
  refine JA.take 0 (by kernel_rfl) rfl (by kernel_rfl) (by kernel_rfl) (by kernel_rfl) (fun _ _ _ h => h) rfl rfl rfl HSub.n (CSub.c 0 rfl rfl (CSub.c 0 rfl rfl CSub.n)) (Le.refl _) (yl_move rfl rfl) ?_
  refine JA.take 1 (by kernel_rfl) rfl (by kernel_rfl) (by kernel_rfl) (by kernel_rfl) (fun _ _ _ h => h) rfl rfl rfl HSub.n (CSub.c 0 rfl rfl (CSub.c 0 rfl rfl CSub.n)) (Le.refl _) (yl_nilCheck rfl rfl) ?_
  refine JA.take 2 (by kernel_rfl) rfl (by kernel_rfl) (by kernel_rfl) (by kernel_rfl) (fun _ _ _ h => h) rfl rfl rfl HSub.n (CSub.c 0 rfl rfl (CSub.c 0 rfl rfl CSub.n)) (Le.refl _) (yl_fieldAddr (off' := 1) rfl rfl Tryz.underlying76 rfl Tryz.sizeOf3 rfl) ?_
  refine JA.take 3 (by kernel_rfl) rfl (by kernel_rfl) (by kernel_rfl) (by kernel_rfl) (fun _ _ _ h => h) rfl rfl rfl HSub.n (CSub.c 0 rfl rfl (CSub.c 0 rfl rfl CSub.n)) (Le.refl _) (yl_loadC rfl rfl Tryz.isAgg3 (SC.cell 1 rfl)) ?_
  refine JA.take 4 (by kernel_rfl) rfl (by kernel_rfl) (by kernel_rfl) (by kernel_rfl) (fun _ _ _ h => h) rfl rfl rfl HSub.n (CSub.c 0 rfl rfl (CSub.c 0 rfl rfl CSub.n)) (Le.refl _) (yl_move rfl rfl) ?_
  refine JA.take 5 (by kernel_rfl) rfl (by kernel_rfl) (by kernel_rfl) (by kernel_rfl) (fun _ _ _ h => h) rfl rfl rfl HSub.n (CSub.c 0 rfl rfl (CSub.c 0 rfl rfl CSub.n)) (Le.refl _) (yl_nilCheck rfl rfl) ?_
  refine JA.take 6 (by kernel_rfl) rfl (by kernel_rfl) (by kernel_rfl) (by kernel_rfl) (fun _ _ _ h => h) rfl rfl rfl HSub.n (CSub.c 0 rfl rfl (CSub.c 0 rfl rfl CSub.n)) (Le.refl _) (yl_fieldAddr (off' := 0) rfl rfl Tryz.underlying76 rfl Tryz.sizeOf9 rfl) ?_
  refine JA.take 7 (by kernel_rfl) rfl (by kernel_rfl) (by kernel_rfl) (by kernel_rfl) (fun _ _ _ h => h) rfl rfl rfl HSub.n (CSub.c 0 rfl rfl (CSub.c 0 rfl rfl CSub.n)) (Le.refl _) (yl_loadC rfl rfl Tryz.isAgg9 (SC.cell 0 rfl)) ?_
  refine JA.take 8 (by kernel_rfl) rfl (by kernel_rfl) (by kernel_rfl) (by kernel_rfl) (fun _ _ _ h => h) rfl rfl rfl HSub.n (CSub.c 0 rfl rfl (CSub.c 0 rfl rfl CSub.n)) (Le.refl _) (yl_move rfl rfl) ?_
  refine JA.take 9 (by kernel_rfl) rfl (by kernel_rfl) (by kernel_rfl) (by kernel_rfl) (fun _ _ _ h => h) rfl rfl rfl HSub.n (CSub.c 0 rfl rfl (CSub.c 0 rfl rfl CSub.n)) (Le.refl _) (yl_nilCheck rfl rfl) ?_
  refine JA.take 10 (by kernel_rfl) rfl (by kernel_rfl) (by kernel_rfl) (by kernel_rfl) (fun _ _ _ h => h) rfl rfl rfl HSub.n (CSub.c 0 rfl rfl (CSub.c 0 rfl rfl CSub.n)) (Le.refl _) (yl_fieldAddr (off' := 1) rfl rfl Tryz.underlying76 rfl Tryz.sizeOf3 rfl) ?_
  refine JA.take 11 (by kernel_rfl) rfl (by kernel_rfl) (by kernel_rfl) (by kernel_rfl) (fun _ _ _ h => h) rfl rfl rfl HSub.n (CSub.c 0 rfl rfl (CSub.c 0 rfl rfl CSub.n)) (Le.refl _) (yl_loadC rfl rfl Tryz.isAgg3 (SC.cell 1 rfl)) ?_
  refine JA.take 12 (by kernel_rfl) rfl (by kernel_rfl) (by kernel_rfl) (by kernel_rfl) (fun _ _ _ h => h) rfl rfl rfl HSub.n (CSub.c 0 rfl rfl (CSub.c 0 rfl rfl CSub.n)) (Le.refl _) (yl_sliceStr (p := i) (q := s.length) rfl rfl Tryz.underlying9 ⟨_, rfl⟩ rfl (by omega) (by omega)) ?_
  refine JA.eqv 17 rfl (show _ = str (s.drop i) from (by rw [List.take_length])) ?_
  refine JA.take 13 (by kernel_rfl) rfl (by kernel_rfl) (by kernel_rfl) (by kernel_rfl) (fun _ _ _ h => h) rfl rfl rfl HSub.n (CSub.c 0 rfl rfl (CSub.c 0 rfl rfl CSub.n)) (Le.refl _) (yl_lenStr rfl rfl Tryz.underlying9) ?_
  refine JA.take 14 (by kernel_rfl) rfl (by kernel_rfl) (by kernel_rfl) (by kernel_rfl) (fun _ _ _ h => h) rfl rfl rfl HSub.n (CSub.c 0 rfl rfl (CSub.c 0 rfl rfl CSub.n)) (Le.refl _) (yl_move rfl rfl) ?_
  refine JA.take 15 (by kernel_rfl) rfl (by kernel_rfl) (by kernel_rfl) (by kernel_rfl) (fun _ _ _ h => h) rfl rfl rfl HSub.n (CSub.c 0 rfl rfl (CSub.c 0 rfl rfl CSub.n)) (Le.refl _) (yl_nilCheck rfl rfl) ?_
  refine JA.take 16 (by kernel_rfl) rfl (by kernel_rfl) (by kernel_rfl) (by kernel_rfl) (fun _ _ _ h => h) rfl rfl rfl HSub.n (CSub.c 0 rfl rfl (CSub.c 0 rfl rfl CSub.n)) (Le.refl _) (yl_fieldAddr (off' := 0) rfl rfl Tryz.underlying76 rfl Tryz.sizeOf9 rfl) ?_
  refine JA.take 17 (by kernel_rfl) rfl (by kernel_rfl) (by kernel_rfl) (by kernel_rfl) (fun _ _ _ h => h) rfl rfl rfl HSub.n (CSub.c 0 rfl rfl (CSub.c 0 rfl rfl CSub.n)) (Le.refl _) (yl_loadC rfl rfl Tryz.isAgg9 (SC.cell 0 rfl)) ?_
  refine JA.take 18 (by kernel_rfl) rfl (by kernel_rfl) (by kernel_rfl) (by kernel_rfl) (fun _ _ _ h => h) rfl rfl rfl HSub.n (CSub.c 0 rfl rfl (CSub.c 0 rfl rfl CSub.n)) (Le.refl _) (yl_move rfl rfl) ?_
  refine JA.take 19 (by kernel_rfl) rfl (by kernel_rfl) (by kernel_rfl) (by kernel_rfl) (fun _ _ _ h => h) rfl rfl rfl HSub.n (CSub.c 0 rfl rfl (CSub.c 0 rfl rfl CSub.n)) (Le.refl _) (yl_nilCheck rfl rfl) ?_
  refine JA.take 20 (by kernel_rfl) rfl (by kernel_rfl) (by kernel_rfl) (by kernel_rfl) (fun _ _ _ h => h) rfl rfl rfl HSub.n (CSub.c 0 rfl rfl (CSub.c 0 rfl rfl CSub.n)) (Le.refl _) (yl_fieldAddr (off' := 1) rfl rfl Tryz.underlying76 rfl Tryz.sizeOf3 rfl) ?_
  refine JA.take 21 (by kernel_rfl) rfl (by kernel_rfl) (by kernel_rfl) (by kernel_rfl) (fun _ _ _ h => h) rfl rfl rfl HSub.n (CSub.c 0 rfl rfl (CSub.c 0 rfl rfl CSub.n)) (Le.refl _) (yl_loadC rfl rfl Tryz.isAgg3 (SC.cell 1 rfl)) ?_
  refine JA.take 22 (by kernel_rfl) rfl (by kernel_rfl) (by kernel_rfl) (by kernel_rfl) (fun _ _ _ h => h) rfl rfl rfl HSub.n (CSub.c 0 rfl rfl (CSub.c 0 rfl rfl CSub.n)) (Le.refl _) (yl_sliceStr (p := i) (q := s.length) rfl rfl Tryz.underlying9 ⟨_, rfl⟩ rfl (by omega) (by omega)) ?_
  refine JA.eqv 27 rfl (show _ = str (s.drop i) from (by rw [List.take_length])) ?_
  refine JA.step 23 (by kernel_rfl) rfl rfl (op_pure rfl rfl rfl rfl rfl (TrimLeft_ok _ _) ?_)
  refine ⟨⟨(Le.refl _), HSub.n, (CSub.c 0 rfl rfl (CSub.c 0 rfl rfl CSub.n))⟩, ?_⟩
  refine JA.take 24 (by kernel_rfl) rfl (by kernel_rfl) (by kernel_rfl) (by kernel_rfl) (fun _ _ _ h => h) rfl rfl rfl HSub.n (CSub.c 0 rfl rfl (CSub.c 0 rfl rfl CSub.n)) (Le.refl _) (yl_lenStr rfl rfl Tryz.underlying9) ?_
  refine JA.take 25 (by kernel_rfl) rfl (by kernel_rfl) (by kernel_rfl) (by kernel_rfl) (fun _ _ _ h => h) rfl rfl rfl HSub.n (CSub.c 0 rfl rfl (CSub.c 0 rfl rfl CSub.n)) (Le.refl _) (yl_sub rfl rfl rfl (w64 (by omega))) ?_
  refine JA.take 26 (by kernel_rfl) rfl (by kernel_rfl) (by kernel_rfl) (by kernel_rfl) (fun _ _ _ h => h) rfl rfl rfl HSub.n (CSub.c 0 rfl rfl (CSub.c 0 rfl rfl CSub.n)) (Le.refl _) (yl_add rfl rfl rfl (w64 (by omega))) ?_
  refine JA.eqv 31 rfl (show _ = i64 (Cq.skip s i : Nat) from (by rw [skip_trim s i hi])) ?_
  refine JA.take 27 (by kernel_rfl) rfl (by kernel_rfl) (by kernel_rfl) (by kernel_rfl) (fun _ _ _ h => h) rfl rfl rfl HSub.n (CSub.c 0 rfl rfl (CSub.c 0 rfl rfl CSub.n)) (Le.refl _) (yl_nilCheck rfl rfl) ?_
  refine JA.take 28 (by kernel_rfl) rfl (by kernel_rfl) (by kernel_rfl) (by kernel_rfl) (fun _ _ _ h => h) rfl rfl rfl HSub.n (CSub.c 0 rfl rfl (CSub.c 0 rfl rfl CSub.n)) (Le.refl _) (yl_fieldAddr (off' := 1) rfl rfl Tryz.underlying76 rfl Tryz.sizeOf3 rfl) ?_
  refine JA.last 29 (by kernel_rfl) rfl rfl rfl (op_store 0 rfl rfl rfl rfl rfl rfl Tryz.sizeOf3 rfl rfl (LSpl.s (LSpl.c LSpl.z)) LSet.z ?_)
  refine JA.done (by kernel_rfl) ?_
  refine Ej.seq ?_
  refine Cj.seq ?_
  refine Cj.drawSel [0] [] 10 (by kernel_rfl) ?_
  refine JA.take 0 rfl rfl (by kernel_rfl) (by kernel_rfl) (by kernel_rfl) (fun _ _ _ h => h) rfl rfl rfl (HSub.c 0 rfl HSub.n) CSub.n (Le.refl _) (yl_move rfl rfl) ?_
  refine JA.take 1 rfl rfl (by kernel_rfl) (by kernel_rfl) (by kernel_rfl) (fun _ _ _ h => h) rfl rfl rfl (HSub.c 0 rfl HSub.n) CSub.n (Le.refl _) (yl_nilCheck rfl rfl) ?_
  refine JA.take 2 rfl rfl (by kernel_rfl) (by kernel_rfl) (by kernel_rfl) (fun _ _ _ h => h) rfl rfl rfl (HSub.c 0 rfl HSub.n) CSub.n (Le.refl _) (yl_fieldAddr (off' := 0) rfl rfl Tryz.underlying76 rfl Tryz.sizeOf9 rfl) ?_
  refine JA.take 3 rfl rfl (by kernel_rfl) (by kernel_rfl) (by kernel_rfl) (fun _ _ _ h => h) rfl rfl rfl (HSub.c 0 rfl HSub.n) CSub.n (Le.refl _) (yl_load rfl rfl Tryz.isAgg9 (Blk.atC 0 rfl) rfl) ?_
  refine JA.take 4 rfl rfl (by kernel_rfl) (by kernel_rfl) (by kernel_rfl) (fun _ _ _ h => h) rfl rfl rfl (HSub.c 0 rfl HSub.n) CSub.n (Le.refl _) (yl_move rfl rfl) ?_
  refine JA.take 5 rfl rfl (by kernel_rfl) (by kernel_rfl) (by kernel_rfl) (fun _ _ _ h => h) rfl rfl rfl (HSub.c 0 rfl HSub.n) CSub.n (Le.refl _) (yl_nilCheck rfl rfl) ?_
  refine JA.take 6 rfl rfl (by kernel_rfl) (by kernel_rfl) (by kernel_rfl) (fun _ _ _ h => h) rfl rfl rfl (HSub.c 0 rfl HSub.n) CSub.n (Le.refl _) (yl_fieldAddr (off' := 1) rfl rfl Tryz.underlying76 rfl Tryz.sizeOf3 rfl) ?_
  refine JA.take 7 rfl rfl (by kernel_rfl) (by kernel_rfl) (by kernel_rfl) (fun _ _ _ h => h) rfl rfl rfl (HSub.c 0 rfl HSub.n) CSub.n (Le.refl _) (yl_load rfl rfl Tryz.isAgg3 (Blk.atC 0 rfl) rfl) ?_
  refine JA.take 8 rfl rfl (by kernel_rfl) (by kernel_rfl) (by kernel_rfl) (fun _ _ _ h => h) rfl rfl rfl (HSub.c 0 rfl HSub.n) CSub.n (Le.refl _) (yl_sliceStr (p := Cq.skip s i) (q := s.length) rfl rfl Tryz.underlying9 ⟨_, rfl⟩ rfl (by omega) (by omega)) ?_
  refine JA.eqv 42 rfl (show _ = str rest from (by rw [List.take_length, hrest])) ?_
  refine JA.take 9 rfl rfl (by kernel_rfl) (by kernel_rfl) (by kernel_rfl) (fun _ _ _ h => h) rfl rfl rfl (HSub.c 0 rfl HSub.n) CSub.n (Le.refl _) (yl_assign rfl rfl) ?_
  refine JA.done (by kernel_rfl) ?_
  refine Ej.seq ?_
  refine Cj.seq ?_
  refine Cj.region ?_
  refine J.y (yl_move rfl rfl) rfl rfl rfl ?_
  refine J.y (yl_nilCheck rfl rfl) rfl rfl rfl ?_
  refine J.y (yl_fieldAddr (off' := 1) rfl rfl Tryz.underlying76 rfl Tryz.sizeOf3 rfl) rfl rfl rfl ?_
  refine J.y (yl_load rfl rfl Tryz.isAgg3 (Blk.at 0 rfl) rfl) rfl rfl rfl ?_
  refine J.y (yl_buildS (pl := #[(0, 1), (1, 1), (2, 1)]) rfl rfl Tryz.zeroValue74 rfl Tryz.underlying74 (fun w => by simp [Tryz.sizeOf3, Tryz.sizeOf72, Tryz.sizeOf9]) (LBld.part rfl rfl rfl (LSpl.s (LSpl.s (LSpl.c LSpl.z))) LBld.none)) rfl rfl rfl ?_
  refine J.op rfl (op_alloc rfl rfl rfl Tryz.zeroValue74 rfl ?_)
  intro b1 hb1
  refine J.op rfl (op_store 0 rfl rfl rfl rfl rfl rfl Tryz.sizeOf74 rfl rfl (LSpl.c (LSpl.c (LSpl.c LSpl.z))) LSet.z ?_)
  refine J.nil ?_
  refine Ej.seq ?_
  refine Cj.seq ?_
  refine Cj.region ?_
  refine J.y (yl_move rfl rfl) rfl rfl rfl ?_
  refine J.op rfl (op_pure rfl rfl rfl rfl rfl (IndexAny_ok rest breaks (by omega) (by decide) (by decide) (by decide) _) ?_)
  refine J.y (yl_assign rfl rfl) rfl rfl rfl ?_
  refine J.nil ?_
  refine Ej.seq ?_
  refine Cj.seq ?_
  refine Cj.block ?_
  refine Cj.seq ?_
  refine Cj.region ?_
  refine J.y (yl_move rfl rfl) rfl rfl rfl ?_
  refine J.y (yl_eqlStr rfl rfl rfl) rfl rfl rfl ?_
  refine J.y (yl_assign rfl rfl) rfl rfl rfl ?_
  refine J.nil ?_
  refine Ej.seq ?_
  refine Cj.cond rfl (fun hc2 => ?_) (fun hc2 => ?_)
  ·
    have hc2p := eq_of_beq hc2
    have he : rest = [] := eq_of_beq hc2
    subst he
    refine Cj.region ?_
    refine J.y (yl_fieldAddr (off' := 0) rfl rfl Tryz.underlying74 rfl Tryz.sizeOf72 rfl) rfl rfl rfl ?_
    refine J.op rfl (op_store 0 rfl rfl rfl rfl rfl rfl Tryz.sizeOf72 rfl rfl (LSpl.c LSpl.z) LSet.z ?_)
    refine J.nil ?_
    refine Ej.blkNormal ?_
    refine Ej.seq ?_
    refine Cj.seq ?_
    refine Cj.seq ?_
    refine Cj.region ?_
    refine J.y (yl_fieldAddr (off' := 0) rfl rfl Tryz.underlying74 rfl Tryz.sizeOf72 rfl) rfl rfl rfl ?_
    refine J.y (yl_load rfl rfl Tryz.isAgg72 (Blk.at 0 rfl) rfl) rfl rfl rfl ?_
    refine J.y (yl_eql rfl rfl rfl) rfl rfl rfl ?_
    refine J.y (yl_move rfl rfl) rfl rfl rfl ?_
    refine J.opG 3 85 false _ rfl rfl rfl rfl (op_yld (yl_fieldAddr (off' := 0) rfl rfl Tryz.underlying74 rfl Tryz.sizeOf72 rfl) rfl rfl ?_)
    refine J.opG 3 85 false _ rfl rfl rfl rfl (op_yld (yl_load rfl rfl Tryz.isAgg72 (Blk.at 0 rfl) rfl) rfl rfl ?_)
    refine J.opG 3 85 false _ rfl rfl rfl rfl (op_yld (yl_eql rfl rfl rfl) rfl rfl ?_)
    refine J.y (yl_pick0 rfl rfl rfl rfl) rfl rfl rfl ?_
    refine J.nil ?_
    refine Ej.seq ?_
    refine Cj.cond rfl (fun hc3 => Bool.noConfusion (Eq.trans (Eq.symm rfl) hc3)) (fun hc3 => ?_)
    refine Cj.skip ?_
    refine Ej.seq ?_
    refine Cj.seq ?_
    refine Cj.region ?_
    refine J.y (yl_move rfl rfl) rfl rfl rfl ?_
    refine J.y (yl_nilCheck rfl rfl) rfl rfl rfl ?_
    refine J.y (yl_fieldAddr (off' := 1) rfl rfl Tryz.underlying76 rfl Tryz.sizeOf3 rfl) rfl rfl rfl ?_
    refine J.y (yl_load rfl rfl Tryz.isAgg3 (Blk.at 1 rfl) rfl) rfl rfl rfl ?_
    refine J.y (yl_move rfl rfl) rfl rfl rfl ?_
    refine J.y (yl_max2 rfl rfl rfl) rfl rfl rfl ?_
    refine J.eqv 99 rfl (show _ = i64 (0 : Nat) from rfl) ?_
    refine J.y (yl_add rfl rfl rfl (w64 (by omega))) rfl rfl rfl ?_
    refine J.y (yl_nilCheck rfl rfl) rfl rfl rfl ?_
    refine J.y (yl_fieldAddr (off' := 1) rfl rfl Tryz.underlying76 rfl Tryz.sizeOf3 rfl) rfl rfl rfl ?_
    refine J.op rfl (op_store 1 rfl rfl rfl rfl rfl rfl Tryz.sizeOf3 rfl rfl (LSpl.s (LSpl.c LSpl.z)) (LSet.s LSet.z) ?_)
    refine J.nil ?_
    refine Ej.seq ?_
    refine Cj.region ?_
    refine J.y (yl_move rfl rfl) rfl rfl rfl ?_
    refine J.y (yl_loadAgg rfl rfl Tryz.isAgg74 Tryz.sizeOf74 (Blk.at 0 rfl) rfl rfl) rfl rfl rfl ?_
    refine J.y (yl_nilCheck rfl rfl) rfl rfl rfl ?_
    refine J.y (yl_fieldAddr (off' := 2) rfl rfl Tryz.underlying76 rfl Tryz.sizeOf74 rfl) rfl rfl rfl ?_
    refine J.op rfl (op_store 1 rfl rfl rfl rfl rfl rfl Tryz.sizeOf74 rfl rfl (LSpl.s (LSpl.s (LSpl.c (LSpl.c (LSpl.c LSpl.z))))) (LSet.s LSet.z) ?_)
    refine J.nil ?_
    refine Ej.keep (Keeps.d (Keeps.k Keeps.n)) ?_
    refine Ej.end0 rfl rfl ?_
    have hhd2 := (congrArg (fun l => Cq.head l (Cq.skip s i)) hrest).trans (show Cq.head [] (Cq.skip s i) = (⟨0, [], Cq.skip s i⟩, 0) from rfl)
    have hlex := lex_of hhd2
    rw [hlex]
    refine ⟨rfl, ?_⟩
    simp [tokR, str]
  ·
    have hc2p := ne_of_beq_false hc2
    obtain ⟨c, r, rfl⟩ : ∃ c r, rest = c :: r := by
      cases rest with
      | nil => cases hc2
      | cons c r => exact ⟨c, r, rfl⟩
    have hcl : (c :: r).length = r.length + 1 := rfl
    refine Cj.seq ?_
    refine Cj.region ?_
    refine J.y (yl_move rfl rfl) rfl rfl rfl ?_
    refine J.y (yl_index rfl rfl rfl Tryz.underlying9 (by omega) rfl) rfl rfl rfl ?_
    refine J.y (yl_eql rfl rfl rfl) rfl rfl rfl ?_
    refine J.y (yl_assign rfl rfl) rfl rfl rfl ?_
    refine J.nil ?_
    refine Ej.seq ?_
    refine Cj.cond rfl (fun hc4 => ?_) (fun hc4 => ?_)
    ·
      have hc4p := eq_of_beq hc4
      have h34 : c = 34 := u8_is (d := 34) (eq_of_beq hc4)
      subst h34
      refine Cj.seq ?_
      refine Cj.region ?_
      refine J.y (yl_fieldAddr (off' := 0) rfl rfl Tryz.underlying74 rfl Tryz.sizeOf72 rfl) rfl rfl rfl ?_
      refine J.op rfl (op_store 0 rfl rfl rfl rfl rfl rfl Tryz.sizeOf72 rfl rfl (LSpl.c LSpl.z) LSet.z ?_)
      refine J.nil ?_
      refine Ej.seq ?_
      refine Cj.region ?_
      refine J.y (yl_move rfl rfl) rfl rfl rfl ?_
      refine J.y (yl_move rfl rfl) rfl rfl rfl ?_
      refine J.pull Pull.z ?_
      refine J.op rfl (op_call (H1 := [_]) rfl rfl rfl rfl rfl (content_ok _ (34 :: r) _ _ _ _ (by simp) (by omega) _) ?_ (fun _ _ _ _ h => by rcases h with h | h <;> cases h.2.1) (fun _ _ h => by rcases h with h | h <;> cases h.2.1))
      intro v5 I6 H7 hle8 hp9
      rcases hp9 with ⟨hq, h1, h2⟩ | ⟨hq, h1, h2⟩
      ·
        subst h2; cases h1
        have hhd := (head_quoted r (Cq.skip s i)).2 hq
        have hql := quotedAt_le (34 :: r)
        refine J.y (yl_assign rfl rfl) rfl rfl rfl ?_
        refine J.nil ?_
        refine Ej.blkNormal ?_
        refine Ej.seq ?_
        refine Cj.seq ?_
        refine Cj.seq ?_
        refine Cj.region ?_
        refine J.y (yl_fieldAddr (off' := 0) rfl rfl Tryz.underlying74 rfl Tryz.sizeOf72 rfl) rfl rfl rfl ?_
        refine J.y (yl_load rfl rfl Tryz.isAgg72 (Blk.at 0 rfl) rfl) rfl rfl rfl ?_
        refine J.y (yl_eql rfl rfl rfl) rfl rfl rfl ?_
        refine J.y (yl_move rfl rfl) rfl rfl rfl ?_
        refine J.opG 3 85 false _ rfl rfl rfl rfl (op_yld (yl_fieldAddr (off' := 0) rfl rfl Tryz.underlying74 rfl Tryz.sizeOf72 rfl) rfl rfl ?_)
        refine J.opG 3 85 false _ rfl rfl rfl rfl (op_yld (yl_load rfl rfl Tryz.isAgg72 (Blk.at 0 rfl) rfl) rfl rfl ?_)
        refine J.opG 3 85 false _ rfl rfl rfl rfl (op_yld (yl_eql rfl rfl rfl) rfl rfl ?_)
        refine J.y (yl_pick0 rfl rfl rfl rfl) rfl rfl rfl ?_
        refine J.nil ?_
        refine Ej.seq ?_
        refine Cj.cond rfl (fun hc10 => Bool.noConfusion (Eq.trans (Eq.symm rfl) hc10)) (fun hc10 => ?_)
        refine Cj.skip ?_
        refine Ej.seq ?_
        refine Cj.seq ?_
        refine Cj.region ?_
        refine J.y (yl_move rfl rfl) rfl rfl rfl ?_
        refine J.y (yl_nilCheck rfl rfl) rfl rfl rfl ?_
        refine J.y (yl_fieldAddr (off' := 1) rfl rfl Tryz.underlying76 rfl Tryz.sizeOf3 rfl) rfl rfl rfl ?_
        refine J.y (yl_load rfl rfl Tryz.isAgg3 (Blk.at 1 rfl) rfl) rfl rfl rfl ?_
        refine J.y (yl_move rfl rfl) rfl rfl rfl ?_
        refine J.y (yl_max2 rfl rfl rfl) rfl rfl rfl ?_
        refine J.eqv 99 rfl (show _ = i64 ((Cq.quotedAt (34 :: r) 0).2 : Nat) from (by first | (congr 1; done) | (congr 1; rw [if_neg (by omega)]))) ?_
        refine J.y (yl_add rfl rfl rfl (w64 (by omega))) rfl rfl rfl ?_
        refine J.y (yl_nilCheck rfl rfl) rfl rfl rfl ?_
        refine J.y (yl_fieldAddr (off' := 1) rfl rfl Tryz.underlying76 rfl Tryz.sizeOf3 rfl) rfl rfl rfl ?_
        refine J.op rfl (op_store 1 rfl rfl rfl rfl rfl rfl Tryz.sizeOf3 rfl rfl (LSpl.s (LSpl.c LSpl.z)) (LSet.s LSet.z) ?_)
        refine J.nil ?_
        refine Ej.seq ?_
        refine Cj.region ?_
        refine J.y (yl_move rfl rfl) rfl rfl rfl ?_
        refine J.y (yl_loadAgg rfl rfl Tryz.isAgg74 Tryz.sizeOf74 (Blk.at 0 rfl) rfl rfl) rfl rfl rfl ?_
        refine J.y (yl_nilCheck rfl rfl) rfl rfl rfl ?_
        refine J.y (yl_fieldAddr (off' := 2) rfl rfl Tryz.underlying76 rfl Tryz.sizeOf74 rfl) rfl rfl rfl ?_
        refine J.op rfl (op_store 1 rfl rfl rfl rfl rfl rfl Tryz.sizeOf74 rfl rfl (LSpl.s (LSpl.s (LSpl.c (LSpl.c (LSpl.c LSpl.z))))) (LSet.s LSet.z) ?_)
        refine J.nil ?_
        refine Ej.keep (Keeps.d (Keeps.k Keeps.n)) ?_
        refine Ej.end0 rfl rfl ?_
        have hhd2 := (congrArg (fun l => Cq.head l (Cq.skip s i)) hrest).trans hhd
        have hlex := lex_of hhd2
        rw [hlex]
        refine ⟨rfl, ?_⟩
        simp [tokR, str]
      ·
        subst h2; cases h1
        have hhd := (head_quoted r (Cq.skip s i)).1 hq
        refine J.y (yl_assign rfl rfl) rfl rfl rfl ?_
        refine J.nil ?_
        refine Ej.blkNormal ?_
        refine Ej.seq ?_
        refine Cj.seq ?_
        refine Cj.seq ?_
        refine Cj.region ?_
        refine J.y (yl_fieldAddr (off' := 0) rfl rfl Tryz.underlying74 rfl Tryz.sizeOf72 rfl) rfl rfl rfl ?_
        refine J.y (yl_load rfl rfl Tryz.isAgg72 (Blk.at 0 rfl) rfl) rfl rfl rfl ?_
        refine J.y (yl_eql rfl rfl rfl) rfl rfl rfl ?_
        refine J.y (yl_move rfl rfl) rfl rfl rfl ?_
        refine J.opG 3 85 false _ rfl rfl rfl rfl (op_yld (yl_fieldAddr (off' := 0) rfl rfl Tryz.underlying74 rfl Tryz.sizeOf72 rfl) rfl rfl ?_)
        refine J.opG 3 85 false _ rfl rfl rfl rfl (op_yld (yl_load rfl rfl Tryz.isAgg72 (Blk.at 0 rfl) rfl) rfl rfl ?_)
        refine J.opG 3 85 false _ rfl rfl rfl rfl (op_yld (yl_eql rfl rfl rfl) rfl rfl ?_)
        refine J.y (yl_pick0 rfl rfl rfl rfl) rfl rfl rfl ?_
        refine J.nil ?_
        refine Ej.seq ?_
        refine Cj.cond rfl (fun hc11 => Bool.noConfusion (Eq.trans (Eq.symm rfl) hc11)) (fun hc11 => ?_)
        refine Cj.skip ?_
        refine Ej.seq ?_
        refine Cj.seq ?_
        refine Cj.region ?_
        refine J.y (yl_move rfl rfl) rfl rfl rfl ?_
        refine J.y (yl_nilCheck rfl rfl) rfl rfl rfl ?_
        refine J.y (yl_fieldAddr (off' := 1) rfl rfl Tryz.underlying76 rfl Tryz.sizeOf3 rfl) rfl rfl rfl ?_
        refine J.y (yl_load rfl rfl Tryz.isAgg3 (Blk.at 1 rfl) rfl) rfl rfl rfl ?_
        refine J.y (yl_move rfl rfl) rfl rfl rfl ?_
        refine J.y (yl_max2 rfl rfl rfl) rfl rfl rfl ?_
        refine J.eqv 99 rfl (show _ = i64 ((34 :: r : List UInt8).length : Nat) from (by first | (congr 1; done) | (congr 1; rw [if_neg (by omega)]))) ?_
        refine J.y (yl_add rfl rfl rfl (w64 (by omega))) rfl rfl rfl ?_
        refine J.y (yl_nilCheck rfl rfl) rfl rfl rfl ?_
        refine J.y (yl_fieldAddr (off' := 1) rfl rfl Tryz.underlying76 rfl Tryz.sizeOf3 rfl) rfl rfl rfl ?_
        refine J.op rfl (op_store 1 rfl rfl rfl rfl rfl rfl Tryz.sizeOf3 rfl rfl (LSpl.s (LSpl.c LSpl.z)) (LSet.s LSet.z) ?_)
        refine J.nil ?_
        refine Ej.seq ?_
        refine Cj.region ?_
        refine J.y (yl_move rfl rfl) rfl rfl rfl ?_
        refine J.y (yl_loadAgg rfl rfl Tryz.isAgg74 Tryz.sizeOf74 (Blk.at 0 rfl) rfl rfl) rfl rfl rfl ?_
        refine J.y (yl_nilCheck rfl rfl) rfl rfl rfl ?_
        refine J.y (yl_fieldAddr (off' := 2) rfl rfl Tryz.underlying76 rfl Tryz.sizeOf74 rfl) rfl rfl rfl ?_
        refine J.op rfl (op_store 1 rfl rfl rfl rfl rfl rfl Tryz.sizeOf74 rfl rfl (LSpl.s (LSpl.s (LSpl.c (LSpl.c (LSpl.c LSpl.z))))) (LSet.s LSet.z) ?_)
        refine J.nil ?_
        refine Ej.keep (Keeps.d (Keeps.k Keeps.n)) ?_
        refine Ej.end0 rfl rfl ?_
        have hhd2 := (congrArg (fun l => Cq.head l (Cq.skip s i)) hrest).trans hhd
        have hlex := lex_of hhd2
        rw [hlex]
        refine ⟨rfl, ?_⟩
        simp [tokR, str]
    ·
      have hc4p := ne_of_beq_false hc4
      have h34 : c ≠ 34 := u8_not (d := 34) (ne_of_beq_false hc4)
      refine Cj.seq ?_
      refine Cj.seq ?_
      refine Cj.region ?_
      refine J.y (yl_move rfl rfl) rfl rfl rfl ?_
      refine J.op rfl (op_pure rfl rfl rfl rfl rfl (HasPrefix_ok _ _ _) ?_)
      refine J.y (yl_assign rfl rfl) rfl rfl rfl ?_
      refine J.nil ?_
      refine Ej.seq ?_
      refine Cj.cond rfl (fun hc12 => ?_) (fun hc12 => ?_)
      ·
        have hpre : [61, 61].isPrefixOf (c :: r) = true := hc12
        have hlen2 := pre_len hpre
        refine Cj.skip ?_
        refine Ej.seq ?_
        refine Cj.cond rfl (fun hc13 => ?_) (fun hc13 => Bool.noConfusion (Eq.trans (Eq.symm hc12) hc13))
        refine Cj.region ?_
        refine J.y (yl_fieldAddr (off' := 0) rfl rfl Tryz.underlying74 rfl Tryz.sizeOf72 rfl) rfl rfl rfl ?_
        refine J.op rfl (op_store 0 rfl rfl rfl rfl rfl rfl Tryz.sizeOf72 rfl rfl (LSpl.c LSpl.z) LSet.z ?_)
        refine J.y (yl_assign rfl rfl) rfl rfl rfl ?_
        refine J.nil ?_
        refine Ej.blkNormal ?_
        refine Ej.seq ?_
        refine Cj.seq ?_
        refine Cj.seq ?_
        refine Cj.region ?_
        refine J.y (yl_fieldAddr (off' := 0) rfl rfl Tryz.underlying74 rfl Tryz.sizeOf72 rfl) rfl rfl rfl ?_
        refine J.y (yl_load rfl rfl Tryz.isAgg72 (Blk.at 0 rfl) rfl) rfl rfl rfl ?_
        refine J.y (yl_eql rfl rfl rfl) rfl rfl rfl ?_
        refine J.y (yl_move rfl rfl) rfl rfl rfl ?_
        refine J.skip 3 85 86 false _ rfl rfl rfl rfl rfl rfl ?_
        refine J.skip 3 85 87 false _ rfl rfl rfl rfl rfl rfl ?_
        refine J.skip 3 85 88 false _ rfl rfl rfl rfl rfl rfl ?_
        refine J.y (yl_pick1 rfl rfl rfl rfl) rfl rfl rfl ?_
        refine J.nil ?_
        refine Ej.seq ?_
        refine Cj.cond rfl (fun hc14 => ?_) (fun hc14 => Bool.noConfusion (Eq.trans (Eq.symm rfl) hc14))
        refine Cj.region ?_
        refine J.y (yl_move rfl rfl) rfl rfl rfl ?_
        refine J.y (yl_move rfl rfl) rfl rfl rfl ?_
        refine J.y (yl_sliceStr (p := 0) (q := 2) rfl rfl Tryz.underlying9 rfl ⟨_, rfl⟩ (by omega) (by first | omega | (simp only [List.length_cons]; omega))) rfl rfl rfl ?_
        refine J.y (yl_fieldAddr (off' := 1) rfl rfl Tryz.underlying74 rfl Tryz.sizeOf9 rfl) rfl rfl rfl ?_
        refine J.op rfl (op_store 0 rfl rfl rfl rfl rfl rfl Tryz.sizeOf9 rfl rfl (LSpl.s (LSpl.c LSpl.z)) LSet.z ?_)
        refine J.nil ?_
        refine Ej.seq ?_
        refine Cj.seq ?_
        refine Cj.region ?_
        refine J.y (yl_move rfl rfl) rfl rfl rfl ?_
        refine J.y (yl_nilCheck rfl rfl) rfl rfl rfl ?_
        refine J.y (yl_fieldAddr (off' := 1) rfl rfl Tryz.underlying76 rfl Tryz.sizeOf3 rfl) rfl rfl rfl ?_
        refine J.y (yl_load rfl rfl Tryz.isAgg3 (Blk.at 1 rfl) rfl) rfl rfl rfl ?_
        refine J.y (yl_move rfl rfl) rfl rfl rfl ?_
        refine J.y (yl_max2 rfl rfl rfl) rfl rfl rfl ?_
        refine J.eqv 99 rfl (show _ = i64 (2 : Nat) from rfl) ?_
        refine J.y (yl_add rfl rfl rfl (w64 (by omega))) rfl rfl rfl ?_
        refine J.y (yl_nilCheck rfl rfl) rfl rfl rfl ?_
        refine J.y (yl_fieldAddr (off' := 1) rfl rfl Tryz.underlying76 rfl Tryz.sizeOf3 rfl) rfl rfl rfl ?_
        refine J.op rfl (op_store 1 rfl rfl rfl rfl rfl rfl Tryz.sizeOf3 rfl rfl (LSpl.s (LSpl.c LSpl.z)) (LSet.s LSet.z) ?_)
        refine J.nil ?_
        refine Ej.seq ?_
        refine Cj.region ?_
        refine J.y (yl_move rfl rfl) rfl rfl rfl ?_
        refine J.y (yl_loadAgg rfl rfl Tryz.isAgg74 Tryz.sizeOf74 (Blk.at 0 rfl) rfl rfl) rfl rfl rfl ?_
        refine J.y (yl_nilCheck rfl rfl) rfl rfl rfl ?_
        refine J.y (yl_fieldAddr (off' := 2) rfl rfl Tryz.underlying76 rfl Tryz.sizeOf74 rfl) rfl rfl rfl ?_
        refine J.op rfl (op_store 1 rfl rfl rfl rfl rfl rfl Tryz.sizeOf74 rfl rfl (LSpl.s (LSpl.s (LSpl.c (LSpl.c (LSpl.c LSpl.z))))) (LSet.s LSet.z) ?_)
        refine J.nil ?_
        refine Ej.keep (Keeps.d (Keeps.k Keeps.n)) ?_
        refine Ej.end0 rfl rfl ?_
        have hhd2 := (congrArg (fun l => Cq.head l (Cq.skip s i)) hrest).trans (head_two _ hpre)
        have hlex := lex_of hhd2
        rw [hlex]
        refine ⟨rfl, ?_⟩
        simp [tokR, str]
      ·
        have hpre : [61, 61].isPrefixOf (c :: r) = false := hc12
        refine Cj.region ?_
        refine J.y (yl_move rfl rfl) rfl rfl rfl ?_
        refine J.op rfl (op_pure rfl rfl rfl rfl rfl (HasPrefix_ok _ _ _) ?_)
        refine J.y (yl_assign rfl rfl) rfl rfl rfl ?_
        refine J.nil ?_
        refine Ej.seq ?_
        refine Cj.cond rfl (fun hc15 => ?_) (fun hc15 => ?_)
        ·
          have hpre2 : [62, 61].isPrefixOf (c :: r) = true := hc15
          have hlen2 := pre_len hpre2
          refine Cj.region ?_
          refine J.y (yl_fieldAddr (off' := 0) rfl rfl Tryz.underlying74 rfl Tryz.sizeOf72 rfl) rfl rfl rfl ?_
          refine J.op rfl (op_store 0 rfl rfl rfl rfl rfl rfl Tryz.sizeOf72 rfl rfl (LSpl.c LSpl.z) LSet.z ?_)
          refine J.y (yl_assign rfl rfl) rfl rfl rfl ?_
          refine J.nil ?_
          refine Ej.blkNormal ?_
          refine Ej.seq ?_
          refine Cj.seq ?_
          refine Cj.seq ?_
          refine Cj.region ?_
          refine J.y (yl_fieldAddr (off' := 0) rfl rfl Tryz.underlying74 rfl Tryz.sizeOf72 rfl) rfl rfl rfl ?_
          refine J.y (yl_load rfl rfl Tryz.isAgg72 (Blk.at 0 rfl) rfl) rfl rfl rfl ?_
          refine J.y (yl_eql rfl rfl rfl) rfl rfl rfl ?_
          refine J.y (yl_move rfl rfl) rfl rfl rfl ?_
          refine J.skip 3 85 86 false _ rfl rfl rfl rfl rfl rfl ?_
          refine J.skip 3 85 87 false _ rfl rfl rfl rfl rfl rfl ?_
          refine J.skip 3 85 88 false _ rfl rfl rfl rfl rfl rfl ?_
          refine J.y (yl_pick1 rfl rfl rfl rfl) rfl rfl rfl ?_
          refine J.nil ?_
          refine Ej.seq ?_
          refine Cj.cond rfl (fun hc16 => ?_) (fun hc16 => Bool.noConfusion (Eq.trans (Eq.symm rfl) hc16))
          refine Cj.region ?_
          refine J.y (yl_move rfl rfl) rfl rfl rfl ?_
          refine J.y (yl_move rfl rfl) rfl rfl rfl ?_
          refine J.y (yl_sliceStr (p := 0) (q := 2) rfl rfl Tryz.underlying9 rfl ⟨_, rfl⟩ (by omega) (by first | omega | (simp only [List.length_cons]; omega))) rfl rfl rfl ?_
          refine J.y (yl_fieldAddr (off' := 1) rfl rfl Tryz.underlying74 rfl Tryz.sizeOf9 rfl) rfl rfl rfl ?_
          refine J.op rfl (op_store 0 rfl rfl rfl rfl rfl rfl Tryz.sizeOf9 rfl rfl (LSpl.s (LSpl.c LSpl.z)) LSet.z ?_)
          refine J.nil ?_
          refine Ej.seq ?_
          refine Cj.seq ?_
          refine Cj.region ?_
          refine J.y (yl_move rfl rfl) rfl rfl rfl ?_
          refine J.y (yl_nilCheck rfl rfl) rfl rfl rfl ?_
          refine J.y (yl_fieldAddr (off' := 1) rfl rfl Tryz.underlying76 rfl Tryz.sizeOf3 rfl) rfl rfl rfl ?_
          refine J.y (yl_load rfl rfl Tryz.isAgg3 (Blk.at 1 rfl) rfl) rfl rfl rfl ?_
          refine J.y (yl_move rfl rfl) rfl rfl rfl ?_
          refine J.y (yl_max2 rfl rfl rfl) rfl rfl rfl ?_
          refine J.eqv 99 rfl (show _ = i64 (2 : Nat) from rfl) ?_
          refine J.y (yl_add rfl rfl rfl (w64 (by omega))) rfl rfl rfl ?_
          refine J.y (yl_nilCheck rfl rfl) rfl rfl rfl ?_
          refine J.y (yl_fieldAddr (off' := 1) rfl rfl Tryz.underlying76 rfl Tryz.sizeOf3 rfl) rfl rfl rfl ?_
          refine J.op rfl (op_store 1 rfl rfl rfl rfl rfl rfl Tryz.sizeOf3 rfl rfl (LSpl.s (LSpl.c LSpl.z)) (LSet.s LSet.z) ?_)
          refine J.nil ?_
          refine Ej.seq ?_
          refine Cj.region ?_
          refine J.y (yl_move rfl rfl) rfl rfl rfl ?_
          refine J.y (yl_loadAgg rfl rfl Tryz.isAgg74 Tryz.sizeOf74 (Blk.at 0 rfl) rfl rfl) rfl rfl rfl ?_
          refine J.y (yl_nilCheck rfl rfl) rfl rfl rfl ?_
          refine J.y (yl_fieldAddr (off' := 2) rfl rfl Tryz.underlying76 rfl Tryz.sizeOf74 rfl) rfl rfl rfl ?_
          refine J.op rfl (op_store 1 rfl rfl rfl rfl rfl rfl Tryz.sizeOf74 rfl rfl (LSpl.s (LSpl.s (LSpl.c (LSpl.c (LSpl.c LSpl.z))))) (LSet.s LSet.z) ?_)
          refine J.nil ?_
          refine Ej.keep (Keeps.d (Keeps.k Keeps.n)) ?_
          refine Ej.end0 rfl rfl ?_
          have hhd2 := (congrArg (fun l => Cq.head l (Cq.skip s i)) hrest).trans (head_ge _ hpre2)
          have hlex := lex_of hhd2
          rw [hlex]
          refine ⟨rfl, ?_⟩
          simp [tokR, str]
        ·
          have hpre2 : [62, 61].isPrefixOf (c :: r) = false := hc15
          refine Cj.seq ?_
          refine Cj.region ?_
          refine J.y (yl_move rfl rfl) rfl rfl rfl ?_
          refine J.y (yl_index rfl rfl rfl Tryz.underlying9 (by omega) rfl) rfl rfl rfl ?_
          refine J.y (yl_eql rfl rfl rfl) rfl rfl rfl ?_
          refine J.y (yl_assign rfl rfl) rfl rfl rfl ?_
          refine J.nil ?_
          refine Ej.seq ?_
          refine Cj.cond rfl (fun hc17 => ?_) (fun hc17 => ?_)
          ·
            have hc17p := eq_of_beq hc17
            have h62 : c = 62 := u8_is (d := 62) (eq_of_beq hc17)
            subst h62
            have h62 : (62 : UInt8) = 62 := rfl
            refine Cj.region ?_
            refine J.y (yl_fieldAddr (off' := 0) rfl rfl Tryz.underlying74 rfl Tryz.sizeOf72 rfl) rfl rfl rfl ?_
            refine J.op rfl (op_store 0 rfl rfl rfl rfl rfl rfl Tryz.sizeOf72 rfl rfl (LSpl.c LSpl.z) LSet.z ?_)
            refine J.nil ?_
            refine Ej.blkNormal ?_
            refine Ej.seq ?_
            refine Cj.seq ?_
            refine Cj.seq ?_
            refine Cj.region ?_
            refine J.y (yl_fieldAddr (off' := 0) rfl rfl Tryz.underlying74 rfl Tryz.sizeOf72 rfl) rfl rfl rfl ?_
            refine J.y (yl_load rfl rfl Tryz.isAgg72 (Blk.at 0 rfl) rfl) rfl rfl rfl ?_
            refine J.y (yl_eql rfl rfl rfl) rfl rfl rfl ?_
            refine J.y (yl_move rfl rfl) rfl rfl rfl ?_
            refine J.opG 3 85 false _ rfl rfl rfl rfl (op_yld (yl_fieldAddr (off' := 0) rfl rfl Tryz.underlying74 rfl Tryz.sizeOf72 rfl) rfl rfl ?_)
            refine J.opG 3 85 false _ rfl rfl rfl rfl (op_yld (yl_load rfl rfl Tryz.isAgg72 (Blk.at 0 rfl) rfl) rfl rfl ?_)
            refine J.opG 3 85 false _ rfl rfl rfl rfl (op_yld (yl_eql rfl rfl rfl) rfl rfl ?_)
            refine J.y (yl_pick0 rfl rfl rfl rfl) rfl rfl rfl ?_
            refine J.nil ?_
            refine Ej.seq ?_
            refine Cj.cond rfl (fun hc18 => Bool.noConfusion (Eq.trans (Eq.symm rfl) hc18)) (fun hc18 => ?_)
            refine Cj.skip ?_
            refine Ej.seq ?_
            refine Cj.seq ?_
            refine Cj.region ?_
            refine J.y (yl_move rfl rfl) rfl rfl rfl ?_
            refine J.y (yl_nilCheck rfl rfl) rfl rfl rfl ?_
            refine J.y (yl_fieldAddr (off' := 1) rfl rfl Tryz.underlying76 rfl Tryz.sizeOf3 rfl) rfl rfl rfl ?_
            refine J.y (yl_load rfl rfl Tryz.isAgg3 (Blk.at 1 rfl) rfl) rfl rfl rfl ?_
            refine J.y (yl_move rfl rfl) rfl rfl rfl ?_
            refine J.y (yl_max2 rfl rfl rfl) rfl rfl rfl ?_
            refine J.eqv 99 rfl (show _ = i64 (0 : Nat) from (by rw [idx_bad]; rfl)) ?_
            refine J.y (yl_add rfl rfl rfl (w64 (by omega))) rfl rfl rfl ?_
            refine J.y (yl_nilCheck rfl rfl) rfl rfl rfl ?_
            refine J.y (yl_fieldAddr (off' := 1) rfl rfl Tryz.underlying76 rfl Tryz.sizeOf3 rfl) rfl rfl rfl ?_
            refine J.op rfl (op_store 1 rfl rfl rfl rfl rfl rfl Tryz.sizeOf3 rfl rfl (LSpl.s (LSpl.c LSpl.z)) (LSet.s LSet.z) ?_)
            refine J.nil ?_
            refine Ej.seq ?_
            refine Cj.region ?_
            refine J.y (yl_move rfl rfl) rfl rfl rfl ?_
            refine J.y (yl_loadAgg rfl rfl Tryz.isAgg74 Tryz.sizeOf74 (Blk.at 0 rfl) rfl rfl) rfl rfl rfl ?_
            refine J.y (yl_nilCheck rfl rfl) rfl rfl rfl ?_
            refine J.y (yl_fieldAddr (off' := 2) rfl rfl Tryz.underlying76 rfl Tryz.sizeOf74 rfl) rfl rfl rfl ?_
            refine J.op rfl (op_store 1 rfl rfl rfl rfl rfl rfl Tryz.sizeOf74 rfl rfl (LSpl.s (LSpl.s (LSpl.c (LSpl.c (LSpl.c LSpl.z))))) (LSet.s LSet.z) ?_)
            refine J.nil ?_
            refine Ej.keep (Keeps.d (Keeps.k Keeps.n)) ?_
            refine Ej.end0 rfl rfl ?_
            have hhd2 := (congrArg (fun l => Cq.head l (Cq.skip s i)) hrest).trans (head_bad _ h62 hpre2)
            have hlex := lex_of hhd2
            rw [hlex]
            refine ⟨rfl, ?_⟩
            simp [tokR, str]
          ·
            have hc17p := ne_of_beq_false hc17
            have h62 : c ≠ 62 := u8_not (d := 62) (ne_of_beq_false hc17)
            refine Cj.seq ?_
            refine Cj.region ?_
            refine J.y (yl_move rfl rfl) rfl rfl rfl ?_
            refine J.y (yl_eql rfl rfl rfl) rfl rfl rfl ?_
            refine J.y (yl_assign rfl rfl) rfl rfl rfl ?_
            refine J.nil ?_
            refine Ej.seq ?_
            refine Cj.cond rfl (fun hc19 => ?_) (fun hc19 => ?_)
            ·
              have hc19p := eq_of_beq hc19
              have hone : Lib.indexAny (c :: r) breaks = 0 := eq_of_beq hc19
              refine Cj.region ?_
              refine J.y (yl_fieldAddr (off' := 0) rfl rfl Tryz.underlying74 rfl Tryz.sizeOf72 rfl) rfl rfl rfl ?_
              refine J.op rfl (op_store 0 rfl rfl rfl rfl rfl rfl Tryz.sizeOf72 rfl rfl (LSpl.c LSpl.z) LSet.z ?_)
              refine J.y (yl_assign rfl rfl) rfl rfl rfl ?_
              refine J.nil ?_
              refine Ej.blkNormal ?_
              refine Ej.seq ?_
              refine Cj.seq ?_
              refine Cj.seq ?_
              refine Cj.region ?_
              refine J.y (yl_fieldAddr (off' := 0) rfl rfl Tryz.underlying74 rfl Tryz.sizeOf72 rfl) rfl rfl rfl ?_
              refine J.y (yl_load rfl rfl Tryz.isAgg72 (Blk.at 0 rfl) rfl) rfl rfl rfl ?_
              refine J.y (yl_eql rfl rfl rfl) rfl rfl rfl ?_
              refine J.y (yl_move rfl rfl) rfl rfl rfl ?_
              refine J.skip 3 85 86 false _ rfl rfl rfl rfl rfl rfl ?_
              refine J.skip 3 85 87 false _ rfl rfl rfl rfl rfl rfl ?_
              refine J.skip 3 85 88 false _ rfl rfl rfl rfl rfl rfl ?_
              refine J.y (yl_pick1 rfl rfl rfl rfl) rfl rfl rfl ?_
              refine J.nil ?_
              refine Ej.seq ?_
              refine Cj.cond rfl (fun hc20 => ?_) (fun hc20 => Bool.noConfusion (Eq.trans (Eq.symm rfl) hc20))
              refine Cj.region ?_
              refine J.y (yl_move rfl rfl) rfl rfl rfl ?_
              refine J.y (yl_move rfl rfl) rfl rfl rfl ?_
              refine J.y (yl_sliceStr (p := 0) (q := 1) rfl rfl Tryz.underlying9 rfl ⟨_, rfl⟩ (by omega) (by first | omega | (simp only [List.length_cons]; omega))) rfl rfl rfl ?_
              refine J.y (yl_fieldAddr (off' := 1) rfl rfl Tryz.underlying74 rfl Tryz.sizeOf9 rfl) rfl rfl rfl ?_
              refine J.op rfl (op_store 0 rfl rfl rfl rfl rfl rfl Tryz.sizeOf9 rfl rfl (LSpl.s (LSpl.c LSpl.z)) LSet.z ?_)
              refine J.nil ?_
              refine Ej.seq ?_
              refine Cj.seq ?_
              refine Cj.region ?_
              refine J.y (yl_move rfl rfl) rfl rfl rfl ?_
              refine J.y (yl_nilCheck rfl rfl) rfl rfl rfl ?_
              refine J.y (yl_fieldAddr (off' := 1) rfl rfl Tryz.underlying76 rfl Tryz.sizeOf3 rfl) rfl rfl rfl ?_
              refine J.y (yl_load rfl rfl Tryz.isAgg3 (Blk.at 1 rfl) rfl) rfl rfl rfl ?_
              refine J.y (yl_move rfl rfl) rfl rfl rfl ?_
              refine J.y (yl_max2 rfl rfl rfl) rfl rfl rfl ?_
              refine J.eqv 99 rfl (show _ = i64 (1 : Nat) from rfl) ?_
              refine J.y (yl_add rfl rfl rfl (w64 (by omega))) rfl rfl rfl ?_
              refine J.y (yl_nilCheck rfl rfl) rfl rfl rfl ?_
              refine J.y (yl_fieldAddr (off' := 1) rfl rfl Tryz.underlying76 rfl Tryz.sizeOf3 rfl) rfl rfl rfl ?_
              refine J.op rfl (op_store 1 rfl rfl rfl rfl rfl rfl Tryz.sizeOf3 rfl rfl (LSpl.s (LSpl.c LSpl.z)) (LSet.s LSet.z) ?_)
              refine J.nil ?_
              refine Ej.seq ?_
              refine Cj.region ?_
              refine J.y (yl_move rfl rfl) rfl rfl rfl ?_
              refine J.y (yl_loadAgg rfl rfl Tryz.isAgg74 Tryz.sizeOf74 (Blk.at 0 rfl) rfl rfl) rfl rfl rfl ?_
              refine J.y (yl_nilCheck rfl rfl) rfl rfl rfl ?_
              refine J.y (yl_fieldAddr (off' := 2) rfl rfl Tryz.underlying76 rfl Tryz.sizeOf74 rfl) rfl rfl rfl ?_
              refine J.op rfl (op_store 1 rfl rfl rfl rfl rfl rfl Tryz.sizeOf74 rfl rfl (LSpl.s (LSpl.s (LSpl.c (LSpl.c (LSpl.c LSpl.z))))) (LSet.s LSet.z) ?_)
              refine J.nil ?_
              refine Ej.keep (Keeps.d (Keeps.k Keeps.n)) ?_
              refine Ej.end0 rfl rfl ?_
              have hhd2 := (congrArg (fun l => Cq.head l (Cq.skip s i)) hrest).trans (head_one _ h34 hpre hpre2 h62 hone)
              have hlex := lex_of hhd2
              rw [hlex]
              refine ⟨rfl, ?_⟩
              simp [tokR, str]
            ·
              have hc19p := ne_of_beq_false hc19
              have hone : Lib.indexAny (c :: r) breaks ≠ 0 := ne_of_beq_false hc19
              refine Cj.seq ?_
              refine Cj.region ?_
              refine J.y (yl_fieldAddr (off' := 0) rfl rfl Tryz.underlying74 rfl Tryz.sizeOf72 rfl) rfl rfl rfl ?_
              refine J.op rfl (op_store 0 rfl rfl rfl rfl rfl rfl Tryz.sizeOf72 rfl rfl (LSpl.c LSpl.z) LSet.z ?_)
              refine J.nil ?_
              refine Ej.seq ?_
              refine Cj.seq ?_
              refine Cj.region ?_
              refine J.y (yl_move rfl rfl) rfl rfl rfl ?_
              refine J.y (yl_lss rfl rfl rfl) rfl rfl rfl ?_
              refine J.nil ?_
              refine Ej.seq ?_
              refine Cj.cond rfl (fun hc21 => ?_) (fun hc21 => ?_)
              ·
                have hc21p := of_decide_eq_true hc21
                have hlt := of_decide_eq_true hc21
                have hw : (c :: r).takeWhile Cq.plain = c :: r := by rcases idx_plain (c :: r) with h | ⟨n, h, _⟩; exact h.2; omega
                refine Cj.region ?_
                refine J.y (yl_move rfl rfl) rfl rfl rfl ?_
                refine J.y (yl_lenStr rfl rfl Tryz.underlying9) rfl rfl rfl ?_
                refine J.y (yl_assign rfl rfl) rfl rfl rfl ?_
                refine J.nil ?_
                refine Ej.blkNormal ?_
                refine Ej.seq ?_
                refine Cj.seq ?_
                refine Cj.seq ?_
                refine Cj.region ?_
                refine J.y (yl_fieldAddr (off' := 0) rfl rfl Tryz.underlying74 rfl Tryz.sizeOf72 rfl) rfl rfl rfl ?_
                refine J.y (yl_load rfl rfl Tryz.isAgg72 (Blk.at 0 rfl) rfl) rfl rfl rfl ?_
                refine J.y (yl_eql rfl rfl rfl) rfl rfl rfl ?_
                refine J.y (yl_move rfl rfl) rfl rfl rfl ?_
                refine J.opG 3 85 false _ rfl rfl rfl rfl (op_yld (yl_fieldAddr (off' := 0) rfl rfl Tryz.underlying74 rfl Tryz.sizeOf72 rfl) rfl rfl ?_)
                refine J.opG 3 85 false _ rfl rfl rfl rfl (op_yld (yl_load rfl rfl Tryz.isAgg72 (Blk.at 0 rfl) rfl) rfl rfl ?_)
                refine J.opG 3 85 false _ rfl rfl rfl rfl (op_yld (yl_eql rfl rfl rfl) rfl rfl ?_)
                refine J.y (yl_pick0 rfl rfl rfl rfl) rfl rfl rfl ?_
                refine J.nil ?_
                refine Ej.seq ?_
                refine Cj.cond rfl (fun hc22 => ?_) (fun hc22 => Bool.noConfusion (Eq.trans (Eq.symm rfl) hc22))
                refine Cj.region ?_
                refine J.y (yl_move rfl rfl) rfl rfl rfl ?_
                refine J.y (yl_move rfl rfl) rfl rfl rfl ?_
                refine J.y (yl_sliceStr (p := 0) (q := (c :: r).length) rfl rfl Tryz.underlying9 rfl ⟨_, rfl⟩ (by omega) (by first | omega | (simp only [List.length_cons]; omega))) rfl rfl rfl ?_
                refine J.y (yl_fieldAddr (off' := 1) rfl rfl Tryz.underlying74 rfl Tryz.sizeOf9 rfl) rfl rfl rfl ?_
                refine J.op rfl (op_store 0 rfl rfl rfl rfl rfl rfl Tryz.sizeOf9 rfl rfl (LSpl.s (LSpl.c LSpl.z)) LSet.z ?_)
                refine J.nil ?_
                refine Ej.seq ?_
                refine Cj.seq ?_
                refine Cj.region ?_
                refine J.y (yl_move rfl rfl) rfl rfl rfl ?_
                refine J.y (yl_nilCheck rfl rfl) rfl rfl rfl ?_
                refine J.y (yl_fieldAddr (off' := 1) rfl rfl Tryz.underlying76 rfl Tryz.sizeOf3 rfl) rfl rfl rfl ?_
                refine J.y (yl_load rfl rfl Tryz.isAgg3 (Blk.at 1 rfl) rfl) rfl rfl rfl ?_
                refine J.y (yl_move rfl rfl) rfl rfl rfl ?_
                refine J.y (yl_max2 rfl rfl rfl) rfl rfl rfl ?_
                refine J.eqv 99 rfl (show _ = i64 ((c :: r).length : Nat) from (by first | (congr 1; done) | (congr 1; rw [if_neg (by omega)]))) ?_
                refine J.y (yl_add rfl rfl rfl (w64 (by omega))) rfl rfl rfl ?_
                refine J.y (yl_nilCheck rfl rfl) rfl rfl rfl ?_
                refine J.y (yl_fieldAddr (off' := 1) rfl rfl Tryz.underlying76 rfl Tryz.sizeOf3 rfl) rfl rfl rfl ?_
                refine J.op rfl (op_store 1 rfl rfl rfl rfl rfl rfl Tryz.sizeOf3 rfl rfl (LSpl.s (LSpl.c LSpl.z)) (LSet.s LSet.z) ?_)
                refine J.nil ?_
                refine Ej.seq ?_
                refine Cj.region ?_
                refine J.y (yl_move rfl rfl) rfl rfl rfl ?_
                refine J.y (yl_loadAgg rfl rfl Tryz.isAgg74 Tryz.sizeOf74 (Blk.at 0 rfl) rfl rfl) rfl rfl rfl ?_
                refine J.y (yl_nilCheck rfl rfl) rfl rfl rfl ?_
                refine J.y (yl_fieldAddr (off' := 2) rfl rfl Tryz.underlying76 rfl Tryz.sizeOf74 rfl) rfl rfl rfl ?_
                refine J.op rfl (op_store 1 rfl rfl rfl rfl rfl rfl Tryz.sizeOf74 rfl rfl (LSpl.s (LSpl.s (LSpl.c (LSpl.c (LSpl.c LSpl.z))))) (LSet.s LSet.z) ?_)
                refine J.nil ?_
                refine Ej.keep (Keeps.d (Keeps.k Keeps.n)) ?_
                refine Ej.end0 rfl rfl ?_
                have hhd2 := (congrArg (fun l => Cq.head l (Cq.skip s i)) hrest).trans (head_word _ h34 hpre hpre2 h62 hone)
                have hlex := lex_of hhd2
                rw [hlex]
                rw [hw]
                refine ⟨rfl, ?_⟩
                simp [tokR, str]
              ·
                have hc21p := of_decide_eq_false hc21
                have hlt := of_decide_eq_false hc21
                obtain ⟨n, hn, hnl, hw⟩ : ∃ n : Nat, Lib.indexAny (c :: r) breaks = n ∧ n < (c :: r).length ∧ (c :: r).takeWhile Cq.plain = (c :: r).take n := by rcases idx_plain (c :: r) with h | h; omega; exact h
                have hnl2 := hnl
                refine Cj.skip ?_
                refine Ej.blkNormal ?_
                refine Ej.seq ?_
                refine Cj.seq ?_
                refine Cj.seq ?_
                refine Cj.region ?_
                refine J.y (yl_fieldAddr (off' := 0) rfl rfl Tryz.underlying74 rfl Tryz.sizeOf72 rfl) rfl rfl rfl ?_
                refine J.y (yl_load rfl rfl Tryz.isAgg72 (Blk.at 0 rfl) rfl) rfl rfl rfl ?_
                refine J.y (yl_eql rfl rfl rfl) rfl rfl rfl ?_
                refine J.y (yl_move rfl rfl) rfl rfl rfl ?_
                refine J.opG 3 85 false _ rfl rfl rfl rfl (op_yld (yl_fieldAddr (off' := 0) rfl rfl Tryz.underlying74 rfl Tryz.sizeOf72 rfl) rfl rfl ?_)
                refine J.opG 3 85 false _ rfl rfl rfl rfl (op_yld (yl_load rfl rfl Tryz.isAgg72 (Blk.at 0 rfl) rfl) rfl rfl ?_)
                refine J.opG 3 85 false _ rfl rfl rfl rfl (op_yld (yl_eql rfl rfl rfl) rfl rfl ?_)
                refine J.y (yl_pick0 rfl rfl rfl rfl) rfl rfl rfl ?_
                refine J.nil ?_
                refine Ej.seq ?_
                refine Cj.cond rfl (fun hc23 => ?_) (fun hc23 => Bool.noConfusion (Eq.trans (Eq.symm rfl) hc23))
                refine Cj.region ?_
                refine J.y (yl_move rfl rfl) rfl rfl rfl ?_
                refine J.y (yl_move rfl rfl) rfl rfl rfl ?_
                refine J.eqv 91 rfl (show _ = i64 (n : Nat) from (by rw [hn])) ?_
                refine J.y (yl_sliceStr (p := 0) (q := n) rfl rfl Tryz.underlying9 rfl ⟨_, rfl⟩ (by omega) (by first | omega | (simp only [List.length_cons]; omega))) rfl rfl rfl ?_
                refine J.y (yl_fieldAddr (off' := 1) rfl rfl Tryz.underlying74 rfl Tryz.sizeOf9 rfl) rfl rfl rfl ?_
                refine J.op rfl (op_store 0 rfl rfl rfl rfl rfl rfl Tryz.sizeOf9 rfl rfl (LSpl.s (LSpl.c LSpl.z)) LSet.z ?_)
                refine J.nil ?_
                refine Ej.seq ?_
                refine Cj.seq ?_
                refine Cj.region ?_
                refine J.y (yl_move rfl rfl) rfl rfl rfl ?_
                refine J.y (yl_nilCheck rfl rfl) rfl rfl rfl ?_
                refine J.y (yl_fieldAddr (off' := 1) rfl rfl Tryz.underlying76 rfl Tryz.sizeOf3 rfl) rfl rfl rfl ?_
                refine J.y (yl_load rfl rfl Tryz.isAgg3 (Blk.at 1 rfl) rfl) rfl rfl rfl ?_
                refine J.y (yl_move rfl rfl) rfl rfl rfl ?_
                refine J.eqv 98 rfl (show _ = i64 (n : Nat) from (by rw [hn])) ?_
                refine J.y (yl_max2 rfl rfl rfl) rfl rfl rfl ?_
                refine J.eqv 99 rfl (show _ = i64 (n : Nat) from (by first | (congr 1; done) | (congr 1; rw [if_neg (by omega)]))) ?_
                refine J.y (yl_add rfl rfl rfl (w64 (by omega))) rfl rfl rfl ?_
                refine J.y (yl_nilCheck rfl rfl) rfl rfl rfl ?_
                refine J.y (yl_fieldAddr (off' := 1) rfl rfl Tryz.underlying76 rfl Tryz.sizeOf3 rfl) rfl rfl rfl ?_
                refine J.op rfl (op_store 1 rfl rfl rfl rfl rfl rfl Tryz.sizeOf3 rfl rfl (LSpl.s (LSpl.c LSpl.z)) (LSet.s LSet.z) ?_)
                refine J.nil ?_
                refine Ej.seq ?_
                refine Cj.region ?_
                refine J.y (yl_move rfl rfl) rfl rfl rfl ?_
                refine J.y (yl_loadAgg rfl rfl Tryz.isAgg74 Tryz.sizeOf74 (Blk.at 0 rfl) rfl rfl) rfl rfl rfl ?_
                refine J.y (yl_nilCheck rfl rfl) rfl rfl rfl ?_
                refine J.y (yl_fieldAddr (off' := 2) rfl rfl Tryz.underlying76 rfl Tryz.sizeOf74 rfl) rfl rfl rfl ?_
                refine J.op rfl (op_store 1 rfl rfl rfl rfl rfl rfl Tryz.sizeOf74 rfl rfl (LSpl.s (LSpl.s (LSpl.c (LSpl.c (LSpl.c LSpl.z))))) (LSet.s LSet.z) ?_)
                refine J.nil ?_
                refine Ej.keep (Keeps.d (Keeps.k Keeps.n)) ?_
                refine Ej.end0 rfl rfl ?_
                have hhd2 := (congrArg (fun l => Cq.head l (Cq.skip s i)) hrest).trans (head_word _ h34 hpre hpre2 h62 hone)
                have hlex := lex_of hhd2
                rw [hlex]
                rw [hw]
                refine ⟨rfl, ?_⟩
                simp [tokR, str, show min n (r.length + 1) = n from Nat.min_eq_left (by omega)]

end Go.Proofs.YtlfpehljahgbkaaGreatDoor
