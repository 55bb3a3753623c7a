/-
  Contract of the reference's function that divides a text into tokens. Own text, printed by a program. Conditions: none.
-/
import Derived.Test.YtlfpehljahgbkaaGreatDoorCqA
namespace Go.Proofs.YtlfpehljahgbkaaGreatDoor
open Go Go.Sx
set_option maxRecDepth 20000 in
theorem Tokens_ok (s : List UInt8) (hs : s.length ≤ 1000000000) (I : Heap) : Ctr Tryz.prog 23 [str s] I [] (fun e I' H' => (∃ v, e = .returned v ∧ TokSl 50 I' (Cq.tokens s) v) ∧ H' = []) := by
  refine Ctr.of_body Tryz.func23 rfl (by decide) (Nat.le_of_ble_eq_true rfl) ?_
  intro w0 hw0
  refine Cj.seq ?_
  refine Cj.region ?_
  refine J.y (yl_assign rfl rfl) rfl rfl rfl ?_
  refine J.nil ?_
  refine Ej.seq ?_
  refine Cj.seq ?_
  refine Cj.region ?_
  refine J.y (yl_assign rfl rfl) rfl rfl rfl ?_
  refine J.nil ?_
  refine Ej.seq ?_
  refine Cj.seq ?_
  refine Cj.region ?_
  refine J.y (yl_assign rfl rfl) rfl rfl rfl ?_
  refine J.nil ?_
  refine Ej.seq ?_
  refine Cj.seq ?_
  refine Cj.block ?_
  refine Cj.loop (ι := Nat × List Cq.Tok × Gs) (fun j => Cq.TInv s j.1 j.2.1 ∧ gOk w0.heap.size 3 j.2.1.length (j.2.1.flatMap Cq.tokC) j.2.2) (fun j => s.length + 1 - j.1) (fun j => [(0, str s), (3, gV j.2.1.length j.2.2), (4, i64 (j.1 : Int))]) (fun j => I) (fun j => gH 50 (j.2.1.flatMap Cq.tokC) j.2.2) (0, [], none) ⟨Cq.TInv.start s, rfl, rfl⟩ ⟨rfl, rfl, rfl, trivial⟩ rfl rfl ?_
  rintro ⟨k, outs, g⟩ ⟨hk, hg⟩; dsimp only at hk hg ⊢; have hk1 := hk.le; have hk2 := hk.num
  refine Cj.seq ?_
  refine Cj.seq ?_
  refine Cj.region ?_
  refine J.y (yl_move rfl rfl) rfl rfl rfl ?_
  refine J.y (yl_move rfl rfl) rfl rfl rfl ?_
  refine J.y (yl_lenStr rfl rfl Tryz.underlying9) rfl rfl rfl ?_
  refine J.y (yl_lss rfl rfl rfl) rfl rfl rfl ?_
  refine J.nil ?_
  refine Ej.seq ?_
  refine Cj.cond rfl (fun hc1 => ?_) (fun hc1 => ?_)
  ·
    have hc1p := of_decide_eq_true hc1
    have hlt : k < s.length := by omega
    obtain ⟨c, hget⟩ : ∃ c, s[k]? = some c := ⟨_, List.getElem?_eq_getElem hlt⟩
    have hgetI : s[(k : Int).toNat]? = some c := by simpa using hget
    refine Cj.skip ?_
    refine Ej.seq ?_
    refine Cj.block ?_
    refine Cj.seq ?_
    refine Cj.region ?_
    refine J.y (yl_move rfl rfl) rfl rfl rfl ?_
    refine J.y (yl_move rfl rfl) rfl rfl rfl ?_
    refine J.y (yl_index rfl rfl rfl Tryz.underlying9 (by omega) hgetI) rfl rfl rfl ?_
    refine J.op rfl (op_pure rfl rfl rfl rfl rfl (blank_ok _ _) ?_)
    refine J.y (yl_assign rfl rfl) rfl rfl rfl ?_
    refine J.nil ?_
    refine Ej.seq ?_
    refine Cj.seq ?_
    refine Cj.seq ?_
    refine Cj.region ?_
    refine J.y (yl_move rfl rfl) rfl rfl rfl ?_
    refine J.nil ?_
    refine Ej.seq ?_
    refine Cj.cond rfl (fun hc2 => ?_) (fun hc2 => ?_)
    ·
      have hbl : Cq.blank c = true := hc2
      refine Cj.seq ?_
      refine Cj.region ?_
      refine J.y (yl_move rfl rfl) rfl rfl rfl ?_
      refine J.y (yl_add rfl rfl rfl (w64 (by omega))) rfl rfl rfl ?_
      refine J.y (yl_assign rfl rfl) rfl rfl rfl ?_
      refine J.nil ?_
      refine Ej.seq ?_
      refine Cj.exit ?_
      refine Ej.seqExit ?_
      refine Ej.blkExit ?_
      refine Ej.round (k + 1, outs, g) ⟨hk.blank hget hbl, hg⟩ (by dsimp only; omega) ⟨rfl, rfl, rfl, trivial⟩ rfl rfl
    ·
      have hbl : Cq.blank c = false := hc2
      refine Cj.skip ?_
      refine Ej.seq ?_
      refine Cj.seq ?_
      refine Cj.region ?_
      refine J.y (yl_move rfl rfl) rfl rfl rfl ?_
      refine J.y (yl_move rfl rfl) rfl rfl rfl ?_
      refine J.y (yl_move rfl rfl) rfl rfl rfl ?_
      refine J.y (yl_move rfl rfl) rfl rfl rfl ?_
      refine J.y (yl_add rfl rfl rfl (w64 (by omega))) rfl rfl rfl ?_
      refine J.y (yl_sliceStr (p := k) (q := k + 1) rfl rfl Tryz.underlying9 ⟨_, rfl⟩ ⟨_, rfl⟩ (by omega) (by omega)) rfl rfl rfl ?_
      refine J.eqv 27 rfl (show _ = str [c] from congrArg str (cut1 hget)) ?_
      refine J.y (yl_buildS (pl := #[(0, 1), (1, 1), (2, 1)]) rfl rfl Tryz.zeroValue50 rfl Tryz.underlying50 (fun w => by simp [Tryz.sizeOf3, Tryz.sizeOf9]) (LBld.part rfl rfl rfl (LSpl.s (LSpl.s (LSpl.c LSpl.z))) (LBld.part rfl rfl rfl (LSpl.c LSpl.z) (LBld.part rfl rfl rfl (LSpl.s (LSpl.c LSpl.z)) LBld.none)))) rfl rfl rfl ?_
      refine J.op rfl (op_alloc rfl rfl rfl Tryz.zeroValue50 rfl ?_)
      intro b3 hb3
      refine J.op rfl (op_store 0 rfl rfl rfl rfl rfl rfl Tryz.sizeOf50 rfl rfl (LSpl.c (LSpl.c (LSpl.c LSpl.z))) LSet.z ?_)
      refine J.nil ?_
      refine Ej.seq ?_
      refine Cj.seq ?_
      refine Cj.region ?_
      refine J.y (yl_move rfl rfl) rfl rfl rfl ?_
      refine J.y (yl_move rfl rfl) rfl rfl rfl ?_
      refine J.y (yl_index rfl rfl rfl Tryz.underlying9 (by omega) hgetI) rfl rfl rfl ?_
      refine J.op rfl (op_pure rfl rfl rfl rfl rfl (plain_ok _ _) ?_)
      refine J.y (yl_assign rfl rfl) rfl rfl rfl ?_
      refine J.nil ?_
      refine Ej.seq ?_
      refine Cj.seq ?_
      refine Cj.block ?_
      refine Cj.seq ?_
      refine Cj.region ?_
      refine J.y (yl_move rfl rfl) rfl rfl rfl ?_
      refine J.y (yl_move rfl rfl) rfl rfl rfl ?_
      refine J.y (yl_index rfl rfl rfl Tryz.underlying9 (by omega) hgetI) rfl rfl rfl ?_
      refine J.y (yl_eql rfl rfl rfl) rfl rfl rfl ?_
      refine J.y (yl_assign rfl rfl) rfl rfl rfl ?_
      refine J.nil ?_
      refine Ej.seq ?_
      refine Cj.cond rfl (fun hc4 => ?_) (fun hc4 => ?_)
      ·
        have hc4p := eq_of_beq hc4
        have h34 : c = 34 := u8_is (d := 34) hc4p
        refine Cj.seq ?_
        refine Cj.region ?_
        refine J.y (yl_move rfl rfl) rfl rfl rfl ?_
        refine J.y (yl_move rfl rfl) rfl rfl rfl ?_
        refine J.op rfl (op_pure rfl rfl rfl rfl rfl (quoted_ok _ _ (by omega) (by omega) _) ?_)
        refine J.y (yl_move rfl rfl) rfl rfl rfl ?_
        refine J.y (yl_extract rfl rfl rfl) rfl rfl rfl ?_
        refine J.y (yl_extract rfl rfl rfl) rfl rfl rfl ?_
        refine J.y (yl_assign rfl rfl) rfl rfl rfl ?_
        refine J.y (yl_assign rfl rfl) rfl rfl rfl ?_
        refine J.nil ?_
        refine Ej.seq ?_
        refine Cj.seq ?_
        refine Cj.region ?_
        refine J.y (yl_move rfl rfl) rfl rfl rfl ?_
        refine J.y (yl_move rfl rfl) rfl rfl rfl ?_
        refine J.y (yl_buildS (pl := #[(0, 1), (1, 1), (2, 1)]) rfl rfl Tryz.zeroValue50 rfl Tryz.underlying50 (fun w => by simp [Tryz.sizeOf3, Tryz.sizeOf9]) (LBld.part rfl rfl rfl (LSpl.s (LSpl.s (LSpl.c LSpl.z))) (LBld.part rfl rfl rfl (LSpl.c LSpl.z) (LBld.part rfl rfl rfl (LSpl.s (LSpl.c LSpl.z)) LBld.none)))) rfl rfl rfl ?_
        refine J.op rfl (op_store 0 rfl rfl rfl rfl rfl rfl Tryz.sizeOf50 rfl rfl (LSpl.c (LSpl.c (LSpl.c LSpl.z))) LSet.z ?_)
        refine J.nil ?_
        refine Ej.seq ?_
        refine Cj.seq ?_
        refine Cj.seq ?_
        refine Cj.region ?_
        refine J.y (yl_move rfl rfl) rfl rfl rfl ?_
        refine J.y (yl_eql rfl rfl rfl) rfl rfl rfl ?_
        refine J.nil ?_
        refine Ej.seq ?_
        refine Cj.cond rfl (fun hc5 => ?_) (fun hc5 => ?_)
        ·
          have hc5p := eq_of_beq hc5
          have hq0 : (Cq.quotedAt s k).2 = 0 := by have := hc5p; omega
          refine Cj.seq ?_
          refine Cj.region ?_
          refine J.y (yl_move rfl rfl) rfl rfl rfl ?_
          refine J.y (yl_move rfl rfl) rfl rfl rfl ?_
          refine J.y (yl_buildS (pl := #[(0, 1), (1, 1), (2, 1)]) rfl rfl Tryz.zeroValue50 rfl Tryz.underlying50 (fun w => by simp [Tryz.sizeOf3, Tryz.sizeOf9]) (LBld.part rfl rfl rfl (LSpl.s (LSpl.s (LSpl.c LSpl.z))) (LBld.part rfl rfl rfl (LSpl.c LSpl.z) LBld.none))) rfl rfl rfl ?_
          refine J.op rfl (op_buildSlice rfl rfl rfl Tryz.underlying47 Tryz.sizeOf50 Tryz.zeroValue50 rfl rfl rfl rfl (LCat.agg rfl LCat.none) ?_)
          intro b6 hb6
          refine J.op rfl (op_append (by' := 31) [_, _] rfl rfl rfl rfl rfl Tryz.underlying47 (.inr ⟨_, Tryz.underlying47⟩) (by kernel_rfl) Tryz.sizeOf50 Tryz.zeroValue50 rfl hg rfl (Src.slice (Blk.at 0 rfl) rfl rfl rfl) (by omega) ?_)
          intro g7 hg7
          refine J.y (yl_assign rfl rfl) rfl rfl rfl ?_
          refine J.nil ?_
          refine Ej.seq ?_
          refine Cj.ret ?_
          refine Ej.seqRet ?_
          refine Ej.blkRet ?_
          refine Ej.seqRet ?_
          refine Ej.blkRet ?_
          refine Ej.loopRet ?_
          refine Ej.blkRet ?_
          refine Ej.seqRet ?_
          obtain ⟨bb, cc, sp, rfl, hbb⟩ := hg7.some (by omega)
          refine Ej.pull (Pull.s (Pull.s Pull.z)) ?_
          refine Ej.persist hbb (fun I9 hle9 hbi => ?_)
          refine Ej.bare ?_
          refine Ej.ret1 rfl rfl rfl ?_
          have hlast := (hk.last ((Cq.lex_quote hget hbl h34).1 hq0) rfl)
          exact ⟨⟨_, rfl, bb, cc, sp, by rw [hlast]; simp [gV], by rw [hbi, hlast]; simp [Cq.tokC, str]⟩, rfl⟩
        ·
          have hc5p := ne_of_beq_false hc5
          have hq1 : (Cq.quotedAt s k).2 ≠ 0 := by have := hc5p; omega
          refine Cj.skip ?_
          refine Ej.seq ?_
          refine Cj.region ?_
          refine J.y (yl_move rfl rfl) rfl rfl rfl ?_
          refine J.y (yl_assign rfl rfl) rfl rfl rfl ?_
          refine J.nil ?_
          refine Ej.blkNormal ?_
          refine Ej.seq ?_
          refine Cj.region ?_
          refine J.y (yl_move rfl rfl) rfl rfl rfl ?_
          refine J.y (yl_loadAgg rfl rfl Tryz.isAgg50 Tryz.sizeOf50 (Blk.at 0 rfl) rfl rfl) rfl rfl rfl ?_
          refine J.op rfl (op_buildSlice rfl rfl rfl Tryz.underlying47 Tryz.sizeOf50 Tryz.zeroValue50 rfl rfl rfl rfl (LCat.agg rfl LCat.none) ?_)
          intro b8 hb8
          refine J.op rfl (op_append (by' := 31) [_, _] rfl rfl rfl rfl rfl Tryz.underlying47 (.inr ⟨_, Tryz.underlying47⟩) (by kernel_rfl) Tryz.sizeOf50 Tryz.zeroValue50 rfl hg rfl (Src.slice (Blk.at 0 rfl) rfl rfl rfl) (by omega) ?_)
          intro g9 hg9
          refine J.y (yl_assign rfl rfl) rfl rfl rfl ?_
          refine J.nil ?_
          refine Ej.blkNormal ?_
          have hl := ((Cq.lex_quote hget hbl h34).2 hq1)
          have hgt : k < (Cq.quotedAt s k).2 := by have := (Cq.lex_len s k hk1 (by rw [hl]; rfl)).1; rw [hl] at this; exact this
          have hpush := hk.push hl rfl
          have hle2 := hpush.le
          refine Ej.keep (Keeps.d (Keeps.d Keeps.r)) ?_
          refine Ej.round ((Cq.quotedAt s k).2, outs ++ [⟨2, (Cq.quotedAt s k).1, k⟩], g9) ⟨hpush, by simpa [Cq.tokC, str] using hg9⟩ (by dsimp only; omega) ⟨rfl, by simp only [List.length_append, List.length_cons, List.length_nil]; rfl, rfl, trivial⟩ rfl (by simp [Cq.tokC, str])
      ·
        have hc4p := ne_of_beq_false hc4
        have h34 : c ≠ 34 := u8_not (d := 34) hc4p
        refine Cj.seq ?_
        refine Cj.region ?_
        refine J.y (yl_move rfl rfl) rfl rfl rfl ?_
        refine J.y (yl_assign rfl rfl) rfl rfl rfl ?_
        refine J.nil ?_
        refine Ej.seq ?_
        refine Cj.cond rfl (fun hc10 => ?_) (fun hc10 => ?_)
        ·
          have hpl : Cq.plain c = true := hc10
          refine Cj.seq ?_
          refine Cj.region ?_
          refine J.y (yl_move rfl rfl) rfl rfl rfl ?_
          refine J.y (yl_assign rfl rfl) rfl rfl rfl ?_
          refine J.nil ?_
          refine Ej.seq ?_
          refine Cj.seq ?_
          refine Cj.block ?_
          refine Cj.loop (ι := Nat) (fun n => Cq.WInv s k n) (fun n => s.length - n) (fun n => [(0, str s), (3, gV outs.length g), (4, i64 (k : Int)), (6, ptr b3 0), (10, i64 (n : Int))]) (fun n => I) (fun n => (b3, cel 50 [i64 1, str [c], i64 (k : Int)]) :: gH 50 (outs.flatMap Cq.tokC) g) k (Cq.WInv.start (by omega)) ⟨rfl, rfl, rfl, rfl, rfl, trivial⟩ rfl rfl ?_
          intro n hw; have hw1 := hw.lo; have hw2 := hw.le
          refine Cj.seq ?_
          refine Cj.seq ?_
          refine Cj.region ?_
          refine J.y (yl_move rfl rfl) rfl rfl rfl ?_
          refine J.y (yl_move rfl rfl) rfl rfl rfl ?_
          refine J.y (yl_lenStr rfl rfl Tryz.underlying9) rfl rfl rfl ?_
          refine J.y (yl_lss rfl rfl rfl) rfl rfl rfl ?_
          refine J.y (yl_move rfl rfl) rfl rfl rfl ?_
          refine J.split 64 rfl (fun hg11 => ?_) (fun hg11 => ?_)
          ·
            have hlt3 := of_decide_eq_true hg11
            obtain ⟨c3, hget3⟩ : ∃ c3, s[n]? = some c3 := ⟨_, List.getElem?_eq_getElem (by omega)⟩
            have hget3I : s[(n : Int).toNat]? = some c3 := by simpa using hget3
            refine J.opG 4 64 true _ rfl rfl rfl hg11 (op_yld (yl_move rfl rfl) rfl rfl ?_)
            refine J.opG 4 64 true _ rfl rfl rfl hg11 (op_yld (yl_move rfl rfl) rfl rfl ?_)
            refine J.opG 4 64 true _ rfl rfl rfl hg11 (op_yld (yl_index rfl rfl rfl Tryz.underlying9 (by omega) hget3I) rfl rfl ?_)
            refine J.opG 4 64 true _ rfl rfl rfl hg11 (op_pure rfl rfl rfl rfl rfl (plain_ok _ _) ?_)
            refine J.y (yl_pick1 rfl rfl hg11 rfl) rfl rfl rfl ?_
            refine J.nil ?_
            refine Ej.seq ?_
            refine Cj.cond rfl (fun hc12 => ?_) (fun hc12 => ?_)
            ·
              have hpl3 : Cq.plain c3 = true := hc12
              refine Cj.skip ?_
              refine Ej.seq ?_
              refine Cj.block ?_
              refine Cj.region ?_
              refine J.y (yl_move rfl rfl) rfl rfl rfl ?_
              refine J.y (yl_add rfl rfl rfl (w64 (by omega))) rfl rfl rfl ?_
              refine J.y (yl_assign rfl rfl) rfl rfl rfl ?_
              refine J.nil ?_
              refine Ej.blkNormal ?_
              refine Ej.round (n + 1) (hw.next hget3 hpl3) (by omega) ⟨rfl, rfl, rfl, rfl, rfl, trivial⟩ rfl rfl
            ·
              refine Cj.exit ?_
              refine Ej.seqExit ?_
              refine Ej.loopExit ?_
              refine Ej.blkExit ?_
              refine Ej.seq ?_
              have hs2 : ∀ c, s[n]? = some c → Cq.plain c = false := fun c' h => by rw [hget3] at h; cases h; exact hc12
              refine Cj.seq ?_
              refine Cj.region ?_
              refine J.y (yl_move rfl rfl) rfl rfl rfl ?_
              refine J.y (yl_move rfl rfl) rfl rfl rfl ?_
              refine J.y (yl_move rfl rfl) rfl rfl rfl ?_
              refine J.y (yl_move rfl rfl) rfl rfl rfl ?_
              refine J.y (yl_sliceStr (p := k) (q := n) rfl rfl Tryz.underlying9 ⟨_, rfl⟩ ⟨_, rfl⟩ (by omega) (by omega)) rfl rfl rfl ?_
              refine J.y (yl_buildS (pl := #[(0, 1), (1, 1), (2, 1)]) rfl rfl Tryz.zeroValue50 rfl Tryz.underlying50 (fun w => by simp [Tryz.sizeOf3, Tryz.sizeOf9]) (LBld.part rfl rfl rfl (LSpl.s (LSpl.s (LSpl.c LSpl.z))) (LBld.part rfl rfl rfl (LSpl.c LSpl.z) (LBld.part rfl rfl rfl (LSpl.s (LSpl.c LSpl.z)) LBld.none)))) rfl rfl rfl ?_
              refine J.op rfl (op_store 0 rfl rfl rfl rfl rfl rfl Tryz.sizeOf50 rfl rfl (LSpl.c (LSpl.c (LSpl.c LSpl.z))) LSet.z ?_)
              refine J.nil ?_
              refine Ej.seq ?_
              refine Cj.region ?_
              refine J.y (yl_move rfl rfl) rfl rfl rfl ?_
              refine J.y (yl_assign rfl rfl) rfl rfl rfl ?_
              refine J.nil ?_
              refine Ej.blkNormal ?_
              refine Ej.seq ?_
              refine Cj.region ?_
              refine J.y (yl_move rfl rfl) rfl rfl rfl ?_
              refine J.y (yl_loadAgg rfl rfl Tryz.isAgg50 Tryz.sizeOf50 (Blk.at 0 rfl) rfl rfl) rfl rfl rfl ?_
              refine J.op rfl (op_buildSlice rfl rfl rfl Tryz.underlying47 Tryz.sizeOf50 Tryz.zeroValue50 rfl rfl rfl rfl (LCat.agg rfl LCat.none) ?_)
              intro b13 hb13
              refine J.op rfl (op_append (by' := 31) [_, _] rfl rfl rfl rfl rfl Tryz.underlying47 (.inr ⟨_, Tryz.underlying47⟩) (by kernel_rfl) Tryz.sizeOf50 Tryz.zeroValue50 rfl hg rfl (Src.slice (Blk.at 0 rfl) rfl rfl rfl) (by omega) ?_)
              intro g14 hg14
              refine J.y (yl_assign rfl rfl) rfl rfl rfl ?_
              refine J.nil ?_
              refine Ej.blkNormal ?_
              have hl := (Cq.lex_word hget hbl hpl hw hs2)
              have hgt : k < n := by have := (Cq.lex_len s k hk1 (by rw [hl]; rfl)).1; rw [hl] at this; exact this
              have hpush := hk.push hl rfl
              have hle2 := hpush.le
              refine Ej.keep (Keeps.d (Keeps.d Keeps.r)) ?_
              refine Ej.round (n, outs ++ [⟨3, (s.take n).drop k, k⟩], g14) ⟨hpush, by simpa [Cq.tokC, str] using hg14⟩ (by dsimp only; omega) ⟨rfl, by simp only [List.length_append, List.length_cons, List.length_nil]; rfl, rfl, trivial⟩ rfl (by simp [Cq.tokC, str])
          ·
            have hlt3 := of_decide_eq_false hg11
            refine J.skip 4 64 65 true _ rfl rfl rfl hg11 rfl rfl ?_
            refine J.skip 4 64 66 true _ rfl rfl rfl hg11 rfl rfl ?_
            refine J.skip 4 64 67 true _ rfl rfl rfl hg11 rfl rfl ?_
            refine J.skip 4 64 68 true _ rfl rfl rfl hg11 rfl rfl ?_
            refine J.y (yl_pick0 rfl rfl hg11 rfl) rfl rfl rfl ?_
            refine J.nil ?_
            refine Ej.seq ?_
            refine Cj.cond rfl (fun hc15 => Bool.noConfusion (Eq.trans (Eq.symm rfl) hc15)) (fun hc15 => ?_)
            refine Cj.exit ?_
            refine Ej.seqExit ?_
            refine Ej.loopExit ?_
            refine Ej.blkExit ?_
            refine Ej.seq ?_
            have hs2 : ∀ c, s[n]? = some c → Cq.plain c = false := fun c' h => by obtain ⟨h1, _⟩ := List.getElem?_eq_some_iff.1 h; omega
            refine Cj.seq ?_
            refine Cj.region ?_
            refine J.y (yl_move rfl rfl) rfl rfl rfl ?_
            refine J.y (yl_move rfl rfl) rfl rfl rfl ?_
            refine J.y (yl_move rfl rfl) rfl rfl rfl ?_
            refine J.y (yl_move rfl rfl) rfl rfl rfl ?_
            refine J.y (yl_sliceStr (p := k) (q := n) rfl rfl Tryz.underlying9 ⟨_, rfl⟩ ⟨_, rfl⟩ (by omega) (by omega)) rfl rfl rfl ?_
            refine J.y (yl_buildS (pl := #[(0, 1), (1, 1), (2, 1)]) rfl rfl Tryz.zeroValue50 rfl Tryz.underlying50 (fun w => by simp [Tryz.sizeOf3, Tryz.sizeOf9]) (LBld.part rfl rfl rfl (LSpl.s (LSpl.s (LSpl.c LSpl.z))) (LBld.part rfl rfl rfl (LSpl.c LSpl.z) (LBld.part rfl rfl rfl (LSpl.s (LSpl.c LSpl.z)) LBld.none)))) rfl rfl rfl ?_
            refine J.op rfl (op_store 0 rfl rfl rfl rfl rfl rfl Tryz.sizeOf50 rfl rfl (LSpl.c (LSpl.c (LSpl.c LSpl.z))) LSet.z ?_)
            refine J.nil ?_
            refine Ej.seq ?_
            refine Cj.region ?_
            refine J.y (yl_move rfl rfl) rfl rfl rfl ?_
            refine J.y (yl_assign rfl rfl) rfl rfl rfl ?_
            refine J.nil ?_
            refine Ej.blkNormal ?_
            refine Ej.seq ?_
            refine Cj.region ?_
            refine J.y (yl_move rfl rfl) rfl rfl rfl ?_
            refine J.y (yl_loadAgg rfl rfl Tryz.isAgg50 Tryz.sizeOf50 (Blk.at 0 rfl) rfl rfl) rfl rfl rfl ?_
            refine J.op rfl (op_buildSlice rfl rfl rfl Tryz.underlying47 Tryz.sizeOf50 Tryz.zeroValue50 rfl rfl rfl rfl (LCat.agg rfl LCat.none) ?_)
            intro b16 hb16
            refine J.op rfl (op_append (by' := 31) [_, _] rfl rfl rfl rfl rfl Tryz.underlying47 (.inr ⟨_, Tryz.underlying47⟩) (by kernel_rfl) Tryz.sizeOf50 Tryz.zeroValue50 rfl hg rfl (Src.slice (Blk.at 0 rfl) rfl rfl rfl) (by omega) ?_)
            intro g17 hg17
            refine J.y (yl_assign rfl rfl) rfl rfl rfl ?_
            refine J.nil ?_
            refine Ej.blkNormal ?_
            have hl := (Cq.lex_word hget hbl hpl hw hs2)
            have hgt : k < n := by have := (Cq.lex_len s k hk1 (by rw [hl]; rfl)).1; rw [hl] at this; exact this
            have hpush := hk.push hl rfl
            have hle2 := hpush.le
            refine Ej.keep (Keeps.d (Keeps.d Keeps.r)) ?_
            refine Ej.round (n, outs ++ [⟨3, (s.take n).drop k, k⟩], g17) ⟨hpush, by simpa [Cq.tokC, str] using hg17⟩ (by dsimp only; omega) ⟨rfl, by simp only [List.length_append, List.length_cons, List.length_nil]; rfl, rfl, trivial⟩ rfl (by simp [Cq.tokC, str])
        ·
          have hpl : Cq.plain c = false := hc10
          refine Cj.seq ?_
          refine Cj.region ?_
          refine J.y (yl_move rfl rfl) rfl rfl rfl ?_
          refine J.y (yl_move rfl rfl) rfl rfl rfl ?_
          refine J.y (yl_index rfl rfl rfl Tryz.underlying9 (by omega) hgetI) rfl rfl rfl ?_
          refine J.y (yl_eql rfl rfl rfl) rfl rfl rfl ?_
          refine J.y (yl_move rfl rfl) rfl rfl rfl ?_
          refine J.split 84 rfl (fun hg18 => ?_) (fun hg18 => ?_)
          ·
            have h61 : c = 61 := u8_is (d := 61) (eq_of_beq hg18)
            have hcc : c = 61 ∨ c = 62 := .inl h61
            refine J.skip 4 84 85 false _ rfl rfl rfl hg18 rfl rfl ?_
            refine J.skip 4 84 86 false _ rfl rfl rfl hg18 rfl rfl ?_
            refine J.skip 4 84 87 false _ rfl rfl rfl hg18 rfl rfl ?_
            refine J.skip 4 84 88 false _ rfl rfl rfl hg18 rfl rfl ?_
            refine J.y (yl_pick1 rfl rfl hg18 rfl) rfl rfl rfl ?_
            refine J.y (yl_move rfl rfl) rfl rfl rfl ?_
            refine J.opG 10 90 true _ rfl rfl rfl rfl (op_yld (yl_move rfl rfl) rfl rfl ?_)
            refine J.opG 10 90 true _ rfl rfl rfl rfl (op_yld (yl_add rfl rfl rfl (w64 (by omega))) rfl rfl ?_)
            refine J.opG 10 90 true _ rfl rfl rfl rfl (op_yld (yl_move rfl rfl) rfl rfl ?_)
            refine J.opG 10 90 true _ rfl rfl rfl rfl (op_yld (yl_lenStr rfl rfl Tryz.underlying9) rfl rfl ?_)
            refine J.opG 10 90 true _ rfl rfl rfl rfl (op_yld (yl_lss rfl rfl rfl) rfl rfl ?_)
            refine J.y (yl_pick1 rfl rfl rfl rfl) rfl rfl rfl ?_
            refine J.y (yl_move rfl rfl) rfl rfl rfl ?_
            refine J.split 97 rfl (fun hg19 => ?_) (fun hg19 => ?_)
            ·
              have hlt2 := of_decide_eq_true hg19
              obtain ⟨d, hget2⟩ : ∃ d, s[k + 1]? = some d := ⟨_, List.getElem?_eq_getElem (by omega)⟩
              have hget2I : s[((k : Int) + 1).toNat]? = some d := by rw [show ((k : Int) + 1).toNat = k + 1 by omega]; exact hget2
              refine J.opG 17 97 true _ rfl rfl rfl hg19 (op_yld (yl_move rfl rfl) rfl rfl ?_)
              refine J.opG 17 97 true _ rfl rfl rfl hg19 (op_yld (yl_move rfl rfl) rfl rfl ?_)
              refine J.opG 17 97 true _ rfl rfl rfl hg19 (op_yld (yl_add rfl rfl rfl (w64 (by omega))) rfl rfl ?_)
              refine J.opG 17 97 true _ rfl rfl rfl hg19 (op_yld (yl_index rfl rfl rfl Tryz.underlying9 (by omega) hget2I) rfl rfl ?_)
              refine J.opG 17 97 true _ rfl rfl rfl hg19 (op_yld (yl_eql rfl rfl rfl) rfl rfl ?_)
              refine J.y (yl_pick1 rfl rfl hg19 rfl) rfl rfl rfl ?_
              refine J.y (yl_assign rfl rfl) rfl rfl rfl ?_
              refine J.nil ?_
              refine Ej.seq ?_
              refine Cj.cond rfl (fun hc20 => ?_) (fun hc20 => ?_)
              ·
                have hc20p := eq_of_beq hc20
                have hd61 : d = 61 := u8_is (d := 61) (eq_of_beq hc20)
                have h2 : s[k + 1]? = some 61 := hd61 ▸ hget2
                refine Cj.seq ?_
                refine Cj.region ?_
                refine J.y (yl_move rfl rfl) rfl rfl rfl ?_
                refine J.y (yl_move rfl rfl) rfl rfl rfl ?_
                refine J.y (yl_move rfl rfl) rfl rfl rfl ?_
                refine J.y (yl_add rfl rfl rfl (w64 (by omega))) rfl rfl rfl ?_
                refine J.y (yl_sliceStr (p := k) (q := k + 2) rfl rfl Tryz.underlying9 ⟨_, rfl⟩ ⟨_, rfl⟩ (by omega) (by omega)) rfl rfl rfl ?_
                refine J.eqv 108 rfl (show _ = str [c, 61] from congrArg str (cut2 hget h2)) ?_
                refine J.y (yl_fieldAddr (off' := 1) rfl rfl Tryz.underlying50 rfl Tryz.sizeOf9 rfl) rfl rfl rfl ?_
                refine J.op rfl (op_store 0 rfl rfl rfl rfl rfl rfl Tryz.sizeOf9 rfl rfl (LSpl.s (LSpl.c LSpl.z)) LSet.z ?_)
                refine J.nil ?_
                refine Ej.seq ?_
                refine Cj.region ?_
                refine J.y (yl_move rfl rfl) rfl rfl rfl ?_
                refine J.y (yl_add rfl rfl rfl (w64 (by omega))) rfl rfl rfl ?_
                refine J.y (yl_assign rfl rfl) rfl rfl rfl ?_
                refine J.nil ?_
                refine Ej.blkNormal ?_
                refine Ej.seq ?_
                refine Cj.region ?_
                refine J.y (yl_move rfl rfl) rfl rfl rfl ?_
                refine J.y (yl_loadAgg rfl rfl Tryz.isAgg50 Tryz.sizeOf50 (Blk.at 0 rfl) rfl rfl) rfl rfl rfl ?_
                refine J.op rfl (op_buildSlice rfl rfl rfl Tryz.underlying47 Tryz.sizeOf50 Tryz.zeroValue50 rfl rfl rfl rfl (LCat.agg rfl LCat.none) ?_)
                intro b21 hb21
                refine J.op rfl (op_append (by' := 31) [_, _] rfl rfl rfl rfl rfl Tryz.underlying47 (.inr ⟨_, Tryz.underlying47⟩) (by kernel_rfl) Tryz.sizeOf50 Tryz.zeroValue50 rfl hg rfl (Src.slice (Blk.at 0 rfl) rfl rfl rfl) (by omega) ?_)
                intro g22 hg22
                refine J.y (yl_assign rfl rfl) rfl rfl rfl ?_
                refine J.nil ?_
                refine Ej.blkNormal ?_
                have hl := (Cq.lex_two hget hbl hcc h2)
                have hgt : k < k + 2 := by have := (Cq.lex_len s k hk1 (by rw [hl]; rfl)).1; rw [hl] at this; exact this
                have hpush := hk.push hl rfl
                have hle2 := hpush.le
                refine Ej.keep (Keeps.d (Keeps.d Keeps.r)) ?_
                refine Ej.round (k + 2, outs ++ [⟨1, [c, 61], k⟩], g22) ⟨hpush, by simpa [Cq.tokC, str] using hg22⟩ (by dsimp only; omega) ⟨rfl, by simp only [List.length_append, List.length_cons, List.length_nil]; rfl, rfl, trivial⟩ rfl (by simp [Cq.tokC, str])
              ·
                have hc20p := ne_of_beq_false hc20
                have hd61 : d ≠ 61 := u8_not (d := 61) (ne_of_beq_false hc20)
                refine Cj.seq ?_
                refine Cj.region ?_
                refine J.y (yl_move rfl rfl) rfl rfl rfl ?_
                refine J.y (yl_move rfl rfl) rfl rfl rfl ?_
                refine J.y (yl_index rfl rfl rfl Tryz.underlying9 (by omega) hgetI) rfl rfl rfl ?_
                refine J.y (yl_eql rfl rfl rfl) rfl rfl rfl ?_
                refine J.y (yl_assign rfl rfl) rfl rfl rfl ?_
                refine J.nil ?_
                refine Ej.seq ?_
                refine Cj.cond rfl (fun hc23 => ?_) (fun hc23 => ?_)
                ·
                  have hc23p := eq_of_beq hc23
                  have h62 : c = 62 := u8_is (d := 62) hc23p
                  exact absurd (h61.symm.trans h62) (by decide)
                ·
                  have hc23p := ne_of_beq_false hc23
                  have h62 : c ≠ 62 := u8_not (d := 62) hc23p
                  have hc62 : c ≠ 62 := h62
                  have hnn : s[k + 1]? ≠ some 61 := by
                    intro h; rw [hget2] at h; cases h; exact hd61 rfl
                  have hn2 : ¬ (c = 61 ∧ s[k + 1]? = some 61) := fun h => hnn h.2
                  refine Cj.region ?_
                  refine J.y (yl_move rfl rfl) rfl rfl rfl ?_
                  refine J.y (yl_add rfl rfl rfl (w64 (by omega))) rfl rfl rfl ?_
                  refine J.y (yl_assign rfl rfl) rfl rfl rfl ?_
                  refine J.nil ?_
                  refine Ej.blkNormal ?_
                  refine Ej.seq ?_
                  refine Cj.region ?_
                  refine J.y (yl_move rfl rfl) rfl rfl rfl ?_
                  refine J.y (yl_loadAgg rfl rfl Tryz.isAgg50 Tryz.sizeOf50 (Blk.at 0 rfl) rfl rfl) rfl rfl rfl ?_
                  refine J.op rfl (op_buildSlice rfl rfl rfl Tryz.underlying47 Tryz.sizeOf50 Tryz.zeroValue50 rfl rfl rfl rfl (LCat.agg rfl LCat.none) ?_)
                  intro b24 hb24
                  refine J.op rfl (op_append (by' := 31) [_, _] rfl rfl rfl rfl rfl Tryz.underlying47 (.inr ⟨_, Tryz.underlying47⟩) (by kernel_rfl) Tryz.sizeOf50 Tryz.zeroValue50 rfl hg rfl (Src.slice (Blk.at 0 rfl) rfl rfl rfl) (by omega) ?_)
                  intro g25 hg25
                  refine J.y (yl_assign rfl rfl) rfl rfl rfl ?_
                  refine J.nil ?_
                  refine Ej.blkNormal ?_
                  have hl := (Cq.lex_one hget hbl h34 hpl hc62 hn2)
                  have hgt : k < k + 1 := by have := (Cq.lex_len s k hk1 (by rw [hl]; rfl)).1; rw [hl] at this; exact this
                  have hpush := hk.push hl rfl
                  have hle2 := hpush.le
                  refine Ej.keep (Keeps.d (Keeps.d Keeps.r)) ?_
                  refine Ej.round (k + 1, outs ++ [⟨1, [c], k⟩], g25) ⟨hpush, by simpa [Cq.tokC, str] using hg25⟩ (by dsimp only; omega) ⟨rfl, by simp only [List.length_append, List.length_cons, List.length_nil]; rfl, rfl, trivial⟩ rfl (by simp [Cq.tokC, str])
            ·
              have hlt2 := of_decide_eq_false hg19
              refine J.skip 17 97 98 true _ rfl rfl rfl hg19 rfl rfl ?_
              refine J.skip 17 97 99 true _ rfl rfl rfl hg19 rfl rfl ?_
              refine J.skip 17 97 100 true _ rfl rfl rfl hg19 rfl rfl ?_
              refine J.skip 17 97 101 true _ rfl rfl rfl hg19 rfl rfl ?_
              refine J.skip 17 97 102 true _ rfl rfl rfl hg19 rfl rfl ?_
              refine J.y (yl_pick0 rfl rfl hg19 rfl) rfl rfl rfl ?_
              refine J.y (yl_assign rfl rfl) rfl rfl rfl ?_
              refine J.nil ?_
              refine Ej.seq ?_
              refine Cj.cond rfl (fun hc26 => Bool.noConfusion (Eq.trans (Eq.symm rfl) hc26)) (fun hc26 => ?_)
              refine Cj.seq ?_
              refine Cj.region ?_
              refine J.y (yl_move rfl rfl) rfl rfl rfl ?_
              refine J.y (yl_move rfl rfl) rfl rfl rfl ?_
              refine J.y (yl_index rfl rfl rfl Tryz.underlying9 (by omega) hgetI) rfl rfl rfl ?_
              refine J.y (yl_eql rfl rfl rfl) rfl rfl rfl ?_
              refine J.y (yl_assign rfl rfl) rfl rfl rfl ?_
              refine J.nil ?_
              refine Ej.seq ?_
              refine Cj.cond rfl (fun hc27 => ?_) (fun hc27 => ?_)
              ·
                have hc27p := eq_of_beq hc27
                have h62 : c = 62 := u8_is (d := 62) hc27p
                exact absurd (h61.symm.trans h62) (by decide)
              ·
                have hc27p := ne_of_beq_false hc27
                have h62 : c ≠ 62 := u8_not (d := 62) hc27p
                have hc62 : c ≠ 62 := h62
                have hnn : s[k + 1]? ≠ some 61 := by
                  intro h; obtain ⟨h1, _⟩ := List.getElem?_eq_some_iff.1 h; omega
                have hn2 : ¬ (c = 61 ∧ s[k + 1]? = some 61) := fun h => hnn h.2
                refine Cj.region ?_
                refine J.y (yl_move rfl rfl) rfl rfl rfl ?_
                refine J.y (yl_add rfl rfl rfl (w64 (by omega))) rfl rfl rfl ?_
                refine J.y (yl_assign rfl rfl) rfl rfl rfl ?_
                refine J.nil ?_
                refine Ej.blkNormal ?_
                refine Ej.seq ?_
                refine Cj.region ?_
                refine J.y (yl_move rfl rfl) rfl rfl rfl ?_
                refine J.y (yl_loadAgg rfl rfl Tryz.isAgg50 Tryz.sizeOf50 (Blk.at 0 rfl) rfl rfl) rfl rfl rfl ?_
                refine J.op rfl (op_buildSlice rfl rfl rfl Tryz.underlying47 Tryz.sizeOf50 Tryz.zeroValue50 rfl rfl rfl rfl (LCat.agg rfl LCat.none) ?_)
                intro b28 hb28
                refine J.op rfl (op_append (by' := 31) [_, _] rfl rfl rfl rfl rfl Tryz.underlying47 (.inr ⟨_, Tryz.underlying47⟩) (by kernel_rfl) Tryz.sizeOf50 Tryz.zeroValue50 rfl hg rfl (Src.slice (Blk.at 0 rfl) rfl rfl rfl) (by omega) ?_)
                intro g29 hg29
                refine J.y (yl_assign rfl rfl) rfl rfl rfl ?_
                refine J.nil ?_
                refine Ej.blkNormal ?_
                have hl := (Cq.lex_one hget hbl h34 hpl hc62 hn2)
                have hgt : k < k + 1 := by have := (Cq.lex_len s k hk1 (by rw [hl]; rfl)).1; rw [hl] at this; exact this
                have hpush := hk.push hl rfl
                have hle2 := hpush.le
                refine Ej.keep (Keeps.d (Keeps.d Keeps.r)) ?_
                refine Ej.round (k + 1, outs ++ [⟨1, [c], k⟩], g29) ⟨hpush, by simpa [Cq.tokC, str] using hg29⟩ (by dsimp only; omega) ⟨rfl, by simp only [List.length_append, List.length_cons, List.length_nil]; rfl, rfl, trivial⟩ rfl (by simp [Cq.tokC, str])
          ·
            have h61 : c ≠ 61 := u8_not (d := 61) (ne_of_beq_false hg18)
            refine J.opG 4 84 false _ rfl rfl rfl hg18 (op_yld (yl_move rfl rfl) rfl rfl ?_)
            refine J.opG 4 84 false _ rfl rfl rfl hg18 (op_yld (yl_move rfl rfl) rfl rfl ?_)
            refine J.opG 4 84 false _ rfl rfl rfl hg18 (op_yld (yl_index rfl rfl rfl Tryz.underlying9 (by omega) hgetI) rfl rfl ?_)
            refine J.opG 4 84 false _ rfl rfl rfl hg18 (op_yld (yl_eql rfl rfl rfl) rfl rfl ?_)
            refine J.y (yl_pick0 rfl rfl hg18 rfl) rfl rfl rfl ?_
            refine J.y (yl_move rfl rfl) rfl rfl rfl ?_
            refine J.split 90 rfl (fun hg30 => ?_) (fun hg30 => ?_)
            ·
              have hcc62 : c = 62 := u8_is (d := 62) (eq_of_beq hg30)
              have hcc : c = 61 ∨ c = 62 := .inr hcc62
              refine J.opG 10 90 true _ rfl rfl rfl hg30 (op_yld (yl_move rfl rfl) rfl rfl ?_)
              refine J.opG 10 90 true _ rfl rfl rfl hg30 (op_yld (yl_add rfl rfl rfl (w64 (by omega))) rfl rfl ?_)
              refine J.opG 10 90 true _ rfl rfl rfl hg30 (op_yld (yl_move rfl rfl) rfl rfl ?_)
              refine J.opG 10 90 true _ rfl rfl rfl hg30 (op_yld (yl_lenStr rfl rfl Tryz.underlying9) rfl rfl ?_)
              refine J.opG 10 90 true _ rfl rfl rfl hg30 (op_yld (yl_lss rfl rfl rfl) rfl rfl ?_)
              refine J.y (yl_pick1 rfl rfl hg30 rfl) rfl rfl rfl ?_
              refine J.y (yl_move rfl rfl) rfl rfl rfl ?_
              refine J.split 97 rfl (fun hg31 => ?_) (fun hg31 => ?_)
              ·
                have hlt2 := of_decide_eq_true hg31
                obtain ⟨d, hget2⟩ : ∃ d, s[k + 1]? = some d := ⟨_, List.getElem?_eq_getElem (by omega)⟩
                have hget2I : s[((k : Int) + 1).toNat]? = some d := by rw [show ((k : Int) + 1).toNat = k + 1 by omega]; exact hget2
                refine J.opG 17 97 true _ rfl rfl rfl hg31 (op_yld (yl_move rfl rfl) rfl rfl ?_)
                refine J.opG 17 97 true _ rfl rfl rfl hg31 (op_yld (yl_move rfl rfl) rfl rfl ?_)
                refine J.opG 17 97 true _ rfl rfl rfl hg31 (op_yld (yl_add rfl rfl rfl (w64 (by omega))) rfl rfl ?_)
                refine J.opG 17 97 true _ rfl rfl rfl hg31 (op_yld (yl_index rfl rfl rfl Tryz.underlying9 (by omega) hget2I) rfl rfl ?_)
                refine J.opG 17 97 true _ rfl rfl rfl hg31 (op_yld (yl_eql rfl rfl rfl) rfl rfl ?_)
                refine J.y (yl_pick1 rfl rfl hg31 rfl) rfl rfl rfl ?_
                refine J.y (yl_assign rfl rfl) rfl rfl rfl ?_
                refine J.nil ?_
                refine Ej.seq ?_
                refine Cj.cond rfl (fun hc32 => ?_) (fun hc32 => ?_)
                ·
                  have hc32p := eq_of_beq hc32
                  have hd61 : d = 61 := u8_is (d := 61) (eq_of_beq hc32)
                  have h2 : s[k + 1]? = some 61 := hd61 ▸ hget2
                  refine Cj.seq ?_
                  refine Cj.region ?_
                  refine J.y (yl_move rfl rfl) rfl rfl rfl ?_
                  refine J.y (yl_move rfl rfl) rfl rfl rfl ?_
                  refine J.y (yl_move rfl rfl) rfl rfl rfl ?_
                  refine J.y (yl_add rfl rfl rfl (w64 (by omega))) rfl rfl rfl ?_
                  refine J.y (yl_sliceStr (p := k) (q := k + 2) rfl rfl Tryz.underlying9 ⟨_, rfl⟩ ⟨_, rfl⟩ (by omega) (by omega)) rfl rfl rfl ?_
                  refine J.eqv 108 rfl (show _ = str [c, 61] from congrArg str (cut2 hget h2)) ?_
                  refine J.y (yl_fieldAddr (off' := 1) rfl rfl Tryz.underlying50 rfl Tryz.sizeOf9 rfl) rfl rfl rfl ?_
                  refine J.op rfl (op_store 0 rfl rfl rfl rfl rfl rfl Tryz.sizeOf9 rfl rfl (LSpl.s (LSpl.c LSpl.z)) LSet.z ?_)
                  refine J.nil ?_
                  refine Ej.seq ?_
                  refine Cj.region ?_
                  refine J.y (yl_move rfl rfl) rfl rfl rfl ?_
                  refine J.y (yl_add rfl rfl rfl (w64 (by omega))) rfl rfl rfl ?_
                  refine J.y (yl_assign rfl rfl) rfl rfl rfl ?_
                  refine J.nil ?_
                  refine Ej.blkNormal ?_
                  refine Ej.seq ?_
                  refine Cj.region ?_
                  refine J.y (yl_move rfl rfl) rfl rfl rfl ?_
                  refine J.y (yl_loadAgg rfl rfl Tryz.isAgg50 Tryz.sizeOf50 (Blk.at 0 rfl) rfl rfl) rfl rfl rfl ?_
                  refine J.op rfl (op_buildSlice rfl rfl rfl Tryz.underlying47 Tryz.sizeOf50 Tryz.zeroValue50 rfl rfl rfl rfl (LCat.agg rfl LCat.none) ?_)
                  intro b33 hb33
                  refine J.op rfl (op_append (by' := 31) [_, _] rfl rfl rfl rfl rfl Tryz.underlying47 (.inr ⟨_, Tryz.underlying47⟩) (by kernel_rfl) Tryz.sizeOf50 Tryz.zeroValue50 rfl hg rfl (Src.slice (Blk.at 0 rfl) rfl rfl rfl) (by omega) ?_)
                  intro g34 hg34
                  refine J.y (yl_assign rfl rfl) rfl rfl rfl ?_
                  refine J.nil ?_
                  refine Ej.blkNormal ?_
                  have hl := (Cq.lex_two hget hbl hcc h2)
                  have hgt : k < k + 2 := by have := (Cq.lex_len s k hk1 (by rw [hl]; rfl)).1; rw [hl] at this; exact this
                  have hpush := hk.push hl rfl
                  have hle2 := hpush.le
                  refine Ej.keep (Keeps.d (Keeps.d Keeps.r)) ?_
                  refine Ej.round (k + 2, outs ++ [⟨1, [c, 61], k⟩], g34) ⟨hpush, by simpa [Cq.tokC, str] using hg34⟩ (by dsimp only; omega) ⟨rfl, by simp only [List.length_append, List.length_cons, List.length_nil]; rfl, rfl, trivial⟩ rfl (by simp [Cq.tokC, str])
                ·
                  have hc32p := ne_of_beq_false hc32
                  have hd61 : d ≠ 61 := u8_not (d := 61) (ne_of_beq_false hc32)
                  refine Cj.seq ?_
                  refine Cj.region ?_
                  refine J.y (yl_move rfl rfl) rfl rfl rfl ?_
                  refine J.y (yl_move rfl rfl) rfl rfl rfl ?_
                  refine J.y (yl_index rfl rfl rfl Tryz.underlying9 (by omega) hgetI) rfl rfl rfl ?_
                  refine J.y (yl_eql rfl rfl rfl) rfl rfl rfl ?_
                  refine J.y (yl_assign rfl rfl) rfl rfl rfl ?_
                  refine J.nil ?_
                  refine Ej.seq ?_
                  refine Cj.cond rfl (fun hc35 => ?_) (fun hc35 => ?_)
                  ·
                    have hc35p := eq_of_beq hc35
                    have h62 : c = 62 := u8_is (d := 62) hc35p
                    have hnn : s[k + 1]? ≠ some 61 := by
                      intro h; rw [hget2] at h; cases h; exact hd61 rfl
                    refine Cj.seq ?_
                    refine Cj.region ?_
                    refine J.y (yl_move rfl rfl) rfl rfl rfl ?_
                    refine J.y (yl_move rfl rfl) rfl rfl rfl ?_
                    refine J.y (yl_buildS (pl := #[(0, 1), (1, 1), (2, 1)]) rfl rfl Tryz.zeroValue50 rfl Tryz.underlying50 (fun w => by simp [Tryz.sizeOf3, Tryz.sizeOf9]) (LBld.part rfl rfl rfl (LSpl.s (LSpl.s (LSpl.c LSpl.z))) (LBld.part rfl rfl rfl (LSpl.c LSpl.z) LBld.none))) rfl rfl rfl ?_
                    refine J.op rfl (op_buildSlice rfl rfl rfl Tryz.underlying47 Tryz.sizeOf50 Tryz.zeroValue50 rfl rfl rfl rfl (LCat.agg rfl LCat.none) ?_)
                    intro b36 hb36
                    refine J.op rfl (op_append (by' := 31) [_, _] rfl rfl rfl rfl rfl Tryz.underlying47 (.inr ⟨_, Tryz.underlying47⟩) (by kernel_rfl) Tryz.sizeOf50 Tryz.zeroValue50 rfl hg rfl (Src.slice (Blk.at 0 rfl) rfl rfl rfl) (by omega) ?_)
                    intro g37 hg37
                    refine J.y (yl_assign rfl rfl) rfl rfl rfl ?_
                    refine J.nil ?_
                    refine Ej.seq ?_
                    refine Cj.ret ?_
                    refine Ej.blkRet ?_
                    refine Ej.seqRet ?_
                    refine Ej.blkRet ?_
                    refine Ej.loopRet ?_
                    refine Ej.blkRet ?_
                    refine Ej.seqRet ?_
                    obtain ⟨bb, cc, sp, rfl, hbb⟩ := hg37.some (by omega)
                    refine Ej.pull (Pull.s (Pull.s Pull.z)) ?_
                    refine Ej.persist hbb (fun I9 hle9 hbi => ?_)
                    refine Ej.bare ?_
                    refine Ej.ret1 rfl rfl rfl ?_
                    have hlast := (hk.last (Cq.lex_bad hget hbl h62 hnn) rfl)
                    exact ⟨⟨_, rfl, bb, cc, sp, by rw [hlast]; simp [gV], by rw [hbi, hlast]; simp [Cq.tokC, str]⟩, rfl⟩
                  ·
                    have hc35p := ne_of_beq_false hc35
                    have h62 : c ≠ 62 := u8_not (d := 62) hc35p
                    exact absurd hcc62 h62
              ·
                have hlt2 := of_decide_eq_false hg31
                refine J.skip 17 97 98 true _ rfl rfl rfl hg31 rfl rfl ?_
                refine J.skip 17 97 99 true _ rfl rfl rfl hg31 rfl rfl ?_
                refine J.skip 17 97 100 true _ rfl rfl rfl hg31 rfl rfl ?_
                refine J.skip 17 97 101 true _ rfl rfl rfl hg31 rfl rfl ?_
                refine J.skip 17 97 102 true _ rfl rfl rfl hg31 rfl rfl ?_
                refine J.y (yl_pick0 rfl rfl hg31 rfl) rfl rfl rfl ?_
                refine J.y (yl_assign rfl rfl) rfl rfl rfl ?_
                refine J.nil ?_
                refine Ej.seq ?_
                refine Cj.cond rfl (fun hc38 => Bool.noConfusion (Eq.trans (Eq.symm rfl) hc38)) (fun hc38 => ?_)
                refine Cj.seq ?_
                refine Cj.region ?_
                refine J.y (yl_move rfl rfl) rfl rfl rfl ?_
                refine J.y (yl_move rfl rfl) rfl rfl rfl ?_
                refine J.y (yl_index rfl rfl rfl Tryz.underlying9 (by omega) hgetI) rfl rfl rfl ?_
                refine J.y (yl_eql rfl rfl rfl) rfl rfl rfl ?_
                refine J.y (yl_assign rfl rfl) rfl rfl rfl ?_
                refine J.nil ?_
                refine Ej.seq ?_
                refine Cj.cond rfl (fun hc39 => ?_) (fun hc39 => ?_)
                ·
                  have hc39p := eq_of_beq hc39
                  have h62 : c = 62 := u8_is (d := 62) hc39p
                  have hnn : s[k + 1]? ≠ some 61 := by
                    intro h; obtain ⟨h1, _⟩ := List.getElem?_eq_some_iff.1 h; omega
                  refine Cj.seq ?_
                  refine Cj.region ?_
                  refine J.y (yl_move rfl rfl) rfl rfl rfl ?_
                  refine J.y (yl_move rfl rfl) rfl rfl rfl ?_
                  refine J.y (yl_buildS (pl := #[(0, 1), (1, 1), (2, 1)]) rfl rfl Tryz.zeroValue50 rfl Tryz.underlying50 (fun w => by simp [Tryz.sizeOf3, Tryz.sizeOf9]) (LBld.part rfl rfl rfl (LSpl.s (LSpl.s (LSpl.c LSpl.z))) (LBld.part rfl rfl rfl (LSpl.c LSpl.z) LBld.none))) rfl rfl rfl ?_
                  refine J.op rfl (op_buildSlice rfl rfl rfl Tryz.underlying47 Tryz.sizeOf50 Tryz.zeroValue50 rfl rfl rfl rfl (LCat.agg rfl LCat.none) ?_)
                  intro b40 hb40
                  refine J.op rfl (op_append (by' := 31) [_, _] rfl rfl rfl rfl rfl Tryz.underlying47 (.inr ⟨_, Tryz.underlying47⟩) (by kernel_rfl) Tryz.sizeOf50 Tryz.zeroValue50 rfl hg rfl (Src.slice (Blk.at 0 rfl) rfl rfl rfl) (by omega) ?_)
                  intro g41 hg41
                  refine J.y (yl_assign rfl rfl) rfl rfl rfl ?_
                  refine J.nil ?_
                  refine Ej.seq ?_
                  refine Cj.ret ?_
                  refine Ej.blkRet ?_
                  refine Ej.seqRet ?_
                  refine Ej.blkRet ?_
                  refine Ej.loopRet ?_
                  refine Ej.blkRet ?_
                  refine Ej.seqRet ?_
                  obtain ⟨bb, cc, sp, rfl, hbb⟩ := hg41.some (by omega)
                  refine Ej.pull (Pull.s (Pull.s Pull.z)) ?_
                  refine Ej.persist hbb (fun I9 hle9 hbi => ?_)
                  refine Ej.bare ?_
                  refine Ej.ret1 rfl rfl rfl ?_
                  have hlast := (hk.last (Cq.lex_bad hget hbl h62 hnn) rfl)
                  exact ⟨⟨_, rfl, bb, cc, sp, by rw [hlast]; simp [gV], by rw [hbi, hlast]; simp [Cq.tokC, str]⟩, rfl⟩
                ·
                  have hc39p := ne_of_beq_false hc39
                  have h62 : c ≠ 62 := u8_not (d := 62) hc39p
                  exact absurd hcc62 h62
            ·
              have hc62 : c ≠ 62 := u8_not (d := 62) (ne_of_beq_false hg30)
              refine J.skip 10 90 91 true _ rfl rfl rfl hg30 rfl rfl ?_
              refine J.skip 10 90 92 true _ rfl rfl rfl hg30 rfl rfl ?_
              refine J.skip 10 90 93 true _ rfl rfl rfl hg30 rfl rfl ?_
              refine J.skip 10 90 94 true _ rfl rfl rfl hg30 rfl rfl ?_
              refine J.skip 10 90 95 true _ rfl rfl rfl hg30 rfl rfl ?_
              refine J.y (yl_pick0 rfl rfl hg30 rfl) rfl rfl rfl ?_
              refine J.y (yl_move rfl rfl) rfl rfl rfl ?_
              refine J.skip 17 97 98 true _ rfl rfl rfl rfl rfl rfl ?_
              refine J.skip 17 97 99 true _ rfl rfl rfl rfl rfl rfl ?_
              refine J.skip 17 97 100 true _ rfl rfl rfl rfl rfl rfl ?_
              refine J.skip 17 97 101 true _ rfl rfl rfl rfl rfl rfl ?_
              refine J.skip 17 97 102 true _ rfl rfl rfl rfl rfl rfl ?_
              refine J.y (yl_pick0 rfl rfl rfl rfl) rfl rfl rfl ?_
              refine J.y (yl_assign rfl rfl) rfl rfl rfl ?_
              refine J.nil ?_
              refine Ej.seq ?_
              refine Cj.cond rfl (fun hc42 => Bool.noConfusion (Eq.trans (Eq.symm rfl) hc42)) (fun hc42 => ?_)
              refine Cj.seq ?_
              refine Cj.region ?_
              refine J.y (yl_move rfl rfl) rfl rfl rfl ?_
              refine J.y (yl_move rfl rfl) rfl rfl rfl ?_
              refine J.y (yl_index rfl rfl rfl Tryz.underlying9 (by omega) hgetI) rfl rfl rfl ?_
              refine J.y (yl_eql rfl rfl rfl) rfl rfl rfl ?_
              refine J.y (yl_assign rfl rfl) rfl rfl rfl ?_
              refine J.nil ?_
              refine Ej.seq ?_
              refine Cj.cond rfl (fun hc43 => ?_) (fun hc43 => ?_)
              ·
                have hc43p := eq_of_beq hc43
                have h62 : c = 62 := u8_is (d := 62) hc43p
                exact absurd h62 hc62
              ·
                have hc43p := ne_of_beq_false hc43
                have h62 : c ≠ 62 := u8_not (d := 62) hc43p
                have hn2 : ¬ (c = 61 ∧ s[k + 1]? = some 61) := fun h => h61 h.1
                refine Cj.region ?_
                refine J.y (yl_move rfl rfl) rfl rfl rfl ?_
                refine J.y (yl_add rfl rfl rfl (w64 (by omega))) rfl rfl rfl ?_
                refine J.y (yl_assign rfl rfl) rfl rfl rfl ?_
                refine J.nil ?_
                refine Ej.blkNormal ?_
                refine Ej.seq ?_
                refine Cj.region ?_
                refine J.y (yl_move rfl rfl) rfl rfl rfl ?_
                refine J.y (yl_loadAgg rfl rfl Tryz.isAgg50 Tryz.sizeOf50 (Blk.at 0 rfl) rfl rfl) rfl rfl rfl ?_
                refine J.op rfl (op_buildSlice rfl rfl rfl Tryz.underlying47 Tryz.sizeOf50 Tryz.zeroValue50 rfl rfl rfl rfl (LCat.agg rfl LCat.none) ?_)
                intro b44 hb44
                refine J.op rfl (op_append (by' := 31) [_, _] rfl rfl rfl rfl rfl Tryz.underlying47 (.inr ⟨_, Tryz.underlying47⟩) (by kernel_rfl) Tryz.sizeOf50 Tryz.zeroValue50 rfl hg rfl (Src.slice (Blk.at 0 rfl) rfl rfl rfl) (by omega) ?_)
                intro g45 hg45
                refine J.y (yl_assign rfl rfl) rfl rfl rfl ?_
                refine J.nil ?_
                refine Ej.blkNormal ?_
                have hl := (Cq.lex_one hget hbl h34 hpl hc62 hn2)
                have hgt : k < k + 1 := by have := (Cq.lex_len s k hk1 (by rw [hl]; rfl)).1; rw [hl] at this; exact this
                have hpush := hk.push hl rfl
                have hle2 := hpush.le
                refine Ej.keep (Keeps.d (Keeps.d Keeps.r)) ?_
                refine Ej.round (k + 1, outs ++ [⟨1, [c], k⟩], g45) ⟨hpush, by simpa [Cq.tokC, str] using hg45⟩ (by dsimp only; omega) ⟨rfl, by simp only [List.length_append, List.length_cons, List.length_nil]; rfl, rfl, trivial⟩ rfl (by simp [Cq.tokC, str])
  ·
    have hc1p := of_decide_eq_false hc1
    obtain rfl : k = s.length := by omega
    refine Cj.exit ?_
    refine Ej.seqExit ?_
    refine Ej.loopExit ?_
    refine Ej.blkExit ?_
    refine Ej.seq ?_
    refine Cj.seq ?_
    refine Cj.region ?_
    refine J.y (yl_move rfl rfl) rfl rfl rfl ?_
    refine J.y (yl_move rfl rfl) rfl rfl rfl ?_
    refine J.y (yl_lenStr rfl rfl Tryz.underlying9) rfl rfl rfl ?_
    refine J.y (yl_buildS (pl := #[(0, 1), (1, 1), (2, 1)]) rfl rfl Tryz.zeroValue50 rfl Tryz.underlying50 (fun w => by simp [Tryz.sizeOf3, Tryz.sizeOf9]) (LBld.part rfl rfl rfl (LSpl.s (LSpl.s (LSpl.c LSpl.z))) (LBld.part rfl rfl rfl (LSpl.c LSpl.z) LBld.none))) rfl rfl rfl ?_
    refine J.op rfl (op_buildSlice rfl rfl rfl Tryz.underlying47 Tryz.sizeOf50 Tryz.zeroValue50 rfl rfl rfl rfl (LCat.agg rfl LCat.none) ?_)
    intro b46 hb46
    refine J.op rfl (op_append (by' := 31) [_] rfl rfl rfl rfl rfl Tryz.underlying47 (.inr ⟨_, Tryz.underlying47⟩) (by kernel_rfl) Tryz.sizeOf50 Tryz.zeroValue50 rfl hg rfl (Src.slice (Blk.at 0 rfl) rfl rfl rfl) (by omega) ?_)
    intro g47 hg47
    refine J.y (yl_assign rfl rfl) rfl rfl rfl ?_
    refine J.nil ?_
    refine Ej.seq ?_
    refine Cj.ret ?_
    obtain ⟨bb, cc, sp, rfl, hbb⟩ := hg47.some (by omega)
    refine Ej.pull (Pull.s Pull.z) ?_
    refine Ej.persist hbb (fun I9 hle9 hbi => ?_)
    refine Ej.bare ?_
    refine Ej.ret1 rfl rfl rfl ?_
    have hlast := (hk.last (Cq.lex_end s) rfl)
    exact ⟨⟨_, rfl, bb, cc, sp, by rw [hlast]; simp [gV], by rw [hbi, hlast]; simp [Cq.tokC, str]⟩, rfl⟩

end Go.Proofs.YtlfpehljahgbkaaGreatDoor
