/-
  Own texts on the laws of the seat, joined: the logic, and contracts of functions. Conditions: none.
-/
import Derived.Test.YtjcdfnbomkoheaaGreatDoorNmB
import Derived.Test.YtjcdfnbomkoheaaGreatDoorPB16
set_option maxRecDepth 100000
set_option maxHeartbeats 4000000
section
namespace Go.Proofs.YtjcdfnbomkoheaaGreatDoor
open _root_.Go.Proofs.Tryz
open Go Go.Sx
def In64 (a : Int) : Prop := -9223372036854775808 ≤ a ∧ a ≤ 9223372036854775807
theorem td_rng {a : Int} (h : In64 a) (m : Int) (hm : 2 ≤ m) : -4611686018427387904 ≤ a.tdiv m ∧ a.tdiv m ≤ 4611686018427387904 := by
  unfold In64 at h
  have h1 : (a.tdiv m).natAbs = a.natAbs / m.natAbs := Int.natAbs_tdiv a m
  have h2 : a.natAbs / m.natAbs ≤ a.natAbs / 2 := Nat.div_le_div_left (by omega) (by decide)
  omega
theorem mul_small {j : Nat} {m : Int} (hj : j ≤ 3) (h0 : 0 ≤ m) (h1 : m ≤ 2) : 0 ≤ (j : Int) * (1 + m) ∧ (j : Int) * (1 + m) ≤ 9 := by
  match j, hj with
  | 0, _ => simp
  | 1, _ => simp; omega
  | 2, _ => simp; omega
  | 3, _ => simp; omega
abbrev fourC (q : Ix.Four) : List Value := [i64 q.x0, i64 q.x1, i64 q.x2, i64 q.x3]
theorem fourC_len (q : Ix.Four) : (fourC q).length = 4 := rfl
structure FourOk (q : Ix.Four) : Prop where
  h0 : In64 q.x0
  h1 : In64 q.x1
  h2 : In64 q.x2
  h3 : In64 q.x3
theorem get_str {l : List (List UInt8)} {n : Int} (h0 : 0 ≤ n) (h1 : n < (l.length : Int)) : (l.map str)[n.toNat]? = some (str (l.getD n.toNat [])) := by
  have h2 : n.toNat < l.length := by omega
  rw [List.getElem?_map, lgg h2, List.getD_eq_getElem?_getD, lgg h2]; rfl
theorem get_code {l : List UInt8} {n : Int} (h0 : 0 ≤ n) (h1 : n < (l.length : Int)) : l[n.toNat]? = some (l.getD n.toNat 0) := by
  have h2 : n.toNat < l.length := by omega
  rw [lgg h2, List.getD_eq_getElem?_getD, lgg h2]; rfl
theorem nrm_add (fs : List Ke.Fld) (f : Ke.Fld) : Ke.nrm (fs ++ [f]) = Ke.nrm fs ++ [Ke.nrm1 f] := by unfold Ke.nrm; rw [List.map_append]; rfl
theorem nrm_len (fs : List Ke.Fld) : (Ke.nrm fs).length = fs.length := List.length_map _
theorem vals_nrm (fs : List Ke.Fld) : Ix.vals (Ke.nrm fs) = Ix.vals fs := by
  unfold Ix.vals Ke.nrm
  rw [List.flatMap_map]; rfl
def subsN (q : Ix.Four) (n : Nat) : List Ke.Sub := (List.range n).map fun j => Ix.subN q j
theorem subsN_next (q : Ix.Four) (n : Nat) : subsN q (n + 1) = subsN q n ++ [Ix.subN q n] := by unfold subsN; rw [List.range_succ, List.map_append]; rfl
theorem subsN_len (q : Ix.Four) (n : Nat) : (subsN q n).length = n := by unfold subsN; rw [List.length_map, List.length_range]
theorem fld_c {q : Ix.Four} (h : Ix.isC (Ix.tagN q.x0)) : Ix.fldN q = ⟨Ix.tagN q.x0, [], Ix.textN q.x3, .slice none 0 0, []⟩ := if_pos h
theorem fld_d {q : Ix.Four} (h : ¬ Ix.isC (Ix.tagN q.x0)) : Ix.fldN q = ⟨Ix.tagN q.x0, Ix.indsL.getD (q.x1 % 8).toNat [], [], .slice none 0 0, subsN q (1 + (q.x2 % 3).toNat)⟩ := if_neg h
theorem tagN_len (n : Int) : (Ix.tagN n).length ≤ 3 := by
  unfold Ix.tagN
  generalize (n % 20).toNat = k
  rcases Nat.lt_or_ge k 20 with h | h
  · have : ∀ k, k < 20 → (Ix.tagsL.getD k []).length ≤ 3 := by decide
    exact this k h
  rw [List.getD_eq_getElem?_getD, List.getElem?_eq_none (by simpa [Ix.tagsL] using h)]; simp
theorem indN_len (n : Nat) : (Ix.indsL.getD n []).length ≤ 2 := by
  rcases Nat.lt_or_ge n 8 with h | h
  · have : ∀ k, k < 8 → (Ix.indsL.getD k []).length ≤ 2 := by decide
    exact this n h
  rw [List.getD_eq_getElem?_getD, List.getElem?_eq_none (by simpa [Ix.indsL] using h)]; simp
theorem fldN_small (q : Ix.Four) : (Ix.fldN q).subs.length ≤ 3 ∧ textsLen (Ix.fldN q).subs ≤ 51 ∧ (Ix.fldN q).ind.length ≤ 2 := by
  by_cases h : Ix.isC (Ix.tagN q.x0)
  · rw [fld_c h]; exact ⟨by simp, by simp [textsLen], by simp⟩
  rw [fld_d h]
  refine ⟨by dsimp only; rw [subsN_len]; omega, ?_, indN_len _⟩
  dsimp only
  have hn : ∀ n, textsLen (subsN q n) ≤ n * 17 := by
    intro n
    induction n with
    | zero => simp [textsLen, subsN]
    | succ n ih =>
      rw [subsN_next]
      unfold textsLen at ih ⊢
      rw [List.map_append, List.sum_append]
      have h1 : (Ix.subN q n).text.length ≤ 17 := Ix.textN_len _
      simp only [List.map_cons, List.map_nil, List.sum_cons, List.sum_nil]; omega
  have := hn (1 + (q.x2 % 3).toNat)
  omega
theorem made_eok {l : List Ix.Four} {fs : List Ke.Fld} (h : Ke.nrm fs = Ix.madeR l) : EOK fs := by
  have hl : fs.length ≤ 20 := by
    rw [← nrm_len, h]
    unfold Ix.madeR
    rw [List.length_map, List.length_take]; omega
  refine ⟨by omega, fun f hf => ?_⟩
  have h1 : Ke.nrm1 f ∈ Ix.madeR l := by rw [← h]; exact List.mem_map_of_mem hf
  obtain ⟨q, _, he⟩ := List.mem_map.1 h1
  have h2 := fldN_small q
  rw [he] at h2
  exact ⟨by have : f.subs.length ≤ 3 := h2.1; omega, by have : textsLen f.subs ≤ 51 := h2.2.1; omega, by have : f.ind.length ≤ 2 := h2.2.2; omega⟩
theorem perm_front {α : Type} (A S Z : List α) : (S ++ (A ++ Z)).Perm (A ++ (S ++ Z)) := by
  rw [← List.append_assoc, ← List.append_assoc]
  exact List.Perm.append_right Z List.perm_append_comm
def RecN (N : Nat → Prop) (I : Heap) (fs : List Ke.Fld) (v : Value) : Prop := RowN N 31 fldC I fs v ∧ ∀ f ∈ fs, RowN N 65 subC I f.subs f.sv
theorem RecN.mono {N : Nat → Prop} {I I' : Heap} {fs : List Ke.Fld} {v : Value} (h : RecN N I fs v) (hle : Le I I') : RecN N I' fs v := ⟨h.1.mono hle, fun f hf => (h.2 f hf).mono hle⟩
theorem RecN.imp {N M : Nat → Prop} {I : Heap} {fs : List Ke.Fld} {v : Value} (h : RecN N I fs v) (hm : ∀ b, N b → M b) : RecN M I fs v := ⟨h.1.imp hm, fun f hf => (h.2 f hf).imp hm⟩
theorem RecN.rec {N : Nat → Prop} {I : Heap} {fs : List Ke.Fld} {v : Value} (h : RecN N I fs v) : RecS I fs v := ⟨h.1.row, fun f hf => (h.2 f hf).row⟩
def SubsN (N : Nat → Prop) (I : Heap) (fs : List Ke.Fld) : Prop := ∀ f ∈ fs, RowN N 65 subC I f.subs f.sv
theorem SubsN.mono {N : Nat → Prop} {I I' : Heap} {fs : List Ke.Fld} (h : SubsN N I fs) (hle : Le I I') : SubsN N I' fs := fun f hf => (h f hf).mono hle
theorem SubsN.nil {N : Nat → Prop} {I : Heap} : SubsN N I [] := fun _ h => by cases h
theorem SubsN.add {N : Nat → Prop} {I : Heap} {fs : List Ke.Fld} {f : Ke.Fld} (h : SubsN N I fs) (h1 : RowN N 65 subC I f.subs f.sv) : SubsN N I (fs ++ [f]) := fun x hx => by
  rcases List.mem_append.1 hx with g | g
  · exact h x g
  rw [List.mem_singleton.1 g]; exact h1
theorem nMod_ok (n : Int) (m : Int) (hm : 0 < m) (hm2 : m ≤ 1000000000) (I : Heap) : Pure Tryz.prog 67 [i64 n, i64 m] I (i64 (n % m)) := by
 have h1 := Int.tmod_lt_of_pos n hm
 have h2 := Int.lt_tmod_of_pos n hm
 refine Ctr.ob func67 ?_
 intro w0 hw0
 refine Cj.sr (J.z q1 ?_)
 refine J.nssr (J.z q0 ?_)
 refine J.z q0 ?_
 refine J.z (yl_rem rfl rfl rfl (by omega)) ?_
 refine J.z q0 ?_
 refine J.z q7 ?_
 refine J.z q0 ?_
 refine J.z (yl_rem rfl rfl rfl (by omega)) ?_
 refine J.eqv 11 rfl (show _ = i64 (n % m) from (congrArg i64 (mod_eq n hm))) ?_
 refine J.z q1 ?_
 refine J.ns (Cj.ret (q6 ?_))
 exact ⟨rfl, rfl, rfl⟩
theorem nTag_ok (n : Int) (I : Heap) : Pure Tryz.prog 100 [i64 n] I (str (Ix.tagN n)) := by
 refine Ctr.toPure ?_
 refine Ctr.ob func100 ?_
 intro w0 hw0
 refine Cj.sr (J.z q1 ?_)
 refine J.nssr (J.op rfl (op_buildSlice rfl rfl rfl tU28 tS9 tZ9 rfl rfl rfl rfl (LCat.one rfl (LCat.one rfl (LCat.one rfl (LCat.one rfl (LCat.one rfl (LCat.one rfl (LCat.one rfl (LCat.one rfl (LCat.one rfl (LCat.one rfl (LCat.one rfl (LCat.one rfl (LCat.one rfl (LCat.one rfl (LCat.one rfl (LCat.one rfl (LCat.one rfl (LCat.one rfl (LCat.one rfl (LCat.one rfl LCat.none)))))))))))))))))))) ?_))
 intro b1 hb1
 refine J.z q1 ?_
 refine J.nssr (J.z q0 ?_)
 refine J.z q0 ?_
 refine J.z q0 ?_
 refine J.z (q15 tU28) ?_
 refine J.op rfl (op_pure rfl rfl rfl rfl rfl (nMod_ok n 20 (by decide) (by decide) _) ?_)
 refine J.z (yl_indexAddr (off' := (n % 20).toNat) rfl rfl rfl tU28 tS9 (by omega) (by omega) (by omega)) ?_
 refine J.z (yl_load rfl rfl tA9 (Blk.at 0 rfl) (get_str (l := Ix.tagsL) (by omega) (by simp [Ix.tagsL]; omega))) ?_
 refine J.z q1 ?_
 refine J.ns (Cj.ret (Ej.bare ?_))
 refine q6 ?_
 exact ⟨rfl, rfl⟩
theorem nText_ok (n : Int) (I : Heap) : Pure Tryz.prog 34 [i64 n] I (str (Ix.textN n)) := by
 refine Ctr.toPure ?_
 refine Ctr.ob func34 ?_
 intro w0 hw0
 refine Cj.sr (J.z q1 ?_)
 refine J.nssr (J.op rfl (op_buildSlice rfl rfl rfl tU28 tS9 tZ9 rfl rfl rfl rfl (LCat.one rfl (LCat.one rfl (LCat.one rfl (LCat.one rfl (LCat.one rfl (LCat.one rfl (LCat.one rfl (LCat.one rfl (LCat.one rfl (LCat.one rfl (LCat.one rfl (LCat.one rfl (LCat.one rfl (LCat.one rfl (LCat.one rfl (LCat.one rfl (LCat.one rfl (LCat.one rfl (LCat.one rfl (LCat.one rfl LCat.none)))))))))))))))))))) ?_))
 intro b1 hb1
 refine J.z q1 ?_
 refine J.nssr (J.z q0 ?_)
 refine J.z q0 ?_
 refine J.z q0 ?_
 refine J.z (q15 tU28) ?_
 refine J.op rfl (op_pure rfl rfl rfl rfl rfl (nMod_ok n 20 (by decide) (by decide) _) ?_)
 refine J.z (yl_indexAddr (off' := (n % 20).toNat) rfl rfl rfl tU28 tS9 (by omega) (by omega) (by omega)) ?_
 refine J.z (yl_load rfl rfl tA9 (Blk.at 0 rfl) (get_str (l := Ix.textsL) (by omega) (by simp [Ix.textsL]; omega))) ?_
 refine J.z q1 ?_
 refine J.ns (Cj.ret (Ej.bare ?_))
 refine q6 ?_
 exact ⟨rfl, rfl⟩
theorem made_take {α : Type} {l : List α} {k : Nat} (hk : k ≤ l.length) (h : k ≤ 20 ∧ (l.length ≤ k ∨ 20 ≤ k)) : l.take k = l.take 20 := by
  rcases h.2 with g | g
  · rw [List.take_of_length_le g, List.take_of_length_le (by omega)]
  rw [show k = 20 by omega]
theorem nMadeN_ok (l : List Ix.Four) (v : Value) (hok : ∀ q ∈ l, FourOk q) (I : Heap) (hv0 : RowS fourC I l v) : Ctr Tryz.prog 71 [v] I [] (fun e I' H' => ∃ fs w, e = .returned (recV 97 109 w) ∧ RecN (I · = none) I' fs w ∧ Ke.nrm fs = Ix.madeR l ∧ H' = []) := by
 obtain ⟨p, c, rfl, hc, -⟩ := id hv0
 refine Ctr.ob func71 ?_
 intro w0 hw0
 refine Cj.sr (J.op rfl (q44 zeroValue35 ?_))
 intro b1 hb1
 refine J.nssr (J.z (yl_buildS (pl := #[(0, 1), (1, 1), (2, 1)]) rfl rfl zeroValue35 rfl tU35 (fun w => by simp []) (LBld.part rfl rfl rfl (LSpl.c LSpl.z) (LBld.part rfl rfl rfl (LSpl.s (LSpl.c LSpl.z)) LBld.none))) ?_)
 refine J.op rfl (q44 zeroValue35 ?_)
 intro b2 hb2
 refine J.op rfl (q21 0 tS35 (LSpl.c (LSpl.c (LSpl.c LSpl.z))) LSet.z ?_)
 refine J.nsss (Cj.region (J.z q1 ?_))
 refine J.ns (Cj.block (Cj.loop (ι := Nat × Heap × List Ke.Fld × Gs) (fun y => y.1 ≤ l.length ∧ y.1 ≤ 20 ∧ Le I y.2.1 ∧ SubsN (w0.heap.size ≤ ·) y.2.1 y.2.2.1 ∧ Ke.nrm y.2.2.1 = (l.take y.1).map Ix.fldN ∧ y.2.2.1.length = y.1 ∧ gOk w0.heap.size 4 y.2.2.1.length (y.2.2.1.flatMap fldC) y.2.2.2) (fun y => 20 - y.1) (fun y => [(0, .slice p l.length c), (2, ptr b1 0), (3, ptr b2 0), (4, i64 (y.1 : Int))]) (fun y => y.2.1) (fun y => (b2, cel 35 [u8 97, u8 109, gV y.2.2.1.length y.2.2.2]) :: (b1, cel 35 [u8 0, u8 0, .slice none 0 0]) :: gH 31 (y.2.2.1.flatMap fldC) y.2.2.2) (0, _, [], none) ⟨Nat.zero_le _, Nat.zero_le _, Le.refl _, SubsN.nil, rfl, rfl, rfl, rfl⟩ ⟨rfl, rfl, rfl, rfl, trivial⟩ rfl rfl ?_))
 rintro ⟨k, Jh, fs, g⟩ ⟨hk, hk20, hIJ, hS, hN, hfl, hg⟩
 dsimp only at hk hk20 hIJ hS hN hfl hg ⊢
 have hv := hv0.mono hIJ
 refine Cj.seq (Cj.sr (J.z q0 ?_))
 refine J.z q0 ?_
 refine J.z (q15 tU78) ?_
 refine J.z q17 ?_
 refine J.z q0 ?_
 refine q16 14 (fun hg3 => ?_) (fun hg3 => ?_)
 ·
  have hg3p := odt hg3
  refine q5 4 14 true hg3 (q2 q0 ?_)
  refine q5 4 14 true hg3 (q2 q17 ?_)
  refine J.z (q11 hg3) ?_
  refine J.cd (fun hc4 => ?_) (fun hc4 => ?_)
  ·
   have hc4p := odt hc4
   refine Cj.ks (Cj.seq (Cj.block (Cj.seq ?_)))
   have hlt : k < l.length := by omega
   have hlt2 : k < 20 := by omega
   obtain ⟨q, hget⟩ : ∃ x, l[k]? = some x := ⟨_, lgg hlt⟩
   have hq := hok q (lmg hget)
   obtain ⟨p1, c1, hpe, hc1, hp⟩ := id hv
   cases hpe
   obtain ⟨lb, lo, lcs, lty, lfr, sp, rfl, hlb, hld⟩ := hp (ne_nil_of hlt)
   have htl := tagN_len q.x0
   refine Cj.region (J.z q0 ?_)
   refine J.z q0 ?_
   refine J.z (q19 (off' := lo + k * 4) tU78 sizeOf143) ?_
   refine J.z (yl_loadAgg rfl rfl isAgg143 sizeOf143 (Blk.imm hlb) (row_from fourC_len hld hget) rfl) ?_
   refine J.op rfl (q44 zeroValue143 ?_)
   intro b5 hb5
   refine J.op rfl (q21 0 sizeOf143 (LSpl.c (LSpl.c (LSpl.c (LSpl.c LSpl.z)))) LSet.z ?_)
   refine J.nssr (J.z (q35 (off' := 0) tU143 tS3) ?_)
   refine J.z (q18 tA3) ?_
   refine J.op rfl (op_pure rfl rfl rfl rfl rfl (nTag_ok q.x0 _) ?_)
   refine J.z (yl_buildS (pl := #[(0, 1), (1, 1), (2, 1), (3, 1)]) rfl rfl tZ31 rfl tU31 (fun w => by simp []) (LBld.part rfl rfl rfl (LSpl.c LSpl.z) LBld.none)) ?_
   refine J.op rfl (q44 tZ31 ?_)
   intro b6 hb6
   refine J.op rfl (q21 0 tS31 (LSpl.c (LSpl.c (LSpl.c (LSpl.c LSpl.z)))) LSet.z ?_)
   refine J.nsss (Cj.region (J.z (q4 (off' := 0) tU31 tS9) ?_))
   refine J.z (q18 tA9) ?_
   refine J.z (q26 tU9) ?_
   refine J.z (yl_gtr rfl rfl rfl) ?_
   refine J.z q0 ?_
   refine q16 32 (fun hg7 => ?_) (fun hg7 => ?_)
   ·
    have hg7p := odt hg7
    refine q5 4 32 true hg7 (q2 (q4 (off' := 0) tU31 tS9) ?_)
    refine q5 4 32 true hg7 (q2 (q18 tA9) ?_)
    refine J.opG 4 32 true _ rfl rfl rfl hg7 (op_yld (q51 (p := 0) (q := 2) tU9) rfl rfl ?_)
    refine q5 4 32 true hg7 (q2 q31 ?_)
    refine J.z (q11 hg7) ?_
    refine J.cd (fun hc8 => ?_) (fun hc8 => ?_)
    ·
     have hc8p := ebq hc8
     have hC : Ix.isC (Ix.tagN q.x0) := ⟨by omega, by have h := ebq hc8; rw [List.drop_zero] at h; exact h⟩
     refine Cj.sr (J.z (q35 (off' := 3) tU143 tS3) ?_)
     refine J.z (q9 tA3 (Blk.at 1 rfl)) ?_
     refine J.op rfl (op_pure rfl rfl rfl rfl rfl (nText_ok q.x3 _) ?_)
     refine J.z (q4 (off' := 2) tU31 tS9) ?_
     refine J.op rfl (q21 0 tS9 (LSpl.s (LSpl.s (LSpl.c LSpl.z))) LSet.z ?_)
     refine J.nssr (J.z (q4 (off' := 2) tU35 tS33) ?_)
     refine J.z (q9 isAgg33 (Blk.at 2 rfl)) ?_
     refine J.z (q33 tA31 tS31) ?_
     refine J.op rfl (q38 tU33 tS31 tZ31 ?_)
     intro b9 hb9
     refine J.op rfl (op_append (by' := 71) [_, _, _, _, _] rfl rfl rfl rfl rfl tU33 (.inr ⟨_, tU33⟩) (by kernel_rfl) tS31 tZ31 rfl hg rfl (Src.slice (Blk.at 0 rfl) rfl rfl rfl) (by omega) ?_)
     intro g10 hg10
     refine J.z (q4 (off' := 2) tU35 tS33) ?_
     refine J.op rfl (op_store 3 rfl rfl rfl rfl (gV_cells _ _) (gV_one _ _) tS33 rfl rfl (LSpl.s (LSpl.s (LSpl.c LSpl.z))) (LSet.s (LSet.s (LSet.s LSet.z))) ?_)
     refine J.ns (Cj.exit (Ej.seqExit (Ej.blkExit (Ej.seq (Cj.region (J.z q0 ?_))))))
     refine J.z q7 ?_
     refine J.z q1 ?_
     refine J.nil (Ej.keep (Keeps.d (Keeps.d (Keeps.d (Keeps.k (Keeps.k Keeps.r))))) ?_)
     refine Ej.round (k + 1, _, fs ++ [⟨Ix.tagN q.x0, [], Ix.textN q.x3, .slice none 0 0, []⟩], g10) ⟨by dsimp only; omega, by dsimp only; omega, hIJ, SubsN.add hS RowN.nil, by dsimp only; rw [nrm_add, map_next _ hget, hN, fld_c hC]; rfl, by dsimp only; rw [List.length_append, hfl]; rfl, by dsimp only; rw [flat_one, List.length_append]; exact hg10⟩ (by dsimp only; omega) ⟨rfl, rfl, rfl, rfl, trivial⟩ rfl (by dsimp only; rw [flat_one, List.length_append]; rfl)
    have hc8p := nbf hc8
    have hC : ¬ Ix.isC (Ix.tagN q.x0) := fun g => nbf hc8 (by rw [List.drop_zero]; exact g.2)
    refine Cj.ks (Cj.sr (J.op rfl (op_buildSlice rfl rfl rfl tU28 tS9 tZ9 rfl rfl rfl rfl (LCat.one rfl (LCat.one rfl (LCat.one rfl (LCat.one rfl (LCat.one rfl (LCat.one rfl (LCat.one rfl (LCat.one rfl LCat.none)))))))) ?_)))
    intro b11 hb11
    refine J.z (q35 (off' := 1) tU143 tS3) ?_
    refine J.z (q9 tA3 (Blk.at 2 rfl)) ?_
    refine J.op rfl (op_pure rfl rfl rfl rfl rfl (nMod_ok q.x1 8 (by decide) (by decide) _) ?_)
    refine J.z (yl_indexAddr (off' := (q.x1 % 8).toNat) rfl rfl rfl tU28 tS9 (by omega) (by omega) (by omega)) ?_
    refine J.z (yl_load rfl rfl tA9 (Blk.at 0 rfl) (get_str (l := Ix.indsL) (by omega) (by simp [Ix.indsL]; omega))) ?_
    refine J.z (q4 (off' := 1) tU31 tS9) ?_
    refine J.op rfl (q21 1 tS9 (LSpl.s (LSpl.c LSpl.z)) (LSet.s LSet.z) ?_)
    refine J.nss ?_
    obtain ⟨nn, hnn⟩ : ∃ nn : Nat, nn = 1 + (q.x2 % 3).toNat := ⟨_, rfl⟩
    have hn3 : nn ≤ 3 := by omega
    refine Cj.region (J.z (q35 (off' := 2) tU143 tS3) ?_)
    refine J.z (q9 tA3 (Blk.at 2 rfl)) ?_
    refine J.op rfl (op_pure rfl rfl rfl rfl rfl (nMod_ok q.x2 3 (by decide) (by decide) _) ?_)
    refine J.z q7 ?_
    refine J.eqv 58 rfl (show _ = i64 (nn : Int) from (congrArg i64 (by omega))) ?_
    refine J.z q1 ?_
    refine J.nsss (Cj.keep (Keeps.d Keeps.r) ?_)
    refine Cj.region (J.z q1 ?_)
    refine J.ns (Cj.block (Cj.keep (Keeps.k (Keeps.k (Keeps.k (Keeps.k Keeps.r)))) ?_))
    refine Cj.loop (ι := Nat × Gs) (fun y => y.1 ≤ nn ∧ gOk w0.heap.size 2 (subsN q y.1).length ((subsN q y.1).flatMap subC) y.2) (fun y => nn - y.1) (fun y => [(0, .slice (some ⟨lb, lo, none⟩) l.length c), (2, ptr b1 0), (3, ptr b2 0), (4, i64 (k : Int)), (5, ptr b5 0), (6, ptr b6 0), (7, i64 (nn : Int)), (8, i64 (y.1 : Int))]) (fun y => _) (fun y => (b6, cel 31 [str (Ix.tagN q.x0), str (Ix.indsL.getD (q.x1 % 8).toNat []), str [], gV (subsN q y.1).length y.2]) :: (b5, cel 143 (fourC q)) :: (b2, cel 35 [u8 97, u8 109, gV fs.length g]) :: (b1, cel 35 [u8 0, u8 0, .slice none 0 0]) :: (gH 65 ((subsN q y.1).flatMap subC) y.2 ++ gH 31 (fs.flatMap fldC) g)) (0, none) ⟨Nat.zero_le _, rfl, rfl⟩ ⟨rfl, rfl, rfl, rfl, rfl, rfl, rfl, rfl, trivial⟩ rfl rfl ?_
    rintro ⟨j, g2⟩ ⟨hj, hgs⟩
    dsimp only at hj hgs ⊢
    have hsl := subsN_len q j
    refine Cj.seq (Cj.sr (J.z q0 ?_))
    refine J.z q0 ?_
    refine J.z q17 ?_
    refine J.cd (fun hc12 => ?_) (fun hc12 => ?_)
    ·
     have hc12p := odt hc12
     refine Cj.ks (Cj.seq (Cj.block (Cj.drawSel [0, 1, 2, 3] [] 24 (by kernel_rfl) ?_)))
     have hlb_15 := hlb
     refine JA.fix ⟨(HSub.c 0 rfl (HSub.c 1 rfl (HSub.c 2 rfl (HSub.c 3 rfl HSub.n)))), CSub.n, (Le.refl _)⟩ (fun fx13 => ?_)
     refine JA.tk 0 rfl fx13 (q4 (off' := 3) tU31 tS29) ?_
     refine JA.tk 1 rfl fx13 (q9 tA29 (Blk.atC 0 rfl)) ?_
     refine JA.tk 2 rfl fx13 (q35 (off' := 2) tU143 tS3) ?_
     refine JA.tk 3 rfl fx13 (q9 tA3 (Blk.atC 1 rfl)) ?_
     refine JA.tk 4 rfl fx13 (yl_quo rfl rfl rfl (by decide) (w64 (by have h := td_rng hq.h2 3 (by decide); omega))) ?_
     refine JA.tk 5 rfl fx13 q0 ?_
     refine JA.tk 6 rfl fx13 (q35 (off' := 1) tU143 tS3) ?_
     refine JA.tk 7 rfl fx13 (q9 tA3 (Blk.atC 1 rfl)) ?_
     refine JA.tk 14 rfl fx13 (q35 (off' := 3) tU143 tS3) ?_
     refine JA.tk 15 rfl fx13 (q9 tA3 (Blk.atC 1 rfl)) ?_
     refine JA.tk 16 rfl fx13 q0 ?_
     refine JA.tk 17 rfl fx13 (yl_mul rfl rfl rfl (w64 (by omega))) ?_
     refine JA.tk 18 rfl fx13 (yl_addW rfl rfl rfl) ?_
     refine q14 8 rfl (op_pure rfl rfl rfl rfl rfl (nMod_ok q.x1 3 (by decide) (by decide) _) ?_)
     refine ⟨⟨(Le.refl _), (HSub.c 0 rfl (HSub.c 1 rfl (HSub.c 2 rfl (HSub.c 3 rfl HSub.n)))), CSub.n⟩, ?_⟩
     refine JA.fix ⟨(HSub.c 0 rfl (HSub.c 1 rfl (HSub.c 2 rfl (HSub.c 3 rfl HSub.n)))), CSub.n, (Le.refl _)⟩ (fun fx14 => ?_)
     refine JA.tk 9 rfl fx14 q7 ?_
     refine JA.tk 10 rfl fx14 (yl_mul rfl rfl rfl (w64 (by have h := mul_small (j := j) (m := q.x1 % 3) (by omega) (by omega) (by omega); omega))) ?_
     refine JA.tk 11 rfl fx14 (yl_add rfl rfl rfl (w64 (by have h := td_rng hq.h2 3 (by decide); have h2 := mul_small (j := j) (m := q.x1 % 3) (by omega) (by omega) (by omega); omega))) ?_
     refine q14 12 rfl (op_pure rfl rfl rfl rfl rfl (nMod_ok (q.x2.tdiv 3 + (j : Int) * (1 + q.x1 % 3)) 8 (by decide) (by decide) _) ?_)
     refine ⟨⟨(Le.refl _), (HSub.c 0 rfl (HSub.c 1 rfl (HSub.c 2 rfl (HSub.c 3 rfl HSub.n)))), CSub.n⟩, ?_⟩
     refine JA.fix ⟨(HSub.c 0 rfl (HSub.c 1 rfl (HSub.c 2 rfl (HSub.c 3 rfl HSub.n)))), CSub.n, (Le.refl _)⟩ (fun fx15 => ?_)
     refine JA.tk 13 rfl fx15 (yl_index rfl rfl rfl tU9 (by omega) (get_code (l := Ix.codesL) (by omega) (by simp [Ix.codesL]; omega))) ?_
     refine q14 19 rfl (op_pure rfl rfl rfl rfl rfl (nText_ok _ _) ?_)
     refine ⟨⟨(Le.refl _), (HSub.c 0 rfl (HSub.c 1 rfl (HSub.c 2 rfl (HSub.c 3 rfl HSub.n)))), CSub.n⟩, ?_⟩
     refine JA.fix ⟨(HSub.c 0 rfl (HSub.c 1 rfl (HSub.c 2 rfl (HSub.c 3 rfl HSub.n)))), CSub.n, (Le.refl _)⟩ (fun fx16 => ?_)
     refine JA.tk 20 rfl fx16 (yl_buildS (pl := #[(0, 1), (1, 1)]) rfl rfl tZ65 rfl tU65 (fun w => by simp []) (LBld.part rfl rfl rfl (LSpl.c LSpl.z) (LBld.part rfl rfl rfl (LSpl.s (LSpl.c LSpl.z)) LBld.none))) ?_
     refine q14 21 rfl (q38 tU29 tS65 tZ65 ?_)
     intro b17 hb17
     refine ⟨⟨(Le.refl _), (HSub.c 1 rfl (HSub.c 2 rfl (HSub.c 3 rfl (HSub.c 4 rfl HSub.n)))), CSub.n⟩, ?_⟩
     refine JA.perm (H' := [_, _, _, _, _] ++ (gH _ _ _ ++ gH _ _ _)) (perm_swap [_, _, _, _, _] _ _) ?_
     refine q14 22 rfl (op_append (by' := 23) ([_, _, _, _, _] ++ gH _ _ _) rfl rfl rfl rfl rfl tU29 (.inr ⟨_, tU29⟩) (by kernel_rfl) tS65 tZ65 rfl hgs rfl (Src.slice (Blk.at 0 rfl) rfl rfl rfl) (by omega) ?_)
     intro g18 hg18
     refine ⟨⟨(Le.refl _), (HSub.c 1 rfl (HSub.c 2 rfl (HSub.c 3 rfl (HSub.c 4 rfl HSub.n)))), CSub.n⟩, ?_⟩
     refine JA.fix ⟨(HSub.c 1 rfl (HSub.c 2 rfl (HSub.c 3 rfl (HSub.c 4 rfl HSub.n)))), CSub.n, (Le.refl _)⟩ (fun fx19 => ?_)
     refine JA.tk 23 rfl fx19 (q4 (off' := 3) tU31 tS29) ?_
     refine JA.last 24 (by kernel_rfl) rfl rfl rfl (op_store 1 rfl rfl rfl rfl (gV_cells _ _) (gV_one _ _) tS29 rfl rfl (LSpl.s (LSpl.s (LSpl.s (LSpl.c LSpl.z)))) (LSet.s LSet.z) ?_)
     refine q13 ?_
     refine Ej.blkNormal (Ej.seq (Cj.region (J.z q0 ?_)))
     refine J.z q7 ?_
     refine J.z q1 ?_
     refine J.nil (Ej.perm (perm_swap [_, _, _, _, _] (gH _ _ _) (gH _ _ _)) ?_)
     refine Ej.keep (Keeps.d (Keeps.k (Keeps.k (Keeps.k (Keeps.k Keeps.r))))) ?_
     refine Ej.round (j + 1, g18) ⟨by dsimp only; omega, by dsimp only; rw [subsN_next, List.length_append, List.flatMap_append]; exact hg18⟩ (by dsimp only; omega) ⟨rfl, rfl, rfl, rfl, rfl, rfl, rfl, rfl, trivial⟩ rfl (by dsimp only; rw [subsN_next, List.length_append, List.flatMap_append]; rfl)
    have hc12p := odf hc12
    refine Cj.xl ?_
    have hjn : j = nn := by omega
    subst hjn
    refine Cj.perm (perm_front [_, _, _, _] (gH _ _ _) (gH _ _ _)) ?_
    refine Cj.keepN subC_len (by decide) hgs rfl (fun I8 hle8 hss => ?_)
    have hIJ := hIJ.mono hle8
    have hS := hS.mono hle8
    refine Cj.region (J.z (q4 (off' := 2) tU35 tS33) ?_)
    refine J.z (q9 isAgg33 (Blk.at 2 rfl)) ?_
    refine J.z (q33 tA31 tS31) ?_
    refine J.op rfl (q38 tU33 tS31 tZ31 ?_)
    intro b20 hb20
    refine J.op rfl (op_append (by' := 71) [_, _, _, _, _] rfl rfl rfl rfl rfl tU33 (.inr ⟨_, tU33⟩) (by kernel_rfl) tS31 tZ31 rfl hg rfl (Src.slice (Blk.at 0 rfl) rfl rfl (by show [str (Ix.tagN q.x0), str (Ix.indsL.getD (q.x1 % 8).toNat []), str [], gV _ _].all Value.oneCell' = true; simp only [List.all_cons, List.all_nil, gV_one', Bool.and_true]; rfl)) (by omega) ?_)
    intro g21 hg21
    refine J.z (q4 (off' := 2) tU35 tS33) ?_
    refine J.op rfl (op_store 3 rfl rfl rfl rfl (gV_cells _ _) (gV_one _ _) tS33 rfl rfl (LSpl.s (LSpl.s (LSpl.c LSpl.z))) (LSet.s (LSet.s (LSet.s LSet.z))) ?_)
    refine J.nb (Cj.region (J.z q0 ?_))
    refine J.z q7 ?_
    refine J.z q1 ?_
    refine J.nil (Ej.keep (Keeps.d (Keeps.d (Keeps.d (Keeps.k (Keeps.k Keeps.r))))) ?_)
    refine Ej.round (k + 1, _, fs ++ [⟨Ix.tagN q.x0, Ix.indsL.getD (q.x1 % 8).toNat [], [], gV (subsN q j).length g2, subsN q j⟩], g21) ⟨by dsimp only; omega, by dsimp only; omega, hIJ, SubsN.add hS hss, by dsimp only; rw [nrm_add, map_next _ hget, hN, fld_d hC, ← hnn]; rfl, by dsimp only; rw [List.length_append, hfl]; rfl, by dsimp only; rw [flat_one, List.length_append]; exact hg21⟩ (by dsimp only; omega) ⟨rfl, rfl, rfl, rfl, trivial⟩ rfl (by dsimp only; rw [flat_one, List.length_append]; rfl)
   have hg7p := odf hg7
   have hC : ¬ Ix.isC (Ix.tagN q.x0) := fun g => by have h := odf hg7; have := g.1; omega
   refine q3 4 32 33 true hg7 ?_
   refine q3 4 32 34 true hg7 ?_
   refine q3 4 32 35 true hg7 ?_
   refine q3 4 32 36 true hg7 ?_
   refine J.z (q10 hg7) ?_
   refine J.c0 (fun hc22 => ?_)
   refine Cj.ks (Cj.sr (J.op rfl (op_buildSlice rfl rfl rfl tU28 tS9 tZ9 rfl rfl rfl rfl (LCat.one rfl (LCat.one rfl (LCat.one rfl (LCat.one rfl (LCat.one rfl (LCat.one rfl (LCat.one rfl (LCat.one rfl LCat.none)))))))) ?_)))
   intro b23 hb23
   refine J.z (q35 (off' := 1) tU143 tS3) ?_
   refine J.z (q9 tA3 (Blk.at 2 rfl)) ?_
   refine J.op rfl (op_pure rfl rfl rfl rfl rfl (nMod_ok q.x1 8 (by decide) (by decide) _) ?_)
   refine J.z (yl_indexAddr (off' := (q.x1 % 8).toNat) rfl rfl rfl tU28 tS9 (by omega) (by omega) (by omega)) ?_
   refine J.z (yl_load rfl rfl tA9 (Blk.at 0 rfl) (get_str (l := Ix.indsL) (by omega) (by simp [Ix.indsL]; omega))) ?_
   refine J.z (q4 (off' := 1) tU31 tS9) ?_
   refine J.op rfl (q21 1 tS9 (LSpl.s (LSpl.c LSpl.z)) (LSet.s LSet.z) ?_)
   refine J.nss ?_
   obtain ⟨nn, hnn⟩ : ∃ nn : Nat, nn = 1 + (q.x2 % 3).toNat := ⟨_, rfl⟩
   have hn3 : nn ≤ 3 := by omega
   refine Cj.region (J.z (q35 (off' := 2) tU143 tS3) ?_)
   refine J.z (q9 tA3 (Blk.at 2 rfl)) ?_
   refine J.op rfl (op_pure rfl rfl rfl rfl rfl (nMod_ok q.x2 3 (by decide) (by decide) _) ?_)
   refine J.z q7 ?_
   refine J.eqv 58 rfl (show _ = i64 (nn : Int) from (congrArg i64 (by omega))) ?_
   refine J.z q1 ?_
   refine J.nsss (Cj.keep (Keeps.d Keeps.r) ?_)
   refine Cj.region (J.z q1 ?_)
   refine J.ns (Cj.block (Cj.keep (Keeps.k (Keeps.k (Keeps.k (Keeps.k Keeps.r)))) ?_))
   refine Cj.loop (ι := Nat × Gs) (fun y => y.1 ≤ nn ∧ gOk w0.heap.size 2 (subsN q y.1).length ((subsN q y.1).flatMap subC) y.2) (fun y => nn - y.1) (fun y => [(0, .slice (some ⟨lb, lo, none⟩) l.length c), (2, ptr b1 0), (3, ptr b2 0), (4, i64 (k : Int)), (5, ptr b5 0), (6, ptr b6 0), (7, i64 (nn : Int)), (8, i64 (y.1 : Int))]) (fun y => _) (fun y => (b6, cel 31 [str (Ix.tagN q.x0), str (Ix.indsL.getD (q.x1 % 8).toNat []), str [], gV (subsN q y.1).length y.2]) :: (b5, cel 143 (fourC q)) :: (b2, cel 35 [u8 97, u8 109, gV fs.length g]) :: (b1, cel 35 [u8 0, u8 0, .slice none 0 0]) :: (gH 65 ((subsN q y.1).flatMap subC) y.2 ++ gH 31 (fs.flatMap fldC) g)) (0, none) ⟨Nat.zero_le _, rfl, rfl⟩ ⟨rfl, rfl, rfl, rfl, rfl, rfl, rfl, rfl, trivial⟩ rfl rfl ?_
   rintro ⟨j, g2⟩ ⟨hj, hgs⟩
   dsimp only at hj hgs ⊢
   have hsl := subsN_len q j
   refine Cj.seq (Cj.sr (J.z q0 ?_))
   refine J.z q0 ?_
   refine J.z q17 ?_
   refine J.cd (fun hc24 => ?_) (fun hc24 => ?_)
   ·
    have hc24p := odt hc24
    refine Cj.ks (Cj.seq (Cj.block (Cj.drawSel [0, 1, 2, 3] [] 24 (by kernel_rfl) ?_)))
    have hlb_15 := hlb
    refine JA.fix ⟨(HSub.c 0 rfl (HSub.c 1 rfl (HSub.c 2 rfl (HSub.c 3 rfl HSub.n)))), CSub.n, (Le.refl _)⟩ (fun fx25 => ?_)
    refine JA.tk 0 rfl fx25 (q4 (off' := 3) tU31 tS29) ?_
    refine JA.tk 1 rfl fx25 (q9 tA29 (Blk.atC 0 rfl)) ?_
    refine JA.tk 2 rfl fx25 (q35 (off' := 2) tU143 tS3) ?_
    refine JA.tk 3 rfl fx25 (q9 tA3 (Blk.atC 1 rfl)) ?_
    refine JA.tk 4 rfl fx25 (yl_quo rfl rfl rfl (by decide) (w64 (by have h := td_rng hq.h2 3 (by decide); omega))) ?_
    refine JA.tk 5 rfl fx25 q0 ?_
    refine JA.tk 6 rfl fx25 (q35 (off' := 1) tU143 tS3) ?_
    refine JA.tk 7 rfl fx25 (q9 tA3 (Blk.atC 1 rfl)) ?_
    refine JA.tk 14 rfl fx25 (q35 (off' := 3) tU143 tS3) ?_
    refine JA.tk 15 rfl fx25 (q9 tA3 (Blk.atC 1 rfl)) ?_
    refine JA.tk 16 rfl fx25 q0 ?_
    refine JA.tk 17 rfl fx25 (yl_mul rfl rfl rfl (w64 (by omega))) ?_
    refine JA.tk 18 rfl fx25 (yl_addW rfl rfl rfl) ?_
    refine q14 8 rfl (op_pure rfl rfl rfl rfl rfl (nMod_ok q.x1 3 (by decide) (by decide) _) ?_)
    refine ⟨⟨(Le.refl _), (HSub.c 0 rfl (HSub.c 1 rfl (HSub.c 2 rfl (HSub.c 3 rfl HSub.n)))), CSub.n⟩, ?_⟩
    refine JA.fix ⟨(HSub.c 0 rfl (HSub.c 1 rfl (HSub.c 2 rfl (HSub.c 3 rfl HSub.n)))), CSub.n, (Le.refl _)⟩ (fun fx26 => ?_)
    refine JA.tk 9 rfl fx26 q7 ?_
    refine JA.tk 10 rfl fx26 (yl_mul rfl rfl rfl (w64 (by have h := mul_small (j := j) (m := q.x1 % 3) (by omega) (by omega) (by omega); omega))) ?_
    refine JA.tk 11 rfl fx26 (yl_add rfl rfl rfl (w64 (by have h := td_rng hq.h2 3 (by decide); have h2 := mul_small (j := j) (m := q.x1 % 3) (by omega) (by omega) (by omega); omega))) ?_
    refine q14 12 rfl (op_pure rfl rfl rfl rfl rfl (nMod_ok (q.x2.tdiv 3 + (j : Int) * (1 + q.x1 % 3)) 8 (by decide) (by decide) _) ?_)
    refine ⟨⟨(Le.refl _), (HSub.c 0 rfl (HSub.c 1 rfl (HSub.c 2 rfl (HSub.c 3 rfl HSub.n)))), CSub.n⟩, ?_⟩
    refine JA.fix ⟨(HSub.c 0 rfl (HSub.c 1 rfl (HSub.c 2 rfl (HSub.c 3 rfl HSub.n)))), CSub.n, (Le.refl _)⟩ (fun fx27 => ?_)
    refine JA.tk 13 rfl fx27 (yl_index rfl rfl rfl tU9 (by omega) (get_code (l := Ix.codesL) (by omega) (by simp [Ix.codesL]; omega))) ?_
    refine q14 19 rfl (op_pure rfl rfl rfl rfl rfl (nText_ok _ _) ?_)
    refine ⟨⟨(Le.refl _), (HSub.c 0 rfl (HSub.c 1 rfl (HSub.c 2 rfl (HSub.c 3 rfl HSub.n)))), CSub.n⟩, ?_⟩
    refine JA.fix ⟨(HSub.c 0 rfl (HSub.c 1 rfl (HSub.c 2 rfl (HSub.c 3 rfl HSub.n)))), CSub.n, (Le.refl _)⟩ (fun fx28 => ?_)
    refine JA.tk 20 rfl fx28 (yl_buildS (pl := #[(0, 1), (1, 1)]) rfl rfl tZ65 rfl tU65 (fun w => by simp []) (LBld.part rfl rfl rfl (LSpl.c LSpl.z) (LBld.part rfl rfl rfl (LSpl.s (LSpl.c LSpl.z)) LBld.none))) ?_
    refine q14 21 rfl (q38 tU29 tS65 tZ65 ?_)
    intro b29 hb29
    refine ⟨⟨(Le.refl _), (HSub.c 1 rfl (HSub.c 2 rfl (HSub.c 3 rfl (HSub.c 4 rfl HSub.n)))), CSub.n⟩, ?_⟩
    refine JA.perm (H' := [_, _, _, _, _] ++ (gH _ _ _ ++ gH _ _ _)) (perm_swap [_, _, _, _, _] _ _) ?_
    refine q14 22 rfl (op_append (by' := 23) ([_, _, _, _, _] ++ gH _ _ _) rfl rfl rfl rfl rfl tU29 (.inr ⟨_, tU29⟩) (by kernel_rfl) tS65 tZ65 rfl hgs rfl (Src.slice (Blk.at 0 rfl) rfl rfl rfl) (by omega) ?_)
    intro g30 hg30
    refine ⟨⟨(Le.refl _), (HSub.c 1 rfl (HSub.c 2 rfl (HSub.c 3 rfl (HSub.c 4 rfl HSub.n)))), CSub.n⟩, ?_⟩
    refine JA.fix ⟨(HSub.c 1 rfl (HSub.c 2 rfl (HSub.c 3 rfl (HSub.c 4 rfl HSub.n)))), CSub.n, (Le.refl _)⟩ (fun fx31 => ?_)
    refine JA.tk 23 rfl fx31 (q4 (off' := 3) tU31 tS29) ?_
    refine JA.last 24 (by kernel_rfl) rfl rfl rfl (op_store 1 rfl rfl rfl rfl (gV_cells _ _) (gV_one _ _) tS29 rfl rfl (LSpl.s (LSpl.s (LSpl.s (LSpl.c LSpl.z)))) (LSet.s LSet.z) ?_)
    refine q13 ?_
    refine Ej.blkNormal (Ej.seq (Cj.region (J.z q0 ?_)))
    refine J.z q7 ?_
    refine J.z q1 ?_
    refine J.nil (Ej.perm (perm_swap [_, _, _, _, _] (gH _ _ _) (gH _ _ _)) ?_)
    refine Ej.keep (Keeps.d (Keeps.k (Keeps.k (Keeps.k (Keeps.k Keeps.r))))) ?_
    refine Ej.round (j + 1, g30) ⟨by dsimp only; omega, by dsimp only; rw [subsN_next, List.length_append, List.flatMap_append]; exact hg30⟩ (by dsimp only; omega) ⟨rfl, rfl, rfl, rfl, rfl, rfl, rfl, rfl, trivial⟩ rfl (by dsimp only; rw [subsN_next, List.length_append, List.flatMap_append]; rfl)
   have hc24p := odf hc24
   refine Cj.xl ?_
   have hjn : j = nn := by omega
   subst hjn
   refine Cj.perm (perm_front [_, _, _, _] (gH _ _ _) (gH _ _ _)) ?_
   refine Cj.keepN subC_len (by decide) hgs rfl (fun I8 hle8 hss => ?_)
   have hIJ := hIJ.mono hle8
   have hS := hS.mono hle8
   refine Cj.region (J.z (q4 (off' := 2) tU35 tS33) ?_)
   refine J.z (q9 isAgg33 (Blk.at 2 rfl)) ?_
   refine J.z (q33 tA31 tS31) ?_
   refine J.op rfl (q38 tU33 tS31 tZ31 ?_)
   intro b32 hb32
   refine J.op rfl (op_append (by' := 71) [_, _, _, _, _] rfl rfl rfl rfl rfl tU33 (.inr ⟨_, tU33⟩) (by kernel_rfl) tS31 tZ31 rfl hg rfl (Src.slice (Blk.at 0 rfl) rfl rfl (by show [str (Ix.tagN q.x0), str (Ix.indsL.getD (q.x1 % 8).toNat []), str [], gV _ _].all Value.oneCell' = true; simp only [List.all_cons, List.all_nil, gV_one', Bool.and_true]; rfl)) (by omega) ?_)
   intro g33 hg33
   refine J.z (q4 (off' := 2) tU35 tS33) ?_
   refine J.op rfl (op_store 3 rfl rfl rfl rfl (gV_cells _ _) (gV_one _ _) tS33 rfl rfl (LSpl.s (LSpl.s (LSpl.c LSpl.z))) (LSet.s (LSet.s (LSet.s LSet.z))) ?_)
   refine J.nb (Cj.region (J.z q0 ?_))
   refine J.z q7 ?_
   refine J.z q1 ?_
   refine J.nil (Ej.keep (Keeps.d (Keeps.d (Keeps.d (Keeps.k (Keeps.k Keeps.r))))) ?_)
   refine Ej.round (k + 1, _, fs ++ [⟨Ix.tagN q.x0, Ix.indsL.getD (q.x1 % 8).toNat [], [], gV (subsN q j).length g2, subsN q j⟩], g33) ⟨by dsimp only; omega, by dsimp only; omega, hIJ, SubsN.add hS hss, by dsimp only; rw [nrm_add, map_next _ hget, hN, fld_d hC, ← hnn]; rfl, by dsimp only; rw [List.length_append, hfl]; rfl, by dsimp only; rw [flat_one, List.length_append]; exact hg33⟩ (by dsimp only; omega) ⟨rfl, rfl, rfl, rfl, trivial⟩ rfl (by dsimp only; rw [flat_one, List.length_append]; rfl)
  have hc4p := odf hc4
  refine Cj.xl (Cj.sr (J.z (q33 isAgg35 tS35) ?_))
  refine J.op rfl (op_store 1 rfl rfl rfl rfl rfl (by show [u8 97, u8 109, gV _ _].all Value.oneCell' = true; simp only [List.all_cons, List.all_nil, gV_one', Bool.and_true]; rfl) tS35 rfl rfl (LSpl.c (LSpl.c (LSpl.c LSpl.z))) (LSet.s LSet.z) ?_)
  refine J.ns (Cj.ret ?_)
  have hmade : Ke.nrm fs = Ix.madeR l := by rw [hN]; unfold Ix.madeR; rw [made_take hk (by omega)]
  refine Ej.perm (H' := gH _ _ _ ++ [_, _]) List.perm_append_comm ?_
  refine Ej.keepN fldC_len (by decide) hg rfl (fun I9 hle9 hfs => ?_)
  refine Ej.retC (Keeps.d (Keeps.d Keeps.n)) rfl rfl rfl (Blk.at 1 rfl) isAgg35 tS35 rfl ?_
  exact ⟨fs, _, rfl, RecN.imp ⟨hfs, fun f hf => ((hS f hf).mono hle9)⟩ (fun b hb => hw0.dom hb), hmade, rfl⟩
 have hg3p := odf hg3
 refine q3 4 14 15 true hg3 ?_
 refine q3 4 14 16 true hg3 ?_
 refine J.z (q10 hg3) ?_
 refine J.c0 (fun hc34 => ?_)
 refine Cj.xl (Cj.sr (J.z (q33 isAgg35 tS35) ?_))
 refine J.op rfl (op_store 1 rfl rfl rfl rfl rfl (by show [u8 97, u8 109, gV _ _].all Value.oneCell' = true; simp only [List.all_cons, List.all_nil, gV_one', Bool.and_true]; rfl) tS35 rfl rfl (LSpl.c (LSpl.c (LSpl.c LSpl.z))) (LSet.s LSet.z) ?_)
 refine J.ns (Cj.ret ?_)
 have hmade : Ke.nrm fs = Ix.madeR l := by rw [hN]; unfold Ix.madeR; rw [made_take hk (by omega)]
 refine Ej.perm (H' := gH _ _ _ ++ [_, _]) List.perm_append_comm ?_
 refine Ej.keepN fldC_len (by decide) hg rfl (fun I9 hle9 hfs => ?_)
 refine Ej.retC (Keeps.d (Keeps.d Keeps.n)) rfl rfl rfl (Blk.at 1 rfl) isAgg35 tS35 rfl ?_
 exact ⟨fs, _, rfl, RecN.imp ⟨hfs, fun f hf => ((hS f hf).mono hle9)⟩ (fun b hb => hw0.dom hb), hmade, rfl⟩
structure Act where
  a : Ix.ActL
  v : Value
def actC (x : Act) : List Value := [.bool x.a.drop, i64 x.a.src, i64 x.a.num, x.v]
theorem actC_len (x : Act) : (actC x).length = 4 := rfl
def ActsS (I : Heap) (xs : List Act) (v : Value) : Prop := RowS actC I xs v ∧ ∀ x ∈ xs, RowS fourC I x.a.fs x.v
theorem ActsS.mono {I I' : Heap} {xs : List Act} {v : Value} (h : ActsS I xs v) (hle : Le I I') : ActsS I' xs v := ⟨h.1.mono hle, fun x hx => (h.2 x hx).mono hle⟩
def ActsOk (xs : List Act) : Prop := ∀ x ∈ xs, ∀ q ∈ x.a.fs, FourOk q
abbrev acts (xs : List Act) : List Ix.ActL := xs.map (·.a)
theorem take_min {α : Type} (l : List α) : l.take (min l.length 8) = l.take 8 := by
  rcases Nat.le_total l.length 8 with h | h
  · rw [Nat.min_eq_left h, List.take_of_length_le h, List.take_of_length_le (Nat.le_refl _)]
  rw [Nat.min_eq_right h]
structure IsEnt (I : Heap) (a : Ix.ActL) (e : Ent) : Prop where
  t : e.t = a.title
  r : RecS I e.fs e.v
  n : Ke.nrm e.fs = a.record
structure IsEntN (N : Nat → Prop) (I : Heap) (a : Ix.ActL) (e : Ent) : Prop where
  t : e.t = a.title
  r : RecN N I e.fs e.v
  n : Ke.nrm e.fs = a.record
theorem IsEntN.ent {N : Nat → Prop} {I : Heap} {a : Ix.ActL} {e : Ent} (h : IsEntN N I a e) : IsEnt I a e := ⟨h.t, h.r.rec, h.n⟩
theorem IsEnt.vals {I : Heap} {a : Ix.ActL} {e : Ent} (h : IsEnt I a e) : Ix.vals e.fs = a.vs := by rw [← vals_nrm, h.n]; rfl
theorem IsEnt.l {I : Heap} {a : Ix.ActL} {e : Ent} (h : IsEnt I a e) : entL e = (a.title, a.vs) := Prod.ext h.t h.vals
theorem IsEnt.eok {I : Heap} {a : Ix.ActL} {e : Ent} (h : IsEnt I a e) : EOK e.fs := made_eok h.n
theorem IsEnt.one {I : Heap} {a : Ix.ActL} {e : Ent} (h : IsEnt I a e) : (entC e).all Value.oneCell' = true := by
  obtain ⟨p, c, he⟩ := RowS.len h.r.1
  exact ent_one he
theorem EntryN_ok (x : Act) (hok : ∀ q ∈ x.a.fs, FourOk q) (I : Heap) (hv : RowS fourC I x.a.fs x.v) : Ctr Tryz.prog 41 [.agg (actC x).toArray] I [] (fun ev I' H' => ∃ e, ev = .returned (.agg (entC e).toArray) ∧ IsEntN (I · = none) I' x.a e ∧ H' = []) := by
 obtain ⟨p, c, hxv⟩ := RowS.len hv
 have hcap : x.a.fs.length ≤ c := by obtain ⟨p1, c1, h1, h2, _⟩ := hv; rw [hxv] at h1; cases h1; exact h2
 have hrow : RowS fourC I (x.a.fs.take 8) (.slice p (min x.a.fs.length 8) c) := by rw [← take_min]; rw [hxv] at hv; exact hv.take (Nat.min_le_left _ _)
 refine Ctr.ob func41 ?_
 intro w0 hw0
 refine Cj.sr (J.op rfl (q29 ?_))
 intro b1 hb1
 refine J.op rfl (q44 tZ37 ?_)
 intro b2 hb2
 refine J.nss (Cj.drawSel [0, 1] [] 14 (by kernel_rfl) ?_)
 refine JA.fix ⟨(HSub.c 0 rfl (HSub.c 1 rfl HSub.n)), CSub.n, (Le.refl _)⟩ (fun fx3 => ?_)
 refine JA.tk 0 rfl fx3 (q4 (off' := 1) tU80 tS3) ?_
 refine JA.tk 1 rfl fx3 (q9 tA3 (Blk.atC 1 rfl)) ?_
 refine JA.tk 2 rfl fx3 (q4 (off' := 2) tU80 tS3) ?_
 refine JA.tk 3 rfl fx3 (q9 tA3 (Blk.atC 1 rfl)) ?_
 refine JA.tk 4 rfl fx3 (yl_buildS (pl := #[(0, 1), (1, 1)]) rfl rfl tZ26 rfl tU26 (fun w => by simp []) (LBld.part rfl rfl rfl (LSpl.c LSpl.z) (LBld.part rfl rfl rfl (LSpl.s (LSpl.c LSpl.z)) LBld.none))) ?_
 refine JA.tk 5 rfl fx3 (q4 (off' := 3) tU80 sizeOf78) ?_
 refine JA.tk 6 rfl fx3 (q9 isAgg78 (Blk.atC 1 rfl)) ?_
 refine JA.eqv 9 rfl (show _ = .slice p x.a.fs.length c from hxv) ?_
 refine JA.tk 7 rfl fx3 (q4 (off' := 3) tU80 sizeOf78) ?_
 refine JA.tk 8 rfl fx3 (q9 isAgg78 (Blk.atC 1 rfl)) ?_
 refine JA.eqv 11 rfl (show _ = .slice p x.a.fs.length c from hxv) ?_
 refine JA.tk 9 rfl fx3 (q15 tU78) ?_
 refine JA.tk 10 rfl fx3 (yl_min2 rfl rfl rfl) ?_
 refine JA.tk 11 rfl fx3 (yl_slice0 (k := (min x.a.fs.length 8)) rfl rfl rfl tU78 sizeOf143 (by split <;> omega) (by omega)) ?_
 refine q14 12 rfl (op_call (H1 := []) rfl rfl rfl rfl rfl (nMadeN_ok (x.a.fs.take 8) _ (fun q hq => hok q (List.mem_of_mem_take hq)) _ hrow) ?_ (fun _ _ _ _ ⟨_, _, h, _⟩ => nomatch h) (fun _ _ ⟨_, _, h, _⟩ => nomatch h))
 intro v4 I5 H6 hle7 hp8
 obtain ⟨fs, w, h, hrec, hmade, rfl⟩ := hp8; cases h
 obtain ⟨wp, wc, rfl⟩ := RowS.len hrec.1.row
 refine ⟨⟨(Le.trans (Le.refl _) hle7), (HSub.c 0 rfl (HSub.c 1 rfl HSub.n)), CSub.n⟩, ?_⟩
 refine JA.fix ⟨(HSub.c 0 rfl (HSub.c 1 rfl HSub.n)), CSub.n, (Le.trans (Le.refl _) hle7)⟩ (fun fx9 => ?_)
 refine JA.tk 13 rfl fx9 (yl_buildS (pl := #[(0, 2), (2, 3)]) rfl rfl tZ37 rfl tU37 (fun w => by simp []) (LBld.part rfl rfl rfl (LSpl.c (LSpl.c LSpl.z)) (LBld.part rfl rfl rfl (LSpl.s (LSpl.s (LSpl.c (LSpl.c (LSpl.c LSpl.z))))) LBld.none))) ?_
 refine JA.last 14 (by kernel_rfl) rfl rfl rfl (q21 0 tS37 (LSpl.c (LSpl.c (LSpl.c (LSpl.c (LSpl.c LSpl.z))))) LSet.z ?_)
 refine q13 ?_
 refine Ej.seq (Cj.ret (Ej.retC (Keeps.d (Keeps.d Keeps.n)) rfl rfl rfl (Blk.at 0 rfl) isAgg37 tS37 rfl ?_))
 exact ⟨⟨x.a.title, 97, 109, _, fs⟩, rfl, ⟨rfl, hrec, hmade⟩, rfl⟩
theorem le_none {I J : Heap} (h : Le I J) {b : Nat} (hb : J b = none) : I b = none := by
  cases hI : I b with
  | none => rfl
  | some o => rw [h _ _ hI] at hb; cases hb
def EntsN (N : Nat → Prop) (I : Heap) (es : List Ent) (v : Value) : Prop := RowN N 37 entC I es v ∧ ∀ e ∈ es, RecN N I e.fs e.v
theorem EntsN.ents {N : Nat → Prop} {I : Heap} {es : List Ent} {v : Value} (h : EntsN N I es v) : EntsS I es v := ⟨h.1.row, fun e he => (h.2 e he).rec⟩
def EntsM (N : Nat → Prop) (I : Heap) (al : List Ix.ActL) (es : List Ent) : Prop := es.map entL = al.map (fun a => (a.title, a.vs)) ∧ (∀ e ∈ es, RecN N I e.fs e.v) ∧ ∀ e ∈ es, EOK e.fs
theorem EntsM.mono {N : Nat → Prop} {I I' : Heap} {al : List Ix.ActL} {es : List Ent} (h : EntsM N I al es) (hle : Le I I') : EntsM N I' al es := ⟨h.1, fun e he => (h.2.1 e he).mono hle, h.2.2⟩
theorem EntsM.add {N : Nat → Prop} {I : Heap} {al : List Ix.ActL} {es : List Ent} {a : Ix.ActL} {e : Ent} (h : EntsM N I al es) (he : IsEntN N I a e) : EntsM N I (al ++ [a]) (es ++ [e]) := by
  refine ⟨by rw [List.map_append, List.map_append, h.1]; exact congrArg _ (congrArg (fun z => [z]) he.ent.l), fun x hx => ?_, fun x hx => ?_⟩
  · rcases List.mem_append.1 hx with g | g
    · exact h.2.1 x g
    rw [List.mem_singleton.1 g]; exact he.r
  rcases List.mem_append.1 hx with g | g
  · exact h.2.2 x g
  rw [List.mem_singleton.1 g]; exact he.ent.eok
theorem EntsM.nil {N : Nat → Prop} {I : Heap} : EntsM N I [] [] := ⟨rfl, (fun _ h => by cases h), (fun _ h => by cases h)⟩
theorem EntsM.len {N : Nat → Prop} {I : Heap} {al : List Ix.ActL} {es : List Ent} (h : EntsM N I al es) : es.length = al.length := by have := congrArg List.length h.1; simpa using this
theorem acts_take (xs : List Act) (k : Nat) : acts (xs.take k) = (acts xs).take k := List.map_take
theorem ents_take {xs : List Act} {k : Nat} (hk : k ≤ xs.length) (h : k ≤ 20 ∧ (xs.length ≤ k ∨ 20 ≤ k)) : (acts (xs.take k)).map (fun a => (a.title, a.vs)) = Ix.ents (acts xs) := by
  rw [made_take hk h, acts_take]; rfl
theorem EntriesN_ok (xs : List Act) (v : Value) (hok : ActsOk xs) (I : Heap) (hA0 : ActsS I xs v) : Ctr Tryz.prog 33 [v] I [] (fun ev I' H' => ∃ es w, ev = .returned w ∧ EntsN (I · = none) I' es w ∧ es.map entL = Ix.ents (acts xs) ∧ (∀ e ∈ es, EOK e.fs) ∧ es.length ≤ 20 ∧ H' = []) := by
 obtain ⟨p, c, rfl⟩ := RowS.len hA0.1
 refine Ctr.ob func33 ?_
 intro w0 hw0
 refine Cj.sr (J.z q1 ?_)
 refine J.nssr (J.z q1 ?_)
 refine J.nsss (Cj.region (J.z q1 ?_))
 refine J.ns (Cj.block (Cj.loop (ι := Nat × Heap × List Ent × Gs) (fun y => y.1 ≤ xs.length ∧ y.1 ≤ 20 ∧ Le I y.2.1 ∧ EntsM (I · = none) y.2.1 (acts (xs.take y.1)) y.2.2.1 ∧ gOk w0.heap.size 5 y.2.2.1.length (y.2.2.1.flatMap entC) y.2.2.2) (fun y => 20 - y.1) (fun y => [(0, .slice p xs.length c), (3, gV y.2.2.1.length y.2.2.2), (4, i64 (y.1 : Int))]) (fun y => y.2.1) (fun y => gH 37 (y.2.2.1.flatMap entC) y.2.2.2) (0, _, [], none) ⟨Nat.zero_le _, Nat.zero_le _, Le.refl _, EntsM.nil, rfl, rfl⟩ ⟨rfl, rfl, rfl, trivial⟩ rfl rfl ?_))
 rintro ⟨k, Jh, es, g⟩ ⟨hk, hk20, hIJ, hM, hg⟩
 dsimp only at hk hk20 hIJ hM hg ⊢
 have hA := hA0.mono hIJ
 have hel := hM.len
 rw [List.length_map, List.length_take, Nat.min_eq_left hk] at hel
 refine Cj.seq (Cj.sr (J.z q0 ?_))
 refine J.z q0 ?_
 refine J.z (q15 underlying51) ?_
 refine J.z q17 ?_
 refine J.z q0 ?_
 refine q16 9 (fun hg1 => ?_) (fun hg1 => ?_)
 ·
  have hg1p := odt hg1
  refine q5 4 9 true hg1 (q2 q0 ?_)
  refine q5 4 9 true hg1 (q2 q17 ?_)
  refine J.z (q11 hg1) ?_
  refine J.cd (fun hc2 => ?_) (fun hc2 => ?_)
  ·
   have hc2p := odt hc2
   refine Cj.ks (Cj.seq (Cj.block ?_))
   have hIJ9 := hIJ
   have hlt : k < xs.length := by omega
   have hlt2 : k < 20 := by omega
   obtain ⟨x, hget⟩ : ∃ x, xs[k]? = some x := ⟨_, lgg hlt⟩
   have hxm := lmg hget
   obtain ⟨p1, c1, hpe, hc1, hp⟩ := id hA.1
   cases hpe
   obtain ⟨ab, ao, acs, aty, afr, asp, rfl, hab, had⟩ := hp (ne_nil_of hlt)
   have hfv := hA.2 x hxm
   obtain ⟨vp, vc, hxv⟩ := RowS.len hfv
   have hnx : acts (xs.take (k + 1)) = acts (xs.take k) ++ [x.a] := map_next _ hget
   refine Cj.region (J.z q0 ?_)
   refine J.z q0 ?_
   refine J.z q0 ?_
   refine J.z (q19 (off' := ao + k * 4) underlying51 sizeOf80) ?_
   refine J.z (yl_loadAgg rfl rfl isAgg80 sizeOf80 (Blk.imm hab) (row_from actC_len had hget) rfl) ?_
   refine J.op rfl (q37 (H1 := []) rfl rfl rfl rfl rfl (EntryN_ok x (hok x hxm) _ hfv) ?_)
   intro v3 I4 H5 hle6 hp7
   have hM := hM.mono hle6
   have hIJ := hIJ.mono hle6
   obtain ⟨e0, h, heN, rfl⟩ := hp7; cases h
   have he9 : IsEntN (I · = none) _ x.a e0 := ⟨heN.t, heN.r.imp (fun b hb => le_none hIJ9 hb), heN.n⟩
   have he0 := he9.ent
   refine J.op rfl (q38 tU27 tS37 tZ37 ?_)
   intro b8 hb8
   refine J.op rfl (op_append (by' := 47) [_] rfl rfl rfl rfl rfl tU27 (.inr ⟨_, tU27⟩) (by kernel_rfl) tS37 tZ37 rfl hg rfl (Src.slice (Blk.at 0 rfl) rfl rfl he0.one) (by omega) ?_)
   intro g9 hg9
   refine J.z q1 ?_
   refine J.nb (Cj.region (J.z q0 ?_))
   refine J.z q7 ?_
   refine J.z q1 ?_
   refine J.nil (Ej.keep (Keeps.d Keeps.r) ?_)
   refine Ej.round (k + 1, _, es ++ [e0], g9) ⟨by dsimp only; omega, by dsimp only; omega, hIJ, by dsimp only; rw [hnx]; exact hM.add he9, by dsimp only; rw [flat_one, List.length_append]; exact hg9⟩ (by dsimp only; omega) ⟨rfl, by dsimp only; rw [List.length_append]; rfl, rfl, trivial⟩ rfl (by dsimp only; rw [flat_one]; rfl)
  have hc2p := odf hc2
  refine Cj.xl (Cj.sr (J.z q0 ?_))
  refine J.z q1 ?_
  refine J.ns (Cj.ret ?_)
  have htk := ents_take hk (by omega)
  have hM1 := hM.1.trans htk
  refine Ej.perm (H' := gH 37 (es.flatMap entC) g ++ []) (.of_eq (List.append_nil _)) ?_
  refine Ej.keepN entC_len (by decide) hg rfl (fun I8 hle8 hw8 => ?_)
  refine q6 ?_
  exact ⟨es, _, rfl, ⟨hw8.imp (fun b hb => hw0.dom hb), fun e he => (hM.2.1 e he).mono hle8⟩, hM1, hM.2.2, by omega, rfl⟩
 have hg1p := odf hg1
 refine q3 4 9 10 true hg1 ?_
 refine q3 4 9 11 true hg1 ?_
 refine J.z (q10 hg1) ?_
 refine J.c0 (fun hc10 => ?_)
 refine Cj.xl (Cj.sr (J.z q0 ?_))
 refine J.z q1 ?_
 refine J.ns (Cj.ret ?_)
 have htk := ents_take hk (by omega)
 have hM1 := hM.1.trans htk
 refine Ej.perm (H' := gH 37 (es.flatMap entC) g ++ []) (.of_eq (List.append_nil _)) ?_
 refine Ej.keepN entC_len (by decide) hg rfl (fun I8 hle8 hw8 => ?_)
 refine q6 ?_
 exact ⟨es, _, rfl, ⟨hw8.imp (fun b hb => hw0.dom hb), fun e he => (hM.2.1 e he).mono hle8⟩, hM1, hM.2.2, by omega, rfl⟩
theorem Entries_ok (xs : List Act) (v : Value) (hok : ActsOk xs) (I : Heap) (hA0 : ActsS I xs v) : Ctr Tryz.prog 33 [v] I [] (fun ev I' H' => ∃ es w, ev = .returned w ∧ EntsS I' es w ∧ es.map entL = Ix.ents (acts xs) ∧ (∀ e ∈ es, EOK e.fs) ∧ es.length ≤ 20 ∧ H' = []) :=
  (EntriesN_ok xs v hok I hA0).mono fun _ _ _ _ ⟨es, w, h1, h2, h⟩ => ⟨es, w, h1, h2.ents, h⟩
def nms : List (List UInt8) := Ix.names ++ [[120]]
def nameN (n : UInt8) : List UInt8 := nms.getD (n.toNat % 7) []
theorem nms_at (n : UInt8) (sp : List Value) : (Ix.names.map str ++ [str [120]] ++ sp)[n.toNat % 7]? = some (str (nameN n)) := by
  have h : n.toNat % 7 < 7 := Nat.mod_lt _ (by decide)
  rw [List.getElem?_append_left (by show n.toNat % 7 < 7; exact h)]
  have h2 : Ix.names.map str ++ [str [120]] = nms.map str := rfl
  rw [h2, List.getElem?_map]
  unfold nameN
  rw [lgg (by show n.toNat % 7 < 7; exact h), List.getD_eq_getElem?_getD, lgg (by show n.toNat % 7 < 7; exact h)]; rfl
theorem name_ok (n : UInt8) (I : Heap) : Pure Tryz.prog 31 [u8 n] I (str (nameN n)) := by
 refine Ctr.toPure ?_
 have hnl := n.toNat_lt
 refine Ctr.ob func31 ?_
 intro w0 hw0
 refine Cj.sr (J.z q1 ?_)
 refine J.nssr (J.op rfl (q42 rfl rfl rfl rfl rfl (Names_ok _) ?_))
 intro v2 I3 H4 hle5 hn1 hp6
 obtain ⟨nb, h, rfl⟩ := hp6; cases h
 have hnb := hn1 _ (.head _)
 refine J.op rfl (q24 tU28 tS9 tZ9 ?_)
 intro b7 hb7
 refine J.op rfl (op_append (by' := 15) (n := 6) (g := some (nb, 6, [])) (xs := Ix.names.map str) [_] rfl rfl rfl rfl rfl tU28 (.inr ⟨_, tU28⟩) (by kernel_rfl) tS9 tZ9 rfl ⟨hnb, rfl, rfl⟩ rfl (Src.slice (Blk.at 0 rfl) rfl rfl rfl) (by omega) ?_)
 intro g8 hg8
 refine J.z q0 ?_
 refine J.z (yl_convInt rfl rfl tU5 tU3) ?_
 refine J.eqv 7 rfl (show _ = i64 ((n.toNat : Nat) : Int) from (congrArg i64 (w64 (by omega)))) ?_
 obtain ⟨bg9, cg10, sp11, rfl, hbg9⟩ := hg8.some (by decide)
 refine J.op rfl (q42 rfl rfl rfl rfl rfl (Names_ok _) ?_)
 intro v13 I14 H15 hle16 hn12 hp17
 obtain ⟨nc, h, rfl⟩ := hp17; cases h
 have hnc := hn12 _ (.head _)
 refine J.z (q15 tU28) ?_
 refine J.z q7 ?_
 refine J.z q50 ?_
 refine J.eqv 11 rfl (show _ = i64 ((n.toNat % 7 : Nat) : Int) from (congrArg i64 (by rw [Int.tmod_eq_emod_of_nonneg (by omega)]; omega))) ?_
 refine J.z (yl_indexAddr (off' := n.toNat % 7) rfl rfl rfl tU28 tS9 (by omega) (by simp; omega) (by omega)) ?_
 refine J.z (yl_load rfl rfl tA9 (Blk.at 2 rfl) (nms_at n _)) ?_
 refine J.z q1 ?_
 refine J.ns (Cj.ret (Ej.bare ?_))
 refine q6 ?_
 exact ⟨rfl, rfl⟩
def prs (ps : List Ke.Sub) : List (List UInt8) := ps.flatMap fun s => [[s.code], s.text]
theorem prs_len (ps : List Ke.Sub) : (prs ps).length = 2 * ps.length := by
  unfold prs
  induction ps with
  | nil => rfl
  | cons a r ih => rw [List.flatMap_cons, List.length_append, ih, List.length_cons]; simp; omega
theorem prs_at : ∀ {ps : List Ke.Sub} {i : Nat} {s : Ke.Sub}, ps[i]? = some s → (prs ps)[2 * i]? = some [s.code] ∧ (prs ps)[2 * i + 1]? = some s.text
  | [], i, _, h => by simp at h
  | a :: r, 0, s, h => by cases h; exact ⟨rfl, rfl⟩
  | a :: r, i + 1, s, h => by
    have := prs_at (ps := r) (i := i) (s := s) h
    have e : prs (a :: r) = [a.code] :: a.text :: prs r := rfl
    rw [e, show 2 * (i + 1) = 2 * i + 1 + 1 by omega, List.getElem?_cons_succ, List.getElem?_cons_succ, List.getElem?_cons_succ, List.getElem?_cons_succ]
    exact this
theorem field_ok (tag ind : List UInt8) (ps : List Ke.Sub) (v : Value) (hps : ps.length ≤ 1000) (I : Heap) (hv : StrP I (prs ps) v) : Ctr Tryz.prog 14 [str tag, str ind, v] I [] (fun e I' H' => ∃ w, e = .returned (.agg (fldC ⟨tag, ind, [], w, ps⟩).toArray) ∧ RowS subC I' ps w ∧ H' = []) := by
 obtain ⟨p, c, rfl, hc, hp⟩ := hv
 have hpl := prs_len ps
 refine Ctr.ob func14 ?_
 intro w0 hw0
 refine Cj.sr (J.op rfl (q44 tZ31 ?_))
 intro b1 hb1
 refine J.nssr (J.z q0 ?_)
 refine J.z q0 ?_
 refine J.z (yl_buildS (pl := #[(0, 1), (1, 1), (2, 1), (3, 1)]) rfl rfl tZ31 rfl tU31 (fun w => by simp []) (LBld.part rfl rfl rfl (LSpl.c LSpl.z) (LBld.part rfl rfl rfl (LSpl.s (LSpl.c LSpl.z)) LBld.none))) ?_
 refine J.op rfl (q44 tZ31 ?_)
 intro b2 hb2
 refine J.op rfl (q21 0 tS31 (LSpl.c (LSpl.c (LSpl.c (LSpl.c LSpl.z)))) LSet.z ?_)
 refine J.nsss (Cj.region (J.z q1 ?_))
 refine J.ns (Cj.block (Cj.loop (ι := Nat × Gs) (fun y => y.1 ≤ ps.length ∧ gOk w0.heap.size 2 (ps.take y.1).length ((ps.take y.1).flatMap subC) y.2) (fun y => ps.length - y.1) (fun y => [(0, str tag), (2, .slice p (prs ps).length c), (6, ptr b1 0), (7, ptr b2 0), (8, i64 ((2 * y.1 + 1 : Nat) : Int))]) (fun y => _) (fun y => (b2, cel 31 [str tag, str ind, str [], gV (ps.take y.1).length y.2]) :: (b1, cel 31 [str [], str [], str [], .slice none 0 0]) :: gH 65 ((ps.take y.1).flatMap subC) y.2) (0, none) ⟨Nat.zero_le _, rfl, rfl⟩ ⟨rfl, rfl, rfl, rfl, rfl, trivial⟩ rfl rfl ?_))
 rintro ⟨i, g⟩ ⟨hi, hg⟩
 dsimp only at hi hg ⊢
 have hsl : (ps.take i).length = i := by rw [List.length_take]; omega
 refine Cj.seq (Cj.sr (J.z q0 ?_))
 refine J.z q0 ?_
 refine J.z (q15 tU28) ?_
 refine J.z q17 ?_
 refine J.cd (fun hc3 => ?_) (fun hc3 => ?_)
 ·
  have hc3p := odt hc3
  refine Cj.ks (Cj.seq (Cj.block ?_))
  have hlt : i < ps.length := by omega
  obtain ⟨x, hsget⟩ : ∃ x, ps[i]? = some x := ⟨_, lgg hlt⟩
  have hsl1 : (ps.take (i + 1)).length = (ps.take i).length + 1 := by rw [List.length_take, List.length_take]; omega
  obtain ⟨hg1, hg2⟩ := prs_at hsget
  obtain ⟨lb, lo, lcs, lty, lfr, sp, rfl, hlb, hld⟩ := hp (ne_nil_of (k := 2 * i) (by omega))
  refine Cj.drawSel [0, 1] [] 16 (by kernel_rfl) ?_
  refine JA.fix ⟨(HSub.c 0 rfl (HSub.c 1 rfl HSub.n)), CSub.n, (Le.refl _)⟩ (fun fx4 => ?_)
  refine JA.tk 0 rfl fx4 (q4 (off' := 3) tU31 tS29) ?_
  refine JA.tk 1 rfl fx4 (q9 tA29 (Blk.atC 0 rfl)) ?_
  refine JA.tk 2 rfl fx4 q0 ?_
  refine JA.tk 3 rfl fx4 q0 ?_
  refine JA.tk 4 rfl fx4 q47 ?_
  refine JA.eqv 22 rfl (show _ = i64 ((2 * i : Nat) : Int) from (congrArg i64 (by omega))) ?_
  refine JA.tk 5 rfl fx4 (yl_indexAddr (off' := lo + 2 * i) rfl rfl rfl tU28 tS9 (by omega) (by omega) (by omega)) ?_
  refine JA.tk 6 rfl fx4 (yl_load rfl rfl tA9 (Blk.immC hlb) (str_from hld hg1)) ?_
  refine JA.tk 7 rfl fx4 (yl_index rfl rfl rfl tU9 (by decide) rfl) ?_
  refine JA.tk 8 rfl fx4 q0 ?_
  refine JA.tk 9 rfl fx4 q0 ?_
  refine JA.tk 10 rfl fx4 (yl_indexAddr (off' := lo + (2 * i + 1)) rfl rfl rfl tU28 tS9 (by omega) (by omega) (by omega)) ?_
  refine JA.tk 11 rfl fx4 (yl_load rfl rfl tA9 (Blk.immC hlb) (str_from hld hg2)) ?_
  refine JA.tk 12 rfl fx4 (yl_buildS (pl := #[(0, 1), (1, 1)]) rfl rfl tZ65 rfl tU65 (fun w => by simp []) (LBld.part rfl rfl rfl (LSpl.c LSpl.z) (LBld.part rfl rfl rfl (LSpl.s (LSpl.c LSpl.z)) LBld.none))) ?_
  refine q14 13 rfl (q38 tU29 tS65 tZ65 ?_)
  intro b5 hb5
  refine ⟨⟨(Le.refl _), (HSub.c 1 rfl (HSub.c 2 rfl HSub.n)), CSub.n⟩, ?_⟩
  refine q14 14 rfl (op_append (by' := 23) [_, _, _] rfl rfl rfl rfl rfl tU29 (.inr ⟨_, tU29⟩) (by kernel_rfl) tS65 tZ65 rfl hg rfl (Src.slice (Blk.at 0 rfl) rfl rfl rfl) (by omega) ?_)
  intro g6 hg6
  refine ⟨⟨(Le.refl _), (HSub.c 1 rfl (HSub.c 2 rfl HSub.n)), CSub.n⟩, ?_⟩
  refine JA.fix ⟨(HSub.c 1 rfl (HSub.c 2 rfl HSub.n)), CSub.n, (Le.refl _)⟩ (fun fx7 => ?_)
  refine JA.tk 15 rfl fx7 (q4 (off' := 3) tU31 tS29) ?_
  refine JA.last 16 (by kernel_rfl) rfl rfl rfl (op_store 1 rfl rfl rfl rfl (gV_cells _ _) (gV_one _ _) tS29 rfl rfl (LSpl.s (LSpl.s (LSpl.s (LSpl.c LSpl.z)))) (LSet.s LSet.z) ?_)
  refine q13 ?_
  refine Ej.blkNormal (Ej.seq (Cj.region (J.z q0 ?_)))
  refine J.z q7 ?_
  refine J.eqv 17 rfl (show _ = i64 ((2 * (i + 1) + 1 : Nat) : Int) from (congrArg i64 (by omega))) ?_
  refine J.z q1 ?_
  refine J.nil (Ej.keep (Keeps.d (Keeps.k (Keeps.k Keeps.r))) ?_)
  refine Ej.round (i + 1, g6) ⟨by dsimp only; omega, by dsimp only; rw [hsl1, flat_next subC hsget]; exact hg6⟩ (by dsimp only; omega) ⟨rfl, rfl, rfl, rfl, rfl, trivial⟩ rfl (by dsimp only; rw [hsl1, flat_next subC hsget]; rfl)
 have hc3p := odf hc3
 refine Cj.xl (Cj.sr (J.z (q33 tA31 tS31) ?_))
 refine J.op rfl (op_store 1 rfl rfl rfl rfl rfl (by show [str tag, str ind, str [], gV _ _].all Value.oneCell' = true; simp only [List.all_cons, List.all_nil, gV_one', Bool.and_true]; rfl) tS31 rfl rfl (LSpl.c (LSpl.c (LSpl.c (LSpl.c LSpl.z)))) (LSet.s LSet.z) ?_)
 refine J.ns (Cj.ret ?_)
 have hfull : ps.take i = ps := List.take_of_length_le (by omega)
 rw [hfull] at hg ⊢
 refine Ej.perm (H' := gH _ _ _ ++ [_, _]) List.perm_append_comm ?_
 refine Ej.keepR subC_len (by decide) hg rfl (fun I9 hle9 hfs => ?_)
 refine Ej.retC (Keeps.d (Keeps.d Keeps.n)) rfl rfl rfl (Blk.at 1 rfl) tA31 tS31 rfl ?_
 exact ⟨_, rfl, hfs, rfl⟩
def Asks (al : List (List UInt8)) (k j : Nat) : Prop := al.length ≤ 1 + k * 4000000 + j * 4 ∧ ∀ s ∈ al, s.length ≤ 100000000
theorem Asks.start {s : List UInt8} (h : s.length ≤ 100000000) : Asks [s] 0 0 := ⟨by simp, fun x hx => by rw [List.mem_singleton.1 hx]; exact h⟩
theorem Asks.one {al : List (List UInt8)} {k j : Nat} {s : List UInt8} (h : Asks al k j) (hs : s.length ≤ 100000000) : Asks (al ++ [s]) k (j + 1) := by
  refine ⟨by rw [List.length_append, List.length_singleton]; have := h.1; omega, fun x hx => ?_⟩
  rcases List.mem_append.1 hx with g | g
  · exact h.2 x g
  rw [List.mem_singleton.1 g]; exact hs
theorem Asks.four {al : List (List UInt8)} {k j : Nat} {s a b c : List UInt8} (h : Asks al k j) (hs : s.length ≤ 100000000) (ha : a.length ≤ 100000000) (hb : b.length ≤ 100000000) (hc : c.length ≤ 100000000) : Asks (al ++ [s] ++ [a, b, c]) k (j + 1) := by
  refine ⟨by simp only [List.length_append, List.length_cons, List.length_nil]; have := h.1; omega, fun x hx => ?_⟩
  rcases List.mem_append.1 hx with g | g
  · rcases List.mem_append.1 g with g | g
    · exact h.2 x g
    rw [List.mem_singleton.1 g]; exact hs
  simp only [List.mem_cons, List.not_mem_nil, or_false] at g
  rcases g with rfl | rfl | rfl
  · exact ha
  · exact hb
  exact hc
theorem Asks.next {al : List (List UInt8)} {k j : Nat} (h : Asks al k j) (hj : j ≤ 1000000) : Asks al (k + 1) 0 := by
  obtain ⟨h1, h2⟩ := h
  have h3 : (k + 1) * 4000000 = k * 4000000 + 4000000 := by rw [Nat.add_mul, Nat.one_mul]
  have h4 : al.length ≤ 1 + (k + 1) * 4000000 + 0 * 4 := by
    rw [h3]
    generalize k * 4000000 = m at h1 ⊢
    omega
  exact And.intro h4 h2
theorem Asks.len {al : List (List UInt8)} {k j : Nat} (h : Asks al k j) (hk : k ≤ 1000) (hj : j ≤ 1000000) : al.length ≤ 5000000000 := by have := h.1; omega
theorem phrase_small (es : List Ent) (n : List UInt8) (w : Ke.Row) : (Ix.phrase (es.map entL) n w).length ≤ es.length := by
  unfold Ix.phrase
  split
  · simp
  rw [List.length_map]
  exact nlt (List.length_filter_le _ _) (by rw [List.length_map]; exact Nat.le_refl _)
theorem word_small (es : List Ent) (n s : List UInt8) : (Ix.word (es.map entL) n s).length ≤ es.length := by
  unfold Ix.word
  split
  · exact phrase_small es n _
  simp
theorem scan_small (L : Ix.Ix) (n s : List UInt8) (most : Int) : ((Ix.scan L n s most).map lineI).length ≤ most.toNat := by
  unfold Ix.scan
  rw [List.length_map, List.length_map, List.length_take]; omega
theorem tit_eq (es : List Ent) : (es.map entL).map Prod.fst = es.map (·.t) := by rw [List.map_map]; rfl
theorem same_ok (ib rb : Nat) (es : List Ent) (n text : List UInt8) (htl : text.length ≤ 100000000) (I : Heap) (hx0 : IxP I ib (es.map entL)) (hy0 : RxP I rb es) : Pure Tryz.prog 35 [ptr ib 0, ptr rb 0, str n, str text] I (.bool true) := by
 refine Ctr.toPure ?_
 have hlen := hy0.len
 obtain ⟨p, c, hR0⟩ := hy0.ex
 have hrb := hR0.1
 refine Ctr.ob func35 ?_
 intro w0 hw0
 refine Cj.sr (J.z q1 ?_)
 refine J.nssr (J.z q0 ?_)
 refine J.op rfl (q24 tU28 tS9 tZ9 ?_)
 intro b1 hb1
 refine J.z q1 ?_
 refine J.nsss (Cj.region (J.z q0 ?_))
 refine J.z q8 ?_
 refine J.z (q4 (off' := 0) tU73 tS27) ?_
 refine J.z (q9 tA27 (Blk.imm hrb)) ?_
 refine J.z (q15 tU27) ?_
 refine J.z q0 ?_
 refine J.ns (Cj.block (Cj.loop (ι := Nat × Heap × List (List UInt8) × Gs) (fun y => y.1 ≤ es.length ∧ Le I y.2.1 ∧ Asks y.2.2.1 y.1 0 ∧ gOk w0.heap.size 1 y.2.2.1.length (y.2.2.1.map str) y.2.2.2) (fun y => es.length - y.1) (fun y => [(0, ptr ib 0), (1, ptr rb 0), (2, str n), (3, str text), (9, gV y.2.2.1.length y.2.2.2), (22, .slice p es.length c), (23, i64 (es.length : Int)), (24, i64 (y.1 : Int))]) (fun y => y.2.1) (fun y => gH 9 (y.2.2.1.map str) y.2.2.2) (0, _, [text], some (b1, 1, [])) ⟨Nat.zero_le _, Le.refl _, Asks.start htl, ⟨hb1, rfl, rfl⟩⟩ ⟨rfl, rfl, rfl, rfl, rfl, rfl, rfl, rfl, trivial⟩ rfl rfl ?_))
 rintro ⟨k, J1, al, g⟩ ⟨hk, hIJ, hal, hg⟩
 dsimp only at hk hIJ hal hg ⊢
 have hall := hal.len (by omega) (by decide)
 have hx := hx0.mono hIJ
 have hy := hy0.mono hIJ
 have hR := hR0.mono hIJ
 refine Cj.sr (J.z q17 ?_)
 refine J.nss (Cj.cond rfl (fun hc2 => ?_) (fun hc2 => ?_))
 ·
  have hc2p := odt hc2
  refine Cj.ks (Cj.seq (Cj.block (Cj.seq ?_)))
  have hlt : k < es.length := by omega
  obtain ⟨e0, hget⟩ : ∃ x, es[k]? = some x := ⟨_, lgg hlt⟩
  have hek := hy.eok e0 (lmg hget)
  obtain ⟨p1, c1, hpe, hc1, hp⟩ := id hR.2.1
  cases hpe
  obtain ⟨eb, eo, ecs, ety, efr, esp, rfl, heb, hed⟩ := hp (ne_nil_of hlt)
  have hrec := hR.2.2 e0 (lmg hget)
  obtain ⟨vp0, vc0, hev, -, -⟩ := id hrec.1
  refine Cj.region (J.z (q19 (off' := eo + k * 5) tU27 tS37) ?_)
  refine J.z (yl_loadAgg rfl rfl isAgg37 tS37 (Blk.imm heb) (row_from entC_len hed hget) rfl) ?_
  refine J.op rfl (q44 tZ37 ?_)
  intro b3 hb3
  refine J.op rfl (op_store 0 rfl rfl rfl rfl rfl (ent_one hev) tS37 rfl rfl (LSpl.c (LSpl.c (LSpl.c (LSpl.c (LSpl.c LSpl.z))))) LSet.z ?_)
  refine J.nssr (J.z (q4 (off' := 2) tU37 tS35) ?_)
  refine J.z (q33 isAgg35 tS35) ?_
  refine J.z q0 ?_
  refine J.op rfl (q37 (H1 := []) rfl rfl rfl rfl rfl (rValues_ok e0.fs e0.v e0.k e0.l n hek _ hrec) ?_)
  intro v4 I5 H6 hle7 hp8
  have hIJ := hIJ.mono hle7
  obtain ⟨vv, h, hvals, rfl⟩ := hp8; cases h
  obtain ⟨pv, cv, rfl⟩ := RowS.len hvals
  have hvl : (Ix.valsN e0.fs n).length ≤ 1000000 := by have h1 := valsN_len n e0.fs (fun f hf => (hek.2 f hf).1); have h2 := hek.1; omega
  refine J.z (q15 tU101) ?_
  refine J.z q0 ?_
  refine J.ns (Cj.block (Cj.keep (Keeps.k Keeps.r) ?_))
  refine Cj.loop (ι := Nat × Heap × List (List UInt8) × Gs) (fun y => y.1 ≤ (Ix.valsN e0.fs n).length ∧ Le I5 y.2.1 ∧ Asks y.2.2.1 k y.1 ∧ gOk w0.heap.size 1 y.2.2.1.length (y.2.2.1.map str) y.2.2.2) (fun y => (Ix.valsN e0.fs n).length - y.1) (fun y => [(0, ptr ib 0), (1, ptr rb 0), (2, str n), (3, str text), (9, gV y.2.2.1.length y.2.2.2), (22, .slice (some ⟨eb, eo, none⟩) es.length c), (23, i64 (es.length : Int)), (24, i64 (k : Int)), (31, .slice pv (Ix.valsN e0.fs n).length cv), (32, i64 ((Ix.valsN e0.fs n).length : Int)), (33, i64 (y.1 : Int))]) (fun y => y.2.1) (fun y => (b3, cel 37 (entC e0)) :: gH 9 (y.2.2.1.map str) y.2.2.2) (0, _, al, g) ⟨Nat.zero_le _, Le.refl _, hal, hg⟩ ⟨rfl, rfl, rfl, rfl, rfl, rfl, rfl, rfl, rfl, rfl, rfl, trivial⟩ rfl rfl ?_
  rintro ⟨j, J2, al, g⟩ ⟨hj, hIJ2, hal, hg⟩
  dsimp only at hj hIJ2 hal hg ⊢
  have hall := hal.len (by omega) (by omega)
  have hIJ := hIJ.trans hIJ2
  have hvals := hvals.mono hIJ2
  refine Cj.sr (J.z q17 ?_)
  refine J.nss (Cj.cond rfl (fun hc9 => ?_) (fun hc9 => ?_))
  ·
   have hc9p := odt hc9
   refine Cj.ks (Cj.seq (Cj.block (Cj.seq ?_)))
   have hjlt : j < (Ix.valsN e0.fs n).length := by omega
   obtain ⟨x, hvget⟩ : ∃ x, (Ix.valsN e0.fs n)[j]? = some x := ⟨_, lgg hjlt⟩
   have hxt := valsN_text hek (lmg hvget)
   obtain ⟨p2, c2, hpe2, hc2, hp2⟩ := id hvals
   cases hpe2
   obtain ⟨vb, vo, vcs, vty, vfr, vsp, rfl, hvb, hvd⟩ := hp2 (ne_nil_of hjlt)
   refine Cj.region (J.z (q19 (off' := vo + j * 2) tU101 tS104) ?_)
   refine J.z (yl_loadAgg rfl rfl isAgg104 tS104 (Blk.imm hvb) (row_from valC_len hvd hvget) rfl) ?_
   refine J.op rfl (q44 tZ104 ?_)
   intro b10 hb10
   refine J.op rfl (q21 0 tS104 (LSpl.c (LSpl.c LSpl.z)) LSet.z ?_)
   refine J.nssr (J.z q0 ?_)
   refine J.z (q4 (off' := 0) tU104 tS9) ?_
   refine J.z (q18 tA9) ?_
   refine J.op rfl (q24 tU28 tS9 tZ9 ?_)
   intro b11 hb11
   refine J.op rfl (op_append (by' := 15) [_, _, _] rfl rfl rfl rfl rfl tU28 (.inr ⟨_, tU28⟩) (by kernel_rfl) tS9 tZ9 rfl hg rfl (Src.slice (Blk.at 0 rfl) rfl rfl rfl) (by omega) ?_)
   intro g12 hg12
   refine J.z q1 ?_
   refine J.nssr (J.z (q4 (off' := 0) tU104 tS9) ?_)
   refine J.z (q9 tA9 (Blk.at 1 rfl)) ?_
   refine J.op rfl (q52 rfl rfl rfl rfl rfl (rWords_ok x.1 (by omega) _) ?_)
   intro v14 I15 H16 hle17 hn13 hp18
   have hIJ2 := hIJ2.mono hle17
   obtain ⟨gw, hgw, h, rfl⟩ := hp18; cases h
   refine J.keepS (hgw.base hn13) (fun Iw hlew hw => ?_)
   have hIJ2 := hIJ2.mono hlew
   obtain ⟨pw, cw, hwe⟩ := StrS_sl hw
   refine J.eqv 44 rfl hwe ?_
   rw [hwe] at hw
   replace hw := StrP.of hw
   refine J.z q1 ?_
   refine J.nssr (J.z q0 ?_)
   refine J.z (q15 tU28) ?_
   refine J.z (yl_gtr rfl rfl rfl) ?_
   refine J.cd (fun hc19 => ?_) (fun hc19 => ?_)
   ·
    have hc19p := odt hc19
    have hwl := (Ke.words_len x.1).1
    have hwn : 1 < (Ke.words x.1).length := by omega
    obtain ⟨a0, hw0⟩ : ∃ a, (Ke.words x.1)[0]? = some a := ⟨_, lgg (by omega)⟩
    obtain ⟨a1, hw1⟩ : ∃ a, (Ke.words x.1)[1]? = some a := ⟨_, lgg hwn⟩
    obtain ⟨a2, hw2⟩ : ∃ a, (Ke.words x.1)[(Ke.words x.1).length - 1]? = some a := ⟨_, lgg (by omega)⟩
    have hl0 := Ke.words_each _ a0 (lmg hw0)
    have hl1 := Ke.words_each _ a1 (lmg hw1)
    have hl2 := Ke.words_each _ a2 (lmg hw2)
    obtain ⟨p3, c3, hpe3, hc3, hp3⟩ := id hw
    cases hpe3
    obtain ⟨wb, wo, wcs, wty, wfr, wsp, rfl, hwb, hwd⟩ := hp3 (ne_nil_of hwn)
    refine Cj.drawSel [0, 1, 2] [] 21 (by kernel_rfl) ?_
    refine JA.fix ⟨(HSub.c 0 rfl (HSub.c 1 rfl (HSub.c 2 rfl HSub.n))), CSub.n, (Le.refl _)⟩ (fun fx20 => ?_)
    refine JA.tk 0 rfl fx20 q0 ?_
    refine JA.tk 1 rfl fx20 q0 ?_
    refine JA.tk 2 rfl fx20 (q19 (off' := wo + 1) tU28 tS9) ?_
    refine JA.tk 3 rfl fx20 (yl_load rfl rfl tA9 (Blk.immC hwb) (str_from hwd hw1)) ?_
    refine JA.tk 4 rfl fx20 q0 ?_
    refine JA.tk 5 rfl fx20 (q19 (off' := wo + 0) tU28 tS9) ?_
    refine JA.tk 6 rfl fx20 (yl_load rfl rfl tA9 (Blk.immC hwb) (str_from hwd hw0)) ?_
    refine JA.tk 7 rfl fx20 (yl_cat rfl rfl rfl (by first | omega | (simp only [List.length_append]; omega) | (simp; omega))) ?_
    refine JA.tk 8 rfl fx20 q0 ?_
    refine JA.tk 9 rfl fx20 (q19 (off' := wo + 1) tU28 tS9) ?_
    refine JA.tk 10 rfl fx20 (yl_load rfl rfl tA9 (Blk.immC hwb) (str_from hwd hw1)) ?_
    refine JA.tk 11 rfl fx20 (yl_cat rfl rfl rfl (by first | omega | (simp only [List.length_append]; omega) | (simp; omega))) ?_
    refine JA.tk 12 rfl fx20 q0 ?_
    refine JA.tk 13 rfl fx20 q0 ?_
    refine JA.tk 14 rfl fx20 (q15 tU28) ?_
    refine JA.tk 15 rfl fx20 q47 ?_
    refine JA.eqv 63 rfl (show _ = i64 (((Ke.words x.1).length - 1 : Nat) : Int) from (congrArg i64 (by omega))) ?_
    refine JA.tk 16 rfl fx20 (yl_indexAddr (off' := wo + ((Ke.words x.1).length - 1)) rfl rfl rfl tU28 tS9 (by omega) (by omega) (by omega)) ?_
    refine JA.tk 17 rfl fx20 (yl_load rfl rfl tA9 (Blk.immC hwb) (str_from hwd hw2)) ?_
    refine q14 18 rfl (op_buildSlice rfl rfl rfl tU28 tS9 tZ9 rfl rfl rfl rfl (LCat.one rfl (LCat.one rfl (LCat.one rfl LCat.none))) ?_)
    intro b21 hb21
    refine ⟨⟨(Le.refl _), (HSub.c 1 rfl (HSub.c 2 rfl (HSub.c 3 rfl HSub.n))), CSub.n⟩, ?_⟩
    refine q14 19 rfl (op_append (by' := 15) [_, _, _, _] rfl rfl rfl rfl rfl tU28 (.inr ⟨_, tU28⟩) (by kernel_rfl) tS9 tZ9 rfl hg12 rfl (Src.slice (Blk.at 0 rfl) rfl rfl rfl) (by omega) ?_)
    intro g22 hg22
    refine ⟨⟨(Le.refl _), (HSub.c 1 rfl (HSub.c 2 rfl (HSub.c 3 rfl HSub.n))), CSub.n⟩, ?_⟩
    refine JA.fix ⟨(HSub.c 1 rfl (HSub.c 2 rfl (HSub.c 3 rfl HSub.n))), CSub.n, (Le.refl _)⟩ (fun fx23 => ?_)
    refine JA.tk 20 rfl fx23 q1 ?_
    refine q13 ?_
    refine Ej.blkNormal (Ej.seq (Cj.region (J.z q7 ?_)))
    refine J.z q0 ?_
    refine J.nil (Ej.keep (Keeps.d (Keeps.d (Keeps.d (Keeps.k Keeps.r)))) ?_)
    refine Ej.round (j + 1, _, al ++ [x.1] ++ [a1, a0 ++ [32] ++ a1, a2], g22) ⟨by dsimp only; omega, hIJ2, hal.four (by omega) (by omega) (by simp only [List.length_append, List.length_cons, List.length_nil]; omega) (by omega), by dsimp only; rw [List.map_append, List.map_append, List.length_append, List.length_append]; exact hg22⟩ (by dsimp only; omega) ⟨rfl, rfl, rfl, rfl, by dsimp only; rw [List.length_append, List.length_append]; rfl, rfl, rfl, rfl, rfl, rfl, rfl, trivial⟩ rfl (by dsimp only; rw [List.map_append, List.map_append]; rfl)
   have hc19p := odf hc19
   refine Cj.kb (Cj.region (J.z q7 ?_))
   refine J.z q0 ?_
   refine J.nil (Ej.keep (Keeps.d (Keeps.d (Keeps.k Keeps.r))) ?_)
   refine Ej.round (j + 1, _, al ++ [x.1], g12) ⟨by dsimp only; omega, hIJ2, hal.one (by omega), by dsimp only; rw [List.map_append, List.length_append]; exact hg12⟩ (by dsimp only; omega) ⟨rfl, rfl, rfl, rfl, by dsimp only; rw [List.length_append]; rfl, rfl, rfl, rfl, rfl, rfl, rfl, trivial⟩ rfl (by dsimp only; rw [List.map_append]; rfl)
  have hc9p := odf hc9
  refine Cj.exit (Ej.seqExit (Ej.loopExit (Ej.blkExit (Ej.blkNormal (Ej.seq (Cj.region (J.z q7 ?_)))))))
  refine J.z q0 ?_
  refine J.nil (Ej.keep (Keeps.d Keeps.r) ?_)
  refine Ej.round (k + 1, _, al, g) ⟨by dsimp only; omega, hIJ, hal.next (by omega), hg⟩ (by dsimp only; omega) ⟨rfl, rfl, rfl, rfl, rfl, rfl, rfl, rfl, trivial⟩ rfl rfl
 have hc2p := odf hc2
 refine Cj.xl (Cj.seq (Cj.seq (Cj.perm (H' := gH 9 (al.map str) g ++ []) (.of_eq (List.append_nil _)) ?_)))
 refine Cj.keepS hg (fun I8 hle8 hv => ?_)
 have hIJ := hIJ.mono hle8
 have hx := hx.mono hle8
 have hy := hy.mono hle8
 replace hv := StrP.of hv
 obtain ⟨pa, ca, hae⟩ := StrP.len hv
 rw [hae] at hv
 rw [hae]
 obtain ⟨J8, hJ8⟩ : ∃ J, J = I8 := ⟨_, rfl⟩
 refine Cj.region (J.z q0 ?_)
 refine J.z (q15 tU28) ?_
 refine J.z q0 ?_
 refine J.ns (Cj.block (Cj.loop (ι := Nat × Heap) (fun y => y.1 ≤ al.length ∧ Le I8 y.2) (fun y => al.length - y.1) (fun y => [(0, ptr ib 0), (1, ptr rb 0), (2, str n), (3, str text), (70, .slice pa al.length ca), (71, i64 (al.length : Int)), (72, i64 (y.1 : Int))]) (fun y => y.2) (fun y => []) (0, _) ⟨Nat.zero_le _, Le.refl _⟩ ⟨rfl, rfl, rfl, rfl, rfl, rfl, rfl, trivial⟩ rfl rfl ?_))
 rintro ⟨i, J3⟩ ⟨hi, hIJ⟩
 dsimp only at hi hIJ ⊢
 have hx := hx.mono hIJ
 have hy := hy.mono hIJ
 have hv := hv.mono hIJ
 refine Cj.sr (J.z q17 ?_)
 refine J.nss (Cj.cond rfl (fun hc24 => ?_) (fun hc24 => ?_))
 ·
  have hc24p := odt hc24
  refine Cj.ks (Cj.seq (Cj.block (Cj.seq ?_)))
  have hilt : i < al.length := by omega
  obtain ⟨s, hsget⟩ : ∃ x, al[i]? = some x := ⟨_, lgg hilt⟩
  have hsl := hal.2 s (lmg hsget)
  obtain ⟨p4, c4, hpe4, hc4, hp4⟩ := id hv
  cases hpe4
  obtain ⟨ab, ao, acs, aty, afr, asp, rfl, hab, had⟩ := hp4 (ne_nil_of hilt)
  refine Cj.region (J.z q0 ?_)
  refine J.z (q19 (off' := ao + i) tU28 tS9) ?_
  refine J.z (yl_load rfl rfl tA9 (Blk.imm hab) (str_from had hsget)) ?_
  refine J.z q1 ?_
  refine J.z q1 ?_
  refine J.nsss (Cj.region (J.z q0 ?_))
  refine J.z (yl_gtr rfl rfl rfl) ?_
  refine J.cd (fun hc25 => ?_) (fun hc25 => ?_)
  ·
   have hc25p := odt hc25
   refine Cj.exit (Ej.seqExit (Ej.blkOther rfl ?_))
   refine Ej.seqExit (Ej.loopExit (Ej.blkExit (Ej.seq (Cj.seq ?_))))
   obtain ⟨pf, cf, hRf⟩ := hy.ex
   refine Cj.region (J.z q0 ?_)
   refine J.z q0 ?_
   refine J.op rfl (q42 rfl rfl rfl rfl rfl (Scan_ok ib (es.map entL) n [] (by decide) 100 _ hx) ?_)
   intro v27 I28 H29 hle30 hn26 hp31
   have hx := hx.mono hle30
   have hy := hy.mono hle30
   have hRf := hRf.mono hle30
   obtain ⟨wd, h, hod⟩ := hp31; cases h
   refine J.keepO hod hn26 (fun Id hled hrd => ?_)
   have hx := hx.mono hled
   have hy := hy.mono hled
   have hRf := hRf.mono hled
   replace hrd := hrd.row
   refine J.z q0 ?_
   refine J.z q0 ?_
   refine J.op rfl (q37 (H1 := []) rfl rfl rfl rfl rfl (rScan_ok rb es n [] (by decide) 100 _ hy) ?_)
   intro v32 I33 H34 hle35 hp36
   have hx := hx.mono hle35
   have hy := hy.mono hle35
   have hRf := hRf.mono hle35
   have hrd := hrd.mono hle35
   obtain ⟨vqd, h, qd, rfl⟩ := hp36; cases h
   refine J.op rfl (op_pure rfl rfl rfl rfl rfl (rLines_ok ((Ix.scan (es.map entL) n [] 100).map lineI) ((Ix.scan (es.map entL) n [] 100).map lineI) _ _ (by have := scan_small (es.map entL) n [] 100; omega) _ hrd qd) ?_)
   refine J.eqv 120 rfl (show _ = .bool true from (congrArg Value.bool (decide_eq_true rfl))) ?_
   refine J.z q0 ?_
   refine q12 7 121 true (q2 q0 ?_)
   refine q12 7 121 true (q2 q0 ?_)
   refine q12 7 121 true (q2 q0 ?_)
   refine J.opG 7 121 true _ rfl rfl rfl rfl (q42 rfl rfl rfl rfl rfl (Scan_ok ib (es.map entL) n text htl 3 _ hx) ?_)
   intro v38 I39 H40 hle41 hn37 hp42
   have hx := hx.mono hle41
   have hy := hy.mono hle41
   have hRf := hRf.mono hle41
   obtain ⟨we, h, hoe⟩ := hp42; cases h
   refine J.keepO hoe hn37 (fun Ie hlee hre => ?_)
   have hx := hx.mono hlee
   have hy := hy.mono hlee
   have hRf := hRf.mono hlee
   replace hre := hre.row
   refine q12 7 121 true (q2 q0 ?_)
   refine q12 7 121 true (q2 q0 ?_)
   refine q12 7 121 true (q2 q0 ?_)
   refine J.opG 7 121 true _ rfl rfl rfl rfl (q37 (H1 := []) rfl rfl rfl rfl rfl (rScan_ok rb es n text htl 3 _ hy) ?_)
   intro v43 I44 H45 hle46 hp47
   have hx := hx.mono hle46
   have hRf := hRf.mono hle46
   have hre := hre.mono hle46
   obtain ⟨vqe, h, qe, rfl⟩ := hp47; cases h
   refine J.opG 7 121 true _ rfl rfl rfl rfl (op_pure rfl rfl rfl rfl rfl (rLines_ok ((Ix.scan (es.map entL) n text 3).map lineI) ((Ix.scan (es.map entL) n text 3).map lineI) _ _ (by have := scan_small (es.map entL) n text 3; omega) _ hre qe) ?_)
   refine J.eqv 130 rfl (show _ = .bool true from (congrArg Value.bool (decide_eq_true rfl))) ?_
   refine J.z q48 ?_
   refine J.z q0 ?_
   refine q12 18 132 true (q2 q0 ?_)
   refine J.opG 18 132 true _ rfl rfl rfl rfl (q52 rfl rfl rfl rfl rfl (Titles_ok ib (es.map entL) _ hx) ?_)
   intro v49 I50 H51 hle52 hn48 hp53
   have hRf := hRf.mono hle52
   obtain ⟨gf, hgf, h, rfl⟩ := hp53; cases h
   refine J.keepR recC_len (by decide) (hgf.base hn48) (by simp) (fun If hlef hrf => ?_)
   have hRf := hRf.mono hlef
   refine q12 18 132 true (q2 q0 ?_)
   refine J.opG 18 132 true _ rfl rfl rfl rfl (q37 (H1 := []) rfl rfl rfl rfl rfl (rTitles_ok rb _ es (by omega) _ hRf.1 hRf.2) ?_)
   intro v54 I55 H56 hle57 hp58
   have hrf := hrf.mono hle57
   obtain ⟨vqf, h, qf, rfl⟩ := hp58; cases h
   refine J.opG 18 132 true _ rfl rfl rfl rfl (op_pure rfl rfl rfl rfl rfl (rRecs_ok (es.map (·.t)) (es.map (·.t)) _ _ (by rw [List.length_map]; omega) _ (tit_eq es ▸ hrf) qf) ?_)
   refine J.eqv 137 rfl (show _ = .bool true from (congrArg Value.bool (decide_eq_true rfl))) ?_
   refine J.z q48 ?_
   refine J.z q1 ?_
   refine J.ns (Cj.ret (q6 ?_))
   exact ⟨rfl, rfl⟩
  have hc25p := odf hc25
  refine Cj.ks (Cj.sr (J.z q0 ?_))
  refine J.z q0 ?_
  refine J.z q0 ?_
  refine J.op rfl (q42 rfl rfl rfl rfl rfl (Word_ok ib (es.map entL) n s hsl _ hx) ?_)
  intro v60 I61 H62 hle63 hn59 hp64
  have hIJ := hIJ.mono hle63
  have hx := hx.mono hle63
  have hy := hy.mono hle63
  obtain ⟨wa, h, hoa⟩ := hp64; cases h
  refine J.keepO hoa hn59 (fun Ia hlea hra => ?_)
  have hIJ := hIJ.mono hlea
  have hx := hx.mono hlea
  have hy := hy.mono hlea
  replace hra := hra.row
  refine J.z q0 ?_
  refine J.z q0 ?_
  refine J.z q0 ?_
  refine J.op rfl (q37 (H1 := []) rfl rfl rfl rfl rfl (rWord_ok rb es n s (by omega) _ hy) ?_)
  intro v65 I66 H67 hle68 hp69
  have hIJ := hIJ.mono hle68
  have hx := hx.mono hle68
  have hy := hy.mono hle68
  have hra := hra.mono hle68
  obtain ⟨vqa, h, qa, rfl⟩ := hp69; cases h
  refine J.op rfl (op_pure rfl rfl rfl rfl rfl (rRecs_ok (Ix.word (es.map entL) n s) (Ix.word (es.map entL) n s) _ _ (by have := word_small es n s; omega) _ hra qa) ?_)
  refine J.eqv 87 rfl (show _ = .bool true from (congrArg Value.bool (decide_eq_true rfl))) ?_
  refine J.z (yl_not rfl rfl) ?_
  refine J.z q0 ?_
  refine q5 10 89 false (congrArg not rfl) (q2 q0 ?_)
  refine q5 10 89 false (congrArg not rfl) (q2 q0 ?_)
  refine q5 10 89 false (congrArg not rfl) (q2 q0 ?_)
  refine J.opG 10 89 false _ rfl rfl rfl (congrArg not rfl) (q42 rfl rfl rfl rfl rfl (Phrase_ok ib (es.map entL) n s hsl _ hx) ?_)
  intro v71 I72 H73 hle74 hn70 hp75
  have hIJ := hIJ.mono hle74
  have hx := hx.mono hle74
  have hy := hy.mono hle74
  obtain ⟨wz, h, hoz⟩ := hp75; cases h
  refine J.keepO hoz hn70 (fun Iz hlez hrz => ?_)
  have hIJ := hIJ.mono hlez
  have hx := hx.mono hlez
  have hy := hy.mono hlez
  replace hrz := hrz.row
  refine q5 10 89 false (congrArg not rfl) (q2 q0 ?_)
  refine q5 10 89 false (congrArg not rfl) (q2 q0 ?_)
  refine q5 10 89 false (congrArg not rfl) (q2 q0 ?_)
  refine J.opG 10 89 false _ rfl rfl rfl (congrArg not rfl) (q37 (H1 := []) rfl rfl rfl rfl rfl (rPhrase_ok rb es n s (by omega) _ hy) ?_)
  intro v76 I77 H78 hle79 hp80
  have hIJ := hIJ.mono hle79
  have hx := hx.mono hle79
  have hy := hy.mono hle79
  have hrz := hrz.mono hle79
  obtain ⟨vqz, h, qz, rfl⟩ := hp80; cases h
  refine J.opG 10 89 false _ rfl rfl rfl (congrArg not rfl) (op_pure rfl rfl rfl rfl rfl (rRecs_ok (Ix.phrase (es.map entL) n (Ke.words s)) (Ix.phrase (es.map entL) n (Ke.words s)) _ _ (by have := phrase_small es n (Ke.words s); omega) _ hrz qz) ?_)
  refine J.eqv 98 rfl (show _ = .bool true from (congrArg Value.bool (decide_eq_true rfl))) ?_
  refine q5 10 89 false (congrArg not rfl) (q2 (yl_not rfl rfl) ?_)
  refine J.z (q10 (congrArg not rfl)) ?_
  refine J.z q0 ?_
  refine q5 22 101 false (congrArg not rfl) (q2 q0 ?_)
  refine q5 22 101 false (congrArg not rfl) (q2 q0 ?_)
  refine q5 22 101 false (congrArg not rfl) (q2 q0 ?_)
  refine J.opG 22 101 false _ rfl rfl rfl (congrArg not rfl) (q42 rfl rfl rfl rfl rfl (Key_ok ib (es.map entL) n s hsl _ hx) ?_)
  intro v82 I83 H84 hle85 hn81 hp86
  have hIJ := hIJ.mono hle85
  have hy := hy.mono hle85
  obtain ⟨wc, h, hoc⟩ := hp86; cases h
  refine J.keepO hoc hn81 (fun Ic hlec hrc => ?_)
  have hIJ := hIJ.mono hlec
  have hy := hy.mono hlec
  replace hrc := hrc.row
  refine q5 22 101 false (congrArg not rfl) (q2 q0 ?_)
  refine q5 22 101 false (congrArg not rfl) (q2 q0 ?_)
  refine q5 22 101 false (congrArg not rfl) (q2 q0 ?_)
  refine J.opG 22 101 false _ rfl rfl rfl (congrArg not rfl) (q37 (H1 := []) rfl rfl rfl rfl rfl (rKey_ok rb es n s hsl _ hy) ?_)
  intro v87 I88 H89 hle90 hp91
  have hIJ := hIJ.mono hle90
  have hrc := hrc.mono hle90
  obtain ⟨vqc, h, qc, rfl⟩ := hp91; cases h
  refine J.opG 22 101 false _ rfl rfl rfl (congrArg not rfl) (op_pure rfl rfl rfl rfl rfl (rRecs_ok (Ix.withK (es.map entL) n (Ix.keyOf n s)) (Ix.withK (es.map entL) n (Ix.keyOf n s)) _ _ (by have := withK_len es n (Ix.keyOf n s); omega) _ hrc qc) ?_)
  refine J.eqv 110 rfl (show _ = .bool true from (congrArg Value.bool (decide_eq_true rfl))) ?_
  refine q5 22 101 false (congrArg not rfl) (q2 (yl_not rfl rfl) ?_)
  refine J.z (q10 (congrArg not rfl)) ?_
  refine J.ns (Cj.cond rfl (fun hc92 => Bool.noConfusion (Eq.trans (Eq.symm (congrArg not rfl)) hc92)) (fun hc92 => ?_))
  refine Cj.kb (Cj.region (J.z q7 ?_))
  refine J.z q0 ?_
  refine J.nil (Ej.round (i + 1, _) ⟨by dsimp only; omega, hIJ⟩ (by dsimp only; omega) ⟨rfl, rfl, rfl, rfl, rfl, rfl, rfl, trivial⟩ rfl rfl)
 have hc24p := odf hc24
 refine Cj.xl (Cj.seq ?_)
 obtain ⟨pf, cf, hRf⟩ := hy.ex
 refine Cj.region (J.z q0 ?_)
 refine J.z q0 ?_
 refine J.op rfl (q42 rfl rfl rfl rfl rfl (Scan_ok ib (es.map entL) n [] (by decide) 100 _ hx) ?_)
 intro v94 I95 H96 hle97 hn93 hp98
 have hx := hx.mono hle97
 have hy := hy.mono hle97
 have hRf := hRf.mono hle97
 obtain ⟨wd, h, hod⟩ := hp98; cases h
 refine J.keepO hod hn93 (fun Id hled hrd => ?_)
 have hx := hx.mono hled
 have hy := hy.mono hled
 have hRf := hRf.mono hled
 replace hrd := hrd.row
 refine J.z q0 ?_
 refine J.z q0 ?_
 refine J.op rfl (q37 (H1 := []) rfl rfl rfl rfl rfl (rScan_ok rb es n [] (by decide) 100 _ hy) ?_)
 intro v99 I100 H101 hle102 hp103
 have hx := hx.mono hle102
 have hy := hy.mono hle102
 have hRf := hRf.mono hle102
 have hrd := hrd.mono hle102
 obtain ⟨vqd, h, qd, rfl⟩ := hp103; cases h
 refine J.op rfl (op_pure rfl rfl rfl rfl rfl (rLines_ok ((Ix.scan (es.map entL) n [] 100).map lineI) ((Ix.scan (es.map entL) n [] 100).map lineI) _ _ (by have := scan_small (es.map entL) n [] 100; omega) _ hrd qd) ?_)
 refine J.eqv 120 rfl (show _ = .bool true from (congrArg Value.bool (decide_eq_true rfl))) ?_
 refine J.z q0 ?_
 refine q12 7 121 true (q2 q0 ?_)
 refine q12 7 121 true (q2 q0 ?_)
 refine q12 7 121 true (q2 q0 ?_)
 refine J.opG 7 121 true _ rfl rfl rfl rfl (q42 rfl rfl rfl rfl rfl (Scan_ok ib (es.map entL) n text htl 3 _ hx) ?_)
 intro v105 I106 H107 hle108 hn104 hp109
 have hx := hx.mono hle108
 have hy := hy.mono hle108
 have hRf := hRf.mono hle108
 obtain ⟨we, h, hoe⟩ := hp109; cases h
 refine J.keepO hoe hn104 (fun Ie hlee hre => ?_)
 have hx := hx.mono hlee
 have hy := hy.mono hlee
 have hRf := hRf.mono hlee
 replace hre := hre.row
 refine q12 7 121 true (q2 q0 ?_)
 refine q12 7 121 true (q2 q0 ?_)
 refine q12 7 121 true (q2 q0 ?_)
 refine J.opG 7 121 true _ rfl rfl rfl rfl (q37 (H1 := []) rfl rfl rfl rfl rfl (rScan_ok rb es n text htl 3 _ hy) ?_)
 intro v110 I111 H112 hle113 hp114
 have hx := hx.mono hle113
 have hRf := hRf.mono hle113
 have hre := hre.mono hle113
 obtain ⟨vqe, h, qe, rfl⟩ := hp114; cases h
 refine J.opG 7 121 true _ rfl rfl rfl rfl (op_pure rfl rfl rfl rfl rfl (rLines_ok ((Ix.scan (es.map entL) n text 3).map lineI) ((Ix.scan (es.map entL) n text 3).map lineI) _ _ (by have := scan_small (es.map entL) n text 3; omega) _ hre qe) ?_)
 refine J.eqv 130 rfl (show _ = .bool true from (congrArg Value.bool (decide_eq_true rfl))) ?_
 refine J.z q48 ?_
 refine J.z q0 ?_
 refine q12 18 132 true (q2 q0 ?_)
 refine J.opG 18 132 true _ rfl rfl rfl rfl (q52 rfl rfl rfl rfl rfl (Titles_ok ib (es.map entL) _ hx) ?_)
 intro v116 I117 H118 hle119 hn115 hp120
 have hRf := hRf.mono hle119
 obtain ⟨gf, hgf, h, rfl⟩ := hp120; cases h
 refine J.keepR recC_len (by decide) (hgf.base hn115) (by simp) (fun If hlef hrf => ?_)
 have hRf := hRf.mono hlef
 refine q12 18 132 true (q2 q0 ?_)
 refine J.opG 18 132 true _ rfl rfl rfl rfl (q37 (H1 := []) rfl rfl rfl rfl rfl (rTitles_ok rb _ es (by omega) _ hRf.1 hRf.2) ?_)
 intro v121 I122 H123 hle124 hp125
 have hrf := hrf.mono hle124
 obtain ⟨vqf, h, qf, rfl⟩ := hp125; cases h
 refine J.opG 18 132 true _ rfl rfl rfl rfl (op_pure rfl rfl rfl rfl rfl (rRecs_ok (es.map (·.t)) (es.map (·.t)) _ _ (by rw [List.length_map]; omega) _ (tit_eq es ▸ hrf) qf) ?_)
 refine J.eqv 137 rfl (show _ = .bool true from (congrArg Value.bool (decide_eq_true rfl))) ?_
 refine J.z q48 ?_
 refine J.z q1 ?_
 refine J.ns (Cj.ret (q6 ?_))
 exact ⟨rfl, rfl⟩
end Go.Proofs.YtjcdfnbomkoheaaGreatDoor
end
