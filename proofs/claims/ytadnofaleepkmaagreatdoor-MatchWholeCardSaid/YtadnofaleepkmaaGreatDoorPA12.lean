/-
  Own texts on the laws of match, joined: the logic, and contracts of functions. Conditions: none.
-/
import Derived.Test.YtadnofaleepkmaaGreatDoorPA10
import Derived.Test.YtadnofaleepkmaaGreatDoorPA11
import Derived.Test.YtadnofaleepkmaaGreatDoorPA7
section
namespace Go.Proofs.YtadnofaleepkmaaGreatDoor
open Go Go.Sx
theorem tm0 {a m : Int} : a.tmod m = 0 ↔ a % m = 0 := Int.dvd_iff_tmod_eq_zero.symm.trans Int.dvd_iff_emod_eq_zero
/-- A number that an int holds. -/
def In64 (a : Int) : Prop := -9223372036854775808 ≤ a ∧ a ≤ 9223372036854775807
theorem td_rng {a : Int} (h : In64 a) (m : Int) (hm : 2 ≤ m) : -4611686018427387904 ≤ a.tdiv m ∧ a.tdiv m ≤ 4611686018427387904 := by
  unfold In64 at h
  have h1 : (a.tdiv m).natAbs = a.natAbs / m.natAbs := Int.natAbs_tdiv a m
  have h2 : a.natAbs / m.natAbs ≤ a.natAbs / 2 := Nat.div_le_div_left (by omega) (by decide)
  omega
def sixV (q : Ke.Six) : Value := .agg #[i64 q.q0, i64 q.q1, i64 q.q2, i64 q.q3, i64 q.q4, i64 q.q5]
abbrev sixC (q : Ke.Six) : List Value := [i64 q.q0, i64 q.q1, i64 q.q2, i64 q.q3, i64 q.q4, i64 q.q5]
structure SixOk (q : Ke.Six) : Prop where
  h0 : In64 q.q0
  h1 : In64 q.q1
  h2 : In64 q.q2
  h3 : In64 q.q3
  h4 : In64 q.q4
  h5 : In64 q.q5
theorem kind_at (q : Ke.Six) : 0 ≤ (q.q0 % 5).tdiv 4 ∧ ([97, 109] : List UInt8)[((q.q0 % 5).tdiv 4).toNat]? = some (Ke.mkind q) := by
  have h0 : 0 ≤ q.q0 % 5 := by omega
  have h1 : q.q0 % 5 < 5 := by omega
  rw [Int.tdiv_eq_ediv_of_nonneg h0]
  refine ⟨by omega, ?_⟩
  unfold Ke.mkind
  by_cases h : q.q0 % 5 = 4
  · rw [if_pos h, h]; rfl
  · rw [if_neg h, show (q.q0 % 5 / 4).toNat = 0 by omega]; rfl
theorem code_at (q : Ke.Six) : 0 ≤ (q.q2 % 7).tdiv 6 ∧ ([97, 122] : List UInt8)[((q.q2 % 7).tdiv 6).toNat]? = some (if q.q2 % 7 = 6 then 122 else 97) := by
  have h0 : 0 ≤ q.q2 % 7 := by omega
  have h1 : q.q2 % 7 < 7 := by omega
  rw [Int.tdiv_eq_ediv_of_nonneg h0]
  refine ⟨by omega, ?_⟩
  by_cases h : q.q2 % 7 = 6
  · rw [if_pos h, h]; rfl
  · rw [if_neg h, show (q.q2 % 7 / 6).toNat = 0 by omega]; rfl
theorem pick_str {l : List (List UInt8)} {n : Int} (h0 : 0 ≤ n) (h1 : n < (l.length : Int)) : (l.map str)[n.toNat]? = some (str (Ke.pick l n)) := by rw [List.getElem?_map, Ke.pick_get h0 h1]; rfl
/-- The subfields of the fields stand for good. -/
def SubsS (I : Heap) (fs : List Ke.Fld) : Prop := ∀ f ∈ fs, RowS subC I f.subs f.sv
theorem SubsS.mono {I I' : Heap} {fs : List Ke.Fld} (h : SubsS I fs) (hle : Le I I') : SubsS I' fs := fun f hf => (h f hf).mono hle
theorem SubsS.nil {I : Heap} : SubsS I [] := fun _ h => by cases h
theorem SubsS.add {I : Heap} {fs : List Ke.Fld} {f : Ke.Fld} (h : SubsS I fs) (h1 : RowS subC I f.subs f.sv) : SubsS I (fs ++ [f]) := fun x hx => by
  rcases List.mem_append.1 hx with hx | hx
  · exact h x hx
  · rw [List.mem_singleton.1 hx]; exact h1
theorem nrm_add (fs : List Ke.Fld) (f : Ke.Fld) : Ke.nrm (fs ++ [f]) = Ke.nrm fs ++ [Ke.nrm1 f] := by unfold Ke.nrm; rw [List.map_append]; rfl
theorem m020_next (q : Ke.Six) (k : Nat) : Ke.m020 q (k + 1) = Ke.m020 q k ++ [⟨[48, 50, 48], [32, 32], [], .slice none 0 0, [⟨if q.q2 % 7 = 6 then 122 else 97, Ke.pick Ke.booksL ((q.q2.tdiv 3 + (k : Int)) % 7)⟩]⟩] := by
  unfold Ke.m020; rw [List.range_succ, List.map_append]; rfl
theorem nrm_len (fs : List Ke.Fld) : (Ke.nrm fs).length = fs.length := List.length_map _
/-- Made records are small. -/
theorem made_small {q : Ke.Six} {f : Ke.Fld} (h : f ∈ Ke.made6 q) : f.subs.length ≤ 2 ∧ textsLen f.subs ≤ 100 ∧ f.ind.length ≤ 2 ∧ f.data.length ≤ 40 := by
  have hb : ∀ t ∈ Ke.booksL, t.length ≤ 30 := by decide
  have hn : ∀ t ∈ Ke.namesL, t.length ≤ 30 := by decide
  have ht : ∀ t ∈ Ke.titlesL, t.length ≤ 30 := by decide
  have hy : ∀ t ∈ Ke.yearsL, t.length ≤ 30 := by decide
  have hi : ∀ t ∈ Ke.indsL, t.length ≤ 2 := by decide
  rcases Ke.made_in h with h | h | h | h | h
  · obtain ⟨-, h2, h3, h4⟩ := Ke.mem008 h
    rw [h2, h3]; exact ⟨by decide, by decide, by decide, h4⟩
  · obtain ⟨-, h2, h3, c, t, h4, h5⟩ := Ke.mem020 h
    rw [h2, h3, h4]; have := hb t h5; exact ⟨by simp, by simp [textsLen]; omega, by decide, by decide⟩
  · obtain ⟨-, h2, h3, t, h4, h5⟩ := Ke.mem100 h
    rw [h2, h3, h4]; have := hn t h5; exact ⟨by simp, by simp [textsLen]; omega, by decide, by decide⟩
  · obtain ⟨-, h2, h3, t, h4, h5⟩ := Ke.mem245 h
    rw [h3, h4]; have := ht t h5; have := hi _ h2; exact ⟨by simp, by simp [textsLen]; omega, by omega, by decide⟩
  · obtain ⟨-, h2, h3, t, h4, h5⟩ := Ke.mem260 h
    rw [h2, h3, h4]; have := hy t h5; exact ⟨by simp, by simp [textsLen]; omega, by decide, by decide⟩
theorem made_len (q : Ke.Six) : (Ke.made6 q).length ≤ 6 := by
  have h1 : (Ke.m008 q).length ≤ 1 := by unfold Ke.m008; split <;> simp
  have h2 : (Ke.m020 q (q.q2 % 3).toNat).length ≤ 2 := by unfold Ke.m020; rw [List.length_map, List.length_range]; omega
  have h3 : (Ke.m100 q).length ≤ 1 := by unfold Ke.m100; split <;> simp
  have h4 : (Ke.m245 q).length ≤ 1 := by unfold Ke.m245; split <;> simp
  have h5 : (Ke.m260 q).length ≤ 1 := by unfold Ke.m260; split <;> simp
  unfold Ke.made6
  simp only [List.length_append]; omega
theorem made_ok {q : Ke.Six} {fs : List Ke.Fld} (h : Ke.nrm fs = Ke.made6 q) : FOK fs ∧ ∀ f ∈ fs, f.data.length ≤ 2000000 := by
  have hl : fs.length ≤ 6 := by rw [← nrm_len, h]; exact made_len q
  have hm : ∀ f ∈ fs, Ke.nrm1 f ∈ Ke.made6 q := fun f hf => by rw [← h]; exact List.mem_map_of_mem hf
  refine ⟨⟨by omega, fun f hf => ?_⟩, fun f hf => ?_⟩
  · obtain ⟨h1, h2, h3, -⟩ := made_small (hm f hf)
    exact ⟨by have : f.subs.length ≤ 2 := h1; omega, by have : textsLen f.subs ≤ 100 := h2; omega, by have : f.ind.length ≤ 2 := h3; omega⟩
  · have := (made_small (hm f hf)).2.2.2
    have h2 : f.data.length ≤ 40 := this
    omega
set_option maxRecDepth 20000 in
set_option maxHeartbeats 4000000 in
theorem Made6_ok (q : Ke.Six) (hq : SixOk q) (I : Heap) : Ctr Tryz.prog 13 [sixV q] I [] (fun e I' H' => ∃ fs w, e = .returned (recV (Ke.mkind q) 109 w) ∧ RecS I' fs w ∧ Ke.nrm fs = Ke.made6 q ∧ H' = []) := by
 have hk0 := kind_at q
 have hc0 := code_at q
 have hIJ0 := Le.refl I
 refine Ctr.of_body Tryz.func13 rfl (by decide) (Nat.le_of_ble_eq_true rfl) ?_
 intro w0 hw0
 refine Cj.seq (Cj.region (J.op rfl (op_box rfl rfl rfl rfl rfl ?_)))
 intro b1 hb1
 refine J.op rfl (op_alloc rfl rfl rfl Tryz.zeroValue26 rfl ?_)
 intro b2 hb2
 refine J.nil (Ej.seq (Cj.seq (Cj.region (J.z (yl_indexArr (off' := 0) rfl rfl rfl Tryz.underlying22 Tryz.sizeOf3 (by decide) (by decide) (by decide)) ?_))))
 refine J.z (yl_load rfl rfl Tryz.isAgg3 (Blk.at 1 rfl) rfl) ?_
 refine J.op rfl (op_pure rfl rfl rfl rfl rfl (Mod_ok q.q0 5 (by decide) (by decide) _) ?_)
 refine J.z (yl_quo rfl rfl rfl (by decide) (w64 (by rw [Int.tdiv_eq_ediv_of_nonneg (by omega)]; omega))) ?_
 refine J.z (yl_index rfl rfl rfl Tryz.underlying9 hk0.1 hk0.2) ?_
 refine J.z (yl_buildS (pl := #[(0, 1), (1, 1), (2, 1)]) rfl rfl Tryz.zeroValue26 rfl Tryz.underlying26 (fun w => by simp [Tryz.sizeOf23, Tryz.sizeOf5]) (LBld.part rfl rfl rfl (LSpl.c LSpl.z) (LBld.part rfl rfl rfl (LSpl.s (LSpl.c LSpl.z)) LBld.none))) ?_
 refine J.op rfl (op_alloc rfl rfl rfl Tryz.zeroValue26 rfl ?_)
 intro b3 hb3
 refine J.op rfl (op_store 0 rfl rfl rfl rfl rfl rfl Tryz.sizeOf26 rfl rfl (LSpl.c (LSpl.c (LSpl.c LSpl.z))) LSet.z ?_)
 refine J.nil (Ej.seq (Cj.seq (Cj.region (J.op rfl (op_buildSlice rfl rfl rfl Tryz.underlying31 Tryz.sizeOf9 Tryz.zeroValue9 rfl rfl rfl rfl (LCat.one rfl (LCat.one rfl (LCat.one rfl (LCat.one rfl (LCat.one rfl (LCat.one rfl (LCat.one rfl (LCat.one rfl LCat.none)))))))) ?_)))))
 intro b4 hb4
 refine J.z (yl_assign rfl rfl) ?_
 refine J.nil (Ej.seq (Cj.seq (Cj.region (J.z (yl_move rfl rfl) ?_))))
 refine J.z (yl_indexArr (off' := 1) rfl rfl rfl Tryz.underlying22 Tryz.sizeOf3 (by decide) (by decide) (by decide)) ?_
 refine J.z (yl_load rfl rfl Tryz.isAgg3 (Blk.at 3 rfl) rfl) ?_
 refine J.op rfl (op_pure rfl rfl rfl rfl rfl (Mod_ok q.q1 8 (by decide) (by decide) _) ?_)
 refine J.z (yl_indexAddr (off' := (q.q1 % 8).toNat) rfl rfl rfl Tryz.underlying31 Tryz.sizeOf9 (by omega) (by omega) (by omega)) ?_
 refine J.z (yl_load rfl rfl Tryz.isAgg9 (Blk.at 0 rfl) (pick_str (l := Ke.yearsL) (by omega) (by simp [Ke.yearsL]; omega))) ?_
 refine J.z (yl_assign rfl rfl) ?_
 refine J.nil (Ej.seq (Cj.join (ι := Heap × List Ke.Fld × Gs) (fun y => Le I y.1 ∧ SubsS y.1 y.2.1 ∧ Ke.nrm y.2.1 = Ke.m008 q ∧ y.2.1.length ≤ 1 ∧ gOk w0.heap.size 4 y.2.1.length (y.2.1.flatMap fldC) y.2.2) (fun y => [(1, ptr b1 0), (2, ptr b2 0), (3, ptr b3 0), (4, .slice (some ⟨b4, 0, none⟩) 8 8)]) (fun y => y.1) (fun y => (b4, cel 9 (Ke.yearsL.map str)) :: (b3, cel 26 [u8 (Ke.mkind q), u8 109, gV y.2.1.length y.2.2]) :: (b2, cel 26 [u8 0, u8 0, .slice none 0 0]) :: (b1, cel 22 (sixC q)) :: gH 35 (y.2.1.flatMap fldC) y.2.2) ?_ (fun hcut => ?_)))
 ·
  rintro ⟨Jh, fs, g⟩ ⟨hIJ, hS, hN, hfl, hg⟩
  dsimp only at hIJ hS hN hfl hg ⊢
  refine Cj.seq (Cj.region (J.op rfl (op_buildSlice rfl rfl rfl Tryz.underlying31 Tryz.sizeOf9 Tryz.zeroValue9 rfl rfl rfl rfl (LCat.one rfl (LCat.one rfl (LCat.one rfl (LCat.one rfl (LCat.one rfl (LCat.one rfl (LCat.one rfl LCat.none))))))) ?_)))
  intro b5 hb5
  refine J.z (yl_assign rfl rfl) ?_
  refine J.nil (Ej.seq (Cj.seq (Cj.seq (Cj.region (J.z (yl_assign rfl rfl) ?_)))))
  refine J.nil (Ej.seq (Cj.block (Cj.keep (Keeps.k (Keeps.k (Keeps.k (Keeps.k (Keeps.k Keeps.r))))) ?_)))
  refine Cj.loop (ι := Nat × Heap × List Ke.Fld × Gs) (fun y => y.1 ≤ (q.q2 % 3).toNat ∧ Le I y.2.1 ∧ SubsS y.2.1 y.2.2.1 ∧ Ke.nrm y.2.2.1 = Ke.m008 q ++ Ke.m020 q y.1 ∧ y.2.2.1.length ≤ 1 + y.1 ∧ gOk w0.heap.size 4 y.2.2.1.length (y.2.2.1.flatMap fldC) y.2.2.2) (fun y => (q.q2 % 3).toNat - y.1) (fun y => [(1, ptr b1 0), (2, ptr b2 0), (3, ptr b3 0), (4, .slice (some ⟨b4, 0, none⟩) 8 8), (6, .slice (some ⟨b5, 0, none⟩) 7 7), (7, i64 (y.1 : Int))]) (fun y => y.2.1) (fun y => (b5, cel 9 (Ke.booksL.map str)) :: (b4, cel 9 (Ke.yearsL.map str)) :: (b3, cel 26 [u8 (Ke.mkind q), u8 109, gV y.2.2.1.length y.2.2.2]) :: (b2, cel 26 [u8 0, u8 0, .slice none 0 0]) :: (b1, cel 22 (sixC q)) :: gH 35 (y.2.2.1.flatMap fldC) y.2.2.2) (0, _, fs, g) ⟨Nat.zero_le _, hIJ, hS, by dsimp only; rw [hN]; exact (List.append_nil _).symm, by dsimp only; omega, hg⟩ ⟨rfl, rfl, rfl, rfl, rfl, rfl, trivial⟩ rfl rfl ?_
  rintro ⟨i, Jh, fs, g⟩ ⟨hi, hIJ, hS, hN, hfl, hg⟩
  dsimp only at hi hIJ hS hN hfl hg ⊢
  refine Cj.seq (Cj.seq (Cj.region (J.z (yl_move rfl rfl) ?_)))
  refine J.z (yl_indexArr (off' := 2) rfl rfl rfl Tryz.underlying22 Tryz.sizeOf3 (by decide) (by decide) (by decide)) ?_
  refine J.z (yl_load rfl rfl Tryz.isAgg3 (Blk.at 4 rfl) rfl) ?_
  refine J.op rfl (op_pure rfl rfl rfl rfl rfl (Mod_ok q.q2 3 (by decide) (by decide) _) ?_)
  refine J.z (yl_lss rfl rfl rfl) ?_
  refine J.nil (Ej.seq (Cj.cond rfl (fun hc6 => ?_) (fun hc6 => ?_)))
  ·
   have hc6p := of_decide_eq_true hc6
   refine Cj.skip (Ej.seq (Cj.seq (Cj.block (Cj.drawSel [0, 1, 2, 3, 4] [] 22 (by kernel_rfl) ?_))))
   refine JA.fix ⟨(HSub.c 0 rfl (HSub.c 1 rfl (HSub.c 2 rfl (HSub.c 3 rfl (HSub.c 4 rfl HSub.n))))), CSub.n, (Le.refl _)⟩ (fun fx7 => ?_)
   refine JA.tk 0 rfl fx7 (yl_fieldAddr (off' := 2) rfl rfl Tryz.underlying26 rfl Tryz.sizeOf23 rfl) ?_
   refine JA.tk 1 rfl fx7 (yl_load rfl rfl Tryz.isAgg23 (Blk.atC 2 rfl) rfl) ?_
   refine JA.tk 2 rfl fx7 (yl_indexArr (off' := 2) rfl rfl rfl Tryz.underlying22 Tryz.sizeOf3 (by decide) (by decide) (by decide)) ?_
   refine JA.tk 3 rfl fx7 (yl_load rfl rfl Tryz.isAgg3 (Blk.atC 4 rfl) rfl) ?_
   refine JA.tk 7 rfl fx7 (yl_move rfl rfl) ?_
   refine JA.tk 8 rfl fx7 (yl_indexArr (off' := 2) rfl rfl rfl Tryz.underlying22 Tryz.sizeOf3 (by decide) (by decide) (by decide)) ?_
   refine JA.tk 9 rfl fx7 (yl_load rfl rfl Tryz.isAgg3 (Blk.atC 4 rfl) rfl) ?_
   refine JA.tk 10 rfl fx7 (yl_quo rfl rfl rfl (by decide) (w64 (by have h := td_rng hq.h2 3 (by decide); omega))) ?_
   refine JA.tk 11 rfl fx7 (yl_move rfl rfl) ?_
   refine JA.tk 12 rfl fx7 (yl_add rfl rfl rfl (w64 (by have h := td_rng hq.h2 3 (by decide); omega))) ?_
   refine JA.step 4 (by kernel_rfl) rfl rfl (op_pure rfl rfl rfl rfl rfl (Mod_ok q.q2 7 (by decide) (by decide) _) ?_)
   refine ⟨⟨(Le.refl _), (HSub.c 0 rfl (HSub.c 1 rfl (HSub.c 2 rfl (HSub.c 3 rfl (HSub.c 4 rfl HSub.n))))), CSub.n⟩, ?_⟩
   refine JA.fix ⟨(HSub.c 0 rfl (HSub.c 1 rfl (HSub.c 2 rfl (HSub.c 3 rfl (HSub.c 4 rfl HSub.n))))), CSub.n, (Le.refl _)⟩ (fun fx8 => ?_)
   refine JA.tk 5 rfl fx8 (yl_quo rfl rfl rfl (by decide) (w64 (by rw [Int.tdiv_eq_ediv_of_nonneg (by omega)]; omega))) ?_
   refine JA.tk 6 rfl fx8 (yl_index rfl rfl rfl Tryz.underlying9 hc0.1 hc0.2) ?_
   refine JA.step 13 (by kernel_rfl) rfl rfl (op_pure rfl rfl rfl rfl rfl (Mod_ok (q.q2.tdiv 3 + (i : Int)) 7 (by decide) (by decide) _) ?_)
   refine ⟨⟨(Le.refl _), (HSub.c 0 rfl (HSub.c 1 rfl (HSub.c 2 rfl (HSub.c 3 rfl (HSub.c 4 rfl HSub.n))))), CSub.n⟩, ?_⟩
   refine JA.fix ⟨(HSub.c 0 rfl (HSub.c 1 rfl (HSub.c 2 rfl (HSub.c 3 rfl (HSub.c 4 rfl HSub.n))))), CSub.n, (Le.refl _)⟩ (fun fx9 => ?_)
   refine JA.tk 14 rfl fx9 (yl_indexAddr (off' := ((q.q2.tdiv 3 + (i : Int)) % 7).toNat) rfl rfl rfl Tryz.underlying31 Tryz.sizeOf9 (by omega) (by omega) (by omega)) ?_
   refine JA.tk 15 rfl fx9 (yl_load rfl rfl Tryz.isAgg9 (Blk.atC 0 rfl) (pick_str (l := Ke.booksL) (by omega) (by simp [Ke.booksL]; omega))) ?_
   refine JA.tk 16 rfl fx9 (yl_buildS (pl := #[(0, 1), (1, 1)]) rfl rfl Tryz.zeroValue47 rfl Tryz.underlying47 (fun w => by simp [Tryz.sizeOf5, Tryz.sizeOf9]) (LBld.part rfl rfl rfl (LSpl.c LSpl.z) (LBld.part rfl rfl rfl (LSpl.s (LSpl.c LSpl.z)) LBld.none))) ?_
   refine JA.step 17 (by kernel_rfl) rfl rfl (op_buildSlice rfl rfl rfl Tryz.underlying33 Tryz.sizeOf47 Tryz.zeroValue47 rfl rfl rfl rfl (LCat.agg rfl LCat.none) ?_)
   intro b10 hb10
   refine ⟨⟨(Le.refl _), (HSub.c 1 rfl (HSub.c 2 rfl (HSub.c 3 rfl (HSub.c 4 rfl (HSub.c 5 rfl HSub.n))))), CSub.n⟩, ?_⟩
   refine JA.fix ⟨(HSub.c 1 rfl (HSub.c 2 rfl (HSub.c 3 rfl (HSub.c 4 rfl (HSub.c 5 rfl HSub.n))))), CSub.n, (Le.refl _)⟩ (fun fx11 => ?_)
   refine JA.tk 18 rfl fx11 (yl_buildS (pl := #[(0, 1), (1, 1), (2, 1), (3, 1)]) rfl rfl Tryz.zeroValue35 rfl Tryz.underlying35 (fun w => by simp [Tryz.sizeOf33, Tryz.sizeOf9]) (LBld.part rfl rfl rfl (LSpl.c LSpl.z) (LBld.part rfl rfl rfl (LSpl.s (LSpl.c LSpl.z)) (LBld.part rfl rfl rfl (LSpl.s (LSpl.s (LSpl.s (LSpl.c LSpl.z)))) LBld.none)))) ?_
   refine JA.step 19 (by kernel_rfl) rfl rfl (op_buildSlice rfl rfl rfl Tryz.underlying23 Tryz.sizeOf35 Tryz.zeroValue35 rfl rfl rfl rfl (LCat.agg rfl LCat.none) ?_)
   intro b12 hb12
   refine ⟨⟨(Le.refl _), (HSub.c 2 rfl (HSub.c 3 rfl (HSub.c 4 rfl (HSub.c 5 rfl (HSub.c 6 rfl HSub.n))))), CSub.n⟩, ?_⟩
   refine JA.step 20 (by kernel_rfl) rfl rfl (op_append (by' := 71) [_, _, _, _, _, _, _] rfl rfl rfl rfl rfl Tryz.underlying23 (.inr ⟨_, Tryz.underlying23⟩) (by kernel_rfl) Tryz.sizeOf35 Tryz.zeroValue35 rfl hg rfl (Src.slice (Blk.at 0 rfl) rfl rfl rfl) (by omega) ?_)
   intro g13 hg13
   refine ⟨⟨(Le.refl _), (HSub.c 2 rfl (HSub.c 3 rfl (HSub.c 4 rfl (HSub.c 5 rfl (HSub.c 6 rfl HSub.n))))), CSub.n⟩, ?_⟩
   refine JA.fix ⟨(HSub.c 2 rfl (HSub.c 3 rfl (HSub.c 4 rfl (HSub.c 5 rfl (HSub.c 6 rfl HSub.n))))), CSub.n, (Le.refl _)⟩ (fun fx14 => ?_)
   refine JA.tk 21 rfl fx14 (yl_fieldAddr (off' := 2) rfl rfl Tryz.underlying26 rfl Tryz.sizeOf23 rfl) ?_
   refine JA.last 22 (by kernel_rfl) rfl rfl rfl (op_store 4 rfl rfl rfl rfl (gV_cells _ _) (gV_one _ _) Tryz.sizeOf23 rfl rfl (LSpl.s (LSpl.s (LSpl.c LSpl.z))) (LSet.s (LSet.s (LSet.s (LSet.s LSet.z)))) ?_)
   refine JA.done (by kernel_rfl) ?_
   refine Ej.blkNormal (Ej.seq (Cj.region (J.z (yl_move rfl rfl) ?_)))
   refine J.z (yl_add rfl rfl rfl (w64 (by omega))) ?_
   refine J.z (yl_assign rfl rfl) ?_
   refine J.nil (Ej.pull (Pull.s Pull.z) ?_)
   refine Ej.persist hb10 (fun I16 hle15 hb10i => ?_)
   have hIJ := hIJ.mono hle15
   have hS := hS.mono hle15
   refine Ej.keep (Keeps.d (Keeps.k (Keeps.k (Keeps.k (Keeps.k (Keeps.k Keeps.r)))))) ?_
   refine Ej.round (i + 1, _, fs ++ [(⟨[48, 50, 48], [32, 32], [], .slice (some ⟨b10, 0, none⟩) 1 1, ([(⟨if q.q2 % 7 = 6 then 122 else 97, Ke.pick Ke.booksL ((q.q2.tdiv 3 + (i : Int)) % 7)⟩ : Ke.Sub)] : List Ke.Sub)⟩ : Ke.Fld)], g13) ⟨by dsimp only; omega, hIJ, SubsS.add hS (RowS.of (l := ([(⟨if q.q2 % 7 = 6 then 122 else 97, Ke.pick Ke.booksL ((q.q2.tdiv 3 + (i : Int)) % 7)⟩ : Ke.Sub)] : List Ke.Sub)) (sp := []) (Nat.le_refl _) hb10i), by dsimp only; rw [nrm_add, m020_next, hN, List.append_assoc]; rfl, by dsimp only; simp only [List.length_append, List.length_cons, List.length_nil]; omega, by dsimp only; rw [flat_one, List.length_append]; exact hg13⟩ (by dsimp only; omega) ⟨rfl, rfl, rfl, rfl, rfl, rfl, trivial⟩ rfl (by dsimp only; rw [flat_one, List.length_append]; rfl)
  ·
   have hc6p := of_decide_eq_false hc6
   have hiq : i = (q.q2 % 3).toNat := by omega
   subst hiq
   refine Cj.exit (Ej.seqExit (Ej.loopExit (Ej.blkExit (Ej.seq (Cj.seq (Cj.region (J.op rfl (op_buildSlice rfl rfl rfl Tryz.underlying31 Tryz.sizeOf9 Tryz.zeroValue9 rfl rfl rfl rfl (LCat.one rfl (LCat.one rfl (LCat.one rfl (LCat.one rfl (LCat.one rfl (LCat.one rfl LCat.none)))))) ?_))))))))
   intro b17 hb17
   refine J.z (yl_assign rfl rfl) ?_
   refine J.nil (Ej.seq (Cj.join (ι := Heap × List Ke.Fld × Gs) (fun y => Le I y.1 ∧ SubsS y.1 y.2.1 ∧ Ke.nrm y.2.1 = ((Ke.m008 q ++ Ke.m020 q (q.q2 % 3).toNat) ++ Ke.m100 q) ∧ y.2.1.length ≤ 4 ∧ gOk w0.heap.size 4 y.2.1.length (y.2.1.flatMap fldC) y.2.2) (fun y => [(1, ptr b1 0), (2, ptr b2 0), (3, ptr b3 0), (4, .slice (some ⟨b4, 0, none⟩) 8 8)]) (fun y => y.1) (fun y => (b4, cel 9 (Ke.yearsL.map str)) :: (b3, cel 26 [u8 (Ke.mkind q), u8 109, gV y.2.1.length y.2.2]) :: (b2, cel 26 [u8 0, u8 0, .slice none 0 0]) :: (b1, cel 22 (sixC q)) :: gH 35 (y.2.1.flatMap fldC) y.2.2) ?_ (fun hcut => ?_)))
   ·
    rintro ⟨Jh, fs, g⟩ ⟨hIJ, hS, hN, hfl, hg⟩
    dsimp only at hIJ hS hN hfl hg ⊢
    refine Cj.seq (Cj.region (J.op rfl (op_buildSlice rfl rfl rfl Tryz.underlying31 Tryz.sizeOf9 Tryz.zeroValue9 rfl rfl rfl rfl (LCat.one rfl (LCat.one rfl (LCat.one rfl (LCat.one rfl (LCat.one rfl (LCat.one rfl LCat.none)))))) ?_)))
    intro b18 hb18
    refine J.z (yl_assign rfl rfl) ?_
    refine J.nil (Ej.seq (Cj.join (ι := Heap × List Ke.Fld × Gs) (fun y => Le I y.1 ∧ SubsS y.1 y.2.1 ∧ Ke.nrm y.2.1 = (((Ke.m008 q ++ Ke.m020 q (q.q2 % 3).toNat) ++ Ke.m100 q) ++ Ke.m245 q) ∧ y.2.1.length ≤ 5 ∧ gOk w0.heap.size 4 y.2.1.length (y.2.1.flatMap fldC) y.2.2) (fun y => [(1, ptr b1 0), (2, ptr b2 0), (3, ptr b3 0), (4, .slice (some ⟨b4, 0, none⟩) 8 8)]) (fun y => y.1) (fun y => (b4, cel 9 (Ke.yearsL.map str)) :: (b3, cel 26 [u8 (Ke.mkind q), u8 109, gV y.2.1.length y.2.2]) :: (b2, cel 26 [u8 0, u8 0, .slice none 0 0]) :: (b1, cel 22 (sixC q)) :: gH 35 (y.2.1.flatMap fldC) y.2.2) ?_ (fun hcut => ?_)))
    ·
     rintro ⟨Jh, fs, g⟩ ⟨hIJ, hS, hN, hfl, hg⟩
     dsimp only at hIJ hS hN hfl hg ⊢
     refine Cj.join (ι := Heap × List Ke.Fld × Gs) (fun y => Le I y.1 ∧ SubsS y.1 y.2.1 ∧ Ke.nrm y.2.1 = ((((Ke.m008 q ++ Ke.m020 q (q.q2 % 3).toNat) ++ Ke.m100 q) ++ Ke.m245 q) ++ Ke.m260 q) ∧ y.2.1.length ≤ 6 ∧ gOk w0.heap.size 4 y.2.1.length (y.2.1.flatMap fldC) y.2.2) (fun y => [(1, ptr b1 0), (2, ptr b2 0), (3, ptr b3 0), (4, .slice (some ⟨b4, 0, none⟩) 8 8)]) (fun y => y.1) (fun y => (b4, cel 9 (Ke.yearsL.map str)) :: (b3, cel 26 [u8 (Ke.mkind q), u8 109, gV y.2.1.length y.2.2]) :: (b2, cel 26 [u8 0, u8 0, .slice none 0 0]) :: (b1, cel 22 (sixC q)) :: gH 35 (y.2.1.flatMap fldC) y.2.2) ?_ (fun hcut => ?_)
     ·
      rintro ⟨Jh, fs, g⟩ ⟨hIJ, hS, hN, hfl, hg⟩
      dsimp only at hIJ hS hN hfl hg ⊢
      refine Cj.seq (Cj.region (J.z (yl_loadAgg rfl rfl Tryz.isAgg26 Tryz.sizeOf26 (Blk.at 1 rfl) rfl rfl) ?_))
      refine J.op rfl (op_store 2 rfl rfl rfl rfl rfl (by show [u8 (Ke.mkind q), u8 109, gV _ _].all Value.oneCell' = true; simp only [List.all_cons, List.all_nil, gV_one', Bool.and_true]; rfl) Tryz.sizeOf26 rfl rfl (LSpl.c (LSpl.c (LSpl.c LSpl.z))) (LSet.s (LSet.s LSet.z)) ?_)
      refine J.nil (Ej.seq (Cj.ret (Ej.perm (H' := gH _ _ _ ++ [_, _, _, _]) List.perm_append_comm ?_)))
      refine Ej.keepR fldC_len (by decide) hg rfl (fun I9 hle9 hfs => ?_)
      refine Ej.retC (Keeps.d (Keeps.d (Keeps.d (Keeps.d Keeps.n)))) rfl rfl rfl (Blk.at 2 rfl) Tryz.isAgg26 Tryz.sizeOf26 rfl ?_
      exact ⟨fs, _, rfl, ⟨hfs, fun f hf => ((hS f hf).mono hle9)⟩, hN, rfl⟩
     ·
      refine Cj.seq (Cj.region (J.z (yl_indexArr (off' := 5) rfl rfl rfl Tryz.underlying22 Tryz.sizeOf3 (by decide) (by decide) (by decide)) ?_))
      refine J.z (yl_load rfl rfl Tryz.isAgg3 (Blk.at 3 rfl) rfl) ?_
      refine J.z (yl_rem rfl rfl rfl (by decide)) ?_
      refine J.z (yl_neq rfl rfl rfl) ?_
      refine J.nil (Ej.seq (Cj.cond rfl (fun hc19 => ?_) (fun hc19 => ?_)))
      ·
       have hc19p := bne_iff_ne.1 hc19
       have hnx : Ke.m260 q = _ := if_neg (fun h => bne_iff_ne.1 hc19 (tm0.2 h))
       refine Cj.drawSel [0, 1, 2, 3] [] 15 (by kernel_rfl) ?_
       refine JA.fix ⟨(HSub.c 0 rfl (HSub.c 1 rfl (HSub.c 2 rfl (HSub.c 3 rfl HSub.n)))), CSub.n, (Le.refl _)⟩ (fun fx20 => ?_)
       refine JA.tk 0 rfl fx20 (yl_fieldAddr (off' := 2) rfl rfl Tryz.underlying26 rfl Tryz.sizeOf23 rfl) ?_
       refine JA.tk 1 rfl fx20 (yl_load rfl rfl Tryz.isAgg23 (Blk.atC 1 rfl) rfl) ?_
       refine JA.tk 2 rfl fx20 (yl_buildS (pl := #[(0, 1), (1, 1)]) rfl rfl Tryz.zeroValue47 rfl Tryz.underlying47 (fun w => by simp [Tryz.sizeOf5, Tryz.sizeOf9]) (LBld.part rfl rfl rfl (LSpl.c LSpl.z) (LBld.part rfl rfl rfl (LSpl.s (LSpl.c LSpl.z)) LBld.none))) ?_
       refine JA.tk 3 rfl fx20 (yl_move rfl rfl) ?_
       refine JA.tk 4 rfl fx20 (yl_indexArr (off' := 5) rfl rfl rfl Tryz.underlying22 Tryz.sizeOf3 (by decide) (by decide) (by decide)) ?_
       refine JA.tk 5 rfl fx20 (yl_load rfl rfl Tryz.isAgg3 (Blk.atC 3 rfl) rfl) ?_
       refine JA.step 6 (by kernel_rfl) rfl rfl (op_pure rfl rfl rfl rfl rfl (Mod_ok q.q5 8 (by decide) (by decide) _) ?_)
       refine ⟨⟨(Le.refl _), (HSub.c 0 rfl (HSub.c 1 rfl (HSub.c 2 rfl (HSub.c 3 rfl HSub.n)))), CSub.n⟩, ?_⟩
       refine JA.fix ⟨(HSub.c 0 rfl (HSub.c 1 rfl (HSub.c 2 rfl (HSub.c 3 rfl HSub.n)))), CSub.n, (Le.refl _)⟩ (fun fx21 => ?_)
       refine JA.tk 7 rfl fx21 (yl_indexAddr (off' := (q.q5 % 8).toNat) rfl rfl rfl Tryz.underlying31 Tryz.sizeOf9 (by omega) (by omega) (by omega)) ?_
       refine JA.tk 8 rfl fx21 (yl_load rfl rfl Tryz.isAgg9 (Blk.atC 0 rfl) (pick_str (l := Ke.yearsL) (by omega) (by simp [Ke.yearsL]; omega))) ?_
       refine JA.tk 9 rfl fx21 (yl_buildS (pl := #[(0, 1), (1, 1)]) rfl rfl Tryz.zeroValue47 rfl Tryz.underlying47 (fun w => by simp [Tryz.sizeOf5, Tryz.sizeOf9]) (LBld.part rfl rfl rfl (LSpl.c LSpl.z) (LBld.part rfl rfl rfl (LSpl.s (LSpl.c LSpl.z)) LBld.none))) ?_
       refine JA.step 10 (by kernel_rfl) rfl rfl (op_buildSlice rfl rfl rfl Tryz.underlying33 Tryz.sizeOf47 Tryz.zeroValue47 rfl rfl rfl rfl (LCat.agg rfl (LCat.agg rfl LCat.none)) ?_)
       intro b22 hb22
       refine ⟨⟨(Le.refl _), (HSub.c 1 rfl (HSub.c 2 rfl (HSub.c 3 rfl (HSub.c 4 rfl HSub.n)))), CSub.n⟩, ?_⟩
       refine JA.fix ⟨(HSub.c 1 rfl (HSub.c 2 rfl (HSub.c 3 rfl (HSub.c 4 rfl HSub.n)))), CSub.n, (Le.refl _)⟩ (fun fx23 => ?_)
       refine JA.tk 11 rfl fx23 (yl_buildS (pl := #[(0, 1), (1, 1), (2, 1), (3, 1)]) rfl rfl Tryz.zeroValue35 rfl Tryz.underlying35 (fun w => by simp [Tryz.sizeOf33, Tryz.sizeOf9]) (LBld.part rfl rfl rfl (LSpl.c LSpl.z) (LBld.part rfl rfl rfl (LSpl.s (LSpl.c LSpl.z)) (LBld.part rfl rfl rfl (LSpl.s (LSpl.s (LSpl.s (LSpl.c LSpl.z)))) LBld.none)))) ?_
       refine JA.step 12 (by kernel_rfl) rfl rfl (op_buildSlice rfl rfl rfl Tryz.underlying23 Tryz.sizeOf35 Tryz.zeroValue35 rfl rfl rfl rfl (LCat.agg rfl LCat.none) ?_)
       intro b24 hb24
       refine ⟨⟨(Le.refl _), (HSub.c 2 rfl (HSub.c 3 rfl (HSub.c 4 rfl (HSub.c 5 rfl HSub.n)))), CSub.n⟩, ?_⟩
       refine JA.step 13 (by kernel_rfl) rfl rfl (op_append (by' := 71) [_, _, _, _, _, _] rfl rfl rfl rfl rfl Tryz.underlying23 (.inr ⟨_, Tryz.underlying23⟩) (by kernel_rfl) Tryz.sizeOf35 Tryz.zeroValue35 rfl hg rfl (Src.slice (Blk.at 0 rfl) rfl rfl rfl) (by omega) ?_)
       intro g25 hg25
       refine ⟨⟨(Le.refl _), (HSub.c 2 rfl (HSub.c 3 rfl (HSub.c 4 rfl (HSub.c 5 rfl HSub.n)))), CSub.n⟩, ?_⟩
       refine JA.fix ⟨(HSub.c 2 rfl (HSub.c 3 rfl (HSub.c 4 rfl (HSub.c 5 rfl HSub.n)))), CSub.n, (Le.refl _)⟩ (fun fx26 => ?_)
       refine JA.tk 14 rfl fx26 (yl_fieldAddr (off' := 2) rfl rfl Tryz.underlying26 rfl Tryz.sizeOf23 rfl) ?_
       refine JA.last 15 (by kernel_rfl) rfl rfl rfl (op_store 3 rfl rfl rfl rfl (gV_cells _ _) (gV_one _ _) Tryz.sizeOf23 rfl rfl (LSpl.s (LSpl.s (LSpl.c LSpl.z))) (LSet.s (LSet.s (LSet.s LSet.z))) ?_)
       refine JA.done (by kernel_rfl) ?_
       refine Ej.pull (Pull.s Pull.z) ?_
       refine Ej.persist hb22 (fun I28 hle27 hb22i => ?_)
       have hIJ := hIJ.mono hle27
       have hS := hS.mono hle27
       refine Ej.keep (Keeps.d (Keeps.k (Keeps.k (Keeps.k (Keeps.k Keeps.r))))) ?_
       exact hcut (_, fs ++ [(⟨[50, 54, 48], [32, 32], [], .slice (some ⟨b22, 0, none⟩) 2 2, ([⟨97, [80, 97, 114, 105, 115, 32, 49, 57, 48, 48]⟩, ⟨99, Ke.pick Ke.yearsL (q.q5 % 8)⟩] : List Ke.Sub)⟩ : Ke.Fld)], g25) _ _ _ ⟨hIJ, (SubsS.add hS (RowS.of (l := ([⟨97, [80, 97, 114, 105, 115, 32, 49, 57, 48, 48]⟩, ⟨99, Ke.pick Ke.yearsL (q.q5 % 8)⟩] : List Ke.Sub)) (sp := []) (Nat.le_refl _) hb22i)), by dsimp only; rw [nrm_add, hnx, hN]; rfl, by dsimp only; simp only [List.length_append, List.length_cons, List.length_nil]; omega, by dsimp only; rw [flat_one, List.length_append]; exact hg25⟩ ⟨rfl, rfl, rfl, rfl, trivial⟩ rfl (by dsimp only; rw [flat_one, List.length_append]; rfl)
      ·
       have hc19p := bne_f hc19
       have hnx : Ke.m260 q = [] := if_pos (tm0.1 (bne_f hc19))
       refine Cj.skip ?_
       exact hcut (_, fs, g) _ _ _ ⟨hIJ, hS, by dsimp only; rw [hnx, List.append_nil]; exact hN, by dsimp only; omega, hg⟩ ⟨rfl, rfl, rfl, rfl, trivial⟩ rfl rfl
    ·
     refine Cj.seq (Cj.region (J.z (yl_indexArr (off' := 4) rfl rfl rfl Tryz.underlying22 Tryz.sizeOf3 (by decide) (by decide) (by decide)) ?_))
     refine J.z (yl_load rfl rfl Tryz.isAgg3 (Blk.at 4 rfl) rfl) ?_
     refine J.z (yl_rem rfl rfl rfl (by decide)) ?_
     refine J.z (yl_neq rfl rfl rfl) ?_
     refine J.nil (Ej.seq (Cj.cond rfl (fun hc29 => ?_) (fun hc29 => ?_)))
     ·
      have hc29p := bne_iff_ne.1 hc29
      have hnx : Ke.m245 q = _ := if_neg (fun h => bne_iff_ne.1 hc29 (tm0.2 h))
      refine Cj.drawSel [0, 1, 2, 3, 4] [] 22 (by kernel_rfl) ?_
      refine JA.fix ⟨(HSub.c 0 rfl (HSub.c 1 rfl (HSub.c 2 rfl (HSub.c 3 rfl (HSub.c 4 rfl HSub.n))))), CSub.n, (Le.refl _)⟩ (fun fx30 => ?_)
      refine JA.tk 0 rfl fx30 (yl_fieldAddr (off' := 2) rfl rfl Tryz.underlying26 rfl Tryz.sizeOf23 rfl) ?_
      refine JA.tk 1 rfl fx30 (yl_load rfl rfl Tryz.isAgg23 (Blk.atC 2 rfl) rfl) ?_
      refine JA.tk 3 rfl fx30 (yl_indexArr (off' := 4) rfl rfl rfl Tryz.underlying22 Tryz.sizeOf3 (by decide) (by decide) (by decide)) ?_
      refine JA.tk 4 rfl fx30 (yl_load rfl rfl Tryz.isAgg3 (Blk.atC 4 rfl) rfl) ?_
      refine JA.tk 8 rfl fx30 (yl_move rfl rfl) ?_
      refine JA.tk 9 rfl fx30 (yl_indexArr (off' := 4) rfl rfl rfl Tryz.underlying22 Tryz.sizeOf3 (by decide) (by decide) (by decide)) ?_
      refine JA.tk 10 rfl fx30 (yl_load rfl rfl Tryz.isAgg3 (Blk.atC 4 rfl) rfl) ?_
      refine JA.tk 11 rfl fx30 (yl_quo rfl rfl rfl (by decide) (w64 (by have h := td_rng hq.h4 5 (by decide); omega))) ?_
      refine JA.tk 16 rfl fx30 (yl_buildS (pl := #[(0, 1), (1, 1)]) rfl rfl Tryz.zeroValue47 rfl Tryz.underlying47 (fun w => by simp [Tryz.sizeOf5, Tryz.sizeOf9]) (LBld.part rfl rfl rfl (LSpl.c LSpl.z) (LBld.part rfl rfl rfl (LSpl.s (LSpl.c LSpl.z)) LBld.none))) ?_
      refine JA.all [2, 5] (by kernel_rfl) (by simp) ?_
      intro i hi
      simp only [List.mem_cons, List.not_mem_nil, or_false] at hi
      rcases hi with rfl | rfl
      ·
       refine ⟨_, rfl, rfl, ?_⟩
       refine op_buildSlice rfl rfl rfl Tryz.underlying31 Tryz.sizeOf9 Tryz.zeroValue9 rfl rfl rfl rfl (LCat.one rfl (LCat.one rfl (LCat.one rfl LCat.none))) ?_
       intro b31 hb31
       refine ⟨⟨(Le.refl _), (HSub.c 1 rfl (HSub.c 2 rfl (HSub.c 3 rfl (HSub.c 4 rfl (HSub.c 5 rfl HSub.n))))), CSub.n⟩, ?_⟩
       refine JA.step 5 (by kernel_rfl) rfl rfl (op_pure rfl rfl rfl rfl rfl (Mod_ok q.q4 3 (by decide) (by decide) _) ?_)
       refine ⟨⟨(Le.refl _), (HSub.c 1 rfl (HSub.c 2 rfl (HSub.c 3 rfl (HSub.c 4 rfl (HSub.c 5 rfl HSub.n))))), CSub.n⟩, ?_⟩
       refine JA.fix ⟨(HSub.c 1 rfl (HSub.c 2 rfl (HSub.c 3 rfl (HSub.c 4 rfl (HSub.c 5 rfl HSub.n))))), CSub.n, (Le.refl _)⟩ (fun fx32 => ?_)
       refine JA.tk 6 rfl fx32 (yl_indexAddr (off' := (q.q4 % 3).toNat) rfl rfl rfl Tryz.underlying31 Tryz.sizeOf9 (by omega) (by omega) (by omega)) ?_
       refine JA.all [7, 12] (by kernel_rfl) (by simp) ?_
       intro i hi
       simp only [List.mem_cons, List.not_mem_nil, or_false] at hi
       rcases hi with rfl | rfl
       ·
        refine ⟨_, rfl, rfl, ?_⟩
        refine op_yld (yl_load rfl rfl Tryz.isAgg9 (Blk.at 0 rfl) (pick_str (l := Ke.indsL) (by omega) (by simp [Ke.indsL]; omega))) rfl rfl ?_
        refine ⟨⟨(Le.refl _), (HSub.c 1 rfl (HSub.c 2 rfl (HSub.c 3 rfl (HSub.c 4 rfl (HSub.c 5 rfl HSub.n))))), CSub.n⟩, ?_⟩
        refine JA.step 12 (by kernel_rfl) rfl rfl (op_pure rfl rfl rfl rfl rfl (Mod_ok (q.q4.tdiv 5) 6 (by decide) (by decide) _) ?_)
        refine ⟨⟨(Le.refl _), (HSub.c 1 rfl (HSub.c 2 rfl (HSub.c 3 rfl (HSub.c 4 rfl (HSub.c 5 rfl HSub.n))))), CSub.n⟩, ?_⟩
        refine JA.fix ⟨(HSub.c 1 rfl (HSub.c 2 rfl (HSub.c 3 rfl (HSub.c 4 rfl (HSub.c 5 rfl HSub.n))))), CSub.n, (Le.refl _)⟩ (fun fx33 => ?_)
        refine JA.tk 13 rfl fx33 (yl_indexAddr (off' := (q.q4.tdiv 5 % 6).toNat) rfl rfl rfl Tryz.underlying31 Tryz.sizeOf9 (by omega) (by omega) (by omega)) ?_
        refine JA.tk 14 rfl fx33 (yl_load rfl rfl Tryz.isAgg9 (Blk.atC 0 rfl) (pick_str (l := Ke.titlesL) (by omega) (by simp [Ke.titlesL]; omega))) ?_
        refine JA.tk 15 rfl fx33 (yl_buildS (pl := #[(0, 1), (1, 1)]) rfl rfl Tryz.zeroValue47 rfl Tryz.underlying47 (fun w => by simp [Tryz.sizeOf5, Tryz.sizeOf9]) (LBld.part rfl rfl rfl (LSpl.c LSpl.z) (LBld.part rfl rfl rfl (LSpl.s (LSpl.c LSpl.z)) LBld.none))) ?_
        refine JA.step 17 (by kernel_rfl) rfl rfl (op_buildSlice rfl rfl rfl Tryz.underlying33 Tryz.sizeOf47 Tryz.zeroValue47 rfl rfl rfl rfl (LCat.agg rfl (LCat.agg rfl LCat.none)) ?_)
        intro b34 hb34
        refine ⟨⟨(Le.refl _), (HSub.c 2 rfl (HSub.c 3 rfl (HSub.c 4 rfl (HSub.c 5 rfl (HSub.c 6 rfl HSub.n))))), CSub.n⟩, ?_⟩
        refine JA.fix ⟨(HSub.c 2 rfl (HSub.c 3 rfl (HSub.c 4 rfl (HSub.c 5 rfl (HSub.c 6 rfl HSub.n))))), CSub.n, (Le.refl _)⟩ (fun fx35 => ?_)
        refine JA.tk 18 rfl fx35 (yl_buildS (pl := #[(0, 1), (1, 1), (2, 1), (3, 1)]) rfl rfl Tryz.zeroValue35 rfl Tryz.underlying35 (fun w => by simp [Tryz.sizeOf33, Tryz.sizeOf9]) (LBld.part rfl rfl rfl (LSpl.c LSpl.z) (LBld.part rfl rfl rfl (LSpl.s (LSpl.c LSpl.z)) (LBld.part rfl rfl rfl (LSpl.s (LSpl.s (LSpl.s (LSpl.c LSpl.z)))) LBld.none)))) ?_
        refine JA.step 19 (by kernel_rfl) rfl rfl (op_buildSlice rfl rfl rfl Tryz.underlying23 Tryz.sizeOf35 Tryz.zeroValue35 rfl rfl rfl rfl (LCat.agg rfl LCat.none) ?_)
        intro b36 hb36
        refine ⟨⟨(Le.refl _), (HSub.c 3 rfl (HSub.c 4 rfl (HSub.c 5 rfl (HSub.c 6 rfl (HSub.c 7 rfl HSub.n))))), CSub.n⟩, ?_⟩
        refine JA.step 20 (by kernel_rfl) rfl rfl (op_append (by' := 71) [_, _, _, _, _, _, _, _] rfl rfl rfl rfl rfl Tryz.underlying23 (.inr ⟨_, Tryz.underlying23⟩) (by kernel_rfl) Tryz.sizeOf35 Tryz.zeroValue35 rfl hg rfl (Src.slice (Blk.at 0 rfl) rfl rfl rfl) (by omega) ?_)
        intro g37 hg37
        refine ⟨⟨(Le.refl _), (HSub.c 3 rfl (HSub.c 4 rfl (HSub.c 5 rfl (HSub.c 6 rfl (HSub.c 7 rfl HSub.n))))), CSub.n⟩, ?_⟩
        refine JA.fix ⟨(HSub.c 3 rfl (HSub.c 4 rfl (HSub.c 5 rfl (HSub.c 6 rfl (HSub.c 7 rfl HSub.n))))), CSub.n, (Le.refl _)⟩ (fun fx38 => ?_)
        refine JA.tk 21 rfl fx38 (yl_fieldAddr (off' := 2) rfl rfl Tryz.underlying26 rfl Tryz.sizeOf23 rfl) ?_
        refine JA.last 22 (by kernel_rfl) rfl rfl rfl (op_store 5 rfl rfl rfl rfl (gV_cells _ _) (gV_one _ _) Tryz.sizeOf23 rfl rfl (LSpl.s (LSpl.s (LSpl.c LSpl.z))) (LSet.s (LSet.s (LSet.s (LSet.s (LSet.s LSet.z))))) ?_)
        refine JA.done (by kernel_rfl) ?_
        refine Ej.pull (Pull.s Pull.z) ?_
        refine Ej.persist hb34 (fun I40 hle39 hb34i => ?_)
        have hIJ := hIJ.mono hle39
        have hS := hS.mono hle39
        refine Ej.keep (Keeps.d (Keeps.d (Keeps.d (Keeps.k (Keeps.k (Keeps.k (Keeps.k Keeps.r))))))) ?_
        exact hcut (_, fs ++ [(⟨[50, 52, 53], (Ke.pick Ke.indsL (q.q4 % 3)), [], .slice (some ⟨b34, 0, none⟩) 2 2, ([⟨97, Ke.pick Ke.titlesL (q.q4.tdiv 5 % 6)⟩, ⟨99, [98, 121]⟩] : List Ke.Sub)⟩ : Ke.Fld)], g37) _ _ _ ⟨hIJ, (SubsS.add hS (RowS.of (l := ([⟨97, Ke.pick Ke.titlesL (q.q4.tdiv 5 % 6)⟩, ⟨99, [98, 121]⟩] : List Ke.Sub)) (sp := []) (Nat.le_refl _) hb34i)), by dsimp only; rw [nrm_add, hnx, hN]; rfl, by dsimp only; simp only [List.length_append, List.length_cons, List.length_nil]; omega, by dsimp only; rw [flat_one, List.length_append]; exact hg37⟩ ⟨rfl, rfl, rfl, rfl, trivial⟩ rfl (by dsimp only; rw [flat_one, List.length_append]; rfl)
       ·
        refine ⟨_, rfl, rfl, ?_⟩
        refine op_pure rfl rfl rfl rfl rfl (Mod_ok (q.q4.tdiv 5) 6 (by decide) (by decide) _) ?_
        refine ⟨⟨(Le.refl _), (HSub.c 1 rfl (HSub.c 2 rfl (HSub.c 3 rfl (HSub.c 4 rfl (HSub.c 5 rfl HSub.n))))), CSub.n⟩, ?_⟩
        refine JA.fix ⟨(HSub.c 1 rfl (HSub.c 2 rfl (HSub.c 3 rfl (HSub.c 4 rfl (HSub.c 5 rfl HSub.n))))), CSub.n, (Le.refl _)⟩ (fun fx41 => ?_)
        refine JA.tk 13 rfl fx41 (yl_indexAddr (off' := (q.q4.tdiv 5 % 6).toNat) rfl rfl rfl Tryz.underlying31 Tryz.sizeOf9 (by omega) (by omega) (by omega)) ?_
        refine JA.tk 14 rfl fx41 (yl_load rfl rfl Tryz.isAgg9 (Blk.atC 0 rfl) (pick_str (l := Ke.titlesL) (by omega) (by simp [Ke.titlesL]; omega))) ?_
        refine JA.tk 15 rfl fx41 (yl_buildS (pl := #[(0, 1), (1, 1)]) rfl rfl Tryz.zeroValue47 rfl Tryz.underlying47 (fun w => by simp [Tryz.sizeOf5, Tryz.sizeOf9]) (LBld.part rfl rfl rfl (LSpl.c LSpl.z) (LBld.part rfl rfl rfl (LSpl.s (LSpl.c LSpl.z)) LBld.none))) ?_
        refine JA.all [7, 17] (by kernel_rfl) (by simp) ?_
        intro i hi
        simp only [List.mem_cons, List.not_mem_nil, or_false] at hi
        rcases hi with rfl | rfl
        ·
         refine ⟨_, rfl, rfl, ?_⟩
         refine op_yld (yl_load rfl rfl Tryz.isAgg9 (Blk.at 0 rfl) (pick_str (l := Ke.indsL) (by omega) (by simp [Ke.indsL]; omega))) rfl rfl ?_
         refine ⟨⟨(Le.refl _), (HSub.c 1 rfl (HSub.c 2 rfl (HSub.c 3 rfl (HSub.c 4 rfl (HSub.c 5 rfl HSub.n))))), CSub.n⟩, ?_⟩
         refine JA.step 17 (by kernel_rfl) rfl rfl (op_buildSlice rfl rfl rfl Tryz.underlying33 Tryz.sizeOf47 Tryz.zeroValue47 rfl rfl rfl rfl (LCat.agg rfl (LCat.agg rfl LCat.none)) ?_)
         intro b42 hb42
         refine ⟨⟨(Le.refl _), (HSub.c 2 rfl (HSub.c 3 rfl (HSub.c 4 rfl (HSub.c 5 rfl (HSub.c 6 rfl HSub.n))))), CSub.n⟩, ?_⟩
         refine JA.fix ⟨(HSub.c 2 rfl (HSub.c 3 rfl (HSub.c 4 rfl (HSub.c 5 rfl (HSub.c 6 rfl HSub.n))))), CSub.n, (Le.refl _)⟩ (fun fx43 => ?_)
         refine JA.tk 18 rfl fx43 (yl_buildS (pl := #[(0, 1), (1, 1), (2, 1), (3, 1)]) rfl rfl Tryz.zeroValue35 rfl Tryz.underlying35 (fun w => by simp [Tryz.sizeOf33, Tryz.sizeOf9]) (LBld.part rfl rfl rfl (LSpl.c LSpl.z) (LBld.part rfl rfl rfl (LSpl.s (LSpl.c LSpl.z)) (LBld.part rfl rfl rfl (LSpl.s (LSpl.s (LSpl.s (LSpl.c LSpl.z)))) LBld.none)))) ?_
         refine JA.step 19 (by kernel_rfl) rfl rfl (op_buildSlice rfl rfl rfl Tryz.underlying23 Tryz.sizeOf35 Tryz.zeroValue35 rfl rfl rfl rfl (LCat.agg rfl LCat.none) ?_)
         intro b44 hb44
         refine ⟨⟨(Le.refl _), (HSub.c 3 rfl (HSub.c 4 rfl (HSub.c 5 rfl (HSub.c 6 rfl (HSub.c 7 rfl HSub.n))))), CSub.n⟩, ?_⟩
         refine JA.step 20 (by kernel_rfl) rfl rfl (op_append (by' := 71) [_, _, _, _, _, _, _, _] rfl rfl rfl rfl rfl Tryz.underlying23 (.inr ⟨_, Tryz.underlying23⟩) (by kernel_rfl) Tryz.sizeOf35 Tryz.zeroValue35 rfl hg rfl (Src.slice (Blk.at 0 rfl) rfl rfl rfl) (by omega) ?_)
         intro g45 hg45
         refine ⟨⟨(Le.refl _), (HSub.c 3 rfl (HSub.c 4 rfl (HSub.c 5 rfl (HSub.c 6 rfl (HSub.c 7 rfl HSub.n))))), CSub.n⟩, ?_⟩
         refine JA.fix ⟨(HSub.c 3 rfl (HSub.c 4 rfl (HSub.c 5 rfl (HSub.c 6 rfl (HSub.c 7 rfl HSub.n))))), CSub.n, (Le.refl _)⟩ (fun fx46 => ?_)
         refine JA.tk 21 rfl fx46 (yl_fieldAddr (off' := 2) rfl rfl Tryz.underlying26 rfl Tryz.sizeOf23 rfl) ?_
         refine JA.last 22 (by kernel_rfl) rfl rfl rfl (op_store 5 rfl rfl rfl rfl (gV_cells _ _) (gV_one _ _) Tryz.sizeOf23 rfl rfl (LSpl.s (LSpl.s (LSpl.c LSpl.z))) (LSet.s (LSet.s (LSet.s (LSet.s (LSet.s LSet.z))))) ?_)
         refine JA.done (by kernel_rfl) ?_
         refine Ej.pull (Pull.s Pull.z) ?_
         refine Ej.persist hb42 (fun I48 hle47 hb42i => ?_)
         have hIJ := hIJ.mono hle47
         have hS := hS.mono hle47
         refine Ej.keep (Keeps.d (Keeps.d (Keeps.d (Keeps.k (Keeps.k (Keeps.k (Keeps.k Keeps.r))))))) ?_
         exact hcut (_, fs ++ [(⟨[50, 52, 53], (Ke.pick Ke.indsL (q.q4 % 3)), [], .slice (some ⟨b42, 0, none⟩) 2 2, ([⟨97, Ke.pick Ke.titlesL (q.q4.tdiv 5 % 6)⟩, ⟨99, [98, 121]⟩] : List Ke.Sub)⟩ : Ke.Fld)], g45) _ _ _ ⟨hIJ, (SubsS.add hS (RowS.of (l := ([⟨97, Ke.pick Ke.titlesL (q.q4.tdiv 5 % 6)⟩, ⟨99, [98, 121]⟩] : List Ke.Sub)) (sp := []) (Nat.le_refl _) hb42i)), by dsimp only; rw [nrm_add, hnx, hN]; rfl, by dsimp only; simp only [List.length_append, List.length_cons, List.length_nil]; omega, by dsimp only; rw [flat_one, List.length_append]; exact hg45⟩ ⟨rfl, rfl, rfl, rfl, trivial⟩ rfl (by dsimp only; rw [flat_one, List.length_append]; rfl)
        ·
         refine ⟨_, rfl, rfl, ?_⟩
         refine op_buildSlice rfl rfl rfl Tryz.underlying33 Tryz.sizeOf47 Tryz.zeroValue47 rfl rfl rfl rfl (LCat.agg rfl (LCat.agg rfl LCat.none)) ?_
         intro b49 hb49
         refine ⟨⟨(Le.refl _), (HSub.c 2 rfl (HSub.c 3 rfl (HSub.c 4 rfl (HSub.c 5 rfl (HSub.c 6 rfl HSub.n))))), CSub.n⟩, ?_⟩
         refine JA.step 7 (by kernel_rfl) rfl rfl (op_yld (yl_load rfl rfl Tryz.isAgg9 (Blk.at 1 rfl) (pick_str (l := Ke.indsL) (by omega) (by simp [Ke.indsL]; omega))) rfl rfl ?_)
         refine ⟨⟨(Le.refl _), (HSub.c 2 rfl (HSub.c 3 rfl (HSub.c 4 rfl (HSub.c 5 rfl (HSub.c 6 rfl HSub.n))))), CSub.n⟩, ?_⟩
         refine JA.fix ⟨(HSub.c 2 rfl (HSub.c 3 rfl (HSub.c 4 rfl (HSub.c 5 rfl (HSub.c 6 rfl HSub.n))))), CSub.n, (Le.refl _)⟩ (fun fx50 => ?_)
         refine JA.tk 18 rfl fx50 (yl_buildS (pl := #[(0, 1), (1, 1), (2, 1), (3, 1)]) rfl rfl Tryz.zeroValue35 rfl Tryz.underlying35 (fun w => by simp [Tryz.sizeOf33, Tryz.sizeOf9]) (LBld.part rfl rfl rfl (LSpl.c LSpl.z) (LBld.part rfl rfl rfl (LSpl.s (LSpl.c LSpl.z)) (LBld.part rfl rfl rfl (LSpl.s (LSpl.s (LSpl.s (LSpl.c LSpl.z)))) LBld.none)))) ?_
         refine JA.step 19 (by kernel_rfl) rfl rfl (op_buildSlice rfl rfl rfl Tryz.underlying23 Tryz.sizeOf35 Tryz.zeroValue35 rfl rfl rfl rfl (LCat.agg rfl LCat.none) ?_)
         intro b51 hb51
         refine ⟨⟨(Le.refl _), (HSub.c 3 rfl (HSub.c 4 rfl (HSub.c 5 rfl (HSub.c 6 rfl (HSub.c 7 rfl HSub.n))))), CSub.n⟩, ?_⟩
         refine JA.step 20 (by kernel_rfl) rfl rfl (op_append (by' := 71) [_, _, _, _, _, _, _, _] rfl rfl rfl rfl rfl Tryz.underlying23 (.inr ⟨_, Tryz.underlying23⟩) (by kernel_rfl) Tryz.sizeOf35 Tryz.zeroValue35 rfl hg rfl (Src.slice (Blk.at 0 rfl) rfl rfl rfl) (by omega) ?_)
         intro g52 hg52
         refine ⟨⟨(Le.refl _), (HSub.c 3 rfl (HSub.c 4 rfl (HSub.c 5 rfl (HSub.c 6 rfl (HSub.c 7 rfl HSub.n))))), CSub.n⟩, ?_⟩
         refine JA.fix ⟨(HSub.c 3 rfl (HSub.c 4 rfl (HSub.c 5 rfl (HSub.c 6 rfl (HSub.c 7 rfl HSub.n))))), CSub.n, (Le.refl _)⟩ (fun fx53 => ?_)
         refine JA.tk 21 rfl fx53 (yl_fieldAddr (off' := 2) rfl rfl Tryz.underlying26 rfl Tryz.sizeOf23 rfl) ?_
         refine JA.last 22 (by kernel_rfl) rfl rfl rfl (op_store 5 rfl rfl rfl rfl (gV_cells _ _) (gV_one _ _) Tryz.sizeOf23 rfl rfl (LSpl.s (LSpl.s (LSpl.c LSpl.z))) (LSet.s (LSet.s (LSet.s (LSet.s (LSet.s LSet.z))))) ?_)
         refine JA.done (by kernel_rfl) ?_
         refine Ej.pull (Pull.s Pull.z) ?_
         refine Ej.persist hb49 (fun I55 hle54 hb49i => ?_)
         have hIJ := hIJ.mono hle54
         have hS := hS.mono hle54
         refine Ej.keep (Keeps.d (Keeps.d (Keeps.d (Keeps.k (Keeps.k (Keeps.k (Keeps.k Keeps.r))))))) ?_
         exact hcut (_, fs ++ [(⟨[50, 52, 53], (Ke.pick Ke.indsL (q.q4 % 3)), [], .slice (some ⟨b49, 0, none⟩) 2 2, ([⟨97, Ke.pick Ke.titlesL (q.q4.tdiv 5 % 6)⟩, ⟨99, [98, 121]⟩] : List Ke.Sub)⟩ : Ke.Fld)], g52) _ _ _ ⟨hIJ, (SubsS.add hS (RowS.of (l := ([⟨97, Ke.pick Ke.titlesL (q.q4.tdiv 5 % 6)⟩, ⟨99, [98, 121]⟩] : List Ke.Sub)) (sp := []) (Nat.le_refl _) hb49i)), by dsimp only; rw [nrm_add, hnx, hN]; rfl, by dsimp only; simp only [List.length_append, List.length_cons, List.length_nil]; omega, by dsimp only; rw [flat_one, List.length_append]; exact hg52⟩ ⟨rfl, rfl, rfl, rfl, trivial⟩ rfl (by dsimp only; rw [flat_one, List.length_append]; rfl)
      ·
       refine ⟨_, rfl, rfl, ?_⟩
       refine op_pure rfl rfl rfl rfl rfl (Mod_ok q.q4 3 (by decide) (by decide) _) ?_
       refine ⟨⟨(Le.refl _), (HSub.c 0 rfl (HSub.c 1 rfl (HSub.c 2 rfl (HSub.c 3 rfl (HSub.c 4 rfl HSub.n))))), CSub.n⟩, ?_⟩
       refine JA.all [2, 12] (by kernel_rfl) (by simp) ?_
       intro i hi
       simp only [List.mem_cons, List.not_mem_nil, or_false] at hi
       rcases hi with rfl | rfl
       ·
        refine ⟨_, rfl, rfl, ?_⟩
        refine op_buildSlice rfl rfl rfl Tryz.underlying31 Tryz.sizeOf9 Tryz.zeroValue9 rfl rfl rfl rfl (LCat.one rfl (LCat.one rfl (LCat.one rfl LCat.none))) ?_
        intro b56 hb56
        refine ⟨⟨(Le.refl _), (HSub.c 1 rfl (HSub.c 2 rfl (HSub.c 3 rfl (HSub.c 4 rfl (HSub.c 5 rfl HSub.n))))), CSub.n⟩, ?_⟩
        refine JA.fix ⟨(HSub.c 1 rfl (HSub.c 2 rfl (HSub.c 3 rfl (HSub.c 4 rfl (HSub.c 5 rfl HSub.n))))), CSub.n, (Le.refl _)⟩ (fun fx57 => ?_)
        refine JA.tk 6 rfl fx57 (yl_indexAddr (off' := (q.q4 % 3).toNat) rfl rfl rfl Tryz.underlying31 Tryz.sizeOf9 (by omega) (by omega) (by omega)) ?_
        refine JA.all [7, 12] (by kernel_rfl) (by simp) ?_
        intro i hi
        simp only [List.mem_cons, List.not_mem_nil, or_false] at hi
        rcases hi with rfl | rfl
        ·
         refine ⟨_, rfl, rfl, ?_⟩
         refine op_yld (yl_load rfl rfl Tryz.isAgg9 (Blk.at 0 rfl) (pick_str (l := Ke.indsL) (by omega) (by simp [Ke.indsL]; omega))) rfl rfl ?_
         refine ⟨⟨(Le.refl _), (HSub.c 1 rfl (HSub.c 2 rfl (HSub.c 3 rfl (HSub.c 4 rfl (HSub.c 5 rfl HSub.n))))), CSub.n⟩, ?_⟩
         refine JA.step 12 (by kernel_rfl) rfl rfl (op_pure rfl rfl rfl rfl rfl (Mod_ok (q.q4.tdiv 5) 6 (by decide) (by decide) _) ?_)
         refine ⟨⟨(Le.refl _), (HSub.c 1 rfl (HSub.c 2 rfl (HSub.c 3 rfl (HSub.c 4 rfl (HSub.c 5 rfl HSub.n))))), CSub.n⟩, ?_⟩
         refine JA.fix ⟨(HSub.c 1 rfl (HSub.c 2 rfl (HSub.c 3 rfl (HSub.c 4 rfl (HSub.c 5 rfl HSub.n))))), CSub.n, (Le.refl _)⟩ (fun fx58 => ?_)
         refine JA.tk 13 rfl fx58 (yl_indexAddr (off' := (q.q4.tdiv 5 % 6).toNat) rfl rfl rfl Tryz.underlying31 Tryz.sizeOf9 (by omega) (by omega) (by omega)) ?_
         refine JA.tk 14 rfl fx58 (yl_load rfl rfl Tryz.isAgg9 (Blk.atC 0 rfl) (pick_str (l := Ke.titlesL) (by omega) (by simp [Ke.titlesL]; omega))) ?_
         refine JA.tk 15 rfl fx58 (yl_buildS (pl := #[(0, 1), (1, 1)]) rfl rfl Tryz.zeroValue47 rfl Tryz.underlying47 (fun w => by simp [Tryz.sizeOf5, Tryz.sizeOf9]) (LBld.part rfl rfl rfl (LSpl.c LSpl.z) (LBld.part rfl rfl rfl (LSpl.s (LSpl.c LSpl.z)) LBld.none))) ?_
         refine JA.step 17 (by kernel_rfl) rfl rfl (op_buildSlice rfl rfl rfl Tryz.underlying33 Tryz.sizeOf47 Tryz.zeroValue47 rfl rfl rfl rfl (LCat.agg rfl (LCat.agg rfl LCat.none)) ?_)
         intro b59 hb59
         refine ⟨⟨(Le.refl _), (HSub.c 2 rfl (HSub.c 3 rfl (HSub.c 4 rfl (HSub.c 5 rfl (HSub.c 6 rfl HSub.n))))), CSub.n⟩, ?_⟩
         refine JA.fix ⟨(HSub.c 2 rfl (HSub.c 3 rfl (HSub.c 4 rfl (HSub.c 5 rfl (HSub.c 6 rfl HSub.n))))), CSub.n, (Le.refl _)⟩ (fun fx60 => ?_)
         refine JA.tk 18 rfl fx60 (yl_buildS (pl := #[(0, 1), (1, 1), (2, 1), (3, 1)]) rfl rfl Tryz.zeroValue35 rfl Tryz.underlying35 (fun w => by simp [Tryz.sizeOf33, Tryz.sizeOf9]) (LBld.part rfl rfl rfl (LSpl.c LSpl.z) (LBld.part rfl rfl rfl (LSpl.s (LSpl.c LSpl.z)) (LBld.part rfl rfl rfl (LSpl.s (LSpl.s (LSpl.s (LSpl.c LSpl.z)))) LBld.none)))) ?_
         refine JA.step 19 (by kernel_rfl) rfl rfl (op_buildSlice rfl rfl rfl Tryz.underlying23 Tryz.sizeOf35 Tryz.zeroValue35 rfl rfl rfl rfl (LCat.agg rfl LCat.none) ?_)
         intro b61 hb61
         refine ⟨⟨(Le.refl _), (HSub.c 3 rfl (HSub.c 4 rfl (HSub.c 5 rfl (HSub.c 6 rfl (HSub.c 7 rfl HSub.n))))), CSub.n⟩, ?_⟩
         refine JA.step 20 (by kernel_rfl) rfl rfl (op_append (by' := 71) [_, _, _, _, _, _, _, _] rfl rfl rfl rfl rfl Tryz.underlying23 (.inr ⟨_, Tryz.underlying23⟩) (by kernel_rfl) Tryz.sizeOf35 Tryz.zeroValue35 rfl hg rfl (Src.slice (Blk.at 0 rfl) rfl rfl rfl) (by omega) ?_)
         intro g62 hg62
         refine ⟨⟨(Le.refl _), (HSub.c 3 rfl (HSub.c 4 rfl (HSub.c 5 rfl (HSub.c 6 rfl (HSub.c 7 rfl HSub.n))))), CSub.n⟩, ?_⟩
         refine JA.fix ⟨(HSub.c 3 rfl (HSub.c 4 rfl (HSub.c 5 rfl (HSub.c 6 rfl (HSub.c 7 rfl HSub.n))))), CSub.n, (Le.refl _)⟩ (fun fx63 => ?_)
         refine JA.tk 21 rfl fx63 (yl_fieldAddr (off' := 2) rfl rfl Tryz.underlying26 rfl Tryz.sizeOf23 rfl) ?_
         refine JA.last 22 (by kernel_rfl) rfl rfl rfl (op_store 5 rfl rfl rfl rfl (gV_cells _ _) (gV_one _ _) Tryz.sizeOf23 rfl rfl (LSpl.s (LSpl.s (LSpl.c LSpl.z))) (LSet.s (LSet.s (LSet.s (LSet.s (LSet.s LSet.z))))) ?_)
         refine JA.done (by kernel_rfl) ?_
         refine Ej.pull (Pull.s Pull.z) ?_
         refine Ej.persist hb59 (fun I65 hle64 hb59i => ?_)
         have hIJ := hIJ.mono hle64
         have hS := hS.mono hle64
         refine Ej.keep (Keeps.d (Keeps.d (Keeps.d (Keeps.k (Keeps.k (Keeps.k (Keeps.k Keeps.r))))))) ?_
         exact hcut (_, fs ++ [(⟨[50, 52, 53], (Ke.pick Ke.indsL (q.q4 % 3)), [], .slice (some ⟨b59, 0, none⟩) 2 2, ([⟨97, Ke.pick Ke.titlesL (q.q4.tdiv 5 % 6)⟩, ⟨99, [98, 121]⟩] : List Ke.Sub)⟩ : Ke.Fld)], g62) _ _ _ ⟨hIJ, (SubsS.add hS (RowS.of (l := ([⟨97, Ke.pick Ke.titlesL (q.q4.tdiv 5 % 6)⟩, ⟨99, [98, 121]⟩] : List Ke.Sub)) (sp := []) (Nat.le_refl _) hb59i)), by dsimp only; rw [nrm_add, hnx, hN]; rfl, by dsimp only; simp only [List.length_append, List.length_cons, List.length_nil]; omega, by dsimp only; rw [flat_one, List.length_append]; exact hg62⟩ ⟨rfl, rfl, rfl, rfl, trivial⟩ rfl (by dsimp only; rw [flat_one, List.length_append]; rfl)
        ·
         refine ⟨_, rfl, rfl, ?_⟩
         refine op_pure rfl rfl rfl rfl rfl (Mod_ok (q.q4.tdiv 5) 6 (by decide) (by decide) _) ?_
         refine ⟨⟨(Le.refl _), (HSub.c 1 rfl (HSub.c 2 rfl (HSub.c 3 rfl (HSub.c 4 rfl (HSub.c 5 rfl HSub.n))))), CSub.n⟩, ?_⟩
         refine JA.fix ⟨(HSub.c 1 rfl (HSub.c 2 rfl (HSub.c 3 rfl (HSub.c 4 rfl (HSub.c 5 rfl HSub.n))))), CSub.n, (Le.refl _)⟩ (fun fx66 => ?_)
         refine JA.tk 13 rfl fx66 (yl_indexAddr (off' := (q.q4.tdiv 5 % 6).toNat) rfl rfl rfl Tryz.underlying31 Tryz.sizeOf9 (by omega) (by omega) (by omega)) ?_
         refine JA.tk 14 rfl fx66 (yl_load rfl rfl Tryz.isAgg9 (Blk.atC 0 rfl) (pick_str (l := Ke.titlesL) (by omega) (by simp [Ke.titlesL]; omega))) ?_
         refine JA.tk 15 rfl fx66 (yl_buildS (pl := #[(0, 1), (1, 1)]) rfl rfl Tryz.zeroValue47 rfl Tryz.underlying47 (fun w => by simp [Tryz.sizeOf5, Tryz.sizeOf9]) (LBld.part rfl rfl rfl (LSpl.c LSpl.z) (LBld.part rfl rfl rfl (LSpl.s (LSpl.c LSpl.z)) LBld.none))) ?_
         refine JA.all [7, 17] (by kernel_rfl) (by simp) ?_
         intro i hi
         simp only [List.mem_cons, List.not_mem_nil, or_false] at hi
         rcases hi with rfl | rfl
         ·
          refine ⟨_, rfl, rfl, ?_⟩
          refine op_yld (yl_load rfl rfl Tryz.isAgg9 (Blk.at 0 rfl) (pick_str (l := Ke.indsL) (by omega) (by simp [Ke.indsL]; omega))) rfl rfl ?_
          refine ⟨⟨(Le.refl _), (HSub.c 1 rfl (HSub.c 2 rfl (HSub.c 3 rfl (HSub.c 4 rfl (HSub.c 5 rfl HSub.n))))), CSub.n⟩, ?_⟩
          refine JA.step 17 (by kernel_rfl) rfl rfl (op_buildSlice rfl rfl rfl Tryz.underlying33 Tryz.sizeOf47 Tryz.zeroValue47 rfl rfl rfl rfl (LCat.agg rfl (LCat.agg rfl LCat.none)) ?_)
          intro b67 hb67
          refine ⟨⟨(Le.refl _), (HSub.c 2 rfl (HSub.c 3 rfl (HSub.c 4 rfl (HSub.c 5 rfl (HSub.c 6 rfl HSub.n))))), CSub.n⟩, ?_⟩
          refine JA.fix ⟨(HSub.c 2 rfl (HSub.c 3 rfl (HSub.c 4 rfl (HSub.c 5 rfl (HSub.c 6 rfl HSub.n))))), CSub.n, (Le.refl _)⟩ (fun fx68 => ?_)
          refine JA.tk 18 rfl fx68 (yl_buildS (pl := #[(0, 1), (1, 1), (2, 1), (3, 1)]) rfl rfl Tryz.zeroValue35 rfl Tryz.underlying35 (fun w => by simp [Tryz.sizeOf33, Tryz.sizeOf9]) (LBld.part rfl rfl rfl (LSpl.c LSpl.z) (LBld.part rfl rfl rfl (LSpl.s (LSpl.c LSpl.z)) (LBld.part rfl rfl rfl (LSpl.s (LSpl.s (LSpl.s (LSpl.c LSpl.z)))) LBld.none)))) ?_
          refine JA.step 19 (by kernel_rfl) rfl rfl (op_buildSlice rfl rfl rfl Tryz.underlying23 Tryz.sizeOf35 Tryz.zeroValue35 rfl rfl rfl rfl (LCat.agg rfl LCat.none) ?_)
          intro b69 hb69
          refine ⟨⟨(Le.refl _), (HSub.c 3 rfl (HSub.c 4 rfl (HSub.c 5 rfl (HSub.c 6 rfl (HSub.c 7 rfl HSub.n))))), CSub.n⟩, ?_⟩
          refine JA.step 20 (by kernel_rfl) rfl rfl (op_append (by' := 71) [_, _, _, _, _, _, _, _] rfl rfl rfl rfl rfl Tryz.underlying23 (.inr ⟨_, Tryz.underlying23⟩) (by kernel_rfl) Tryz.sizeOf35 Tryz.zeroValue35 rfl hg rfl (Src.slice (Blk.at 0 rfl) rfl rfl rfl) (by omega) ?_)
          intro g70 hg70
          refine ⟨⟨(Le.refl _), (HSub.c 3 rfl (HSub.c 4 rfl (HSub.c 5 rfl (HSub.c 6 rfl (HSub.c 7 rfl HSub.n))))), CSub.n⟩, ?_⟩
          refine JA.fix ⟨(HSub.c 3 rfl (HSub.c 4 rfl (HSub.c 5 rfl (HSub.c 6 rfl (HSub.c 7 rfl HSub.n))))), CSub.n, (Le.refl _)⟩ (fun fx71 => ?_)
          refine JA.tk 21 rfl fx71 (yl_fieldAddr (off' := 2) rfl rfl Tryz.underlying26 rfl Tryz.sizeOf23 rfl) ?_
          refine JA.last 22 (by kernel_rfl) rfl rfl rfl (op_store 5 rfl rfl rfl rfl (gV_cells _ _) (gV_one _ _) Tryz.sizeOf23 rfl rfl (LSpl.s (LSpl.s (LSpl.c LSpl.z))) (LSet.s (LSet.s (LSet.s (LSet.s (LSet.s LSet.z))))) ?_)
          refine JA.done (by kernel_rfl) ?_
          refine Ej.pull (Pull.s Pull.z) ?_
          refine Ej.persist hb67 (fun I73 hle72 hb67i => ?_)
          have hIJ := hIJ.mono hle72
          have hS := hS.mono hle72
          refine Ej.keep (Keeps.d (Keeps.d (Keeps.d (Keeps.k (Keeps.k (Keeps.k (Keeps.k Keeps.r))))))) ?_
          exact hcut (_, fs ++ [(⟨[50, 52, 53], (Ke.pick Ke.indsL (q.q4 % 3)), [], .slice (some ⟨b67, 0, none⟩) 2 2, ([⟨97, Ke.pick Ke.titlesL (q.q4.tdiv 5 % 6)⟩, ⟨99, [98, 121]⟩] : List Ke.Sub)⟩ : Ke.Fld)], g70) _ _ _ ⟨hIJ, (SubsS.add hS (RowS.of (l := ([⟨97, Ke.pick Ke.titlesL (q.q4.tdiv 5 % 6)⟩, ⟨99, [98, 121]⟩] : List Ke.Sub)) (sp := []) (Nat.le_refl _) hb67i)), by dsimp only; rw [nrm_add, hnx, hN]; rfl, by dsimp only; simp only [List.length_append, List.length_cons, List.length_nil]; omega, by dsimp only; rw [flat_one, List.length_append]; exact hg70⟩ ⟨rfl, rfl, rfl, rfl, trivial⟩ rfl (by dsimp only; rw [flat_one, List.length_append]; rfl)
         ·
          refine ⟨_, rfl, rfl, ?_⟩
          refine op_buildSlice rfl rfl rfl Tryz.underlying33 Tryz.sizeOf47 Tryz.zeroValue47 rfl rfl rfl rfl (LCat.agg rfl (LCat.agg rfl LCat.none)) ?_
          intro b74 hb74
          refine ⟨⟨(Le.refl _), (HSub.c 2 rfl (HSub.c 3 rfl (HSub.c 4 rfl (HSub.c 5 rfl (HSub.c 6 rfl HSub.n))))), CSub.n⟩, ?_⟩
          refine JA.step 7 (by kernel_rfl) rfl rfl (op_yld (yl_load rfl rfl Tryz.isAgg9 (Blk.at 1 rfl) (pick_str (l := Ke.indsL) (by omega) (by simp [Ke.indsL]; omega))) rfl rfl ?_)
          refine ⟨⟨(Le.refl _), (HSub.c 2 rfl (HSub.c 3 rfl (HSub.c 4 rfl (HSub.c 5 rfl (HSub.c 6 rfl HSub.n))))), CSub.n⟩, ?_⟩
          refine JA.fix ⟨(HSub.c 2 rfl (HSub.c 3 rfl (HSub.c 4 rfl (HSub.c 5 rfl (HSub.c 6 rfl HSub.n))))), CSub.n, (Le.refl _)⟩ (fun fx75 => ?_)
          refine JA.tk 18 rfl fx75 (yl_buildS (pl := #[(0, 1), (1, 1), (2, 1), (3, 1)]) rfl rfl Tryz.zeroValue35 rfl Tryz.underlying35 (fun w => by simp [Tryz.sizeOf33, Tryz.sizeOf9]) (LBld.part rfl rfl rfl (LSpl.c LSpl.z) (LBld.part rfl rfl rfl (LSpl.s (LSpl.c LSpl.z)) (LBld.part rfl rfl rfl (LSpl.s (LSpl.s (LSpl.s (LSpl.c LSpl.z)))) LBld.none)))) ?_
          refine JA.step 19 (by kernel_rfl) rfl rfl (op_buildSlice rfl rfl rfl Tryz.underlying23 Tryz.sizeOf35 Tryz.zeroValue35 rfl rfl rfl rfl (LCat.agg rfl LCat.none) ?_)
          intro b76 hb76
          refine ⟨⟨(Le.refl _), (HSub.c 3 rfl (HSub.c 4 rfl (HSub.c 5 rfl (HSub.c 6 rfl (HSub.c 7 rfl HSub.n))))), CSub.n⟩, ?_⟩
          refine JA.step 20 (by kernel_rfl) rfl rfl (op_append (by' := 71) [_, _, _, _, _, _, _, _] rfl rfl rfl rfl rfl Tryz.underlying23 (.inr ⟨_, Tryz.underlying23⟩) (by kernel_rfl) Tryz.sizeOf35 Tryz.zeroValue35 rfl hg rfl (Src.slice (Blk.at 0 rfl) rfl rfl rfl) (by omega) ?_)
          intro g77 hg77
          refine ⟨⟨(Le.refl _), (HSub.c 3 rfl (HSub.c 4 rfl (HSub.c 5 rfl (HSub.c 6 rfl (HSub.c 7 rfl HSub.n))))), CSub.n⟩, ?_⟩
          refine JA.fix ⟨(HSub.c 3 rfl (HSub.c 4 rfl (HSub.c 5 rfl (HSub.c 6 rfl (HSub.c 7 rfl HSub.n))))), CSub.n, (Le.refl _)⟩ (fun fx78 => ?_)
          refine JA.tk 21 rfl fx78 (yl_fieldAddr (off' := 2) rfl rfl Tryz.underlying26 rfl Tryz.sizeOf23 rfl) ?_
          refine JA.last 22 (by kernel_rfl) rfl rfl rfl (op_store 5 rfl rfl rfl rfl (gV_cells _ _) (gV_one _ _) Tryz.sizeOf23 rfl rfl (LSpl.s (LSpl.s (LSpl.c LSpl.z))) (LSet.s (LSet.s (LSet.s (LSet.s (LSet.s LSet.z))))) ?_)
          refine JA.done (by kernel_rfl) ?_
          refine Ej.pull (Pull.s Pull.z) ?_
          refine Ej.persist hb74 (fun I80 hle79 hb74i => ?_)
          have hIJ := hIJ.mono hle79
          have hS := hS.mono hle79
          refine Ej.keep (Keeps.d (Keeps.d (Keeps.d (Keeps.k (Keeps.k (Keeps.k (Keeps.k Keeps.r))))))) ?_
          exact hcut (_, fs ++ [(⟨[50, 52, 53], (Ke.pick Ke.indsL (q.q4 % 3)), [], .slice (some ⟨b74, 0, none⟩) 2 2, ([⟨97, Ke.pick Ke.titlesL (q.q4.tdiv 5 % 6)⟩, ⟨99, [98, 121]⟩] : List Ke.Sub)⟩ : Ke.Fld)], g77) _ _ _ ⟨hIJ, (SubsS.add hS (RowS.of (l := ([⟨97, Ke.pick Ke.titlesL (q.q4.tdiv 5 % 6)⟩, ⟨99, [98, 121]⟩] : List Ke.Sub)) (sp := []) (Nat.le_refl _) hb74i)), by dsimp only; rw [nrm_add, hnx, hN]; rfl, by dsimp only; simp only [List.length_append, List.length_cons, List.length_nil]; omega, by dsimp only; rw [flat_one, List.length_append]; exact hg77⟩ ⟨rfl, rfl, rfl, rfl, trivial⟩ rfl (by dsimp only; rw [flat_one, List.length_append]; rfl)
       ·
        refine ⟨_, rfl, rfl, ?_⟩
        refine op_pure rfl rfl rfl rfl rfl (Mod_ok (q.q4.tdiv 5) 6 (by decide) (by decide) _) ?_
        refine ⟨⟨(Le.refl _), (HSub.c 0 rfl (HSub.c 1 rfl (HSub.c 2 rfl (HSub.c 3 rfl (HSub.c 4 rfl HSub.n))))), CSub.n⟩, ?_⟩
        refine JA.fix ⟨(HSub.c 0 rfl (HSub.c 1 rfl (HSub.c 2 rfl (HSub.c 3 rfl (HSub.c 4 rfl HSub.n))))), CSub.n, (Le.refl _)⟩ (fun fx81 => ?_)
        refine JA.tk 13 rfl fx81 (yl_indexAddr (off' := (q.q4.tdiv 5 % 6).toNat) rfl rfl rfl Tryz.underlying31 Tryz.sizeOf9 (by omega) (by omega) (by omega)) ?_
        refine JA.tk 14 rfl fx81 (yl_load rfl rfl Tryz.isAgg9 (Blk.atC 0 rfl) (pick_str (l := Ke.titlesL) (by omega) (by simp [Ke.titlesL]; omega))) ?_
        refine JA.tk 15 rfl fx81 (yl_buildS (pl := #[(0, 1), (1, 1)]) rfl rfl Tryz.zeroValue47 rfl Tryz.underlying47 (fun w => by simp [Tryz.sizeOf5, Tryz.sizeOf9]) (LBld.part rfl rfl rfl (LSpl.c LSpl.z) (LBld.part rfl rfl rfl (LSpl.s (LSpl.c LSpl.z)) LBld.none))) ?_
        refine JA.all [2, 17] (by kernel_rfl) (by simp) ?_
        intro i hi
        simp only [List.mem_cons, List.not_mem_nil, or_false] at hi
        rcases hi with rfl | rfl
        ·
         refine ⟨_, rfl, rfl, ?_⟩
         refine op_buildSlice rfl rfl rfl Tryz.underlying31 Tryz.sizeOf9 Tryz.zeroValue9 rfl rfl rfl rfl (LCat.one rfl (LCat.one rfl (LCat.one rfl LCat.none))) ?_
         intro b82 hb82
         refine ⟨⟨(Le.refl _), (HSub.c 1 rfl (HSub.c 2 rfl (HSub.c 3 rfl (HSub.c 4 rfl (HSub.c 5 rfl HSub.n))))), CSub.n⟩, ?_⟩
         refine JA.fix ⟨(HSub.c 1 rfl (HSub.c 2 rfl (HSub.c 3 rfl (HSub.c 4 rfl (HSub.c 5 rfl HSub.n))))), CSub.n, (Le.refl _)⟩ (fun fx83 => ?_)
         refine JA.tk 6 rfl fx83 (yl_indexAddr (off' := (q.q4 % 3).toNat) rfl rfl rfl Tryz.underlying31 Tryz.sizeOf9 (by omega) (by omega) (by omega)) ?_
         refine JA.all [7, 17] (by kernel_rfl) (by simp) ?_
         intro i hi
         simp only [List.mem_cons, List.not_mem_nil, or_false] at hi
         rcases hi with rfl | rfl
         ·
          refine ⟨_, rfl, rfl, ?_⟩
          refine op_yld (yl_load rfl rfl Tryz.isAgg9 (Blk.at 0 rfl) (pick_str (l := Ke.indsL) (by omega) (by simp [Ke.indsL]; omega))) rfl rfl ?_
          refine ⟨⟨(Le.refl _), (HSub.c 1 rfl (HSub.c 2 rfl (HSub.c 3 rfl (HSub.c 4 rfl (HSub.c 5 rfl HSub.n))))), CSub.n⟩, ?_⟩
          refine JA.step 17 (by kernel_rfl) rfl rfl (op_buildSlice rfl rfl rfl Tryz.underlying33 Tryz.sizeOf47 Tryz.zeroValue47 rfl rfl rfl rfl (LCat.agg rfl (LCat.agg rfl LCat.none)) ?_)
          intro b84 hb84
          refine ⟨⟨(Le.refl _), (HSub.c 2 rfl (HSub.c 3 rfl (HSub.c 4 rfl (HSub.c 5 rfl (HSub.c 6 rfl HSub.n))))), CSub.n⟩, ?_⟩
          refine JA.fix ⟨(HSub.c 2 rfl (HSub.c 3 rfl (HSub.c 4 rfl (HSub.c 5 rfl (HSub.c 6 rfl HSub.n))))), CSub.n, (Le.refl _)⟩ (fun fx85 => ?_)
          refine JA.tk 18 rfl fx85 (yl_buildS (pl := #[(0, 1), (1, 1), (2, 1), (3, 1)]) rfl rfl Tryz.zeroValue35 rfl Tryz.underlying35 (fun w => by simp [Tryz.sizeOf33, Tryz.sizeOf9]) (LBld.part rfl rfl rfl (LSpl.c LSpl.z) (LBld.part rfl rfl rfl (LSpl.s (LSpl.c LSpl.z)) (LBld.part rfl rfl rfl (LSpl.s (LSpl.s (LSpl.s (LSpl.c LSpl.z)))) LBld.none)))) ?_
          refine JA.step 19 (by kernel_rfl) rfl rfl (op_buildSlice rfl rfl rfl Tryz.underlying23 Tryz.sizeOf35 Tryz.zeroValue35 rfl rfl rfl rfl (LCat.agg rfl LCat.none) ?_)
          intro b86 hb86
          refine ⟨⟨(Le.refl _), (HSub.c 3 rfl (HSub.c 4 rfl (HSub.c 5 rfl (HSub.c 6 rfl (HSub.c 7 rfl HSub.n))))), CSub.n⟩, ?_⟩
          refine JA.step 20 (by kernel_rfl) rfl rfl (op_append (by' := 71) [_, _, _, _, _, _, _, _] rfl rfl rfl rfl rfl Tryz.underlying23 (.inr ⟨_, Tryz.underlying23⟩) (by kernel_rfl) Tryz.sizeOf35 Tryz.zeroValue35 rfl hg rfl (Src.slice (Blk.at 0 rfl) rfl rfl rfl) (by omega) ?_)
          intro g87 hg87
          refine ⟨⟨(Le.refl _), (HSub.c 3 rfl (HSub.c 4 rfl (HSub.c 5 rfl (HSub.c 6 rfl (HSub.c 7 rfl HSub.n))))), CSub.n⟩, ?_⟩
          refine JA.fix ⟨(HSub.c 3 rfl (HSub.c 4 rfl (HSub.c 5 rfl (HSub.c 6 rfl (HSub.c 7 rfl HSub.n))))), CSub.n, (Le.refl _)⟩ (fun fx88 => ?_)
          refine JA.tk 21 rfl fx88 (yl_fieldAddr (off' := 2) rfl rfl Tryz.underlying26 rfl Tryz.sizeOf23 rfl) ?_
          refine JA.last 22 (by kernel_rfl) rfl rfl rfl (op_store 5 rfl rfl rfl rfl (gV_cells _ _) (gV_one _ _) Tryz.sizeOf23 rfl rfl (LSpl.s (LSpl.s (LSpl.c LSpl.z))) (LSet.s (LSet.s (LSet.s (LSet.s (LSet.s LSet.z))))) ?_)
          refine JA.done (by kernel_rfl) ?_
          refine Ej.pull (Pull.s Pull.z) ?_
          refine Ej.persist hb84 (fun I90 hle89 hb84i => ?_)
          have hIJ := hIJ.mono hle89
          have hS := hS.mono hle89
          refine Ej.keep (Keeps.d (Keeps.d (Keeps.d (Keeps.k (Keeps.k (Keeps.k (Keeps.k Keeps.r))))))) ?_
          exact hcut (_, fs ++ [(⟨[50, 52, 53], (Ke.pick Ke.indsL (q.q4 % 3)), [], .slice (some ⟨b84, 0, none⟩) 2 2, ([⟨97, Ke.pick Ke.titlesL (q.q4.tdiv 5 % 6)⟩, ⟨99, [98, 121]⟩] : List Ke.Sub)⟩ : Ke.Fld)], g87) _ _ _ ⟨hIJ, (SubsS.add hS (RowS.of (l := ([⟨97, Ke.pick Ke.titlesL (q.q4.tdiv 5 % 6)⟩, ⟨99, [98, 121]⟩] : List Ke.Sub)) (sp := []) (Nat.le_refl _) hb84i)), by dsimp only; rw [nrm_add, hnx, hN]; rfl, by dsimp only; simp only [List.length_append, List.length_cons, List.length_nil]; omega, by dsimp only; rw [flat_one, List.length_append]; exact hg87⟩ ⟨rfl, rfl, rfl, rfl, trivial⟩ rfl (by dsimp only; rw [flat_one, List.length_append]; rfl)
         ·
          refine ⟨_, rfl, rfl, ?_⟩
          refine op_buildSlice rfl rfl rfl Tryz.underlying33 Tryz.sizeOf47 Tryz.zeroValue47 rfl rfl rfl rfl (LCat.agg rfl (LCat.agg rfl LCat.none)) ?_
          intro b91 hb91
          refine ⟨⟨(Le.refl _), (HSub.c 2 rfl (HSub.c 3 rfl (HSub.c 4 rfl (HSub.c 5 rfl (HSub.c 6 rfl HSub.n))))), CSub.n⟩, ?_⟩
          refine JA.step 7 (by kernel_rfl) rfl rfl (op_yld (yl_load rfl rfl Tryz.isAgg9 (Blk.at 1 rfl) (pick_str (l := Ke.indsL) (by omega) (by simp [Ke.indsL]; omega))) rfl rfl ?_)
          refine ⟨⟨(Le.refl _), (HSub.c 2 rfl (HSub.c 3 rfl (HSub.c 4 rfl (HSub.c 5 rfl (HSub.c 6 rfl HSub.n))))), CSub.n⟩, ?_⟩
          refine JA.fix ⟨(HSub.c 2 rfl (HSub.c 3 rfl (HSub.c 4 rfl (HSub.c 5 rfl (HSub.c 6 rfl HSub.n))))), CSub.n, (Le.refl _)⟩ (fun fx92 => ?_)
          refine JA.tk 18 rfl fx92 (yl_buildS (pl := #[(0, 1), (1, 1), (2, 1), (3, 1)]) rfl rfl Tryz.zeroValue35 rfl Tryz.underlying35 (fun w => by simp [Tryz.sizeOf33, Tryz.sizeOf9]) (LBld.part rfl rfl rfl (LSpl.c LSpl.z) (LBld.part rfl rfl rfl (LSpl.s (LSpl.c LSpl.z)) (LBld.part rfl rfl rfl (LSpl.s (LSpl.s (LSpl.s (LSpl.c LSpl.z)))) LBld.none)))) ?_
          refine JA.step 19 (by kernel_rfl) rfl rfl (op_buildSlice rfl rfl rfl Tryz.underlying23 Tryz.sizeOf35 Tryz.zeroValue35 rfl rfl rfl rfl (LCat.agg rfl LCat.none) ?_)
          intro b93 hb93
          refine ⟨⟨(Le.refl _), (HSub.c 3 rfl (HSub.c 4 rfl (HSub.c 5 rfl (HSub.c 6 rfl (HSub.c 7 rfl HSub.n))))), CSub.n⟩, ?_⟩
          refine JA.step 20 (by kernel_rfl) rfl rfl (op_append (by' := 71) [_, _, _, _, _, _, _, _] rfl rfl rfl rfl rfl Tryz.underlying23 (.inr ⟨_, Tryz.underlying23⟩) (by kernel_rfl) Tryz.sizeOf35 Tryz.zeroValue35 rfl hg rfl (Src.slice (Blk.at 0 rfl) rfl rfl rfl) (by omega) ?_)
          intro g94 hg94
          refine ⟨⟨(Le.refl _), (HSub.c 3 rfl (HSub.c 4 rfl (HSub.c 5 rfl (HSub.c 6 rfl (HSub.c 7 rfl HSub.n))))), CSub.n⟩, ?_⟩
          refine JA.fix ⟨(HSub.c 3 rfl (HSub.c 4 rfl (HSub.c 5 rfl (HSub.c 6 rfl (HSub.c 7 rfl HSub.n))))), CSub.n, (Le.refl _)⟩ (fun fx95 => ?_)
          refine JA.tk 21 rfl fx95 (yl_fieldAddr (off' := 2) rfl rfl Tryz.underlying26 rfl Tryz.sizeOf23 rfl) ?_
          refine JA.last 22 (by kernel_rfl) rfl rfl rfl (op_store 5 rfl rfl rfl rfl (gV_cells _ _) (gV_one _ _) Tryz.sizeOf23 rfl rfl (LSpl.s (LSpl.s (LSpl.c LSpl.z))) (LSet.s (LSet.s (LSet.s (LSet.s (LSet.s LSet.z))))) ?_)
          refine JA.done (by kernel_rfl) ?_
          refine Ej.pull (Pull.s Pull.z) ?_
          refine Ej.persist hb91 (fun I97 hle96 hb91i => ?_)
          have hIJ := hIJ.mono hle96
          have hS := hS.mono hle96
          refine Ej.keep (Keeps.d (Keeps.d (Keeps.d (Keeps.k (Keeps.k (Keeps.k (Keeps.k Keeps.r))))))) ?_
          exact hcut (_, fs ++ [(⟨[50, 52, 53], (Ke.pick Ke.indsL (q.q4 % 3)), [], .slice (some ⟨b91, 0, none⟩) 2 2, ([⟨97, Ke.pick Ke.titlesL (q.q4.tdiv 5 % 6)⟩, ⟨99, [98, 121]⟩] : List Ke.Sub)⟩ : Ke.Fld)], g94) _ _ _ ⟨hIJ, (SubsS.add hS (RowS.of (l := ([⟨97, Ke.pick Ke.titlesL (q.q4.tdiv 5 % 6)⟩, ⟨99, [98, 121]⟩] : List Ke.Sub)) (sp := []) (Nat.le_refl _) hb91i)), by dsimp only; rw [nrm_add, hnx, hN]; rfl, by dsimp only; simp only [List.length_append, List.length_cons, List.length_nil]; omega, by dsimp only; rw [flat_one, List.length_append]; exact hg94⟩ ⟨rfl, rfl, rfl, rfl, trivial⟩ rfl (by dsimp only; rw [flat_one, List.length_append]; rfl)
        ·
         refine ⟨_, rfl, rfl, ?_⟩
         refine op_buildSlice rfl rfl rfl Tryz.underlying33 Tryz.sizeOf47 Tryz.zeroValue47 rfl rfl rfl rfl (LCat.agg rfl (LCat.agg rfl LCat.none)) ?_
         intro b98 hb98
         refine ⟨⟨(Le.refl _), (HSub.c 1 rfl (HSub.c 2 rfl (HSub.c 3 rfl (HSub.c 4 rfl (HSub.c 5 rfl HSub.n))))), CSub.n⟩, ?_⟩
         refine JA.step 2 (by kernel_rfl) rfl rfl (op_buildSlice rfl rfl rfl Tryz.underlying31 Tryz.sizeOf9 Tryz.zeroValue9 rfl rfl rfl rfl (LCat.one rfl (LCat.one rfl (LCat.one rfl LCat.none))) ?_)
         intro b99 hb99
         refine ⟨⟨(Le.refl _), (HSub.c 2 rfl (HSub.c 3 rfl (HSub.c 4 rfl (HSub.c 5 rfl (HSub.c 6 rfl HSub.n))))), CSub.n⟩, ?_⟩
         refine JA.fix ⟨(HSub.c 2 rfl (HSub.c 3 rfl (HSub.c 4 rfl (HSub.c 5 rfl (HSub.c 6 rfl HSub.n))))), CSub.n, (Le.refl _)⟩ (fun fx100 => ?_)
         refine JA.tk 6 rfl fx100 (yl_indexAddr (off' := (q.q4 % 3).toNat) rfl rfl rfl Tryz.underlying31 Tryz.sizeOf9 (by omega) (by omega) (by omega)) ?_
         refine JA.step 7 (by kernel_rfl) rfl rfl (op_yld (yl_load rfl rfl Tryz.isAgg9 (Blk.at 0 rfl) (pick_str (l := Ke.indsL) (by omega) (by simp [Ke.indsL]; omega))) rfl rfl ?_)
         refine ⟨⟨(Le.refl _), (HSub.c 2 rfl (HSub.c 3 rfl (HSub.c 4 rfl (HSub.c 5 rfl (HSub.c 6 rfl HSub.n))))), CSub.n⟩, ?_⟩
         refine JA.fix ⟨(HSub.c 2 rfl (HSub.c 3 rfl (HSub.c 4 rfl (HSub.c 5 rfl (HSub.c 6 rfl HSub.n))))), CSub.n, (Le.refl _)⟩ (fun fx101 => ?_)
         refine JA.tk 18 rfl fx101 (yl_buildS (pl := #[(0, 1), (1, 1), (2, 1), (3, 1)]) rfl rfl Tryz.zeroValue35 rfl Tryz.underlying35 (fun w => by simp [Tryz.sizeOf33, Tryz.sizeOf9]) (LBld.part rfl rfl rfl (LSpl.c LSpl.z) (LBld.part rfl rfl rfl (LSpl.s (LSpl.c LSpl.z)) (LBld.part rfl rfl rfl (LSpl.s (LSpl.s (LSpl.s (LSpl.c LSpl.z)))) LBld.none)))) ?_
         refine JA.step 19 (by kernel_rfl) rfl rfl (op_buildSlice rfl rfl rfl Tryz.underlying23 Tryz.sizeOf35 Tryz.zeroValue35 rfl rfl rfl rfl (LCat.agg rfl LCat.none) ?_)
         intro b102 hb102
         refine ⟨⟨(Le.refl _), (HSub.c 3 rfl (HSub.c 4 rfl (HSub.c 5 rfl (HSub.c 6 rfl (HSub.c 7 rfl HSub.n))))), CSub.n⟩, ?_⟩
         refine JA.step 20 (by kernel_rfl) rfl rfl (op_append (by' := 71) [_, _, _, _, _, _, _, _] rfl rfl rfl rfl rfl Tryz.underlying23 (.inr ⟨_, Tryz.underlying23⟩) (by kernel_rfl) Tryz.sizeOf35 Tryz.zeroValue35 rfl hg rfl (Src.slice (Blk.at 0 rfl) rfl rfl rfl) (by omega) ?_)
         intro g103 hg103
         refine ⟨⟨(Le.refl _), (HSub.c 3 rfl (HSub.c 4 rfl (HSub.c 5 rfl (HSub.c 6 rfl (HSub.c 7 rfl HSub.n))))), CSub.n⟩, ?_⟩
         refine JA.fix ⟨(HSub.c 3 rfl (HSub.c 4 rfl (HSub.c 5 rfl (HSub.c 6 rfl (HSub.c 7 rfl HSub.n))))), CSub.n, (Le.refl _)⟩ (fun fx104 => ?_)
         refine JA.tk 21 rfl fx104 (yl_fieldAddr (off' := 2) rfl rfl Tryz.underlying26 rfl Tryz.sizeOf23 rfl) ?_
         refine JA.last 22 (by kernel_rfl) rfl rfl rfl (op_store 5 rfl rfl rfl rfl (gV_cells _ _) (gV_one _ _) Tryz.sizeOf23 rfl rfl (LSpl.s (LSpl.s (LSpl.c LSpl.z))) (LSet.s (LSet.s (LSet.s (LSet.s (LSet.s LSet.z))))) ?_)
         refine JA.done (by kernel_rfl) ?_
         refine Ej.pull (Pull.s (Pull.s Pull.z)) ?_
         refine Ej.persist hb98 (fun I106 hle105 hb98i => ?_)
         have hIJ := hIJ.mono hle105
         have hS := hS.mono hle105
         refine Ej.keep (Keeps.d (Keeps.d (Keeps.d (Keeps.k (Keeps.k (Keeps.k (Keeps.k Keeps.r))))))) ?_
         exact hcut (_, fs ++ [(⟨[50, 52, 53], (Ke.pick Ke.indsL (q.q4 % 3)), [], .slice (some ⟨b98, 0, none⟩) 2 2, ([⟨97, Ke.pick Ke.titlesL (q.q4.tdiv 5 % 6)⟩, ⟨99, [98, 121]⟩] : List Ke.Sub)⟩ : Ke.Fld)], g103) _ _ _ ⟨hIJ, (SubsS.add hS (RowS.of (l := ([⟨97, Ke.pick Ke.titlesL (q.q4.tdiv 5 % 6)⟩, ⟨99, [98, 121]⟩] : List Ke.Sub)) (sp := []) (Nat.le_refl _) hb98i)), by dsimp only; rw [nrm_add, hnx, hN]; rfl, by dsimp only; simp only [List.length_append, List.length_cons, List.length_nil]; omega, by dsimp only; rw [flat_one, List.length_append]; exact hg103⟩ ⟨rfl, rfl, rfl, rfl, trivial⟩ rfl (by dsimp only; rw [flat_one, List.length_append]; rfl)
     ·
      have hc29p := bne_f hc29
      have hnx : Ke.m245 q = [] := if_pos (tm0.1 (bne_f hc29))
      refine Cj.skip (Ej.keep (Keeps.d (Keeps.k (Keeps.k (Keeps.k (Keeps.k Keeps.r))))) ?_)
      exact hcut (_, fs, g) _ _ _ ⟨hIJ, hS, by dsimp only; rw [hnx, List.append_nil]; exact hN, by dsimp only; omega, hg⟩ ⟨rfl, rfl, rfl, rfl, trivial⟩ rfl rfl
   ·
    refine Cj.seq (Cj.region (J.z (yl_indexArr (off' := 3) rfl rfl rfl Tryz.underlying22 Tryz.sizeOf3 (by decide) (by decide) (by decide)) ?_))
    refine J.z (yl_load rfl rfl Tryz.isAgg3 (Blk.at 5 rfl) rfl) ?_
    refine J.z (yl_rem rfl rfl rfl (by decide)) ?_
    refine J.z (yl_neq rfl rfl rfl) ?_
    refine J.nil (Ej.seq (Cj.cond rfl (fun hc107 => ?_) (fun hc107 => ?_)))
    ·
     have hc107p := bne_iff_ne.1 hc107
     have hnx : Ke.m100 q = _ := if_neg (fun h => bne_iff_ne.1 hc107 (tm0.2 h))
     refine Cj.drawSel [0, 1, 2, 3, 4, 5] [] 15 (by kernel_rfl) ?_
     refine JA.fix ⟨(HSub.c 0 rfl (HSub.c 1 rfl (HSub.c 2 rfl (HSub.c 3 rfl (HSub.c 4 rfl (HSub.c 5 rfl HSub.n)))))), CSub.n, (Le.refl _)⟩ (fun fx108 => ?_)
     refine JA.tk 0 rfl fx108 (yl_fieldAddr (off' := 2) rfl rfl Tryz.underlying26 rfl Tryz.sizeOf23 rfl) ?_
     refine JA.tk 1 rfl fx108 (yl_load rfl rfl Tryz.isAgg23 (Blk.atC 3 rfl) rfl) ?_
     refine JA.tk 2 rfl fx108 (yl_move rfl rfl) ?_
     refine JA.tk 3 rfl fx108 (yl_indexArr (off' := 3) rfl rfl rfl Tryz.underlying22 Tryz.sizeOf3 (by decide) (by decide) (by decide)) ?_
     refine JA.tk 4 rfl fx108 (yl_load rfl rfl Tryz.isAgg3 (Blk.atC 5 rfl) rfl) ?_
     refine JA.tk 5 rfl fx108 (yl_quo rfl rfl rfl (by decide) (w64 (by have h := td_rng hq.h3 4 (by decide); omega))) ?_
     refine JA.step 6 (by kernel_rfl) rfl rfl (op_pure rfl rfl rfl rfl rfl (Mod_ok (q.q3.tdiv 4) 6 (by decide) (by decide) _) ?_)
     refine ⟨⟨(Le.refl _), (HSub.c 0 rfl (HSub.c 1 rfl (HSub.c 2 rfl (HSub.c 3 rfl (HSub.c 4 rfl (HSub.c 5 rfl HSub.n)))))), CSub.n⟩, ?_⟩
     refine JA.fix ⟨(HSub.c 0 rfl (HSub.c 1 rfl (HSub.c 2 rfl (HSub.c 3 rfl (HSub.c 4 rfl (HSub.c 5 rfl HSub.n)))))), CSub.n, (Le.refl _)⟩ (fun fx109 => ?_)
     refine JA.tk 7 rfl fx109 (yl_indexAddr (off' := (q.q3.tdiv 4 % 6).toNat) rfl rfl rfl Tryz.underlying31 Tryz.sizeOf9 (by omega) (by omega) (by omega)) ?_
     refine JA.tk 8 rfl fx109 (yl_load rfl rfl Tryz.isAgg9 (Blk.atC 0 rfl) (pick_str (l := Ke.namesL) (by omega) (by simp [Ke.namesL]; omega))) ?_
     refine JA.tk 9 rfl fx109 (yl_buildS (pl := #[(0, 1), (1, 1)]) rfl rfl Tryz.zeroValue47 rfl Tryz.underlying47 (fun w => by simp [Tryz.sizeOf5, Tryz.sizeOf9]) (LBld.part rfl rfl rfl (LSpl.c LSpl.z) (LBld.part rfl rfl rfl (LSpl.s (LSpl.c LSpl.z)) LBld.none))) ?_
     refine JA.step 10 (by kernel_rfl) rfl rfl (op_buildSlice rfl rfl rfl Tryz.underlying33 Tryz.sizeOf47 Tryz.zeroValue47 rfl rfl rfl rfl (LCat.agg rfl LCat.none) ?_)
     intro b110 hb110
     refine ⟨⟨(Le.refl _), (HSub.c 1 rfl (HSub.c 2 rfl (HSub.c 3 rfl (HSub.c 4 rfl (HSub.c 5 rfl (HSub.c 6 rfl HSub.n)))))), CSub.n⟩, ?_⟩
     refine JA.fix ⟨(HSub.c 1 rfl (HSub.c 2 rfl (HSub.c 3 rfl (HSub.c 4 rfl (HSub.c 5 rfl (HSub.c 6 rfl HSub.n)))))), CSub.n, (Le.refl _)⟩ (fun fx111 => ?_)
     refine JA.tk 11 rfl fx111 (yl_buildS (pl := #[(0, 1), (1, 1), (2, 1), (3, 1)]) rfl rfl Tryz.zeroValue35 rfl Tryz.underlying35 (fun w => by simp [Tryz.sizeOf33, Tryz.sizeOf9]) (LBld.part rfl rfl rfl (LSpl.c LSpl.z) (LBld.part rfl rfl rfl (LSpl.s (LSpl.c LSpl.z)) (LBld.part rfl rfl rfl (LSpl.s (LSpl.s (LSpl.s (LSpl.c LSpl.z)))) LBld.none)))) ?_
     refine JA.step 12 (by kernel_rfl) rfl rfl (op_buildSlice rfl rfl rfl Tryz.underlying23 Tryz.sizeOf35 Tryz.zeroValue35 rfl rfl rfl rfl (LCat.agg rfl LCat.none) ?_)
     intro b112 hb112
     refine ⟨⟨(Le.refl _), (HSub.c 2 rfl (HSub.c 3 rfl (HSub.c 4 rfl (HSub.c 5 rfl (HSub.c 6 rfl (HSub.c 7 rfl HSub.n)))))), CSub.n⟩, ?_⟩
     refine JA.step 13 (by kernel_rfl) rfl rfl (op_append (by' := 71) [_, _, _, _, _, _, _, _] rfl rfl rfl rfl rfl Tryz.underlying23 (.inr ⟨_, Tryz.underlying23⟩) (by kernel_rfl) Tryz.sizeOf35 Tryz.zeroValue35 rfl hg rfl (Src.slice (Blk.at 0 rfl) rfl rfl rfl) (by omega) ?_)
     intro g113 hg113
     refine ⟨⟨(Le.refl _), (HSub.c 2 rfl (HSub.c 3 rfl (HSub.c 4 rfl (HSub.c 5 rfl (HSub.c 6 rfl (HSub.c 7 rfl HSub.n)))))), CSub.n⟩, ?_⟩
     refine JA.fix ⟨(HSub.c 2 rfl (HSub.c 3 rfl (HSub.c 4 rfl (HSub.c 5 rfl (HSub.c 6 rfl (HSub.c 7 rfl HSub.n)))))), CSub.n, (Le.refl _)⟩ (fun fx114 => ?_)
     refine JA.tk 14 rfl fx114 (yl_fieldAddr (off' := 2) rfl rfl Tryz.underlying26 rfl Tryz.sizeOf23 rfl) ?_
     refine JA.last 15 (by kernel_rfl) rfl rfl rfl (op_store 5 rfl rfl rfl rfl (gV_cells _ _) (gV_one _ _) Tryz.sizeOf23 rfl rfl (LSpl.s (LSpl.s (LSpl.c LSpl.z))) (LSet.s (LSet.s (LSet.s (LSet.s (LSet.s LSet.z))))) ?_)
     refine JA.done (by kernel_rfl) ?_
     refine Ej.pull (Pull.s Pull.z) ?_
     refine Ej.persist hb110 (fun I116 hle115 hb110i => ?_)
     have hIJ := hIJ.mono hle115
     have hS := hS.mono hle115
     refine Ej.keep (Keeps.d (Keeps.d (Keeps.d (Keeps.k (Keeps.k (Keeps.k (Keeps.k Keeps.r))))))) ?_
     exact hcut (_, fs ++ [(⟨[49, 48, 48], [49, 32], [], .slice (some ⟨b110, 0, none⟩) 1 1, ([⟨97, Ke.pick Ke.namesL (q.q3.tdiv 4 % 6)⟩] : List Ke.Sub)⟩ : Ke.Fld)], g113) _ _ _ ⟨hIJ, (SubsS.add hS (RowS.of (l := ([⟨97, Ke.pick Ke.namesL (q.q3.tdiv 4 % 6)⟩] : List Ke.Sub)) (sp := []) (Nat.le_refl _) hb110i)), by dsimp only; rw [nrm_add, hnx, hN]; rfl, by dsimp only; simp only [List.length_append, List.length_cons, List.length_nil]; omega, by dsimp only; rw [flat_one, List.length_append]; exact hg113⟩ ⟨rfl, rfl, rfl, rfl, trivial⟩ rfl (by dsimp only; rw [flat_one, List.length_append]; rfl)
    ·
     have hc107p := bne_f hc107
     have hnx : Ke.m100 q = [] := if_pos (tm0.1 (bne_f hc107))
     refine Cj.skip (Ej.keep (Keeps.d (Keeps.d (Keeps.k (Keeps.k (Keeps.k (Keeps.k Keeps.r)))))) ?_)
     exact hcut (_, fs, g) _ _ _ ⟨hIJ, hS, by dsimp only; rw [hnx, List.append_nil]; exact hN, by dsimp only; omega, hg⟩ ⟨rfl, rfl, rfl, rfl, trivial⟩ rfl rfl
 ·
  refine Cj.seq (Cj.region (J.z (yl_indexArr (off' := 1) rfl rfl rfl Tryz.underlying22 Tryz.sizeOf3 (by decide) (by decide) (by decide)) ?_))
  refine J.z (yl_load rfl rfl Tryz.isAgg3 (Blk.at 3 rfl) rfl) ?_
  refine J.z (yl_rem rfl rfl rfl (by decide)) ?_
  refine J.z (yl_eql rfl rfl rfl) ?_
  refine J.nil (Ej.seq (Cj.cond rfl (fun hc117 => ?_) (fun hc117 => ?_)))
  ·
   have hc117p := eq_of_beq hc117
   have hnx : Ke.m008 q = _ := if_pos (tm0.1 (eq_of_beq hc117))
   have pyl : (Ke.pick Ke.yearsL (q.q1 % 8)).length ≤ 12 := (show ∀ y ∈ Ke.yearsL, y.length ≤ 12 by decide) _ (Ke.pick_in (by omega) (by simp [Ke.yearsL]; omega))
   refine Cj.region (J.z (yl_fieldAddr (off' := 2) rfl rfl Tryz.underlying26 rfl Tryz.sizeOf23 rfl) ?_)
   refine J.z (yl_load rfl rfl Tryz.isAgg23 (Blk.at 1 rfl) rfl) ?_
   refine J.z (yl_move rfl rfl) ?_
   refine J.z (yl_cat rfl rfl rfl (by have := pyl; simp; omega)) ?_
   refine J.z (yl_cat rfl rfl rfl (by have := pyl; simp; omega)) ?_
   refine J.z (yl_buildS (pl := #[(0, 1), (1, 1), (2, 1), (3, 1)]) rfl rfl Tryz.zeroValue35 rfl Tryz.underlying35 (fun w => by simp [Tryz.sizeOf33, Tryz.sizeOf9]) (LBld.part rfl rfl rfl (LSpl.c LSpl.z) (LBld.part rfl rfl rfl (LSpl.s (LSpl.s (LSpl.c LSpl.z))) LBld.none))) ?_
   refine J.op rfl (op_buildSlice rfl rfl rfl Tryz.underlying23 Tryz.sizeOf35 Tryz.zeroValue35 rfl rfl rfl rfl (LCat.agg rfl LCat.none) ?_)
   intro b118 hb118
   refine J.op rfl (op_append (by' := 71) (n := 0) (g := none) (xs := []) [_, _, _, _, _] rfl rfl rfl rfl rfl Tryz.underlying23 (.inr ⟨_, Tryz.underlying23⟩) (by kernel_rfl) Tryz.sizeOf35 Tryz.zeroValue35 rfl ⟨rfl, rfl⟩ rfl (Src.slice (Blk.at 0 rfl) rfl rfl rfl) (by omega) ?_)
   intro g119 hg119
   refine J.z (yl_fieldAddr (off' := 2) rfl rfl Tryz.underlying26 rfl Tryz.sizeOf23 rfl) ?_
   refine J.op rfl (op_store 2 rfl rfl rfl rfl (gV_cells _ _) (gV_one _ _) Tryz.sizeOf23 rfl rfl (LSpl.s (LSpl.s (LSpl.c LSpl.z))) (LSet.s (LSet.s LSet.z)) ?_)
   refine J.nil (Ej.keep (Keeps.d (Keeps.k (Keeps.k (Keeps.k (Keeps.k Keeps.r))))) ?_)
   exact hcut (_, ([] : List Ke.Fld) ++ [(⟨[48, 48, 56], [], (([56, 53, 48, 49, 48, 49, 115] ++ Ke.pick Ke.yearsL (q.q1 % 8)) ++ [32, 32, 32, 32, 120, 120]), .slice none 0 0, ([] : List Ke.Sub)⟩ : Ke.Fld)], g119) _ _ _ ⟨hIJ0, (SubsS.add SubsS.nil RowS.nil), by dsimp only; rw [nrm_add, hnx]; rfl, by dsimp only; simp only [List.length_append, List.length_cons, List.length_nil]; omega, by dsimp only; rw [flat_one, List.length_append]; exact hg119⟩ ⟨rfl, rfl, rfl, rfl, trivial⟩ rfl (by dsimp only; rw [flat_one, List.length_append]; rfl)
  ·
   have hc117p := ne_of_beq_false hc117
   have hnx : Ke.m008 q = [] := if_neg (fun h => ne_of_beq_false hc117 (tm0.2 h))
   refine Cj.skip ?_
   exact hcut (_, [], none) _ _ _ ⟨Le.refl _, SubsS.nil, by dsimp only; rw [hnx]; rfl, by simp, rfl, rfl⟩ ⟨rfl, rfl, rfl, rfl, trivial⟩ rfl rfl
end Go.Proofs.YtadnofaleepkmaaGreatDoor
end
section
namespace Go.Proofs.YtadnofaleepkmaaGreatDoor
open Go Go.Sx
theorem dig_conv (m : Nat) : IntKind.u8.wrap (48 + (m : Int).tmod 10) = ((Ke.dig m).toNat : Int) := by
  rw [Ke.dig_nat, Int.tmod_eq_emod_of_nonneg (by omega)]
  simp [IntKind.wrap, IntKind.bits, IntKind.signed]; omega
theorem td10 (m : Nat) : (m : Int).tdiv 10 = ((m / 10 : Nat) : Int) := by rw [Int.tdiv_eq_ediv_of_nonneg (by omega)]; omega
theorem s4_made (x : Nat) : [Ke.dig (x / 10 / 10 / 10)] ++ ([Ke.dig (x / 10 / 10)] ++ ([Ke.dig (x / 10)] ++ ([Ke.dig x] ++ ([] : List UInt8)))) = Ke.s4 x := by
  rw [Nat.div_div_eq_div_mul x 10 10, Nat.div_div_eq_div_mul x (10 * 10) 10]; rfl
theorem way_at (x w : Nat) : ([str (Ke.s4 x), str (([99] ++ Ke.s4 x) ++ [46]), str ([91, 49, 50, 93, 32] ++ Ke.s4 x), str ((Ke.s4 x ++ [45]) ++ [49, 48, 48, 48])] : List Value)[w % 4]? = some (str (Ke.wayC x (w % 4))) := by
  have h : w % 4 = 0 ∨ w % 4 = 1 ∨ w % 4 = 2 ∨ w % 4 = 3 := by omega
  rcases h with h | h | h | h <;> rw [h] <;> rfl
theorem u8_wrap {z : Int} (h0 : 0 ≤ z) (h1 : z < 256) : IntKind.u8.wrap z = z := by
  simp [IntKind.wrap, IntKind.bits, IntKind.signed]; omega
/-- Fields in which a year is written. -/
def Dated (x : Nat) (fs : List Ke.Fld) : Prop := (∃ w v, fs = [⟨[50, 54, 48], [32, 32], [], v, [⟨98, [49, 49, 49, 49]⟩, ⟨99, Ke.wayC x w⟩]⟩]) ∨ ∃ u v, fs = [⟨[48, 48, 56], [], [48, 48, 48, 48, 48, 48, 48] ++ Ke.s4 x, u, []⟩, ⟨[50, 54, 48], [32, 32], [], v, [⟨99, [50, 50, 50, 50]⟩]⟩]
theorem sixC_len (q : Ke.Six) : (sixC q).length = 6 := rfl
set_option maxRecDepth 20000 in
set_option maxHeartbeats 1000000 in
theorem dated_ok (x : Nat) (way : UInt8) (hx : x < 10000) (I : Heap) : Ctr Tryz.prog 23 [i64 (x : Int), u8 way] I [] (fun e I' H' => ∃ fs w, e = .returned (recV 97 0 w) ∧ RecS I' fs w ∧ Dated x fs ∧ H' = []) := by
 have hwl := way.toNat_lt
 refine Ctr.of_body Tryz.func23 rfl (by decide) (Nat.le_of_ble_eq_true rfl) ?_
 intro w0 hw0
 refine Cj.seq (Cj.region (J.op rfl (op_alloc rfl rfl rfl Tryz.zeroValue26 rfl ?_)))
 intro b1 hb1
 refine J.nil (Ej.seq (Cj.seq (Cj.region (J.z (yl_assign rfl rfl) ?_))))
 refine J.nil (Ej.seq (Cj.seq (Cj.seq (Cj.region (J.z (yl_assign rfl rfl) ?_)))))
 refine J.nil (Ej.seq (Cj.block (Cj.rounds 5 ?_)))
 refine Rj.succ ?_
 refine Cj.seq (Cj.seq (Cj.region (J.z (yl_move rfl rfl) ?_)))
 refine J.z (yl_lss rfl rfl rfl) ?_
 refine J.nil (Ej.seq (Cj.cond rfl (fun hc2 => ?_) (fun hc2 => Bool.noConfusion (Eq.trans (Eq.symm (by first | rfl | decide)) hc2))))
 refine Cj.skip (Ej.seq (Cj.seq (Cj.block (Cj.seq (Cj.region (J.z (yl_move rfl rfl) ?_))))))
 refine J.z (yl_rem rfl rfl rfl (by decide)) ?_
 refine J.z (yl_add rfl rfl rfl (w64 (by rw [Int.tmod_eq_emod_of_nonneg (by omega)]; omega))) ?_
 refine J.z (yl_convInt rfl rfl Tryz.underlying3 Tryz.underlying5) ?_
 refine J.eqv 16 rfl (show _ = u8 (Ke.dig x) from (congrArg (Value.int .u8) (dig_conv x))) ?_
 refine J.op rfl (op_buildSlice rfl rfl rfl Tryz.underlying86 Tryz.sizeOf5 Tryz.zeroValue5 rfl rfl rfl rfl (LCat.one rfl LCat.none) ?_)
 intro b3 hb3
 refine J.z (yl_toStr [Ke.dig x] rfl rfl rfl Tryz.underlying86 Tryz.underlying9 Tryz.underlying5 (Blk.at 0 rfl) rfl) ?_
 refine J.z (yl_move rfl rfl) ?_
 refine J.z (yl_cat rfl rfl rfl (by simp)) ?_
 refine J.z (yl_assign rfl rfl) ?_
 refine J.nil (Ej.seq (Cj.region (J.z (yl_move rfl rfl) ?_)))
 refine J.z (yl_quo rfl rfl rfl (by decide) (w64 (by rw [td10]; omega))) ?_
 refine J.eqv 22 rfl (show _ = i64 ((x / 10 : Nat) : Int) from (congrArg i64 (td10 x))) ?_
 refine J.z (yl_assign rfl rfl) ?_
 refine J.nil (Ej.blkNormal (Ej.seq (Cj.region (J.z (yl_move rfl rfl) ?_))))
 refine J.z (yl_add rfl rfl rfl (w64 (by omega))) ?_
 refine J.z (yl_assign rfl rfl) ?_
 refine J.nil (Ej.rounds ?_)
 refine Rj.succ ?_
 refine Cj.seq (Cj.seq (Cj.region (J.z (yl_move rfl rfl) ?_)))
 refine J.z (yl_lss rfl rfl rfl) ?_
 refine J.nil (Ej.seq (Cj.cond rfl (fun hc4 => ?_) (fun hc4 => Bool.noConfusion (Eq.trans (Eq.symm (by first | rfl | decide)) hc4))))
 refine Cj.skip (Ej.seq (Cj.seq (Cj.block (Cj.seq (Cj.region (J.z (yl_move rfl rfl) ?_))))))
 refine J.z (yl_rem rfl rfl rfl (by decide)) ?_
 refine J.z (yl_add rfl rfl rfl (w64 (by rw [Int.tmod_eq_emod_of_nonneg (by omega)]; omega))) ?_
 refine J.z (yl_convInt rfl rfl Tryz.underlying3 Tryz.underlying5) ?_
 refine J.eqv 16 rfl (show _ = u8 (Ke.dig (x / 10)) from (congrArg (Value.int .u8) (dig_conv (x / 10)))) ?_
 refine J.op rfl (op_buildSlice rfl rfl rfl Tryz.underlying86 Tryz.sizeOf5 Tryz.zeroValue5 rfl rfl rfl rfl (LCat.one rfl LCat.none) ?_)
 intro b5 hb5
 refine J.z (yl_toStr [Ke.dig (x / 10)] rfl rfl rfl Tryz.underlying86 Tryz.underlying9 Tryz.underlying5 (Blk.at 0 rfl) rfl) ?_
 refine J.z (yl_move rfl rfl) ?_
 refine J.z (yl_cat rfl rfl rfl (by simp)) ?_
 refine J.z (yl_assign rfl rfl) ?_
 refine J.nil (Ej.seq (Cj.region (J.z (yl_move rfl rfl) ?_)))
 refine J.z (yl_quo rfl rfl rfl (by decide) (w64 (by rw [td10]; omega))) ?_
 refine J.eqv 22 rfl (show _ = i64 (((x / 10) / 10 : Nat) : Int) from (congrArg i64 (td10 (x / 10)))) ?_
 refine J.z (yl_assign rfl rfl) ?_
 refine J.nil (Ej.blkNormal (Ej.seq (Cj.region (J.z (yl_move rfl rfl) ?_))))
 refine J.z (yl_add rfl rfl rfl (w64 (by omega))) ?_
 refine J.z (yl_assign rfl rfl) ?_
 refine J.nil (Ej.rounds ?_)
 refine Rj.succ ?_
 refine Cj.seq (Cj.seq (Cj.region (J.z (yl_move rfl rfl) ?_)))
 refine J.z (yl_lss rfl rfl rfl) ?_
 refine J.nil (Ej.seq (Cj.cond rfl (fun hc6 => ?_) (fun hc6 => Bool.noConfusion (Eq.trans (Eq.symm (by first | rfl | decide)) hc6))))
 refine Cj.skip (Ej.seq (Cj.seq (Cj.block (Cj.seq (Cj.region (J.z (yl_move rfl rfl) ?_))))))
 refine J.z (yl_rem rfl rfl rfl (by decide)) ?_
 refine J.z (yl_add rfl rfl rfl (w64 (by rw [Int.tmod_eq_emod_of_nonneg (by omega)]; omega))) ?_
 refine J.z (yl_convInt rfl rfl Tryz.underlying3 Tryz.underlying5) ?_
 refine J.eqv 16 rfl (show _ = u8 (Ke.dig (x / 10 / 10)) from (congrArg (Value.int .u8) (dig_conv (x / 10 / 10)))) ?_
 refine J.op rfl (op_buildSlice rfl rfl rfl Tryz.underlying86 Tryz.sizeOf5 Tryz.zeroValue5 rfl rfl rfl rfl (LCat.one rfl LCat.none) ?_)
 intro b7 hb7
 refine J.z (yl_toStr [Ke.dig (x / 10 / 10)] rfl rfl rfl Tryz.underlying86 Tryz.underlying9 Tryz.underlying5 (Blk.at 0 rfl) rfl) ?_
 refine J.z (yl_move rfl rfl) ?_
 refine J.z (yl_cat rfl rfl rfl (by simp)) ?_
 refine J.z (yl_assign rfl rfl) ?_
 refine J.nil (Ej.seq (Cj.region (J.z (yl_move rfl rfl) ?_)))
 refine J.z (yl_quo rfl rfl rfl (by decide) (w64 (by rw [td10]; omega))) ?_
 refine J.eqv 22 rfl (show _ = i64 (((x / 10 / 10) / 10 : Nat) : Int) from (congrArg i64 (td10 (x / 10 / 10)))) ?_
 refine J.z (yl_assign rfl rfl) ?_
 refine J.nil (Ej.blkNormal (Ej.seq (Cj.region (J.z (yl_move rfl rfl) ?_))))
 refine J.z (yl_add rfl rfl rfl (w64 (by omega))) ?_
 refine J.z (yl_assign rfl rfl) ?_
 refine J.nil (Ej.rounds ?_)
 refine Rj.succ ?_
 refine Cj.seq (Cj.seq (Cj.region (J.z (yl_move rfl rfl) ?_)))
 refine J.z (yl_lss rfl rfl rfl) ?_
 refine J.nil (Ej.seq (Cj.cond rfl (fun hc8 => ?_) (fun hc8 => Bool.noConfusion (Eq.trans (Eq.symm (by first | rfl | decide)) hc8))))
 refine Cj.skip (Ej.seq (Cj.seq (Cj.block (Cj.seq (Cj.region (J.z (yl_move rfl rfl) ?_))))))
 refine J.z (yl_rem rfl rfl rfl (by decide)) ?_
 refine J.z (yl_add rfl rfl rfl (w64 (by rw [Int.tmod_eq_emod_of_nonneg (by omega)]; omega))) ?_
 refine J.z (yl_convInt rfl rfl Tryz.underlying3 Tryz.underlying5) ?_
 refine J.eqv 16 rfl (show _ = u8 (Ke.dig (x / 10 / 10 / 10)) from (congrArg (Value.int .u8) (dig_conv (x / 10 / 10 / 10)))) ?_
 refine J.op rfl (op_buildSlice rfl rfl rfl Tryz.underlying86 Tryz.sizeOf5 Tryz.zeroValue5 rfl rfl rfl rfl (LCat.one rfl LCat.none) ?_)
 intro b9 hb9
 refine J.z (yl_toStr [Ke.dig (x / 10 / 10 / 10)] rfl rfl rfl Tryz.underlying86 Tryz.underlying9 Tryz.underlying5 (Blk.at 0 rfl) rfl) ?_
 refine J.z (yl_move rfl rfl) ?_
 refine J.z (yl_cat rfl rfl rfl (by simp)) ?_
 refine J.z (yl_assign rfl rfl) ?_
 refine J.nil (Ej.seq (Cj.region (J.z (yl_move rfl rfl) ?_)))
 refine J.z (yl_quo rfl rfl rfl (by decide) (w64 (by rw [td10]; omega))) ?_
 refine J.eqv 22 rfl (show _ = i64 (((x / 10 / 10 / 10) / 10 : Nat) : Int) from (congrArg i64 (td10 (x / 10 / 10 / 10)))) ?_
 refine J.z (yl_assign rfl rfl) ?_
 refine J.nil (Ej.blkNormal (Ej.seq (Cj.region (J.z (yl_move rfl rfl) ?_))))
 refine J.z (yl_add rfl rfl rfl (w64 (by omega))) ?_
 refine J.z (yl_assign rfl rfl) ?_
 refine J.nil (Ej.rounds ?_)
 refine Rj.succ ?_
 refine Cj.seq (Cj.seq (Cj.region (J.z (yl_move rfl rfl) ?_)))
 refine J.z (yl_lss rfl rfl rfl) ?_
 refine J.nil (Ej.seq (Cj.cond rfl (fun hc10 => Bool.noConfusion (Eq.trans (Eq.symm (by first | rfl | decide)) hc10)) (fun hc10 => ?_)))
 refine Cj.exit (Ej.seqExit (Ej.seqExit (Ej.blkExit (Ej.seq (Cj.seq (Cj.eqv 5 rfl (show _ = str (Ke.s4 x) from congrArg str (s4_made x)) ?_))))))
 refine Cj.region (J.z (yl_move rfl rfl) ?_)
 refine J.z (yl_move rfl rfl) ?_
 refine J.z (yl_cat rfl rfl rfl (by simp [Ke.s4])) ?_
 refine J.z (yl_cat rfl rfl rfl (by simp [Ke.s4])) ?_
 refine J.z (yl_move rfl rfl) ?_
 refine J.z (yl_cat rfl rfl rfl (by simp [Ke.s4])) ?_
 refine J.z (yl_move rfl rfl) ?_
 refine J.z (yl_cat rfl rfl rfl (by simp [Ke.s4])) ?_
 refine J.z (yl_cat rfl rfl rfl (by simp [Ke.s4])) ?_
 refine J.op rfl (op_buildSlice rfl rfl rfl Tryz.underlying31 Tryz.sizeOf9 Tryz.zeroValue9 rfl rfl rfl rfl (LCat.one rfl (LCat.one rfl (LCat.one rfl (LCat.one rfl LCat.none)))) ?_)
 intro b11 hb11
 refine J.z (yl_move rfl rfl) ?_
 refine J.z (yl_rem rfl rfl rfl (by decide)) ?_
 refine J.eqv 34 rfl (show _ = .int .u8 ((way.toNat % 4 : Nat) : Int) from rfl) ?_
 refine J.z (yl_indexAddr (off' := way.toNat % 4) rfl rfl rfl Tryz.underlying31 Tryz.sizeOf9 (by omega) (by omega) (by omega)) ?_
 refine J.z (yl_load rfl rfl Tryz.isAgg9 (Blk.at 0 rfl) (way_at x way.toNat)) ?_
 refine J.z (yl_assign rfl rfl) ?_
 refine J.nil (Ej.seq (Cj.seq (Cj.region (J.z (yl_buildS (pl := #[(0, 1), (1, 1)]) rfl rfl Tryz.zeroValue47 rfl Tryz.underlying47 (fun w => by simp [Tryz.sizeOf5, Tryz.sizeOf9]) (LBld.part rfl rfl rfl (LSpl.c LSpl.z) (LBld.part rfl rfl rfl (LSpl.s (LSpl.c LSpl.z)) LBld.none))) ?_))))
 refine J.z (yl_move rfl rfl) ?_
 refine J.z (yl_buildS (pl := #[(0, 1), (1, 1)]) rfl rfl Tryz.zeroValue47 rfl Tryz.underlying47 (fun w => by simp [Tryz.sizeOf5, Tryz.sizeOf9]) (LBld.part rfl rfl rfl (LSpl.c LSpl.z) (LBld.part rfl rfl rfl (LSpl.s (LSpl.c LSpl.z)) LBld.none))) ?_
 refine J.op rfl (op_buildSlice rfl rfl rfl Tryz.underlying33 Tryz.sizeOf47 Tryz.zeroValue47 rfl rfl rfl rfl (LCat.agg rfl (LCat.agg rfl LCat.none)) ?_)
 intro b12 hb12
 refine J.z (yl_buildS (pl := #[(0, 1), (1, 1), (2, 1), (3, 1)]) rfl rfl Tryz.zeroValue35 rfl Tryz.underlying35 (fun w => by simp [Tryz.sizeOf33, Tryz.sizeOf9]) (LBld.part rfl rfl rfl (LSpl.c LSpl.z) (LBld.part rfl rfl rfl (LSpl.s (LSpl.c LSpl.z)) (LBld.part rfl rfl rfl (LSpl.s (LSpl.s (LSpl.s (LSpl.c LSpl.z)))) LBld.none)))) ?_
 refine J.op rfl (op_buildSlice rfl rfl rfl Tryz.underlying23 Tryz.sizeOf35 Tryz.zeroValue35 rfl rfl rfl rfl (LCat.agg rfl LCat.none) ?_)
 intro b13 hb13
 refine J.z (yl_buildS (pl := #[(0, 1), (1, 1), (2, 1)]) rfl rfl Tryz.zeroValue26 rfl Tryz.underlying26 (fun w => by simp [Tryz.sizeOf23, Tryz.sizeOf5]) (LBld.part rfl rfl rfl (LSpl.c LSpl.z) (LBld.part rfl rfl rfl (LSpl.s (LSpl.s (LSpl.c LSpl.z))) LBld.none))) ?_
 refine J.op rfl (op_alloc rfl rfl rfl Tryz.zeroValue26 rfl ?_)
 intro b14 hb14
 refine J.op rfl (op_store 0 rfl rfl rfl rfl rfl rfl Tryz.sizeOf26 rfl rfl (LSpl.c (LSpl.c (LSpl.c LSpl.z))) LSet.z ?_)
 refine J.nil (Ej.seq (Cj.seq (Cj.seq (Cj.region (J.z (yl_move rfl rfl) ?_)))))
 refine J.z (yl_quo rfl rfl rfl (by decide) (u8_wrap (by rw [Int.tdiv_eq_ediv_of_nonneg (by omega)]; omega) (by rw [Int.tdiv_eq_ediv_of_nonneg (by omega)]; omega))) ?_
 refine J.eqv 45 rfl (show _ = .int .u8 ((way.toNat / 4 : Nat) : Int) from rfl) ?_
 refine J.z (yl_rem rfl rfl rfl (by decide)) ?_
 refine J.eqv 46 rfl (show _ = .int .u8 ((way.toNat / 4 % 2 : Nat) : Int) from rfl) ?_
 refine J.nil (Ej.seq (Cj.block (Cj.seq (Cj.region (J.z (yl_eql rfl rfl rfl) ?_)))))
 refine J.z (yl_assign rfl rfl) ?_
 refine J.nil (Ej.seq (Cj.cond rfl (fun hc15 => ?_) (fun hc15 => ?_)))
 ·
  have hc15p := eq_of_beq hc15
  refine Cj.region (J.z (yl_move rfl rfl) ?_)
  refine J.z (yl_cat rfl rfl rfl (by simp [Ke.s4])) ?_
  refine J.z (yl_buildS (pl := #[(0, 1), (1, 1), (2, 1), (3, 1)]) rfl rfl Tryz.zeroValue35 rfl Tryz.underlying35 (fun w => by simp [Tryz.sizeOf33, Tryz.sizeOf9]) (LBld.part rfl rfl rfl (LSpl.c LSpl.z) (LBld.part rfl rfl rfl (LSpl.s (LSpl.s (LSpl.c LSpl.z))) LBld.none))) ?_
  refine J.z (yl_buildS (pl := #[(0, 1), (1, 1)]) rfl rfl Tryz.zeroValue47 rfl Tryz.underlying47 (fun w => by simp [Tryz.sizeOf5, Tryz.sizeOf9]) (LBld.part rfl rfl rfl (LSpl.c LSpl.z) (LBld.part rfl rfl rfl (LSpl.s (LSpl.c LSpl.z)) LBld.none))) ?_
  refine J.op rfl (op_buildSlice rfl rfl rfl Tryz.underlying33 Tryz.sizeOf47 Tryz.zeroValue47 rfl rfl rfl rfl (LCat.agg rfl LCat.none) ?_)
  intro b16 hb16
  refine J.z (yl_buildS (pl := #[(0, 1), (1, 1), (2, 1), (3, 1)]) rfl rfl Tryz.zeroValue35 rfl Tryz.underlying35 (fun w => by simp [Tryz.sizeOf33, Tryz.sizeOf9]) (LBld.part rfl rfl rfl (LSpl.c LSpl.z) (LBld.part rfl rfl rfl (LSpl.s (LSpl.c LSpl.z)) (LBld.part rfl rfl rfl (LSpl.s (LSpl.s (LSpl.s (LSpl.c LSpl.z)))) LBld.none)))) ?_
  refine J.op rfl (op_buildSlice rfl rfl rfl Tryz.underlying23 Tryz.sizeOf35 Tryz.zeroValue35 rfl rfl rfl rfl (LCat.agg rfl (LCat.agg rfl LCat.none)) ?_)
  intro b17 hb17
  refine J.z (yl_fieldAddr (off' := 2) rfl rfl Tryz.underlying26 rfl Tryz.sizeOf23 rfl) ?_
  refine J.op rfl (op_store 2 rfl rfl rfl rfl rfl rfl Tryz.sizeOf23 rfl rfl (LSpl.s (LSpl.s (LSpl.c LSpl.z))) (LSet.s (LSet.s LSet.z)) ?_)
  refine J.nil (Ej.blkNormal (Ej.seq (Cj.seq (Cj.region (J.z (yl_loadAgg rfl rfl Tryz.isAgg26 Tryz.sizeOf26 (Blk.at 2 rfl) rfl rfl) ?_)))))
  refine J.op rfl (op_store 10 rfl rfl rfl rfl rfl rfl Tryz.sizeOf26 rfl rfl (LSpl.c (LSpl.c (LSpl.c LSpl.z))) (LSet.s (LSet.s (LSet.s (LSet.s (LSet.s (LSet.s (LSet.s (LSet.s (LSet.s (LSet.s LSet.z)))))))))) ?_)
  refine J.nil (Ej.seq (Cj.ret (Ej.pull (Pull.s Pull.z) ?_)))
  refine Ej.persist hb16 (fun I19 hle18 hb16i => ?_)
  refine Ej.persist hb17 (fun I21 hle20 hb17i => ?_)
  have hb16i := hle20 _ _ hb16i
  refine Ej.retC (Keeps.d (Keeps.d (Keeps.d (Keeps.d (Keeps.d (Keeps.d (Keeps.d (Keeps.d (Keeps.d Keeps.n))))))))) rfl rfl rfl (Blk.at 8 rfl) Tryz.isAgg26 Tryz.sizeOf26 rfl ?_
  exact ⟨([⟨[48, 48, 56], [], [48, 48, 48, 48, 48, 48, 48] ++ Ke.s4 x, .slice none 0 0, []⟩, ⟨[50, 54, 48], [32, 32], [], .slice (some ⟨b16, 0, none⟩) 1 1, ([⟨99, [50, 50, 50, 50]⟩] : List Ke.Sub)⟩] : List Ke.Fld), _, rfl, ⟨RowS.of (l := ([⟨[48, 48, 56], [], [48, 48, 48, 48, 48, 48, 48] ++ Ke.s4 x, .slice none 0 0, []⟩, ⟨[50, 54, 48], [32, 32], [], .slice (some ⟨b16, 0, none⟩) 1 1, ([⟨99, [50, 50, 50, 50]⟩] : List Ke.Sub)⟩] : List Ke.Fld)) (sp := []) (Nat.le_refl _) hb17i, (fun f hf => by
     simp only [List.mem_cons, List.not_mem_nil, or_false] at hf
     rcases hf with rfl | rfl
     · exact RowS.nil
     · exact RowS.of (l := ([⟨99, [50, 50, 50, 50]⟩] : List Ke.Sub)) (sp := []) (Nat.le_refl _) hb16i)⟩, (.inr ⟨_, _, rfl⟩), rfl⟩
 ·
  have hc15p := ne_of_beq_false hc15
  refine Cj.skip (Ej.blkNormal (Ej.seq (Cj.seq (Cj.region (J.z (yl_loadAgg rfl rfl Tryz.isAgg26 Tryz.sizeOf26 (Blk.at 0 rfl) rfl rfl) ?_)))))
  refine J.op rfl (op_store 8 rfl rfl rfl rfl rfl rfl Tryz.sizeOf26 rfl rfl (LSpl.c (LSpl.c (LSpl.c LSpl.z))) (LSet.s (LSet.s (LSet.s (LSet.s (LSet.s (LSet.s (LSet.s (LSet.s LSet.z)))))))) ?_)
  refine J.nil (Ej.seq (Cj.ret (Ej.pull (Pull.s (Pull.s Pull.z)) ?_)))
  refine Ej.persist hb12 (fun I23 hle22 hb12i => ?_)
  refine Ej.pull (Pull.s Pull.z) ?_
  refine Ej.persist hb13 (fun I25 hle24 hb13i => ?_)
  have hb12i := hle24 _ _ hb12i
  refine Ej.retC (Keeps.d (Keeps.d (Keeps.d (Keeps.d (Keeps.d (Keeps.d (Keeps.d Keeps.n))))))) rfl rfl rfl (Blk.at 6 rfl) Tryz.isAgg26 Tryz.sizeOf26 rfl ?_
  exact ⟨([⟨[50, 54, 48], [32, 32], [], .slice (some ⟨b12, 0, none⟩) 2 2, ([⟨98, [49, 49, 49, 49]⟩, ⟨99, Ke.wayC x (way.toNat % 4)⟩] : List Ke.Sub)⟩] : List Ke.Fld), _, rfl, ⟨RowS.of (l := ([⟨[50, 54, 48], [32, 32], [], .slice (some ⟨b12, 0, none⟩) 2 2, ([⟨98, [49, 49, 49, 49]⟩, ⟨99, Ke.wayC x (way.toNat % 4)⟩] : List Ke.Sub)⟩] : List Ke.Fld)) (sp := []) (Nat.le_refl _) hb13i, (fun f hf => by
     rw [List.mem_singleton.1 hf]
     exact RowS.of (l := ([⟨98, [49, 49, 49, 49]⟩, ⟨99, Ke.wayC x (way.toNat % 4)⟩] : List Ke.Sub)) (sp := []) (Nat.le_refl _) hb12i)⟩, (.inl ⟨_, _, rfl⟩), rfl⟩
theorem recs_add {I : Heap} {rs : List Rc} {r : Rc} (h : ∀ r ∈ rs, RecS I r.fs r.v ∧ ROK r) (h1 : RecS I r.fs r.v) (h2 : ROK r) : ∀ x ∈ rs ++ [r], RecS I x.fs x.v ∧ ROK x := fun x hx => by
  rcases List.mem_append.1 hx with hx | hx
  · exact h x hx
  · rw [List.mem_singleton.1 hx]; exact ⟨h1, h2⟩
set_option maxRecDepth 20000 in
theorem records_ok (qs : List Ke.Six) (hqs : ∀ q ∈ qs, SixOk q) (v : Value) (I : Heap) (hQ0 : RowS sixC I qs v) : Ctr Tryz.prog 25 [v] I [] (fun e I' H' => ∃ rs w, e = .returned w ∧ RecsS I' rs w ∧ rs.length ≤ 25 ∧ (∀ r ∈ rs, ROK r) ∧ H' = []) := by
 obtain ⟨p, c, rfl, hc, -⟩ := id hQ0
 refine Ctr.of_body Tryz.func25 rfl (by decide) (Nat.le_of_ble_eq_true rfl) ?_
 intro w0 hw0
 refine Cj.seq (Cj.region (J.z (yl_assign rfl rfl) ?_))
 refine J.nil (Ej.seq (Cj.seq (Cj.region (J.z (yl_assign rfl rfl) ?_))))
 refine J.nil (Ej.seq (Cj.seq (Cj.seq (Cj.region (J.z (yl_assign rfl rfl) ?_)))))
 refine J.nil (Ej.seq (Cj.block (Cj.loop (ι := Nat × Heap × List Rc × Gs) (fun y => y.1 ≤ qs.length ∧ y.1 ≤ 25 ∧ Le I y.2.1 ∧ y.2.2.1.length = y.1 ∧ (∀ r ∈ y.2.2.1, RecS y.2.1 r.fs r.v ∧ ROK r) ∧ gOk w0.heap.size 3 y.2.2.1.length (y.2.2.1.flatMap rcC) y.2.2.2) (fun y => 25 - y.1) (fun y => [(0, .slice p qs.length c), (3, gV y.2.2.1.length y.2.2.2), (4, i64 (y.1 : Int))]) (fun y => y.2.1) (fun y => gH 26 (y.2.2.1.flatMap rcC) y.2.2.2) (0, _, [], none) ⟨Nat.zero_le _, Nat.zero_le _, Le.refl _, rfl, fun r hr => (by cases hr), rfl, rfl⟩ ⟨rfl, rfl, rfl, trivial⟩ rfl rfl ?_)))
 rintro ⟨i, Jh, rs, g⟩ ⟨hi, hi25, hIJ, hrl, hRS, hg⟩
 dsimp only at hi hi25 hIJ hrl hRS hg ⊢
 have hQ := hQ0.mono hIJ
 refine Cj.seq (Cj.seq (Cj.region (J.z (yl_move rfl rfl) ?_)))
 refine J.z (yl_move rfl rfl) ?_
 refine J.z (yl_lenSlice rfl rfl Tryz.underlying49) ?_
 refine J.z (yl_lss rfl rfl rfl) ?_
 refine J.z (yl_move rfl rfl) ?_
 refine J.split 9 rfl (fun hg1 => ?_) (fun hg1 => ?_)
 ·
  have hg1p := of_decide_eq_true hg1
  refine J.opG 4 9 true _ rfl rfl rfl hg1 (op_yld (yl_move rfl rfl) rfl rfl ?_)
  refine J.opG 4 9 true _ rfl rfl rfl hg1 (op_yld (yl_lss rfl rfl rfl) rfl rfl ?_)
  refine J.z (yl_pick1 rfl rfl hg1 rfl) ?_
  refine J.nil (Ej.seq (Cj.cond rfl (fun hc2 => ?_) (fun hc2 => ?_)))
  ·
   have hc2p := of_decide_eq_true hc2
   refine Cj.skip (Ej.seq (Cj.seq (Cj.block ?_)))
   have hlt : i < qs.length := by omega
   have hlt2 : i < 25 := by omega
   obtain ⟨q, hget⟩ : ∃ q, qs[i]? = some q := ⟨_, List.getElem?_eq_getElem hlt⟩
   obtain ⟨pp, pc, hpe, hpc, hpp⟩ := id hQ
   cases hpe
   obtain ⟨pb, po, pcs, pty, pfr, psp, rfl, hpb, hpd⟩ := hpp (ne_nil_of hlt)
   refine Cj.region (J.z (yl_move rfl rfl) ?_)
   refine J.z (yl_move rfl rfl) ?_
   refine J.z (yl_move rfl rfl) ?_
   refine J.z (yl_indexAddr (off' := po + i * 6) rfl rfl rfl Tryz.underlying49 Tryz.sizeOf22 (by omega) (by omega) (by simp)) ?_
   refine J.z (yl_loadAgg rfl rfl Tryz.isAgg22 Tryz.sizeOf22 (Blk.imm hpb) (row_from sixC_len hpd hget) rfl) ?_
   refine J.op rfl (op_call (H1 := []) rfl rfl rfl rfl rfl (Made6_ok q (hqs q (List.mem_of_getElem? hget)) _) ?_ (fun _ _ _ _ h => by obtain ⟨_, _, h, _⟩ := h; cases h) (fun _ _ h => by obtain ⟨_, _, h, _⟩ := h; cases h))
   intro v3 I4 H5 hle6 hp7
   have hIJ := hIJ.mono hle6
   have hpb := hle6 _ _ hpb
   obtain ⟨fs1, w1, h, hR1, hN1, rfl⟩ := hp7; cases h
   obtain ⟨wp, wc, rfl, -, -⟩ := id hR1.1
   have hle1 := hle6
   refine J.op rfl (op_buildSlice rfl rfl rfl Tryz.underlying50 Tryz.sizeOf26 Tryz.zeroValue26 rfl rfl rfl rfl (LCat.agg rfl LCat.none) ?_)
   intro b8 hb8
   refine J.op rfl (op_append (by' := 31) [_] rfl rfl rfl rfl rfl Tryz.underlying50 (.inr ⟨_, Tryz.underlying50⟩) (by kernel_rfl) Tryz.sizeOf26 Tryz.zeroValue26 rfl hg rfl (Src.slice (Blk.at 0 rfl) rfl rfl rfl) (by omega) ?_)
   intro g9 hg9
   refine J.z (yl_assign rfl rfl) ?_
   refine J.nil (Ej.blkNormal (Ej.seq (Cj.region (J.z (yl_move rfl rfl) ?_))))
   refine J.z (yl_add rfl rfl rfl (w64 (by omega))) ?_
   refine J.z (yl_assign rfl rfl) ?_
   refine J.nil (Ej.keep (Keeps.d Keeps.r) ?_)
   refine Ej.round (i + 1, _, rs ++ [⟨Ke.mkind q, 109, .slice wp fs1.length wc, fs1⟩], g9) ⟨by dsimp only; omega, by dsimp only; omega, hIJ, by dsimp only; rw [List.length_append, hrl]; rfl, recs_add (fun r hr => ⟨(hRS r hr).1.mono hle1, (hRS r hr).2⟩) hR1 (made_ok hN1), by dsimp only; rw [flat_one, List.length_append]; exact hg9⟩ (by dsimp only; omega) ⟨rfl, by dsimp only; rw [List.length_append]; rfl, rfl, trivial⟩ rfl (by dsimp only; rw [flat_one]; rfl)
  ·
   have hc2p := of_decide_eq_false hc2
   refine Cj.exit (Ej.seqExit (Ej.loopExit (Ej.blkExit (Ej.seq (Cj.seq (Cj.region (J.z (yl_move rfl rfl) ?_)))))))
   refine J.z (yl_assign rfl rfl) ?_
   refine J.nil (Ej.seq (Cj.ret ?_))
   have h25 : rs.length ≤ 25 := by omega
   rw [show gH _ (rs.flatMap rcC) g = gH _ (rs.flatMap rcC) g ++ [] from (List.append_nil _).symm]
   refine Ej.keepR rcC_len (by decide) hg rfl (fun I9 hle9 hv => ?_)
   refine Ej.ret1 rfl rfl rfl ?_
   exact ⟨rs, _, rfl, ⟨hv, fun r hr => (hRS r hr).1.mono hle9⟩, h25, fun r hr => (hRS r hr).2, rfl⟩
 ·
  have hg1p := of_decide_eq_false hg1
  have hend : True := trivial
  refine J.skip 4 9 10 true _ rfl rfl rfl hg1 rfl rfl ?_
  refine J.skip 4 9 11 true _ rfl rfl rfl hg1 rfl rfl ?_
  refine J.z (yl_pick0 rfl rfl hg1 rfl) ?_
  refine J.nil (Ej.seq (Cj.cond rfl (fun hc10 => Bool.noConfusion (Eq.trans (Eq.symm rfl) hc10)) (fun hc10 => ?_)))
  refine Cj.exit (Ej.seqExit (Ej.loopExit (Ej.blkExit (Ej.seq (Cj.seq (Cj.region (J.z (yl_move rfl rfl) ?_)))))))
  refine J.z (yl_assign rfl rfl) ?_
  refine J.nil (Ej.seq (Cj.ret ?_))
  have h25 : rs.length ≤ 25 := by omega
  rw [show gH _ (rs.flatMap rcC) g = gH _ (rs.flatMap rcC) g ++ [] from (List.append_nil _).symm]
  refine Ej.keepR rcC_len (by decide) hg rfl (fun I9 hle9 hv => ?_)
  refine Ej.ret1 rfl rfl rfl ?_
  exact ⟨rs, _, rfl, ⟨hv, fun r hr => (hRS r hr).1.mono hle9⟩, h25, fun r hr => (hRS r hr).2, rfl⟩
end Go.Proofs.YtadnofaleepkmaaGreatDoor
end
