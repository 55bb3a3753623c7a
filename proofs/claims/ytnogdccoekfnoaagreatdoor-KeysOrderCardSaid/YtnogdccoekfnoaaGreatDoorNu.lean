/-
  The reference's Number. Own text, printed by a program. Conditions: none.
-/
import Derived.Test.YtnogdccoekfnoaaGreatDoorRb
import Derived.Test.YtnogdccoekfnoaaGreatDoorSxRow
namespace Go.Proofs.YtnogdccoekfnoaaGreatDoor
open Go Go.Sx
theorem dgt_nat (x : UInt8) : (Ke.dgt x).toNat = 48 + x.toNat % 10 := Ke.byte_all (p := fun x => (Ke.dgt x).toNat = 48 + x.toNat % 10) (by decide +kernel) x
theorem q10_nat (x : UInt8) : (48 + x / 4 % 10).toNat = 48 + x.toNat / 4 % 10 := Ke.byte_all (p := fun x => (48 + x / 4 % 10).toNat = 48 + x.toNat / 4 % 10) (by decide +kernel) x
theorem bcs_get {l : List UInt8} {k : Nat} {c : UInt8} (h : l[k]? = some c) : (bcs l)[k]? = some (u8 c) := by
  rw [bcs, List.getElem?_map, h]; rfl
theorem dgts_next {l : List UInt8} {k : Nat} {c : UInt8} (h : l[k]? = some c) : (l.take (k + 1)).map Ke.dgt = (l.take k).map Ke.dgt ++ [Ke.dgt c] := by
  obtain ⟨hlt, hg⟩ := List.getElem?_eq_some_iff.1 h
  rw [List.take_succ_eq_append_getElem hlt, hg, List.map_append]; rfl
theorem sep_at {m : Nat} (h : m < 4) : (Ke.seps.map str)[m]? = some (str (Ke.seps.getD m [])) := by
  match m, h with
  | 0, _ => rfl
  | 1, _ => rfl
  | 2, _ => rfl
  | 3, _ => rfl
theorem tail_at {m : Nat} (h : m < 4) : (Ke.tails.map str)[m]? = some (str (Ke.tails.getD m [])) := by
  match m, h with
  | 0, _ => rfl
  | 1, _ => rfl
  | 2, _ => rfl
  | 3, _ => rfl
theorem sep_len {m : Nat} : (Ke.seps.getD m []).length ≤ 2 := by
  match m with
  | 0 | 1 | 2 | 3 => decide
  | n + 4 => exact Nat.zero_le _
theorem tail_len {m : Nat} : (Ke.tails.getD m []).length ≤ 7 := by
  match m with
  | 0 | 1 | 2 | 3 => decide
  | n + 4 => exact Nat.zero_le _
theorem numb_eq {l S : List UInt8} {q0 q1 q2 q3 E : UInt8} (h1 : (if q0.toNat % 2 = 1 then (l.map Ke.dgt).take 9 else l.map Ke.dgt) = S)
    (h2 : (if q2.toNat % 4 = 3 then 48 + q2 / 4 % 10 else if q0.toNat % 2 = 1 then Ke.ends ((l.map Ke.dgt).take 9) q1 else Ke.check (l.map Ke.dgt)) = E) :
    Ke.numb l q0 q1 q2 q3 = (S ++ [E]).take (q3.toNat % (S ++ [E]).length) ++ Ke.seps.getD (q1.toNat / 2 % 4) [] ++ (S ++ [E]).drop (q3.toNat % (S ++ [E]).length) ++ Ke.tails.getD (q3.toNat / 16 % 4) [] := by
  subst h1 h2; rfl
set_option maxRecDepth 20000 in
set_option maxHeartbeats 1000000 in
theorem Number_ok (l : List UInt8) (hl : l.length = 12) (q0 q1 q2 q3 : UInt8) (I : Heap) : Pure Tryz.prog 24 [.agg (bcs l).toArray, .agg #[u8 q0, u8 q1, u8 q2, u8 q3]] I (str (Ke.numb l q0 q1 q2 q3)) := by
 refine Ctr.toPure ?_
 have h12 : (l.map Ke.dgt).length = 12 := by rw [List.length_map]; exact hl
 have h9 : ((l.map Ke.dgt).take 9).length = 9 := by rw [List.length_take]; omega
 have hdg := Ke.map_dgt l
 have hd9 : Ke.digits ((l.map Ke.dgt).take 9) = true := List.all_eq_true.2 fun c hc => List.all_eq_true.1 hdg c (List.mem_of_mem_take hc)
 have hl0 := q0.toNat_lt
 have hl1 := q1.toNat_lt
 have hl2 := q2.toNat_lt
 have hl3 := q3.toNat_lt
 refine Ctr.of_body Tryz.func24 rfl (by decide) (Nat.le_of_ble_eq_true rfl) ?_
 intro w0 hw0
 refine Cj.seq (Cj.region (J.op rfl (op_box rfl rfl rfl rfl rfl ?_)))
 intro b1 hb1
 refine J.op rfl (op_box rfl rfl rfl rfl rfl ?_)
 intro b2 hb2
 refine J.z (yl_assign rfl rfl) ?_
 refine J.nil (Ej.seq (Cj.seq (Cj.region (J.z (yl_assign rfl rfl) ?_))))
 refine J.nil (Ej.seq (Cj.seq (Cj.seq (Cj.region (J.z (yl_assign rfl rfl) ?_)))))
 refine J.nil (Ej.seq (Cj.block (Cj.loop (ι := Nat) (fun j => j ≤ 12) (fun j => 12 - j) (fun j => [(2, ptr b1 0), (3, ptr b2 0), (5, str ((l.take j).map Ke.dgt)), (6, i64 (j : Int))]) (fun j => _) (fun j => [(b2, cel 41 [u8 q0, u8 q1, u8 q2, u8 q3]), (b1, cel 40 (bcs l))]) 0 (Nat.zero_le _) ⟨rfl, rfl, rfl, rfl, trivial⟩ rfl rfl ?_)))
 intro j hj
 refine Cj.seq (Cj.seq (Cj.region (J.z (yl_move rfl rfl) ?_)))
 refine J.z (yl_lss rfl rfl rfl) ?_
 refine J.nil (Ej.seq (Cj.cond rfl (fun hc3 => ?_) (fun hc3 => ?_)))
 ·
  have hc3p := of_decide_eq_true hc3
  have hlt : j < l.length := by omega
  obtain ⟨x, hget⟩ : ∃ c, l[j]? = some c := ⟨_, List.getElem?_eq_getElem hlt⟩
  have hxl := x.toNat_lt
  refine Cj.skip (Ej.seq (Cj.seq (Cj.block (Cj.region (J.z (yl_move rfl rfl) ?_)))))
  refine J.z (yl_move rfl rfl) ?_
  refine J.z (yl_indexArr (off' := j) rfl rfl rfl Tryz.underlying40 Tryz.sizeOf5 (by omega) (by omega) (by simp)) ?_
  refine J.z (yl_load rfl rfl Tryz.isAgg5 (Blk.at 1 rfl) (bcs_get hget)) ?_
  refine J.z (yl_rem rfl rfl rfl (by decide)) ?_
  refine J.eqv 19 rfl (show _ = .int .u8 ((x.toNat % 10 : Nat) : Int) from rfl) ?_
  refine J.z (yl_add rfl rfl rfl (w8 (by omega))) ?_
  refine J.eqv 20 rfl (show _ = u8 (Ke.dgt x) from (congrArg (Value.int .u8) (by rw [dgt_nat]; omega))) ?_
  refine J.op rfl (op_buildSlice rfl rfl rfl Tryz.underlying46 Tryz.sizeOf5 Tryz.zeroValue5 rfl rfl rfl rfl (LCat.one rfl LCat.none) ?_)
  intro b4 hb4
  refine J.z (yl_toStr [Ke.dgt x] rfl rfl rfl Tryz.underlying46 Tryz.underlying9 Tryz.underlying5 (Blk.at 0 rfl) rfl) ?_
  refine J.z (yl_cat rfl rfl rfl (by first | omega | (simp only [List.length_append]; omega) | (simp; omega))) ?_
  refine J.z (yl_assign rfl rfl) ?_
  refine J.nil (Ej.blkNormal (Ej.seq (Cj.region (J.z (yl_move rfl rfl) ?_))))
  refine J.z (yl_add rfl rfl rfl (w64 (by omega))) ?_
  refine J.z (yl_assign rfl rfl) ?_
  refine J.nil (Ej.keep (Keeps.d (Keeps.k (Keeps.k Keeps.n))) ?_)
  refine Ej.round (j + 1) (by omega) (by omega) ⟨rfl, rfl, by rw [dgts_next hget]; rfl, rfl, trivial⟩ rfl rfl
 ·
  have hc3p := of_decide_eq_false hc3
  have hfull : l.take j = l := List.take_of_length_le (by omega)
  rw [hfull]
  refine Cj.exit (Ej.seqExit (Ej.loopExit (Ej.blkExit (Ej.seq (Cj.seq (Cj.region (J.z (yl_move rfl rfl) ?_)))))))
  refine J.op rfl (op_pure rfl rfl rfl rfl rfl (rCheck_ok (l.map Ke.dgt) (by omega) (by omega) (by rw [List.take_of_length_le (by omega)]; exact hdg) _) ?_)
  refine J.z (yl_assign rfl rfl) ?_
  refine J.nil (Ej.seq (Cj.join (ι := List UInt8 × UInt8) (fun z => z.1.length ≤ 12 ∧ (if q0.toNat % 2 = 1 then ((l.map Ke.dgt).take 9) else (l.map Ke.dgt)) = z.1 ∧ (if q0.toNat % 2 = 1 then Ke.ends ((l.map Ke.dgt).take 9) q1 else Ke.check (l.map Ke.dgt)) = z.2) (fun z => [(3, ptr b2 0), (5, str z.1), (7, u8 z.2)]) (fun z => I) (fun z => [(b2, cel 41 [u8 q0, u8 q1, u8 q2, u8 q3])]) ?_ (fun hcut => ?_)))
  ·
   rintro ⟨S, D⟩ ⟨hSl, hS, hD⟩
   dsimp only at hSl hS hD ⊢
   refine Cj.join (ι := UInt8) (fun z => (if q2.toNat % 4 = 3 then 48 + q2 / 4 % 10 else D) = z) (fun z => [(3, ptr b2 0), (5, str S), (7, u8 z)]) (fun z => I) (fun z => [(b2, cel 41 [u8 q0, u8 q1, u8 q2, u8 q3])]) ?_ (fun hcut => ?_)
   ·
    intro E hE
    have hSE : (S ++ [E]).length = S.length + 1 := by simp
    have hA : (q3.toNat % (S ++ [E]).length) < (S ++ [E]).length := Nat.mod_lt _ (by omega)
    have hs1 := sep_len (m := q1.toNat / 2 % 4)
    have ht1 := tail_len (m := q3.toNat / 16 % 4)
    refine Cj.seq (Cj.region (J.z (yl_move rfl rfl) ?_))
    refine J.z (yl_move rfl rfl) ?_
    refine J.op rfl (op_buildSlice rfl rfl rfl Tryz.underlying46 Tryz.sizeOf5 Tryz.zeroValue5 rfl rfl rfl rfl (LCat.one rfl LCat.none) ?_)
    intro b5 hb5
    refine J.z (yl_toStr [E] rfl rfl rfl Tryz.underlying46 Tryz.underlying9 Tryz.underlying5 (Blk.at 0 rfl) rfl) ?_
    refine J.z (yl_cat rfl rfl rfl (by first | omega | (simp only [List.length_append]; omega) | (simp; omega))) ?_
    refine J.z (yl_assign rfl rfl) ?_
    refine J.nil (Ej.seq (Cj.seq (Cj.region (J.z (yl_indexArr (off' := 3) rfl rfl rfl Tryz.underlying41 Tryz.sizeOf5 (by decide) (by decide) (by decide)) ?_))))
    refine J.z (yl_load rfl rfl Tryz.isAgg5 (Blk.at 1 rfl) rfl) ?_
    refine J.z (yl_convInt rfl rfl Tryz.underlying5 Tryz.underlying3) ?_
    refine J.eqv 74 rfl (show _ = i64 (q3.toNat : Int) from (congrArg i64 (w64 (by omega)))) ?_
    refine J.z (yl_move rfl rfl) ?_
    refine J.z (yl_lenStr rfl rfl Tryz.underlying9) ?_
    refine J.z (yl_rem rfl rfl rfl (by omega)) ?_
    refine J.eqv 77 rfl (show _ = i64 (((q3.toNat % (S ++ [E]).length) : Nat) : Int) from rfl) ?_
    refine J.z (yl_assign rfl rfl) ?_
    refine J.nil (Ej.seq (Cj.seq (Cj.drawSel [0, 1] [] 24 (by kernel_rfl) ?_)))
    refine JA.fix ⟨(HSub.c 0 rfl (HSub.c 1 rfl HSub.n)), CSub.n, (Le.refl _)⟩ (fun fx6 => ?_)
    refine JA.tk 0 rfl fx6 (yl_move rfl rfl) ?_
    refine JA.tk 1 rfl fx6 (yl_move rfl rfl) ?_
    refine JA.tk 2 rfl fx6 (yl_sliceStr (p := 0) (q := (q3.toNat % (S ++ [E]).length)) rfl rfl Tryz.underlying9 rfl ⟨_, rfl⟩ (by omega) (by omega)) ?_
    refine JA.eqv 80 rfl (show _ = str ((S ++ [E]).take (q3.toNat % (S ++ [E]).length)) from (by rw [List.drop_zero])) ?_
    refine JA.tk 4 rfl fx6 (yl_indexArr (off' := 1) rfl rfl rfl Tryz.underlying41 Tryz.sizeOf5 (by decide) (by decide) (by decide)) ?_
    refine JA.tk 5 rfl fx6 (yl_load rfl rfl Tryz.isAgg5 (Blk.atC 1 rfl) rfl) ?_
    refine JA.tk 6 rfl fx6 (yl_quo rfl rfl rfl (by decide) (w8 (by show _ ≤ ((q1.toNat / 2 : Nat) : Int) ∧ ((q1.toNat / 2 : Nat) : Int) ≤ _; omega))) ?_
    refine JA.eqv 84 rfl (show _ = .int .u8 ((q1.toNat / 2 : Nat) : Int) from rfl) ?_
    refine JA.tk 7 rfl fx6 (yl_rem rfl rfl rfl (by decide)) ?_
    refine JA.eqv 85 rfl (show _ = .int .u8 ((q1.toNat / 2 % 4 : Nat) : Int) from rfl) ?_
    refine JA.tk 11 rfl fx6 (yl_move rfl rfl) ?_
    refine JA.tk 12 rfl fx6 (yl_move rfl rfl) ?_
    refine JA.tk 13 rfl fx6 (yl_sliceStr (p := (q3.toNat % (S ++ [E]).length)) (q := (S ++ [E]).length) rfl rfl Tryz.underlying9 ⟨_, rfl⟩ rfl (by omega) (by omega)) ?_
    refine JA.eqv 91 rfl (show _ = str ((S ++ [E]).drop (q3.toNat % (S ++ [E]).length)) from (by rw [List.take_length])) ?_
    refine JA.tk 16 rfl fx6 (yl_indexArr (off' := 3) rfl rfl rfl Tryz.underlying41 Tryz.sizeOf5 (by decide) (by decide) (by decide)) ?_
    refine JA.tk 17 rfl fx6 (yl_load rfl rfl Tryz.isAgg5 (Blk.atC 1 rfl) rfl) ?_
    refine JA.tk 18 rfl fx6 (yl_quo rfl rfl rfl (by decide) (w8 (by show _ ≤ ((q3.toNat / 16 : Nat) : Int) ∧ ((q3.toNat / 16 : Nat) : Int) ≤ _; omega))) ?_
    refine JA.eqv 96 rfl (show _ = .int .u8 ((q3.toNat / 16 : Nat) : Int) from rfl) ?_
    refine JA.tk 19 rfl fx6 (yl_rem rfl rfl rfl (by decide)) ?_
    refine JA.eqv 97 rfl (show _ = .int .u8 ((q3.toNat / 16 % 4 : Nat) : Int) from rfl) ?_
    refine JA.all [3, 15] (by kernel_rfl) (by simp) ?_
    intro i hi
    simp only [List.mem_cons, List.not_mem_nil, or_false] at hi
    rcases hi with rfl | rfl
    ·
     refine ⟨_, rfl, rfl, ?_⟩
     refine op_buildSlice rfl rfl rfl Tryz.underlying27 Tryz.sizeOf9 Tryz.zeroValue9 rfl rfl rfl rfl (LCat.one rfl (LCat.one rfl (LCat.one rfl (LCat.one rfl LCat.none)))) ?_
     intro b7 hb7
     refine ⟨⟨(Le.refl _), (HSub.c 1 rfl (HSub.c 2 rfl HSub.n)), CSub.n⟩, ?_⟩
     refine JA.fix ⟨(HSub.c 1 rfl (HSub.c 2 rfl HSub.n)), CSub.n, (Le.refl _)⟩ (fun fx8 => ?_)
     refine JA.tk 8 rfl fx8 (yl_indexAddr (off' := (q1.toNat / 2 % 4)) rfl rfl rfl Tryz.underlying27 Tryz.sizeOf9 (by omega) (by omega) (by omega)) ?_
     refine JA.all [9, 15] (by kernel_rfl) (by simp) ?_
     intro i hi
     simp only [List.mem_cons, List.not_mem_nil, or_false] at hi
     rcases hi with rfl | rfl
     ·
      refine ⟨_, rfl, rfl, ?_⟩
      refine op_yld (yl_load rfl rfl Tryz.isAgg9 (Blk.at 0 rfl) (sep_at (by omega))) rfl rfl ?_
      refine ⟨⟨(Le.refl _), (HSub.c 1 rfl (HSub.c 2 rfl HSub.n)), CSub.n⟩, ?_⟩
      refine JA.fix ⟨(HSub.c 1 rfl (HSub.c 2 rfl HSub.n)), CSub.n, (Le.refl _)⟩ (fun fx9 => ?_)
      refine JA.tk 10 rfl fx9 (yl_cat rfl rfl rfl (by simp only [List.length_take]; omega)) ?_
      refine JA.tk 14 rfl fx9 (yl_cat rfl rfl rfl (by simp only [List.length_append, List.length_take, List.length_drop] at hSE hA ⊢; omega)) ?_
      refine JA.step 15 (by kernel_rfl) rfl rfl (op_buildSlice rfl rfl rfl Tryz.underlying27 Tryz.sizeOf9 Tryz.zeroValue9 rfl rfl rfl rfl (LCat.one rfl (LCat.one rfl (LCat.one rfl (LCat.one rfl LCat.none)))) ?_)
      intro b10 hb10
      refine ⟨⟨(Le.refl _), (HSub.c 2 rfl (HSub.c 3 rfl HSub.n)), CSub.n⟩, ?_⟩
      refine JA.fix ⟨(HSub.c 2 rfl (HSub.c 3 rfl HSub.n)), CSub.n, (Le.refl _)⟩ (fun fx11 => ?_)
      refine JA.tk 20 rfl fx11 (yl_indexAddr (off' := (q3.toNat / 16 % 4)) rfl rfl rfl Tryz.underlying27 Tryz.sizeOf9 (by omega) (by omega) (by omega)) ?_
      refine JA.step 21 (by kernel_rfl) rfl rfl (op_yld (yl_load rfl rfl Tryz.isAgg9 (Blk.at 0 rfl) (tail_at (by omega))) rfl rfl ?_)
      refine ⟨⟨(Le.refl _), (HSub.c 2 rfl (HSub.c 3 rfl HSub.n)), CSub.n⟩, ?_⟩
      refine JA.fix ⟨(HSub.c 2 rfl (HSub.c 3 rfl HSub.n)), CSub.n, (Le.refl _)⟩ (fun fx12 => ?_)
      refine JA.tk 22 rfl fx12 (yl_cat rfl rfl rfl (by simp only [List.length_append, List.length_take, List.length_drop] at hSE hA ⊢; omega)) ?_
      refine JA.tk 23 rfl fx12 (yl_assign rfl rfl) ?_
      refine JA.done (by kernel_rfl) ?_
      refine Ej.seq (Cj.ret (Ej.bare ?_))
      refine Ej.ret1 rfl rfl rfl ?_
      rw [numb_eq (E := E) hS (by rw [hD]; exact hE)]
      exact ⟨rfl, rfl⟩
     ·
      refine ⟨_, rfl, rfl, ?_⟩
      refine op_buildSlice rfl rfl rfl Tryz.underlying27 Tryz.sizeOf9 Tryz.zeroValue9 rfl rfl rfl rfl (LCat.one rfl (LCat.one rfl (LCat.one rfl (LCat.one rfl LCat.none)))) ?_
      intro b13 hb13
      refine ⟨⟨(Le.refl _), (HSub.c 2 rfl (HSub.c 3 rfl HSub.n)), CSub.n⟩, ?_⟩
      refine JA.fix ⟨(HSub.c 2 rfl (HSub.c 3 rfl HSub.n)), CSub.n, (Le.refl _)⟩ (fun fx14 => ?_)
      refine JA.tk 20 rfl fx14 (yl_indexAddr (off' := (q3.toNat / 16 % 4)) rfl rfl rfl Tryz.underlying27 Tryz.sizeOf9 (by omega) (by omega) (by omega)) ?_
      refine JA.all [9, 21] (by kernel_rfl) (by simp) ?_
      intro i hi
      simp only [List.mem_cons, List.not_mem_nil, or_false] at hi
      rcases hi with rfl | rfl
      ·
       refine ⟨_, rfl, rfl, ?_⟩
       refine op_yld (yl_load rfl rfl Tryz.isAgg9 (Blk.at 1 rfl) (sep_at (by omega))) rfl rfl ?_
       refine ⟨⟨(Le.refl _), (HSub.c 2 rfl (HSub.c 3 rfl HSub.n)), CSub.n⟩, ?_⟩
       refine JA.fix ⟨(HSub.c 2 rfl (HSub.c 3 rfl HSub.n)), CSub.n, (Le.refl _)⟩ (fun fx15 => ?_)
       refine JA.tk 10 rfl fx15 (yl_cat rfl rfl rfl (by simp only [List.length_take]; omega)) ?_
       refine JA.tk 14 rfl fx15 (yl_cat rfl rfl rfl (by simp only [List.length_append, List.length_take, List.length_drop] at hSE hA ⊢; omega)) ?_
       refine JA.step 21 (by kernel_rfl) rfl rfl (op_yld (yl_load rfl rfl Tryz.isAgg9 (Blk.at 0 rfl) (tail_at (by omega))) rfl rfl ?_)
       refine ⟨⟨(Le.refl _), (HSub.c 2 rfl (HSub.c 3 rfl HSub.n)), CSub.n⟩, ?_⟩
       refine JA.fix ⟨(HSub.c 2 rfl (HSub.c 3 rfl HSub.n)), CSub.n, (Le.refl _)⟩ (fun fx16 => ?_)
       refine JA.tk 22 rfl fx16 (yl_cat rfl rfl rfl (by simp only [List.length_append, List.length_take, List.length_drop] at hSE hA ⊢; omega)) ?_
       refine JA.tk 23 rfl fx16 (yl_assign rfl rfl) ?_
       refine JA.done (by kernel_rfl) ?_
       refine Ej.seq (Cj.ret (Ej.bare ?_))
       refine Ej.ret1 rfl rfl rfl ?_
       rw [numb_eq (E := E) hS (by rw [hD]; exact hE)]
       exact ⟨rfl, rfl⟩
      ·
       refine ⟨_, rfl, rfl, ?_⟩
       refine op_yld (yl_load rfl rfl Tryz.isAgg9 (Blk.at 0 rfl) (tail_at (by omega))) rfl rfl ?_
       refine ⟨⟨(Le.refl _), (HSub.c 2 rfl (HSub.c 3 rfl HSub.n)), CSub.n⟩, ?_⟩
       refine JA.step 9 (by kernel_rfl) rfl rfl (op_yld (yl_load rfl rfl Tryz.isAgg9 (Blk.at 1 rfl) (sep_at (by omega))) rfl rfl ?_)
       refine ⟨⟨(Le.refl _), (HSub.c 2 rfl (HSub.c 3 rfl HSub.n)), CSub.n⟩, ?_⟩
       refine JA.fix ⟨(HSub.c 2 rfl (HSub.c 3 rfl HSub.n)), CSub.n, (Le.refl _)⟩ (fun fx17 => ?_)
       refine JA.tk 10 rfl fx17 (yl_cat rfl rfl rfl (by simp only [List.length_take]; omega)) ?_
       refine JA.tk 14 rfl fx17 (yl_cat rfl rfl rfl (by simp only [List.length_append, List.length_take, List.length_drop] at hSE hA ⊢; omega)) ?_
       refine JA.tk 22 rfl fx17 (yl_cat rfl rfl rfl (by simp only [List.length_append, List.length_take, List.length_drop] at hSE hA ⊢; omega)) ?_
       refine JA.tk 23 rfl fx17 (yl_assign rfl rfl) ?_
       refine JA.done (by kernel_rfl) ?_
       refine Ej.seq (Cj.ret (Ej.bare ?_))
       refine Ej.ret1 rfl rfl rfl ?_
       rw [numb_eq (E := E) hS (by rw [hD]; exact hE)]
       exact ⟨rfl, rfl⟩
    ·
     refine ⟨_, rfl, rfl, ?_⟩
     refine op_buildSlice rfl rfl rfl Tryz.underlying27 Tryz.sizeOf9 Tryz.zeroValue9 rfl rfl rfl rfl (LCat.one rfl (LCat.one rfl (LCat.one rfl (LCat.one rfl LCat.none)))) ?_
     intro b18 hb18
     refine ⟨⟨(Le.refl _), (HSub.c 1 rfl (HSub.c 2 rfl HSub.n)), CSub.n⟩, ?_⟩
     refine JA.fix ⟨(HSub.c 1 rfl (HSub.c 2 rfl HSub.n)), CSub.n, (Le.refl _)⟩ (fun fx19 => ?_)
     refine JA.tk 20 rfl fx19 (yl_indexAddr (off' := (q3.toNat / 16 % 4)) rfl rfl rfl Tryz.underlying27 Tryz.sizeOf9 (by omega) (by omega) (by omega)) ?_
     refine JA.all [3, 21] (by kernel_rfl) (by simp) ?_
     intro i hi
     simp only [List.mem_cons, List.not_mem_nil, or_false] at hi
     rcases hi with rfl | rfl
     ·
      refine ⟨_, rfl, rfl, ?_⟩
      refine op_buildSlice rfl rfl rfl Tryz.underlying27 Tryz.sizeOf9 Tryz.zeroValue9 rfl rfl rfl rfl (LCat.one rfl (LCat.one rfl (LCat.one rfl (LCat.one rfl LCat.none)))) ?_
      intro b20 hb20
      refine ⟨⟨(Le.refl _), (HSub.c 2 rfl (HSub.c 3 rfl HSub.n)), CSub.n⟩, ?_⟩
      refine JA.fix ⟨(HSub.c 2 rfl (HSub.c 3 rfl HSub.n)), CSub.n, (Le.refl _)⟩ (fun fx21 => ?_)
      refine JA.tk 8 rfl fx21 (yl_indexAddr (off' := (q1.toNat / 2 % 4)) rfl rfl rfl Tryz.underlying27 Tryz.sizeOf9 (by omega) (by omega) (by omega)) ?_
      refine JA.all [9, 21] (by kernel_rfl) (by simp) ?_
      intro i hi
      simp only [List.mem_cons, List.not_mem_nil, or_false] at hi
      rcases hi with rfl | rfl
      ·
       refine ⟨_, rfl, rfl, ?_⟩
       refine op_yld (yl_load rfl rfl Tryz.isAgg9 (Blk.at 0 rfl) (sep_at (by omega))) rfl rfl ?_
       refine ⟨⟨(Le.refl _), (HSub.c 2 rfl (HSub.c 3 rfl HSub.n)), CSub.n⟩, ?_⟩
       refine JA.fix ⟨(HSub.c 2 rfl (HSub.c 3 rfl HSub.n)), CSub.n, (Le.refl _)⟩ (fun fx22 => ?_)
       refine JA.tk 10 rfl fx22 (yl_cat rfl rfl rfl (by simp only [List.length_take]; omega)) ?_
       refine JA.tk 14 rfl fx22 (yl_cat rfl rfl rfl (by simp only [List.length_append, List.length_take, List.length_drop] at hSE hA ⊢; omega)) ?_
       refine JA.step 21 (by kernel_rfl) rfl rfl (op_yld (yl_load rfl rfl Tryz.isAgg9 (Blk.at 1 rfl) (tail_at (by omega))) rfl rfl ?_)
       refine ⟨⟨(Le.refl _), (HSub.c 2 rfl (HSub.c 3 rfl HSub.n)), CSub.n⟩, ?_⟩
       refine JA.fix ⟨(HSub.c 2 rfl (HSub.c 3 rfl HSub.n)), CSub.n, (Le.refl _)⟩ (fun fx23 => ?_)
       refine JA.tk 22 rfl fx23 (yl_cat rfl rfl rfl (by simp only [List.length_append, List.length_take, List.length_drop] at hSE hA ⊢; omega)) ?_
       refine JA.tk 23 rfl fx23 (yl_assign rfl rfl) ?_
       refine JA.done (by kernel_rfl) ?_
       refine Ej.seq (Cj.ret (Ej.bare ?_))
       refine Ej.ret1 rfl rfl rfl ?_
       rw [numb_eq (E := E) hS (by rw [hD]; exact hE)]
       exact ⟨rfl, rfl⟩
      ·
       refine ⟨_, rfl, rfl, ?_⟩
       refine op_yld (yl_load rfl rfl Tryz.isAgg9 (Blk.at 1 rfl) (tail_at (by omega))) rfl rfl ?_
       refine ⟨⟨(Le.refl _), (HSub.c 2 rfl (HSub.c 3 rfl HSub.n)), CSub.n⟩, ?_⟩
       refine JA.step 9 (by kernel_rfl) rfl rfl (op_yld (yl_load rfl rfl Tryz.isAgg9 (Blk.at 0 rfl) (sep_at (by omega))) rfl rfl ?_)
       refine ⟨⟨(Le.refl _), (HSub.c 2 rfl (HSub.c 3 rfl HSub.n)), CSub.n⟩, ?_⟩
       refine JA.fix ⟨(HSub.c 2 rfl (HSub.c 3 rfl HSub.n)), CSub.n, (Le.refl _)⟩ (fun fx24 => ?_)
       refine JA.tk 10 rfl fx24 (yl_cat rfl rfl rfl (by simp only [List.length_take]; omega)) ?_
       refine JA.tk 14 rfl fx24 (yl_cat rfl rfl rfl (by simp only [List.length_append, List.length_take, List.length_drop] at hSE hA ⊢; omega)) ?_
       refine JA.tk 22 rfl fx24 (yl_cat rfl rfl rfl (by simp only [List.length_append, List.length_take, List.length_drop] at hSE hA ⊢; omega)) ?_
       refine JA.tk 23 rfl fx24 (yl_assign rfl rfl) ?_
       refine JA.done (by kernel_rfl) ?_
       refine Ej.seq (Cj.ret (Ej.bare ?_))
       refine Ej.ret1 rfl rfl rfl ?_
       rw [numb_eq (E := E) hS (by rw [hD]; exact hE)]
       exact ⟨rfl, rfl⟩
     ·
      refine ⟨_, rfl, rfl, ?_⟩
      refine op_yld (yl_load rfl rfl Tryz.isAgg9 (Blk.at 0 rfl) (tail_at (by omega))) rfl rfl ?_
      refine ⟨⟨(Le.refl _), (HSub.c 1 rfl (HSub.c 2 rfl HSub.n)), CSub.n⟩, ?_⟩
      refine JA.step 3 (by kernel_rfl) rfl rfl (op_buildSlice rfl rfl rfl Tryz.underlying27 Tryz.sizeOf9 Tryz.zeroValue9 rfl rfl rfl rfl (LCat.one rfl (LCat.one rfl (LCat.one rfl (LCat.one rfl LCat.none)))) ?_)
      intro b25 hb25
      refine ⟨⟨(Le.refl _), (HSub.c 2 rfl (HSub.c 3 rfl HSub.n)), CSub.n⟩, ?_⟩
      refine JA.fix ⟨(HSub.c 2 rfl (HSub.c 3 rfl HSub.n)), CSub.n, (Le.refl _)⟩ (fun fx26 => ?_)
      refine JA.tk 8 rfl fx26 (yl_indexAddr (off' := (q1.toNat / 2 % 4)) rfl rfl rfl Tryz.underlying27 Tryz.sizeOf9 (by omega) (by omega) (by omega)) ?_
      refine JA.step 9 (by kernel_rfl) rfl rfl (op_yld (yl_load rfl rfl Tryz.isAgg9 (Blk.at 0 rfl) (sep_at (by omega))) rfl rfl ?_)
      refine ⟨⟨(Le.refl _), (HSub.c 2 rfl (HSub.c 3 rfl HSub.n)), CSub.n⟩, ?_⟩
      refine JA.fix ⟨(HSub.c 2 rfl (HSub.c 3 rfl HSub.n)), CSub.n, (Le.refl _)⟩ (fun fx27 => ?_)
      refine JA.tk 10 rfl fx27 (yl_cat rfl rfl rfl (by simp only [List.length_take]; omega)) ?_
      refine JA.tk 14 rfl fx27 (yl_cat rfl rfl rfl (by simp only [List.length_append, List.length_take, List.length_drop] at hSE hA ⊢; omega)) ?_
      refine JA.tk 22 rfl fx27 (yl_cat rfl rfl rfl (by simp only [List.length_append, List.length_take, List.length_drop] at hSE hA ⊢; omega)) ?_
      refine JA.tk 23 rfl fx27 (yl_assign rfl rfl) ?_
      refine JA.done (by kernel_rfl) ?_
      refine Ej.seq (Cj.ret (Ej.bare ?_))
      refine Ej.ret1 rfl rfl rfl ?_
      rw [numb_eq (E := E) hS (by rw [hD]; exact hE)]
      exact ⟨rfl, rfl⟩
   ·
    refine Cj.seq (Cj.region (J.z (yl_indexArr (off' := 2) rfl rfl rfl Tryz.underlying41 Tryz.sizeOf5 (by decide) (by decide) (by decide)) ?_))
    refine J.z (yl_load rfl rfl Tryz.isAgg5 (Blk.at 0 rfl) rfl) ?_
    refine J.z (yl_rem rfl rfl rfl (by decide)) ?_
    refine J.eqv 60 rfl (show _ = .int .u8 ((q2.toNat % 4 : Nat) : Int) from rfl) ?_
    refine J.z (yl_eql rfl rfl rfl) ?_
    refine J.nil (Ej.seq (Cj.cond rfl (fun hc28 => ?_) (fun hc28 => ?_)))
    ·
     have hc28p := eq_of_beq hc28
     have hq2 : q2.toNat % 4 = 3 := by have h := eq_of_beq hc28; omega
     refine Cj.region (J.z (yl_indexArr (off' := 2) rfl rfl rfl Tryz.underlying41 Tryz.sizeOf5 (by decide) (by decide) (by decide)) ?_)
     refine J.z (yl_load rfl rfl Tryz.isAgg5 (Blk.at 0 rfl) rfl) ?_
     refine J.z (yl_quo rfl rfl rfl (by decide) (w8 (by show _ ≤ ((q2.toNat / 4 : Nat) : Int) ∧ ((q2.toNat / 4 : Nat) : Int) ≤ _; omega))) ?_
     refine J.eqv 64 rfl (show _ = .int .u8 ((q2.toNat / 4 : Nat) : Int) from rfl) ?_
     refine J.z (yl_rem rfl rfl rfl (by decide)) ?_
     refine J.eqv 65 rfl (show _ = .int .u8 ((q2.toNat / 4 % 10 : Nat) : Int) from rfl) ?_
     refine J.z (yl_add rfl rfl rfl (w8 (by omega))) ?_
     refine J.eqv 66 rfl (show _ = u8 (48 + q2 / 4 % 10) from (congrArg (Value.int .u8) (by rw [q10_nat]; omega))) ?_
     refine J.z (yl_assign rfl rfl) ?_
     refine J.nil (Ej.keep (Keeps.k Keeps.n) ?_)
     exact hcut (48 + q2 / 4 % 10) _ _ _ (if_pos hq2) ⟨rfl, rfl, rfl, trivial⟩ rfl rfl
    ·
     have hc28p := ne_of_beq_false hc28
     have hq2 : ¬ q2.toNat % 4 = 3 := by have h := ne_of_beq_false hc28; omega
     refine Cj.skip (Ej.keep (Keeps.k Keeps.n) ?_)
     exact hcut D _ _ _ (if_neg hq2) ⟨rfl, rfl, rfl, trivial⟩ rfl rfl
  ·
   refine Cj.seq (Cj.region (J.z (yl_indexArr (off' := 0) rfl rfl rfl Tryz.underlying41 Tryz.sizeOf5 (by decide) (by decide) (by decide)) ?_))
   refine J.z (yl_load rfl rfl Tryz.isAgg5 (Blk.at 0 rfl) rfl) ?_
   refine J.z (yl_rem rfl rfl rfl (by decide)) ?_
   refine J.eqv 28 rfl (show _ = .int .u8 ((q0.toNat % 2 : Nat) : Int) from rfl) ?_
   refine J.z (yl_eql rfl rfl rfl) ?_
   refine J.nil (Ej.seq (Cj.cond rfl (fun hc29 => ?_) (fun hc29 => ?_)))
   ·
    have hc29p := eq_of_beq hc29
    have hq0 : q0.toNat % 2 = 1 := by have h := eq_of_beq hc29; omega
    refine Cj.seq (Cj.region (J.z (yl_move rfl rfl) ?_))
    refine J.z (yl_sliceStr (p := 0) (q := 9) rfl rfl Tryz.underlying9 rfl ⟨_, rfl⟩ (by omega) (by omega)) ?_
    refine J.eqv 31 rfl (show _ = str ((l.map Ke.dgt).take 9) from (by rw [List.drop_zero])) ?_
    refine J.z (yl_assign rfl rfl) ?_
    refine J.nil (Ej.seq (Cj.seq (Cj.region (J.z (yl_assign rfl rfl) ?_))))
    refine J.nil (Ej.seq (Cj.seq (Cj.seq (Cj.region (J.z (yl_assign rfl rfl) ?_)))))
    refine J.nil (Ej.seq (Cj.block (Cj.keep (Keeps.k (Keeps.d Keeps.n)) ?_)))
    refine Cj.loop (ι := Nat) (fun k => k ≤ 9) (fun k => 9 - k) (fun k => [(3, ptr b2 0), (5, str ((l.map Ke.dgt).take 9)), (8, i64 ((Ke.rsum 0 (((l.map Ke.dgt).take 9).take k) : Nat) : Int)), (9, i64 (k : Int))]) (fun k => _) (fun k => [(b2, cel 41 [u8 q0, u8 q1, u8 q2, u8 q3])]) 0 (Nat.zero_le _) ⟨rfl, rfl, rfl, rfl, trivial⟩ rfl rfl ?_
    intro k hk
    have hsl := rsum_le (((l.map Ke.dgt).take 9).take k) 0
    have hsl2 : (((l.map Ke.dgt).take 9).take k).length ≤ 9 := by rw [List.length_take, h9]; omega
    refine Cj.seq (Cj.seq (Cj.region (J.z (yl_move rfl rfl) ?_)))
    refine J.z (yl_lss rfl rfl rfl) ?_
    refine J.nil (Ej.seq (Cj.cond rfl (fun hc30 => ?_) (fun hc30 => ?_)))
    ·
     have hc30p := of_decide_eq_true hc30
     have hlt2 : k < ((l.map Ke.dgt).take 9).length := by omega
     obtain ⟨c, hgk⟩ : ∃ c, ((l.map Ke.dgt).take 9)[k]? = some c := ⟨_, List.getElem?_eq_getElem hlt2⟩
     have hc := digits_at hd9 hgk
     have hcv := val_digit (Ke.digit_iff.2 hc)
     have hm : (10 - k) * Ke.val c ≤ 10 * 255 := Nat.mul_le_mul (by omega) (val_le _)
     refine Cj.skip (Ej.seq (Cj.seq (Cj.block (Cj.region (J.z (yl_move rfl rfl) ?_)))))
     refine J.z (yl_move rfl rfl) ?_
     refine J.z (yl_sub rfl rfl rfl (w64 (by omega))) ?_
     refine J.eqv 38 rfl (show _ = i64 ((10 - k : Nat) : Int) from (congrArg i64 (by omega))) ?_
     refine J.z (yl_move rfl rfl) ?_
     refine J.z (yl_move rfl rfl) ?_
     refine J.z (yl_index rfl rfl rfl Tryz.underlying9 (by omega) hgk) ?_
     refine J.z (yl_sub rfl rfl rfl (w8 (by omega))) ?_
     refine J.z (yl_convInt rfl rfl Tryz.underlying5 Tryz.underlying3) ?_
     refine J.eqv 43 rfl (show _ = i64 ((Ke.val c : Nat) : Int) from (congrArg i64 ((w64 (by omega)).trans (by omega)))) ?_
     refine J.z (yl_mul rfl rfl rfl (w64 (by rw [← Int.natCast_mul]; omega))) ?_
     refine J.eqv 44 rfl (show _ = i64 (((10 - k) * Ke.val c : Nat) : Int) from (congrArg i64 (Int.natCast_mul _ _).symm)) ?_
     refine J.z (yl_add rfl rfl rfl (w64 (by omega))) ?_
     refine J.z (yl_assign rfl rfl) ?_
     refine J.nil (Ej.blkNormal (Ej.seq (Cj.region (J.z (yl_move rfl rfl) ?_))))
     refine J.z (yl_add rfl rfl rfl (w64 (by omega))) ?_
     refine J.z (yl_assign rfl rfl) ?_
     refine J.nil (Ej.round (k + 1) (by omega) (by omega) ⟨rfl, rfl, by rw [rsum_next hgk]; exact congrArg (fun z => some (Value.int .i64 z)) (by omega), rfl, trivial⟩ rfl rfl)
    ·
     have hc30p := of_decide_eq_false hc30
     have hf9 : ((l.map Ke.dgt).take 9).take k = ((l.map Ke.dgt).take 9) := List.take_of_length_le (by omega)
     refine Cj.exit (Ej.seqExit (Ej.loopExit (Ej.blkExit (Ej.seq (Cj.seq (Cj.region (J.z (yl_move rfl rfl) ?_)))))))
     refine J.z (yl_rem rfl rfl rfl (by decide)) ?_
     refine J.eqv 47 rfl (show _ = i64 ((Ke.rsum 0 ((l.map Ke.dgt).take 9) % 11 : Nat) : Int) from (by rw [hf9]; rfl)) ?_
     refine J.z (yl_sub rfl rfl rfl (w64 (by omega))) ?_
     refine J.eqv 48 rfl (show _ = i64 ((11 - Ke.rsum 0 ((l.map Ke.dgt).take 9) % 11 : Nat) : Int) from (congrArg i64 (by omega))) ?_
     refine J.z (yl_rem rfl rfl rfl (by decide)) ?_
     refine J.eqv 49 rfl (show _ = i64 ((((11 - Ke.rsum 0 ((l.map Ke.dgt).take 9) % 11) % 11) : Nat) : Int) from rfl) ?_
     refine J.z (yl_add rfl rfl rfl (w64 (by omega))) ?_
     refine J.eqv 50 rfl (show _ = i64 ((48 + ((11 - Ke.rsum 0 ((l.map Ke.dgt).take 9) % 11) % 11) : Nat) : Int) from (congrArg i64 (by omega))) ?_
     refine J.z (yl_convInt rfl rfl Tryz.underlying3 Tryz.underlying5) ?_
     refine J.eqv 51 rfl (show _ = u8 (UInt8.ofNat (48 + ((11 - Ke.rsum 0 ((l.map Ke.dgt).take 9) % 11) % 11))) from (congrArg (Value.int .u8) (conv8 (by omega)))) ?_
     refine J.z (yl_assign rfl rfl) ?_
     refine J.nil (Ej.seq (Cj.seq (Cj.region (J.z (yl_move rfl rfl) ?_))))
     refine J.z (yl_eql rfl rfl rfl) ?_
     refine J.nil (Ej.seq (Cj.cond rfl (fun hc31 => ?_) (fun hc31 => ?_)))
     ·
      have hc31p := eq_of_beq hc31
      have hn10 : ((11 - Ke.rsum 0 ((l.map Ke.dgt).take 9) % 11) % 11) = 10 := by have h := eq_of_beq hc31; rw [show (UInt8.ofNat (48 + ((11 - Ke.rsum 0 ((l.map Ke.dgt).take 9) % 11) % 11))).toNat = 48 + ((11 - Ke.rsum 0 ((l.map Ke.dgt).take 9) % 11) % 11) by simp; omega] at h; omega
      refine Cj.seq (Cj.region (J.z (yl_assign rfl rfl) ?_))
      refine J.nil (Ej.seq (Cj.seq (Cj.region (J.z (yl_indexArr (off' := 1) rfl rfl rfl Tryz.underlying41 Tryz.sizeOf5 (by decide) (by decide) (by decide)) ?_))))
      refine J.z (yl_load rfl rfl Tryz.isAgg5 (Blk.at 0 rfl) rfl) ?_
      refine J.z (yl_rem rfl rfl rfl (by decide)) ?_
      refine J.eqv 56 rfl (show _ = .int .u8 ((q1.toNat % 2 : Nat) : Int) from rfl) ?_
      refine J.z (yl_eql rfl rfl rfl) ?_
      refine J.nil (Ej.seq (Cj.cond rfl (fun hc32 => ?_) (fun hc32 => ?_)))
      ·
       have hc32p := eq_of_beq hc32
       have hen : Ke.ends ((l.map Ke.dgt).take 9) q1 = 120 := (if_pos hn10).trans (if_pos (by have h := eq_of_beq hc32; omega))
       refine Cj.region (J.z (yl_assign rfl rfl) ?_)
       refine J.nil ?_
       exact hcut (((l.map Ke.dgt).take 9), (120 : UInt8)) _ _ _ ⟨by dsimp only; omega, if_pos hq0, (if_pos hq0).trans hen⟩ ⟨rfl, rfl, rfl, trivial⟩ rfl rfl
      ·
       have hc32p := ne_of_beq_false hc32
       have hen : Ke.ends ((l.map Ke.dgt).take 9) q1 = 88 := (if_pos hn10).trans (if_neg (by have h := ne_of_beq_false hc32; omega))
       refine Cj.skip ?_
       exact hcut (((l.map Ke.dgt).take 9), (88 : UInt8)) _ _ _ ⟨by dsimp only; omega, if_pos hq0, (if_pos hq0).trans hen⟩ ⟨rfl, rfl, rfl, trivial⟩ rfl rfl
     ·
      have hc31p := ne_of_beq_false hc31
      have hen : Ke.ends ((l.map Ke.dgt).take 9) q1 = UInt8.ofNat (48 + ((11 - Ke.rsum 0 ((l.map Ke.dgt).take 9) % 11) % 11)) := if_neg (fun e => ne_of_beq_false hc31 (by rw [e]; rfl))
      refine Cj.skip ?_
      exact hcut (((l.map Ke.dgt).take 9), (UInt8.ofNat (48 + ((11 - Ke.rsum 0 ((l.map Ke.dgt).take 9) % 11) % 11)))) _ _ _ ⟨by dsimp only; omega, if_pos hq0, (if_pos hq0).trans hen⟩ ⟨rfl, rfl, rfl, trivial⟩ rfl rfl
   ·
    have hc29p := ne_of_beq_false hc29
    have hq0 : ¬ q0.toNat % 2 = 1 := by have h := ne_of_beq_false hc29; omega
    refine Cj.skip (Ej.keep (Keeps.k (Keeps.d Keeps.n)) ?_)
    exact hcut ((l.map Ke.dgt), (Ke.check (l.map Ke.dgt))) _ _ _ ⟨by dsimp only; omega, if_neg hq0, if_neg hq0⟩ ⟨rfl, rfl, rfl, trivial⟩ rfl rfl

end Go.Proofs.YtnogdccoekfnoaaGreatDoor
