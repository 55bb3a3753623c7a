/-
  The program's keys.isDigits and keys.Sort. Own text, printed by a program. Conditions: none.
-/
import Derived.Test.YtnogdccoekfnoaaGreatDoorKd
import Derived.Shelf.Strings.SlTrimAscii
namespace Go.Proofs.YtnogdccoekfnoaaGreatDoor
open Go Go.Sx
theorem ascii_of_all {l : List UInt8} (h : l.all (fun b => decide (b.toNat < 128)) = true) : ∀ (j : Nat) b, (⟨l.toArray⟩ : ByteArray).data.toList[j]? = some b → b.toNat < 128 := fun j b hb => by
  rw [ba_list] at hb
  exact of_decide_eq_true (List.all_eq_true.1 h b (List.mem_of_getElem? hb))
theorem Trim_ok (s : List UInt8) (hs : s.length ≤ 1000000000000) (I : Heap) : Pure Tryz.prog 67 [str s, str Ke.tens] I (str (Lib.trimS s Ke.tens)) :=
  Pure.of_below (Enters.of Tryz.func67 (by decide) rfl) fun w _ => by
    have h := Any.strings_Trim_laid Tryz.lays160 (by kernel_rfl) ⟨s.toArray⟩ ⟨Ke.tens.toArray⟩ w (by rw [size_mk]; omega) (by decide) (ascii_of_all (by decide))
    rw [ba_list, ba_list] at h
    exact h
theorem TrimLeft0_ok (s : List UInt8) (I : Heap) : Pure Tryz.prog 38 [str s, str [48]] I (str (s.dropWhile (· == 48))) :=
  Pure.of_same (Enters.of Tryz.func38 (by decide) rfl) fun w _ => by
    have h := Tryz.strings_TrimLeft_one ⟨s.toArray⟩ 48 (by decide) w
    rw [ba_list] at h
    exact h
theorem perm_back2 {a b : Nat × Obj} {G : HL} : (G ++ [a, b]).Perm (a :: (b :: G ++ [])) := by
  rw [List.append_nil]; exact List.perm_append_comm
theorem conv8 {n : Nat} (h : n < 256) : IntKind.u8.wrap (n : Int) = ((UInt8.ofNat n).toNat : Int) := by
  rw [show (UInt8.ofNat n).toNat = n by simp; omega]
  simp [IntKind.wrap, IntKind.bits, IntKind.signed]; omega
theorem take_nextM {f : List UInt8 → List UInt8} {l : List (List UInt8)} {k : Nat} {x : List UInt8} (h : l[k]? = some x) : ((l.take (k + 1)).map f).map str = ((l.take k).map f).map str ++ [str (f x)] := by
  obtain ⟨hlt, hg⟩ := List.getElem?_eq_some_iff.1 h
  rw [List.take_succ_eq_append_getElem hlt, hg, List.map_append, List.map_append]; rfl
set_option maxRecDepth 20000 in
theorem isDigits_ok (s : List UInt8) (hs : s.length ≤ 1000000000000) (I : Heap) : Pure Tryz.prog 37 [str s] I (.bool (Ke.digits s)) := by
 refine Ctr.of_body Tryz.func37 rfl (by decide) (Nat.le_of_ble_eq_true rfl) ?_
 intro w0 hw0
 refine Cj.seq (Cj.region (J.z (yl_assign rfl rfl) ?_))
 refine J.nil (Ej.seq (Cj.seq (Cj.region (J.z (yl_move rfl rfl) ?_))))
 refine J.op rfl (op_pure rfl rfl rfl rfl rfl (Trim_ok s hs _) ?_)
 refine J.z (yl_eqlStr rfl rfl rfl) ?_
 refine J.z (yl_assign rfl rfl) ?_
 refine J.nil (Ej.seq (Cj.ret (Ej.ret1 rfl rfl rfl ?_)))
 exact ⟨congrArg (fun b => Ending.returned (.bool b)) (Ke.trim_digits s), rfl, rfl⟩

set_option maxRecDepth 20000 in
set_option maxHeartbeats 1000000 in
theorem Sort_ok (s : List UInt8) (skip : Int) (hs : s.length ≤ 100000000) (I : Heap) : Pure Tryz.prog 21 [str s, i64 skip] I (str (Ke.sortKey s skip)) := by
 refine Ctr.toPure ?_
 have hcl : (Ke.cut s skip).length ≤ s.length := by unfold Ke.cut; simp
 have hwl := Ke.words_len (Ke.cut s skip)
 have hjl := Ke.sort_len (Ke.cut s skip)
 refine Ctr.of_bodyM Tryz.func21 rfl (by decide) (Nat.le_of_ble_eq_true rfl) ?_
 intro w0 hw0
 refine Cj.seq (Cj.region (J.z (yl_assign rfl rfl) ?_))
 refine J.nil (Ej.seq (Cj.seq (Cj.region (J.z (yl_move rfl rfl) ?_))))
 refine J.z (yl_move rfl rfl) ?_
 refine J.z (yl_max2 rfl rfl rfl) ?_
 refine J.z (yl_move rfl rfl) ?_
 refine J.z (yl_lenStr rfl rfl Tryz.underlying9) ?_
 refine J.z (yl_min2 rfl rfl rfl) ?_
 refine J.eqv 13 rfl (show _ = i64 (((min (max skip 0) (s.length : Int)).toNat : Nat) : Int) from (congrArg i64 (by omega))) ?_
 refine J.z (yl_sliceStr (p := (min (max skip 0) (s.length : Int)).toNat) (q := s.length) rfl rfl Tryz.underlying9 ⟨_, rfl⟩ rfl (by omega) (by omega)) ?_
 refine J.eqv 14 rfl (show _ = str (Ke.cut s skip) from (by rw [List.take_length]; rfl)) ?_
 refine J.z (yl_assign rfl rfl) ?_
 refine J.nil (Ej.seq (Cj.seq (Cj.region (J.op rfl (op_alloc rfl rfl rfl Tryz.zeroValue27 rfl ?_)))))
 intro b1 hb1
 refine J.nil (Ej.seq (Cj.seq (Cj.seq (Cj.region (J.z (yl_move rfl rfl) ?_)))))
 refine J.op rfl (op_callN rfl rfl rfl rfl rfl (words_ok (Ke.cut s skip) _) ?_ (fun _ _ _ _ h => by obtain ⟨_, h, _⟩ := h; cases h) (fun _ _ h => by obtain ⟨_, h, _⟩ := h; cases h))
 intro v3 I4 H5 hle6 hn2 hp7
 obtain ⟨sb, h, rfl⟩ := hp7; cases h
 refine J.persist (hn2 _ (.head _)) (fun I9 hle9 hsb => ?_)
 refine J.nil (Ej.seq (Cj.block (Cj.rangeFunc (ps := [17]) (H1 := [_]) (R := []) ((Ke.words (Ke.cut s skip)).map fun w => [str w]) (fun k I' H' => k ≤ (Ke.words (Ke.cut s skip)).length ∧ ∃ g, gOk 0 1 k ((((Ke.words (Ke.cut s skip)).take k).map Ke.sortWord).map str) g ∧ H' = (b1, cel 27 [gV k g]) :: gH 9 ((((Ke.words (Ke.cut s skip)).take k).map Ke.sortWord).map str) g) (fun _ _ _ => False) rfl (one_blt rfl) (seq1 _ _) rfl (words1_ok sb _ (by omega) _ hsb) (fun _ _ _ _ _ h => h) ⟨Nat.zero_le _, none, ⟨rfl, rfl⟩, rfl⟩ ?_ ?_ ?_)))
 ·
  intro l r k args I1 Hk w1 hk hle hY
  have hsb := hle _ _ hsb
  obtain ⟨x, hx, rfl⟩ := seq1_at hk
  obtain ⟨hkl, g, hg, rfl⟩ := hY
  have hlt := (List.getElem?_eq_some_iff.1 hx).1
  have hxm := List.mem_of_getElem? hx
  have hxl := Ke.words_each _ x hxm
  have hxn : 0 < x.length := List.length_pos_iff.2 (Ke.words_ne _ _ x hxm)
  have hsl := Ke.strip_len x
  refine Cj.region (J.z (yl_assign rfl rfl) ?_)
  refine J.nil (Ej.asg ?_)
  refine Cj.block (Cj.seq (Cj.seq (Cj.region (J.z (yl_move rfl rfl) ?_))))
  refine J.op rfl (op_pure rfl rfl rfl rfl rfl (isDigits_ok x (by omega) _) ?_)
  refine J.nil (Ej.seq (Cj.cond rfl (fun hc8 => ?_) (fun hc8 => ?_)))
  ·
   have hdg : Ke.digits x = true := hc8
   have hsw : Ke.sortWord x = Ke.number x := by unfold Ke.sortWord; rw [hdg]; rfl
   refine Cj.seq (Cj.drawSel [] [] 13 (by kernel_rfl) ?_)
   refine JA.fix ⟨HSub.n, CSub.n, (Le.refl _)⟩ (fun fx9 => ?_)
   refine JA.tk 0 rfl fx9 (yl_move rfl rfl) ?_
   refine JA.tk 1 rfl fx9 (yl_move rfl rfl) ?_
   refine JA.tk 2 rfl fx9 (yl_lenStr rfl rfl Tryz.underlying9) ?_
   refine JA.tk 3 rfl fx9 (yl_sub rfl rfl rfl (w64 (by omega))) ?_
   refine JA.eqv 23 rfl (show _ = i64 ((x.length - 1 : Nat) : Int) from (congrArg i64 (by omega))) ?_
   refine JA.tk 4 rfl fx9 (yl_sliceStr (p := 0) (q := x.length - 1) rfl rfl Tryz.underlying9 rfl ⟨_, rfl⟩ (by omega) (by omega)) ?_
   refine JA.eqv 24 rfl (show _ = str (x.take (x.length - 1)) from (by rw [List.drop_zero])) ?_
   refine JA.tk 6 rfl fx9 (yl_move rfl rfl) ?_
   refine JA.tk 7 rfl fx9 (yl_move rfl rfl) ?_
   refine JA.tk 8 rfl fx9 (yl_lenStr rfl rfl Tryz.underlying9) ?_
   refine JA.tk 9 rfl fx9 (yl_sub rfl rfl rfl (w64 (by omega))) ?_
   refine JA.eqv 29 rfl (show _ = i64 ((x.length - 1 : Nat) : Int) from (congrArg i64 (by omega))) ?_
   refine JA.tk 10 rfl fx9 (yl_sliceStr (p := x.length - 1) (q := x.length) rfl rfl Tryz.underlying9 ⟨_, rfl⟩ rfl (by omega) (by omega)) ?_
   refine JA.eqv 30 rfl (show _ = str (x.drop (x.length - 1)) from (by rw [List.take_length])) ?_
   refine JA.step 5 (by kernel_rfl) rfl rfl (op_pure rfl rfl rfl rfl rfl (TrimLeft0_ok (x.take (x.length - 1)) _) ?_)
   refine ⟨⟨(Le.refl _), HSub.n, CSub.n⟩, ?_⟩
   refine JA.fix ⟨HSub.n, CSub.n, (Le.refl _)⟩ (fun fx10 => ?_)
   refine JA.tk 11 rfl fx10 (yl_cat rfl rfl rfl (by rw [Ke.dropLast_take]; have := hsl; unfold Ke.strip at this; rw [List.length_append] at this; omega)) ?_
   refine JA.eqv 31 rfl (show _ = str (Ke.strip x) from (by rw [Ke.dropLast_take]; rfl)) ?_
   refine JA.tk 12 rfl fx10 (yl_assign rfl rfl) ?_
   refine JA.done (by kernel_rfl) ?_
   refine Ej.seq (Cj.seq (Cj.region (J.z (yl_move rfl rfl) ?_)))
   refine J.z (yl_lenStr rfl rfl Tryz.underlying9) ?_
   refine J.z (yl_min2 rfl rfl rfl) ?_
   refine J.eqv 34 rfl (show _ = i64 ((min (Ke.strip x).length 99 : Nat) : Int) from (congrArg i64 (by split <;> omega))) ?_
   refine J.z (yl_assign rfl rfl) ?_
   refine J.nil (Ej.seq (Cj.region (J.z (yl_move rfl rfl) ?_)))
   refine J.z (yl_quo rfl rfl rfl (by decide) (w64 (by show _ ≤ ((min (Ke.strip x).length 99 / 10 : Nat) : Int) ∧ ((min (Ke.strip x).length 99 / 10 : Nat) : Int) ≤ _; omega))) ?_
   refine J.eqv 36 rfl (show _ = i64 ((min (Ke.strip x).length 99 / 10 : Nat) : Int) from rfl) ?_
   refine J.z (yl_add rfl rfl rfl (w64 (by omega))) ?_
   refine J.eqv 37 rfl (show _ = i64 ((48 + min (Ke.strip x).length 99 / 10 : Nat) : Int) from (congrArg i64 (by omega))) ?_
   refine J.z (yl_convInt rfl rfl Tryz.underlying3 Tryz.underlying5) ?_
   refine J.eqv 38 rfl (show _ = u8 (UInt8.ofNat (48 + min (Ke.strip x).length 99 / 10)) from (congrArg (Value.int .u8) (conv8 (by omega)))) ?_
   refine J.z (yl_move rfl rfl) ?_
   refine J.z (yl_rem rfl rfl rfl (by decide)) ?_
   refine J.eqv 40 rfl (show _ = i64 ((min (Ke.strip x).length 99 % 10 : Nat) : Int) from rfl) ?_
   refine J.z (yl_add rfl rfl rfl (w64 (by omega))) ?_
   refine J.eqv 41 rfl (show _ = i64 ((48 + min (Ke.strip x).length 99 % 10 : Nat) : Int) from (congrArg i64 (by omega))) ?_
   refine J.z (yl_convInt rfl rfl Tryz.underlying3 Tryz.underlying5) ?_
   refine J.eqv 42 rfl (show _ = u8 (UInt8.ofNat (48 + min (Ke.strip x).length 99 % 10)) from (congrArg (Value.int .u8) (conv8 (by omega)))) ?_
   refine J.op rfl (op_buildSlice rfl rfl rfl Tryz.underlying46 Tryz.sizeOf5 Tryz.zeroValue5 rfl rfl rfl rfl (LCat.one rfl (LCat.one rfl LCat.none)) ?_)
   intro b11 hb11
   refine J.z (yl_toStr [UInt8.ofNat (48 + min (Ke.strip x).length 99 / 10), UInt8.ofNat (48 + min (Ke.strip x).length 99 % 10)] rfl rfl rfl Tryz.underlying46 Tryz.underlying9 Tryz.underlying5 (Blk.at 0 rfl) rfl) ?_
   refine J.z (yl_move rfl rfl) ?_
   refine J.z (yl_cat rfl rfl rfl (by first | omega | (simp only [List.length_append]; omega) | (simp; omega))) ?_
   refine J.eqv 46 rfl (show _ = str (Ke.number x) from rfl) ?_
   refine J.z (yl_assign rfl rfl) ?_
   refine J.nil (Ej.seq (Cj.region (J.z (yl_load rfl rfl Tryz.isAgg27 (Blk.at 2 rfl) rfl) ?_)))
   refine J.z (yl_move rfl rfl) ?_
   refine J.op rfl (op_buildSlice rfl rfl rfl Tryz.underlying27 Tryz.sizeOf9 Tryz.zeroValue9 rfl rfl rfl rfl (LCat.one rfl LCat.none) ?_)
   intro b12 hb12
   refine J.op rfl (op_appendB 0 (Nat.zero_le _) (by' := 15) [_, _, _, _] rfl rfl rfl rfl rfl Tryz.underlying27 (.inr ⟨_, Tryz.underlying27⟩) (by kernel_rfl) Tryz.sizeOf9 Tryz.zeroValue9 rfl hg rfl (Src.slice (Blk.at 0 rfl) rfl rfl rfl) (by omega) ?_)
   intro g13 hg13
   refine J.op rfl (op_store 3 rfl rfl rfl rfl (gV_cells _ _) (gV_one _ _) Tryz.sizeOf27 rfl rfl (LSpl.c LSpl.z) (LSet.s (LSet.s (LSet.s LSet.z))) ?_)
   refine J.nil (Ej.blkNormal (Ej.pull (Pull.s (Pull.s Pull.z)) ?_))
   refine Ej.keep (Keeps.k (Keeps.d (Keeps.d (Keeps.k Keeps.r)))) ?_
   exact Ej.rdNormal ⟨hlt, _, by rw [take_nextM hx, hsw]; exact hg13, by rw [take_nextM hx, hsw]; rfl⟩
  ·
   have hdg : Ke.digits x = false := hc8
   have hsw : Ke.sortWord x = x := by unfold Ke.sortWord; rw [hdg]; rfl
   refine Cj.skip (Ej.seq (Cj.region (J.z (yl_load rfl rfl Tryz.isAgg27 (Blk.at 1 rfl) rfl) ?_)))
   refine J.z (yl_move rfl rfl) ?_
   refine J.op rfl (op_buildSlice rfl rfl rfl Tryz.underlying27 Tryz.sizeOf9 Tryz.zeroValue9 rfl rfl rfl rfl (LCat.one rfl LCat.none) ?_)
   intro b14 hb14
   refine J.op rfl (op_appendB 0 (Nat.zero_le _) (by' := 15) [_, _, _] rfl rfl rfl rfl rfl Tryz.underlying27 (.inr ⟨_, Tryz.underlying27⟩) (by kernel_rfl) Tryz.sizeOf9 Tryz.zeroValue9 rfl hg rfl (Src.slice (Blk.at 0 rfl) rfl rfl rfl) (by omega) ?_)
   intro g15 hg15
   refine J.op rfl (op_store 2 rfl rfl rfl rfl (gV_cells _ _) (gV_one _ _) Tryz.sizeOf27 rfl rfl (LSpl.c LSpl.z) (LSet.s (LSet.s LSet.z)) ?_)
   refine J.nil (Ej.blkNormal (Ej.pull (Pull.s Pull.z) ?_))
   refine Ej.keep (Keeps.k (Keeps.d (Keeps.k Keeps.r))) ?_
   exact Ej.rdNormal ⟨hlt, _, by rw [take_nextM hx, hsw]; exact hg15, by rw [take_nextM hx, hsw]; rfl⟩
 ·
  intro mb16 I2 H2 hle hY
  have hsb := hle _ _ hsb
  rw [List.length_map] at hY
  obtain ⟨hkl, g, hg, rfl⟩ := hY
  rw [List.take_length] at hg
  rw [show (Ke.words (Ke.cut s skip)).take (Ke.words (Ke.cut s skip)).length = Ke.words (Ke.cut s skip) from List.take_length]
  refine Ej.blkNormal (Ej.seq (Cj.seq (Cj.isNew rfl (fun hnew => ?_))))
  refine Cj.perm (H' := gH _ _ _ ++ [_, _]) perm_back2 ?_
  refine Cj.keepS (hg.base (fun p hp => hnew p (.tail _ (.tail _ (List.mem_append_left _ hp))))) (fun I8 hle8 hv => ?_)
  refine Cj.region (J.z (yl_load rfl rfl Tryz.isAgg27 (Blk.at 1 rfl) rfl) ?_)
  refine J.op rfl (op_pure rfl rfl rfl rfl rfl (Join_ok ((Ke.words (Ke.cut s skip)).map Ke.sortWord) _ (by rw [List.length_map]; omega) (by omega) _ hv) ?_)
  refine J.z (yl_assign rfl rfl) ?_
  refine J.nil (Ej.seq (Cj.ret (Ej.leaveM (.inl rfl) ?_)))
  refine LvJ.mark 0 rfl LSet.z ?_
  refine LvJ.keep (List.nil_sublist _) ?_
  exact LvJ.ret1 rfl rfl ⟨rfl, rfl⟩
 ·
  exact fun _ _ _ _ _ hZ => hZ.elim

end Go.Proofs.YtnogdccoekfnoaaGreatDoor
