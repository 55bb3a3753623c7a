/-
  The program's keys.words: the sequence of a text's words; slices.Collect; keys.Words. Own text, printed by a program. Conditions: none.
-/
import Derived.Test.YtnogdccoekfnoaaGreatDoorKb
import Derived.Test.YtnogdccoekfnoaaGreatDoorBld
import Derived.Test.YtnogdccoekfnoaaGreatDoorKeGen
namespace Go.Proofs.YtnogdccoekfnoaaGreatDoor
open Go Go.Sx
theorem Len_bld (b : Nat) (l : List UInt8) (p : Bool) (g : Gs) (hg : gOk 0 1 l.length (bcs l) g) (I : Heap) : Ctr Tryz.prog 64 [ptr b 0] I (BldH b l p g) (fun e _I' H' => e = .returned (i64 l.length) ∧ H' = BldH b l p g) :=
  (Ctr.frame (gH 5 (bcs l) g) (Len_ok b _ l.length g hg I)).mono fun _ _ _ _ ⟨H1, h1, h2, h3⟩ => ⟨h2, by rw [h1, h3]; rfl⟩
theorem Reset_bld (b : Nat) (x y : Value) (R : HL) (I : Heap) : Ctr Tryz.prog 65 [ptr b 0] I ((b, cel 89 [x, y]) :: R) (fun e _I' H' => e = .returned (.tuple #[]) ∧ H' = BldH b [] false none) :=
  (Ctr.frame R (Reset_ok b x y I)).drop fun _ _ _ ⟨H1, h1, h2, h3⟩ => ⟨_, by rw [h1, h3]; exact List.sublist_append_left _ _, h2, rfl⟩
structure WSt where
  i : Nat
  w : List UInt8
  p : Bool
  g : Gs
  k : Nat
  I : Heap
  H : HL
set_option maxRecDepth 20000 in
set_option maxHeartbeats 1000000 in
theorem words1_ok (sb : Nat) (s : List UInt8) (hs : s.length ≤ 1000000000) (I : Heap) (hsb : I sb = some (cel 9 [str s])) : Gen Tryz.prog 61 [] [ptr sb 0] I ((Ke.words s).map fun w => [str w]) := by
 refine ⟨Enters.of Tryz.func61 (by decide) rfl, fun l Y Z hmono hYS H hY0 => ?_⟩
 refine Ctr.of_body Tryz.func61 rfl (by decide) (Nat.le_of_ble_eq_true rfl) ?_
 intro w0 hw0
 refine Cj.seq (Cj.region (J.op rfl (op_callN rfl rfl rfl rfl rfl (letters_ok _) ?_ (fun _ _ _ _ h => by obtain ⟨_, h, _⟩ := h; cases h) (fun _ _ h => by obtain ⟨_, h, _⟩ := h; cases h))))
 intro v2 I3 H4 hle5 hn1 hp6
 have hsb := hle5 _ _ hsb
 obtain ⟨tb, h, rfl⟩ := hp6; cases h
 have hY0 := hmono _ _ _ _ hle5 hY0
 refine J.persist (hn1 _ (.head _)) (fun I9 hle9 hT => ?_)
 have hsb := hle9 _ _ hsb
 have hY0 := hmono _ _ _ _ hle9 hY0
 refine J.z (yl_assign rfl rfl) ?_
 refine J.nil (Ej.seq (Cj.seq (Cj.region (J.op rfl (op_alloc rfl rfl rfl Tryz.zeroValue89 rfl ?_)))))
 intro b7 hb7
 refine J.nil (Ej.seq (Cj.seq (Cj.seq (Cj.region (J.z (yl_load rfl rfl Tryz.isAgg9 (Blk.imm hsb) rfl) ?_)))))
 refine J.op rfl (op_range rfl rfl rfl rfl Tryz.underlying9 ?_)
 intro b8 hb8
 refine J.nil (Ej.seq (Cj.block (Cj.loop (ι := WSt) (fun j => Ke.WInv s j.i j.k j.w ∧ gOk 0 1 j.w.length (bcs j.w) j.g ∧ (Tab j.I tb ∧ j.I sb = some (cel 9 [str s])) ∧ Y j.k j.I j.H) (fun j => s.length - j.i) (fun j => [(0, .func (.yield l) #[] #[]), (3, .map (some tb)), (4, ptr b7 0), (10, ptr b8 0)]) (fun j => j.I) (fun j => (b8, .stringIter ⟨s.toArray⟩ j.i) :: (BldH b7 j.w j.p j.g ++ j.H)) ⟨0, [], false, none, 0, _, H⟩ ⟨Ke.WInv.start s, ⟨rfl, rfl⟩, ⟨hT, hsb⟩, hY0⟩ ⟨rfl, rfl, rfl, rfl, trivial⟩ rfl rfl ?_)))
 rintro ⟨i, w, p, g, k, I, H⟩ ⟨hw, hg, ⟨hT, hsb⟩, hY⟩
 dsimp only at hw hg hT hsb hY ⊢
 have hwl := hw.wl
 have hwi := hw.le
 rcases Nat.lt_or_ge i s.length with hp | hp
 ·
  have hd := Ke.decode_width s hp
  have hdl := Ke.decode_le s i
  refine Cj.seq (Cj.region (J.op rfl (op_next 0 rfl rfl rfl rfl rfl (by rw [size_mk]; omega) LSet.z ?_)))
  refine J.z (yl_extract rfl rfl rfl) ?_
  refine J.nil (Ej.seq (Cj.seq (Cj.cond rfl (fun hc9 => ?_) (fun hc9 => Bool.noConfusion (Eq.trans (Eq.symm rfl) hc9)))))
  refine Cj.skip (Ej.seq (Cj.block (Cj.seq (Cj.region (J.z (yl_extract rfl rfl rfl) ?_)))))
  refine J.z (yl_assign rfl rfl) ?_
  refine J.nil (Ej.seq (Cj.seq (Cj.region (J.z (yl_move rfl rfl) ?_))))
  refine J.z (yl_move rfl rfl) ?_
  refine J.op rfl (op_pure rfl rfl rfl rfl rfl (fold_ok _ tb hdl _ hT) ?_)
  refine J.z (yl_assign rfl rfl) ?_
  refine J.nil (Ej.seq (Cj.seq (Cj.seq (Cj.region (J.z (yl_move rfl rfl) ?_)))))
  refine J.z (yl_neqStr rfl rfl rfl) ?_
  refine J.nil (Ej.seq (Cj.cond rfl (fun hc10 => ?_) (fun hc10 => ?_)))
  ·
   have hc10p := bne_iff_ne.1 hc10
   have hc : Ke.char (Utf8.decode ⟨s.toArray⟩ i).1 ≠ [32] := bne_iff_ne.1 hc10
   refine Cj.seq (Cj.region (J.z (yl_move rfl rfl) ?_))
   refine J.perm (H' := BldH _ _ _ _ ++ (_ :: _)) List.perm_middle ?_
   refine J.op rfl (op_call (H1 := BldH _ _ _ _) (R := _ :: _) rfl rfl rfl rfl rfl (WriteString_ok _ w (Ke.char (Utf8.decode ⟨s.toArray⟩ i).1) p g hg (by omega) (by have := Ke.char_len (Utf8.decode ⟨s.toArray⟩ i).1; omega) _) ?_ (fun _ _ _ _ h => by cases h.1) (fun _ _ h => by cases h.1))
   intro v11 I12 H13 hle14 hp15
   have hsb := hle14 _ _ hsb
   have hT := hT.mono hle14
   obtain ⟨h, g2, hg2, rfl⟩ := hp15; cases h
   have hY := hmono _ _ _ _ hle14 hY
   refine J.perm (H' := _ :: (_ ++ _)) List.perm_middle.symm ?_
   refine J.nil (Ej.seq (Cj.exit (Ej.seqExit (Ej.blkExit (Ej.round ⟨i + (Utf8.decode ⟨s.toArray⟩ i).2, w ++ Ke.char (Utf8.decode ⟨s.toArray⟩ i).1, true, g2, k, _, H⟩ ⟨hw.in hp hc, hg2, ⟨hT, hsb⟩, hY⟩ (by dsimp only; omega) ⟨rfl, rfl, rfl, rfl, trivial⟩ rfl rfl)))))
  ·
   have hc10p := bne_f hc10
   have hc : Ke.char (Utf8.decode ⟨s.toArray⟩ i).1 = [32] := by have h := hc10; simpa using h
   refine Cj.skip (Ej.seq (Cj.seq (Cj.seq (Cj.region (J.perm (H' := BldH _ _ _ _ ++ (_ :: _)) List.perm_middle ?_)))))
   refine J.op rfl (op_call (H1 := BldH _ _ _ _) (R := _ :: _) rfl rfl rfl rfl rfl (Len_bld _ w p g hg _) ?_ (fun _ _ _ _ h => by cases h.1) (fun _ _ h => by cases h.1))
   intro v16 I17 H18 hle19 hp20
   have hsb := hle19 _ _ hsb
   have hT := hT.mono hle19
   obtain ⟨h, rfl⟩ := hp20; cases h
   have hY := hmono _ _ _ _ hle19 hY
   refine J.perm (H' := _ :: (_ ++ _)) List.perm_middle.symm ?_
   refine J.z (yl_gtr rfl rfl rfl) ?_
   refine J.z (yl_move rfl rfl) ?_
   refine J.split 23 rfl (fun hg21 => ?_) (fun hg21 => ?_)
   ·
    have hwn : w ≠ [] := fun h => by have := of_decide_eq_true hg21; rw [h] at this; simp at this
    refine J.opG 2 23 true _ rfl rfl rfl hg21 (op_yld (yl_move rfl rfl) rfl rfl ?_)
    refine J.perm (H' := BldH _ _ _ _ ++ (_ :: _)) List.perm_middle ?_
    refine J.opG 2 23 true _ rfl rfl rfl hg21 (op_call (H1 := BldH _ _ _ _) (R := _ :: _) rfl rfl rfl rfl rfl (String_ok _ w p g hg (fun h => absurd h hwn) (by omega) _) ?_ (fun _ _ _ _ h => by cases h.1) (fun _ _ h => by cases h.1))
    intro v22 I23 H24 hle25 hp26
    have hsb := hle25 _ _ hsb
    have hT := hT.mono hle25
    obtain ⟨h, y0, z0, rfl⟩ := hp26; cases h
    have hY := hmono _ _ _ _ hle25 hY
    refine J.perm (H' := _ :: (_ ++ _)) List.perm_middle.symm ?_
    refine J.yieldG [_, _] 2 23 true _ rfl rfl rfl hg21 rfl rfl rfl rfl rfl (hYS k [str w] (by rw [List.getElem?_map, (hw.out hp hc hwn).1]; rfl) _ H hY) ?_ (fun _ _ _ h => by rcases h with ⟨h, _⟩ | ⟨h, _⟩ <;> cases h) (fun _ _ h => by rcases h with ⟨h, _⟩ | ⟨h, _⟩ <;> cases h)
    intro v3 I3 H3 hle3 hp3
    have hsb := hle3 _ _ hsb
    have hT := hT.mono hle3
    obtain ⟨t3, h3, hYZ⟩ : ∃ t : Bool, v3 = .bool t ∧ ((t = true ∧ Y (k + 1) I3 H3) ∨ (t = false ∧ Z I3 H3)) := by
      rcases hp3 with ⟨h, h2⟩ | ⟨h, h2⟩
      · cases h; exact ⟨true, rfl, .inl ⟨rfl, h2⟩⟩
      · cases h; exact ⟨false, rfl, .inr ⟨rfl, h2⟩⟩
    subst h3
    refine J.opG 2 23 true _ rfl rfl rfl hg21 (op_yld (yl_not rfl rfl) rfl rfl ?_)
    refine J.z (yl_pick1 rfl rfl hg21 rfl) ?_
    refine J.nil (Ej.seq (Cj.cond rfl (fun hc27 => ?_) (fun hc27 => ?_)))
    ·
     have hZ3 : Z I3 H3 := by
       rcases hYZ with ⟨rfl, _⟩ | ⟨_, h⟩
       · exact Bool.noConfusion hc27
       · exact h
     refine Cj.ret (Ej.seqRet (Ej.blkRet (Ej.loopRet (Ej.blkRet (Ej.seqRet (Ej.keep (H' := H3) (List.Sublist.cons _ (List.Sublist.cons _ (List.Sublist.refl _))) ?_))))))
     exact Ej.ret0 rfl rfl ⟨rfl, .inr hZ3⟩
    ·
     have hY3 : Y (k + 1) I3 H3 := by
       rcases hYZ with ⟨_, h⟩ | ⟨rfl, _⟩
       · exact h
       · exact Bool.noConfusion hc27
     refine Cj.skip (Ej.seq (Cj.region (J.perm (H' := [_] ++ (_ :: _)) List.perm_middle ?_)))
     refine J.op rfl (op_call (H1 := [_]) (R := _ :: _) rfl rfl rfl rfl rfl (Reset_bld _ _ _ _ _) ?_ (fun _ _ _ _ h => by cases h.1) (fun _ _ h => by cases h.1))
     intro v28 I29 H30 hle31 hp32
     have hsb := hle31 _ _ hsb
     have hT := hT.mono hle31
     obtain ⟨h, rfl⟩ := hp32; cases h
     have hY3 := hmono _ _ _ _ hle31 hY3
     refine J.perm (H' := _ :: (_ ++ _)) List.perm_middle.symm ?_
     refine J.nil (Ej.blkNormal (Ej.round ⟨i + (Utf8.decode ⟨s.toArray⟩ i).2, [], false, none, k + 1, _, H3⟩ ⟨(hw.out hp hc hwn).2, ⟨rfl, rfl⟩, ⟨hT, hsb⟩, hY3⟩ (by dsimp only; omega) ⟨rfl, rfl, rfl, rfl, trivial⟩ rfl rfl))
   ·
    obtain rfl : w = [] := List.length_eq_zero_iff.1 (by have := of_decide_eq_false hg21; omega)
    refine J.skip 2 23 24 true _ rfl rfl rfl hg21 rfl rfl ?_
    refine J.skip 2 23 25 true _ rfl rfl rfl hg21 rfl rfl ?_
    refine J.skip 2 23 26 true _ rfl rfl rfl hg21 rfl rfl ?_
    refine J.skip 2 23 27 true _ rfl rfl rfl hg21 rfl rfl ?_
    refine J.z (yl_pick0 rfl rfl hg21 rfl) ?_
    refine J.nil (Ej.seq (Cj.cond rfl (fun hc33 => Bool.noConfusion (Eq.trans (Eq.symm rfl) hc33)) (fun hc33 => ?_)))
    refine Cj.skip (Ej.seq (Cj.region (J.perm (H' := BldH _ _ _ _ ++ (_ :: _)) List.perm_middle ?_)))
    refine J.op rfl (op_call (H1 := BldH _ _ _ _) (R := _ :: _) rfl rfl rfl rfl rfl (Reset_bld _ _ _ _ _) ?_ (fun _ _ _ _ h => by cases h.1) (fun _ _ h => by cases h.1))
    intro v34 I35 H36 hle37 hp38
    have hsb := hle37 _ _ hsb
    have hT := hT.mono hle37
    obtain ⟨h, rfl⟩ := hp38; cases h
    have hY := hmono _ _ _ _ hle37 hY
    refine J.perm (H' := _ :: (_ ++ _)) List.perm_middle.symm ?_
    refine J.nil (Ej.blkNormal (Ej.round ⟨i + (Utf8.decode ⟨s.toArray⟩ i).2, [], false, none, k, _, H⟩ ⟨hw.out0 hp hc, ⟨rfl, rfl⟩, ⟨hT, hsb⟩, hY⟩ (by dsimp only; omega) ⟨rfl, rfl, rfl, rfl, trivial⟩ rfl rfl))
 ·
  
  refine Cj.seq (Cj.region (J.op rfl (op_nextEnd 0 rfl rfl rfl rfl rfl (by rw [size_mk]; omega) ?_)))
  refine J.z (yl_extract rfl rfl rfl) ?_
  refine J.nil (Ej.seq (Cj.seq (Cj.cond rfl (fun hc39 => Bool.noConfusion (Eq.trans (Eq.symm rfl) hc39)) (fun hc39 => ?_))))
  refine Cj.exit (Ej.seqExit (Ej.loopExit (Ej.blkExit (Ej.seq (Cj.seq (Cj.region (J.perm (H' := BldH _ _ _ _ ++ (_ :: _)) List.perm_middle ?_)))))))
  refine J.op rfl (op_call (H1 := BldH _ _ _ _) (R := _ :: _) rfl rfl rfl rfl rfl (Len_bld _ w p g hg _) ?_ (fun _ _ _ _ h => by cases h.1) (fun _ _ h => by cases h.1))
  intro v40 I41 H42 hle43 hp44
  have hsb := hle43 _ _ hsb
  have hT := hT.mono hle43
  obtain ⟨h, rfl⟩ := hp44; cases h
  have hY := hmono _ _ _ _ hle43 hY
  refine J.perm (H' := _ :: (_ ++ _)) List.perm_middle.symm ?_
  refine J.z (yl_gtr rfl rfl rfl) ?_
  refine J.nil (Ej.seq (Cj.cond rfl (fun hc45 => ?_) (fun hc45 => ?_)))
  ·
   have hc45p := of_decide_eq_true hc45
   have hwn : w ≠ [] := fun h => by have := of_decide_eq_true hc45; rw [h] at this; simp at this
   refine Cj.region (J.z (yl_move rfl rfl) ?_)
   refine J.perm (H' := BldH _ _ _ _ ++ (_ :: _)) List.perm_middle ?_
   refine J.op rfl (op_call (H1 := BldH _ _ _ _) (R := _ :: _) rfl rfl rfl rfl rfl (String_ok _ w p g hg (fun h => absurd h hwn) (by omega) _) ?_ (fun _ _ _ _ h => by cases h.1) (fun _ _ h => by cases h.1))
   intro v46 I47 H48 hle49 hp50
   have hsb := hle49 _ _ hsb
   have hT := hT.mono hle49
   obtain ⟨h, y0, z0, rfl⟩ := hp50; cases h
   have hY := hmono _ _ _ _ hle49 hY
   refine J.perm (H' := _ :: (_ ++ _)) List.perm_middle.symm ?_
   refine J.yield [_, _] rfl rfl rfl rfl rfl rfl (hYS k [str w] (by rw [List.getElem?_map, (hw.last (by omega) hwn).1]; rfl) _ H hY) ?_ (fun _ _ _ h => by rcases h with ⟨h, _⟩ | ⟨h, _⟩ <;> cases h) (fun _ _ h => by rcases h with ⟨h, _⟩ | ⟨h, _⟩ <;> cases h)
   intro v3 I3 H3 hle3 hp3
   have hsb := hle3 _ _ hsb
   have hT := hT.mono hle3
   refine J.nil (Ej.keep (H' := H3) (List.Sublist.cons _ (List.Sublist.cons _ (List.Sublist.refl _))) ?_)
   refine Ej.end0 rfl rfl ⟨rfl, ?_⟩
   rcases hp3 with ⟨_, h2⟩ | ⟨_, h2⟩
   · refine .inl ?_
     rw [List.length_map, ← (hw.last (by omega) hwn).2]; exact h2
   · exact .inr h2
  ·
   have hc45p := of_decide_eq_false hc45
   obtain rfl : w = [] := List.length_eq_zero_iff.1 (by have := of_decide_eq_false hc45; omega)
   refine Cj.skip (Ej.keep (H' := H) (List.Sublist.cons _ (List.sublist_append_right _ _)) ?_)
   refine Ej.end0 rfl rfl ⟨rfl, .inl ?_⟩
   rw [List.length_map, ← hw.end0 (by omega)]; exact hY

end Go.Proofs.YtnogdccoekfnoaaGreatDoor
