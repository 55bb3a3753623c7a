/-
  Own texts on the laws of match, joined: the logic, and contracts of functions. Conditions: none.
-/
import Derived.Test.YtadnofaleepkmaaGreatDoorPA8
import Derived.Test.YtadnofaleepkmaaGreatDoorPA7
import Derived.ChangeKeysEq
section
namespace Go.Proofs.YtadnofaleepkmaaGreatDoor
open Go Go.Sx
theorem StrS_sl {T : TypeId} {I : Heap} {l : List (List UInt8)} {v : Value} (h : StrS T I l v) : ∃ p c, v = .slice p l.length c := by
  rcases h with ⟨rfl, rfl⟩ | ⟨b, c, sp, rfl, -, -⟩
  · exact ⟨none, 0, rfl⟩
  · exact ⟨_, c, rfl⟩
/-- Features as they lie. -/
def FeatS (I : Heap) (f : Ke.Feat) (v : Value) : Prop := ∃ mb l c p n, v = .agg #[.map (some mb), str f.title, .slice p f.author.length n, i64 f.year, u8 f.kind] ∧ I mb = some (mobj (fun a : List UInt8 => str a) l c) ∧ SetS l c f.books ∧ StrS 9 I f.author (.slice p f.author.length n)
theorem FeatS.mono {I I' : Heap} {f : Ke.Feat} {v : Value} (h : FeatS I f v) (hle : Le I I') : FeatS I' f v :=
  let ⟨mb, l, c, p, n, h1, h2, h3, h4⟩ := h; ⟨mb, l, c, p, n, h1, hle _ _ h2, h3, h4.mono hle⟩
def isbk (f : Ke.Fld) (ss : List Ke.Sub) : List (List UInt8) := if f.tag = [48, 50, 48] then ss.filterMap Ke.isb else []
theorem isbk_next (f : Ke.Fld) {k : Nat} {x : Ke.Sub} (h : f.subs[k]? = some x) : isbk f (f.subs.take (k + 1)) = isbk f (f.subs.take k) ++ (if (Ke.isbn x.text).2 = true ∧ f.tag = [48, 50, 48] ∧ x.code = 97 then [(Ke.isbn x.text).1] else []) := by
  obtain ⟨hlt, hg⟩ := List.getElem?_eq_some_iff.1 h
  unfold isbk
  by_cases ht : f.tag = [48, 50, 48]
  · rw [if_pos ht, if_pos ht, List.take_succ_eq_append_getElem hlt, hg, List.filterMap_append]
    simp only [ht, true_and, List.filterMap_cons, List.filterMap_nil, Ke.isb]
    by_cases hc : (Ke.isbn x.text).2 = true ∧ x.code = 97
    · rw [if_pos hc, if_pos hc]
    · rw [if_neg hc, if_neg hc]
  · rw [if_neg ht, if_neg ht, if_neg (fun g => ht g.2.1)]; rfl
theorem isbns_next {fs : List Ke.Fld} {k : Nat} {f : Ke.Fld} (h : fs[k]? = some f) : Ke.isbns (fs.take (k + 1)) = Ke.isbns (fs.take k) ++ Ke.isbs f := by
  obtain ⟨hlt, hg⟩ := List.getElem?_eq_some_iff.1 h
  unfold Ke.isbns
  rw [List.take_succ_eq_append_getElem hlt, hg, List.flatMap_append]; simp
set_option maxRecDepth 20000 in
set_option maxHeartbeats 1000000 in
theorem of_ok (fs : List Ke.Fld) (v : Value) (rk rl : UInt8) (hok : FOK fs) (hdl : ∀ f ∈ fs, f.data.length ≤ 2000000) (I : Heap) (hr : RecS I fs v) : Ctr Tryz.prog 35 [recV rk rl v] I [] (fun e I' H' => ∃ w, e = .returned w ∧ FeatS I' (Ke.feat rk fs) w ∧ H' = []) := by
 have hfs := hok.1
 obtain ⟨p, c, rfl, hc, hp⟩ := id hr.1
 have hfo := first_ok [49, 48, 48] hok
 have hal0 := textOf_len (Ke.first fs [49, 48, 48]) [97]
 obtain ⟨p1, n1, c1, hsv1⟩ := first_sv [49, 48, 48] hr
 refine Ctr.of_body Tryz.func35 rfl (by decide) (Nat.le_of_ble_eq_true rfl) ?_
 intro w0 hw0
 refine Cj.seq (Cj.region (J.op rfl (op_box rfl rfl rfl rfl rfl ?_)))
 intro b1 hb1
 refine J.op rfl (op_alloc rfl rfl rfl Tryz.zeroValue67 rfl ?_)
 intro b2 hb2
 refine J.nil (Ej.seq (Cj.join (ι := Nat × Nat) (fun i => w0.heap.size ≤ i.1 ∧ w0.heap.size ≤ i.2) (fun i => [(1, ptr b1 0), (2, ptr b2 0), (3, ptr i.2 0)]) (fun i => I) (fun i => [(b1, cel 26 [u8 rk, u8 rl, .slice p fs.length c]), (b2, cel 67 [.map none, str [], .slice none 0 0, i64 0, u8 0]), (i.1, mobj (fun a : List UInt8 => str a) [] 0), (i.2, cel 67 [.map (some i.1), str (Ke.title fs), .slice none 0 0, i64 (Ke.year fs), u8 rk])]) ?_ (fun hcut => ?_)))
 ·
  rintro ⟨mb, tb⟩ ⟨hmb, htb⟩
  dsimp only at hmb htb ⊢
  refine Cj.seq (Cj.seq (Cj.region (J.z (yl_fieldAddr (off' := 2) rfl rfl Tryz.underlying26 rfl Tryz.sizeOf23 rfl) ?_)))
  refine J.z (yl_load rfl rfl Tryz.isAgg23 (Blk.at 0 rfl) rfl) ?_
  refine J.z (yl_lenSlice rfl rfl Tryz.underlying23) ?_
  refine J.z (yl_move rfl rfl) ?_
  refine J.nil (Ej.seq (Cj.block (Cj.loop (ι := Nat × ML (List UInt8) × Nat) (fun j => j.1 ≤ fs.length ∧ SetS j.2.1 j.2.2 (Ke.isbns (fs.take j.1))) (fun j => fs.length - j.1) (fun j => [(1, ptr b1 0), (2, ptr b2 0), (3, ptr tb 0), (21, .slice p fs.length c), (22, i64 (fs.length : Int)), (23, i64 (j.1 : Int))]) (fun j => _) (fun j => [(b1, cel 26 [u8 rk, u8 rl, .slice p fs.length c]), (b2, cel 67 [.map none, str [], .slice none 0 0, i64 0, u8 0]), (mb, mobj (fun a : List UInt8 => str a) j.2.1 j.2.2), (tb, cel 67 [.map (some mb), str (Ke.title fs), .slice none 0 0, i64 (Ke.year fs), u8 rk])]) (0, [], 0) ⟨Nat.zero_le _, SetS.nil⟩ ⟨rfl, rfl, rfl, rfl, rfl, rfl, trivial⟩ rfl rfl ?_)))
  rintro ⟨j, l, cc⟩ ⟨hj, hset⟩
  dsimp only at hj hset ⊢
  refine Cj.seq (Cj.region (J.z (yl_lss rfl rfl rfl) ?_))
  refine J.nil (Ej.seq (Cj.seq (Cj.cond rfl (fun hc3 => ?_) (fun hc3 => ?_))))
  ·
   have hc3p := of_decide_eq_true hc3
   have hlt : j < fs.length := by omega
   obtain ⟨f, hget⟩ : ∃ f, fs[j]? = some f := ⟨_, List.getElem?_eq_getElem hlt⟩
   have hnx := isbns_next hget
   have hfm := List.mem_of_getElem? hget
   have hfk := hok.2 f hfm
   obtain ⟨p2, c2, hsv, hc2, hp2⟩ := hr.2 f hfm
   obtain ⟨fb, fo, fcs, fty, ffr, sp, rfl, hfb, hfd⟩ := hp (ne_nil_of hlt)
   refine Cj.skip (Ej.seq (Cj.seq (Cj.block (Cj.seq (Cj.region (J.z (yl_indexAddr (off' := fo + j * 4) rfl rfl rfl Tryz.underlying23 Tryz.sizeOf35 (by omega) (by omega) (by simp)) ?_))))))
   refine J.z (yl_loadAgg rfl rfl Tryz.isAgg35 Tryz.sizeOf35 (Blk.imm hfb) (row_from fldC_len hfd hget) rfl) ?_
   refine J.op rfl (op_alloc rfl rfl rfl Tryz.zeroValue35 rfl ?_)
   intro b4 hb4
   refine J.op rfl (op_store 0 rfl rfl rfl rfl rfl (fldC_one hsv) Tryz.sizeOf35 rfl rfl (LSpl.c (LSpl.c (LSpl.c (LSpl.c LSpl.z)))) LSet.z ?_)
   refine J.nil (Ej.seq (Cj.seq (Cj.region (J.z (yl_fieldAddr (off' := 3) rfl rfl Tryz.underlying35 rfl Tryz.sizeOf33 rfl) ?_))))
   refine J.z (yl_load rfl rfl Tryz.isAgg33 (Blk.at 0 rfl) rfl) ?_
   refine J.eqv 28 rfl (show _ = .slice p2 f.subs.length c2 from hsv) ?_
   refine J.z (yl_lenSlice rfl rfl Tryz.underlying33) ?_
   refine J.z (yl_move rfl rfl) ?_
   refine J.nil (Ej.seq (Cj.block (Cj.loop (ι := Nat × ML (List UInt8) × Nat) (fun k => k.1 ≤ f.subs.length ∧ SetS k.2.1 k.2.2 (Ke.isbns (fs.take j) ++ isbk f (f.subs.take k.1))) (fun k => f.subs.length - k.1) (fun k => [(1, ptr b1 0), (2, ptr b2 0), (3, ptr tb 0), (5, ptr b4 0), (21, .slice (some ⟨fb, fo, none⟩) fs.length c), (22, i64 (fs.length : Int)), (23, i64 (j : Int)), (28, .slice p2 f.subs.length c2), (29, i64 (f.subs.length : Int)), (30, i64 (k.1 : Int))]) (fun k => _) (fun k => [(b4, cel 35 (fldC f)), (b1, cel 26 [u8 rk, u8 rl, .slice (some ⟨fb, fo, none⟩) fs.length c]), (b2, cel 67 [.map none, str [], .slice none 0 0, i64 0, u8 0]), (mb, mobj (fun a : List UInt8 => str a) k.2.1 k.2.2), (tb, cel 67 [.map (some mb), str (Ke.title fs), .slice none 0 0, i64 (Ke.year fs), u8 rk])]) (0, l, cc) ⟨Nat.zero_le _, by dsimp only; rw [show isbk f (f.subs.take 0) = [] from by unfold isbk; split <;> rfl, List.append_nil]; exact hset⟩ ⟨rfl, rfl, rfl, rfl, rfl, rfl, rfl, rfl, rfl, rfl, trivial⟩ rfl rfl ?_)))
   rintro ⟨k, l, cc⟩ ⟨hk, hset⟩
   dsimp only at hk hset ⊢
   refine Cj.seq (Cj.region (J.z (yl_lss rfl rfl rfl) ?_))
   refine J.nil (Ej.seq (Cj.seq (Cj.cond rfl (fun hc5 => ?_) (fun hc5 => ?_))))
   ·
    have hc5p := of_decide_eq_true hc5
    have hklt : k < f.subs.length := by omega
    obtain ⟨x, hsget⟩ : ∃ x, f.subs[k]? = some x := ⟨_, List.getElem?_eq_getElem hklt⟩
    obtain ⟨sbk, so, scs, sty, sfr, sp2, rfl, hsbk, hsd⟩ := hp2 (ne_nil_of hklt)
    have hbn := isbk_next f hsget
    have hxl := text_le (List.mem_of_getElem? hsget)
    refine Cj.skip (Ej.seq (Cj.seq (Cj.block (Cj.seq (Cj.region (J.z (yl_indexAddr (off' := so + k * 2) rfl rfl rfl Tryz.underlying33 Tryz.sizeOf47 (by omega) (by omega) (by simp)) ?_))))))
    refine J.z (yl_loadAgg rfl rfl Tryz.isAgg47 Tryz.sizeOf47 (Blk.imm hsbk) (row_from subC_len hsd hsget) rfl) ?_
    refine J.op rfl (op_alloc rfl rfl rfl Tryz.zeroValue47 rfl ?_)
    intro b6 hb6
    refine J.op rfl (op_store 0 rfl rfl rfl rfl rfl rfl Tryz.sizeOf47 rfl rfl (LSpl.c (LSpl.c LSpl.z)) LSet.z ?_)
    refine J.nil (Ej.seq (Cj.seq (Cj.region (J.z (yl_fieldAddr (off' := 1) rfl rfl Tryz.underlying47 rfl Tryz.sizeOf9 rfl) ?_))))
    refine J.z (yl_load rfl rfl Tryz.isAgg9 (Blk.at 0 rfl) rfl) ?_
    refine J.op rfl (op_pure rfl rfl rfl rfl rfl (Isbn_ok x.text (by omega) _) ?_)
    refine J.z (yl_move rfl rfl) ?_
    refine J.z (yl_extract rfl rfl rfl) ?_
    refine J.z (yl_extract rfl rfl rfl) ?_
    refine J.z (yl_assign rfl rfl) ?_
    refine J.z (yl_assign rfl rfl) ?_
    refine J.nil (Ej.seq (Cj.seq (Cj.region (J.z (yl_move rfl rfl) ?_))))
    refine J.z (yl_move rfl rfl) ?_
    refine J.split 41 rfl (fun hg7 => ?_) (fun hg7 => ?_)
    ·
     have hi : (Ke.isbn x.text).2 = true := hg7
     refine J.opG 1 41 true _ rfl rfl rfl hg7 (op_yld (yl_fieldAddr (off' := 0) rfl rfl Tryz.underlying35 rfl Tryz.sizeOf9 rfl) rfl rfl ?_)
     refine J.opG 1 41 true _ rfl rfl rfl hg7 (op_yld (yl_load rfl rfl Tryz.isAgg9 (Blk.at 1 rfl) rfl) rfl rfl ?_)
     refine J.opG 1 41 true _ rfl rfl rfl hg7 (op_yld (yl_eqlStr rfl rfl rfl) rfl rfl ?_)
     refine J.z (yl_pick1 rfl rfl hg7 rfl) ?_
     refine J.z (yl_move rfl rfl) ?_
     refine J.split 46 rfl (fun hg8 => ?_) (fun hg8 => ?_)
     ·
      have hg8p := eq_of_beq hg8
      have htg : f.tag = [48, 50, 48] := eq_of_beq hg8
      refine J.opG 6 46 true _ rfl rfl rfl hg8 (op_yld (yl_fieldAddr (off' := 0) rfl rfl Tryz.underlying47 rfl Tryz.sizeOf5 rfl) rfl rfl ?_)
      refine J.opG 6 46 true _ rfl rfl rfl hg8 (op_yld (yl_load rfl rfl Tryz.isAgg5 (Blk.at 0 rfl) rfl) rfl rfl ?_)
      refine J.opG 6 46 true _ rfl rfl rfl hg8 (op_yld (yl_eql rfl rfl rfl) rfl rfl ?_)
      refine J.z (yl_pick1 rfl rfl hg8 rfl) ?_
      refine J.nil (Ej.seq (Cj.cond rfl (fun hc9 => ?_) (fun hc9 => ?_)))
      ·
       have hc9p := eq_of_beq hc9
       have hcd : x.code = 97 := UInt8.toNat_inj.1 (by have h := eq_of_beq hc9; rw [show (97 : UInt8).toNat = 97 from rfl]; omega)
       refine Cj.region (J.z (yl_fieldAddr (off' := 0) rfl rfl Tryz.underlying67 rfl Tryz.sizeOf65 rfl) ?_)
       refine J.z (yl_load rfl rfl Tryz.isAgg65 (Blk.at 5 rfl) rfl) ?_
       refine J.z (yl_move rfl rfl) ?_
       refine J.op rfl (op_insert (kv := (fun a : List UInt8 => str a)) (a := (Ke.isbn x.text).1) 4 (.inr rfl) rfl rfl rfl rfl rfl Tryz.underlying65 (KeyK.text Tryz.underlying9) rfl (LSet.s (LSet.s (LSet.s (LSet.s LSet.z)))) ?_)
       refine J.nil (Ej.blkNormal (Ej.seq (Cj.region (J.z (yl_add rfl rfl rfl (w64 (by omega))) ?_))))
       refine J.z (yl_move rfl rfl) ?_
       refine J.nil (Ej.keep (Keeps.d (Keeps.k (Keeps.k (Keeps.k (Keeps.k (Keeps.k Keeps.n)))))) ?_)
       refine Ej.round (k + 1, mset l (Ke.isbn x.text).1 (.bool true) cc, mclk l (Ke.isbn x.text).1 cc) ⟨by dsimp only; omega, by dsimp only; rw [hbn, if_pos ⟨hi, htg, hcd⟩, ← List.append_assoc]; exact hset.put _⟩ (by dsimp only; omega) ⟨rfl, rfl, rfl, rfl, rfl, rfl, rfl, rfl, rfl, rfl, trivial⟩ rfl rfl
      ·
       have hc9p := ne_of_beq_false hc9
       have hno : ¬ ((Ke.isbn x.text).2 = true ∧ f.tag = [48, 50, 48] ∧ x.code = 97) := fun g => ne_of_beq_false hc9 (by rw [g.2.2]; rfl)
       refine Cj.skip (Ej.blkNormal (Ej.seq (Cj.region (J.z (yl_add rfl rfl rfl (w64 (by omega))) ?_))))
       refine J.z (yl_move rfl rfl) ?_
       refine J.nil (Ej.keep (Keeps.d (Keeps.k (Keeps.k (Keeps.k (Keeps.k (Keeps.k Keeps.n)))))) ?_)
       refine Ej.round (k + 1, l, cc) ⟨by dsimp only; omega, by dsimp only; rw [hbn, if_neg hno, List.append_nil]; exact hset⟩ (by dsimp only; omega) ⟨rfl, rfl, rfl, rfl, rfl, rfl, rfl, rfl, rfl, rfl, trivial⟩ rfl rfl
     ·
      have hg8p := ne_of_beq_false hg8
      have hno : ¬ ((Ke.isbn x.text).2 = true ∧ f.tag = [48, 50, 48] ∧ x.code = 97) := fun g => ne_of_beq_false hg8 g.2.1
      refine J.skip 6 46 47 true _ rfl rfl rfl hg8 rfl rfl ?_
      refine J.skip 6 46 48 true _ rfl rfl rfl hg8 rfl rfl ?_
      refine J.skip 6 46 49 true _ rfl rfl rfl hg8 rfl rfl ?_
      refine J.z (yl_pick0 rfl rfl hg8 rfl) ?_
      refine J.nil (Ej.seq (Cj.cond rfl (fun hc10 => Bool.noConfusion (Eq.trans (Eq.symm rfl) hc10)) (fun hc10 => ?_)))
      refine Cj.skip (Ej.blkNormal (Ej.seq (Cj.region (J.z (yl_add rfl rfl rfl (w64 (by omega))) ?_))))
      refine J.z (yl_move rfl rfl) ?_
      refine J.nil (Ej.keep (Keeps.d (Keeps.k (Keeps.k (Keeps.k (Keeps.k (Keeps.k Keeps.n)))))) ?_)
      refine Ej.round (k + 1, l, cc) ⟨by dsimp only; omega, by dsimp only; rw [hbn, if_neg hno, List.append_nil]; exact hset⟩ (by dsimp only; omega) ⟨rfl, rfl, rfl, rfl, rfl, rfl, rfl, rfl, rfl, rfl, trivial⟩ rfl rfl
    ·
     have hno : ¬ ((Ke.isbn x.text).2 = true ∧ f.tag = [48, 50, 48] ∧ x.code = 97) := fun g => by have h := hg7; rw [g.1] at h; cases h
     refine J.skip 1 41 42 true _ rfl rfl rfl hg7 rfl rfl ?_
     refine J.skip 1 41 43 true _ rfl rfl rfl hg7 rfl rfl ?_
     refine J.skip 1 41 44 true _ rfl rfl rfl hg7 rfl rfl ?_
     refine J.z (yl_pick0 rfl rfl hg7 rfl) ?_
     refine J.z (yl_move rfl rfl) ?_
     refine J.skip 6 46 47 true _ rfl rfl rfl rfl rfl rfl ?_
     refine J.skip 6 46 48 true _ rfl rfl rfl rfl rfl rfl ?_
     refine J.skip 6 46 49 true _ rfl rfl rfl rfl rfl rfl ?_
     refine J.z (yl_pick0 rfl rfl rfl rfl) ?_
     refine J.nil (Ej.seq (Cj.cond rfl (fun hc11 => Bool.noConfusion (Eq.trans (Eq.symm rfl) hc11)) (fun hc11 => ?_)))
     refine Cj.skip (Ej.blkNormal (Ej.seq (Cj.region (J.z (yl_add rfl rfl rfl (w64 (by omega))) ?_))))
     refine J.z (yl_move rfl rfl) ?_
     refine J.nil (Ej.keep (Keeps.d (Keeps.k (Keeps.k (Keeps.k (Keeps.k (Keeps.k Keeps.n)))))) ?_)
     refine Ej.round (k + 1, l, cc) ⟨by dsimp only; omega, by dsimp only; rw [hbn, if_neg hno, List.append_nil]; exact hset⟩ (by dsimp only; omega) ⟨rfl, rfl, rfl, rfl, rfl, rfl, rfl, rfl, rfl, rfl, trivial⟩ rfl rfl
   ·
    have hc5p := of_decide_eq_false hc5
    have hik : Ke.isbns (fs.take j) ++ Ke.isbs f = Ke.isbns (fs.take j) ++ isbk f (f.subs.take k) := by rw [show f.subs.take k = f.subs from List.take_of_length_le (by omega)]; rfl
    refine Cj.exit (Ej.seqExit (Ej.loopExit (Ej.blkExit (Ej.blkNormal (Ej.seq (Cj.region (J.z (yl_add rfl rfl rfl (w64 (by omega))) ?_)))))))
    refine J.z (yl_move rfl rfl) ?_
    refine J.nil (Ej.keep (Keeps.d (Keeps.k (Keeps.k (Keeps.k (Keeps.k Keeps.n))))) ?_)
    refine Ej.round (j + 1, l, cc) ⟨by dsimp only; omega, by dsimp only; rw [hnx, hik]; exact hset⟩ (by dsimp only; omega) ⟨rfl, rfl, rfl, rfl, rfl, rfl, trivial⟩ rfl rfl
  ·
   have hc3p := of_decide_eq_false hc3
   have hfull : fs.take j = fs := List.take_of_length_le (by omega)
   rw [hfull] at hset
   refine Cj.exit (Ej.seqExit (Ej.loopExit (Ej.blkExit (Ej.seq (Cj.seq (Cj.pull (Pull.s (Pull.s Pull.z)) ?_))))))
   refine Cj.persist hmb (fun I9 hle9 hmap => ?_)
   have hr := hr.mono hle9
   refine Cj.region (J.z (yl_loadAgg rfl rfl Tryz.isAgg26 Tryz.sizeOf26 (Blk.at 0 rfl) rfl rfl) ?_)
   refine J.op rfl (op_call (H1 := []) rfl rfl rfl rfl rfl (mfirst_ok fs _ rk rl [49, 48, 48] hfs _ hr) ?_ (fun _ _ _ _ h => by cases h.1) (fun _ _ h => by cases h.1))
   intro v12 I13 H14 hle15 hp16
   have hr := hr.mono hle15
   have hmap := hle15 _ _ hmap
   obtain ⟨h, rfl⟩ := hp16; cases h
   refine J.z (yl_move rfl rfl) ?_
   refine J.z (yl_extract rfl rfl rfl) ?_
   refine J.z (yl_extract rfl rfl rfl) ?_
   refine J.op rfl (op_alloc rfl rfl rfl Tryz.zeroValue35 rfl ?_)
   intro b17 hb17
   refine J.op rfl (op_store 0 rfl rfl rfl rfl rfl (fldC_one hsv1) Tryz.sizeOf35 rfl rfl (LSpl.c (LSpl.c (LSpl.c (LSpl.c LSpl.z)))) LSet.z ?_)
   refine J.z (yl_assign rfl rfl) ?_
   refine J.nil (Ej.seq (Cj.seq (Cj.region (J.z (yl_loadAgg rfl rfl Tryz.isAgg35 Tryz.sizeOf35 (Blk.at 0 rfl) rfl rfl) ?_))))
   refine J.op rfl (op_pure rfl rfl rfl rfl rfl (mtext_ok (Ke.first fs [49, 48, 48]) 97 hfo.1 hfo.2.1 _ (first_row [49, 48, 48] hr)) ?_)
   refine J.op rfl (op_call (H1 := []) rfl rfl rfl rfl rfl (Words_ok (Ke.textOf (Ke.first fs [49, 48, 48]) [97]) (by omega) _) ?_ (fun _ _ _ _ h => by obtain ⟨_, h, _⟩ := h; cases h) (fun _ _ h => by obtain ⟨_, h, _⟩ := h; cases h))
   intro v18 I19 H20 hle21 hp22
   have hr := hr.mono hle21
   have hmap := hle21 _ _ hmap
   obtain ⟨vaw, h, aw, rfl⟩ := hp22; cases h
   obtain ⟨pa, ca, rfl⟩ := StrS_sl aw
   refine J.z (yl_fieldAddr (off' := 2) rfl rfl Tryz.underlying67 rfl Tryz.sizeOf31 rfl) ?_
   refine J.op rfl (op_store 3 rfl rfl rfl rfl rfl rfl Tryz.sizeOf31 rfl rfl (LSpl.s (LSpl.s (LSpl.c LSpl.z))) (LSet.s (LSet.s (LSet.s LSet.z))) ?_)
   refine J.nil (Ej.seq (Cj.seq (Cj.region (J.z (yl_loadAgg rfl rfl Tryz.isAgg67 Tryz.sizeOf67 (Blk.at 3 rfl) rfl rfl) ?_))))
   refine J.op rfl (op_store 2 rfl rfl rfl rfl rfl rfl Tryz.sizeOf67 rfl rfl (LSpl.c (LSpl.c (LSpl.c (LSpl.c (LSpl.c LSpl.z))))) (LSet.s (LSet.s LSet.z)) ?_)
   refine J.nil (Ej.seq (Cj.ret (Ej.retC (Keeps.d (Keeps.d (Keeps.d (Keeps.d Keeps.n)))) rfl rfl rfl (Blk.at 2 rfl) Tryz.isAgg67 Tryz.sizeOf67 rfl ?_)))
   exact ⟨_, rfl, ⟨mb, l, cc, pa, ca, rfl, hmap, hset, aw⟩, rfl⟩
 ·
  refine Cj.drawSel [0, 1] [] 10 (by kernel_rfl) ?_
  refine JA.fix ⟨(HSub.c 0 rfl (HSub.c 1 rfl HSub.n)), CSub.n, (Le.refl _)⟩ (fun fx23 => ?_)
  refine JA.tk 1 rfl fx23 (yl_loadAgg rfl rfl Tryz.isAgg26 Tryz.sizeOf26 (Blk.atC 1 rfl) rfl rfl) ?_
  refine JA.tk 3 rfl fx23 (yl_loadAgg rfl rfl Tryz.isAgg26 Tryz.sizeOf26 (Blk.atC 1 rfl) rfl rfl) ?_
  refine JA.tk 5 rfl fx23 (yl_fieldAddr (off' := 0) rfl rfl Tryz.underlying26 rfl Tryz.sizeOf5 rfl) ?_
  refine JA.tk 6 rfl fx23 (yl_load rfl rfl Tryz.isAgg5 (Blk.atC 1 rfl) rfl) ?_
  refine JA.all [0, 2, 8] (by kernel_rfl) (by simp) ?_
  intro i hi
  simp only [List.mem_cons, List.not_mem_nil, or_false] at hi
  rcases hi with rfl | rfl | rfl
  ·
   refine ⟨_, rfl, rfl, ?_⟩
   refine op_makeMap rfl rfl rfl ?_
   intro b24 hb24
   refine ⟨⟨(Le.refl _), (HSub.c 1 rfl (HSub.c 2 rfl HSub.n)), CSub.n⟩, ?_⟩
   refine JA.all [2, 8] (by kernel_rfl) (by simp) ?_
   intro i hi
   simp only [List.mem_cons, List.not_mem_nil, or_false] at hi
   rcases hi with rfl | rfl
   ·
    refine ⟨_, rfl, rfl, ?_⟩
    refine op_pure rfl rfl rfl rfl rfl (Title_ok fs _ rk rl hok _ hr) ?_
    refine ⟨⟨(Le.refl _), (HSub.c 1 rfl (HSub.c 2 rfl HSub.n)), CSub.n⟩, ?_⟩
    refine JA.all [4, 8] (by kernel_rfl) (by simp) ?_
    intro i hi
    simp only [List.mem_cons, List.not_mem_nil, or_false] at hi
    rcases hi with rfl | rfl
    ·
     refine ⟨_, rfl, rfl, ?_⟩
     refine op_pure rfl rfl rfl rfl rfl (myear_ok fs _ rk rl hok hdl _ hr) ?_
     refine ⟨⟨(Le.refl _), (HSub.c 1 rfl (HSub.c 2 rfl HSub.n)), CSub.n⟩, ?_⟩
     refine JA.fix ⟨(HSub.c 1 rfl (HSub.c 2 rfl HSub.n)), CSub.n, (Le.refl _)⟩ (fun fx25 => ?_)
     refine JA.tk 7 rfl fx25 (yl_buildS (pl := #[(0, 1), (1, 1), (2, 1), (3, 1), (4, 1)]) rfl rfl Tryz.zeroValue67 rfl Tryz.underlying67 (fun w => by simp [Tryz.sizeOf3, Tryz.sizeOf31, Tryz.sizeOf5, Tryz.sizeOf65, Tryz.sizeOf9]) (LBld.part rfl rfl rfl (LSpl.c LSpl.z) (LBld.part rfl rfl rfl (LSpl.s (LSpl.c LSpl.z)) (LBld.part rfl rfl rfl (LSpl.s (LSpl.s (LSpl.s (LSpl.c LSpl.z)))) (LBld.part rfl rfl rfl (LSpl.s (LSpl.s (LSpl.s (LSpl.s (LSpl.c LSpl.z))))) LBld.none))))) ?_
     refine JA.step 8 (by kernel_rfl) rfl rfl (op_alloc rfl rfl rfl Tryz.zeroValue67 rfl ?_)
     intro b26 hb26
     refine ⟨⟨(Le.refl _), (HSub.c 2 rfl (HSub.c 3 rfl HSub.n)), CSub.n⟩, ?_⟩
     refine JA.step 9 (by kernel_rfl) rfl rfl (op_store 0 rfl rfl rfl rfl rfl rfl Tryz.sizeOf67 rfl rfl (LSpl.c (LSpl.c (LSpl.c (LSpl.c (LSpl.c LSpl.z))))) LSet.z ?_)
     refine ⟨⟨(Le.refl _), (HSub.c 2 rfl (HSub.c 3 rfl HSub.n)), CSub.n⟩, ?_⟩
     refine JA.done (by kernel_rfl) ?_
     refine Ej.keep (Keeps.k (Keeps.k (Keeps.k (Keeps.k Keeps.n)))) ?_
     refine Ej.pull Pull.z ?_
     refine Ej.pull (Pull.s Pull.z) ?_
     refine Ej.pull (Pull.s (Pull.s Pull.z)) ?_
     refine Ej.pull (Pull.s (Pull.s (Pull.s Pull.z))) ?_
     exact hcut (b24, b26) _ _ _ ⟨hb24, hb26⟩ ⟨rfl, rfl, rfl, trivial⟩ rfl rfl
    ·
     refine ⟨_, rfl, rfl, ?_⟩
     refine op_alloc rfl rfl rfl Tryz.zeroValue67 rfl ?_
     intro b27 hb27
     refine ⟨⟨(Le.refl _), (HSub.c 2 rfl (HSub.c 3 rfl HSub.n)), CSub.n⟩, ?_⟩
     refine JA.step 4 (by kernel_rfl) rfl rfl (op_pure rfl rfl rfl rfl rfl (myear_ok fs _ rk rl hok hdl _ hr) ?_)
     refine ⟨⟨(Le.refl _), (HSub.c 2 rfl (HSub.c 3 rfl HSub.n)), CSub.n⟩, ?_⟩
     refine JA.fix ⟨(HSub.c 2 rfl (HSub.c 3 rfl HSub.n)), CSub.n, (Le.refl _)⟩ (fun fx28 => ?_)
     refine JA.tk 7 rfl fx28 (yl_buildS (pl := #[(0, 1), (1, 1), (2, 1), (3, 1), (4, 1)]) rfl rfl Tryz.zeroValue67 rfl Tryz.underlying67 (fun w => by simp [Tryz.sizeOf3, Tryz.sizeOf31, Tryz.sizeOf5, Tryz.sizeOf65, Tryz.sizeOf9]) (LBld.part rfl rfl rfl (LSpl.c LSpl.z) (LBld.part rfl rfl rfl (LSpl.s (LSpl.c LSpl.z)) (LBld.part rfl rfl rfl (LSpl.s (LSpl.s (LSpl.s (LSpl.c LSpl.z)))) (LBld.part rfl rfl rfl (LSpl.s (LSpl.s (LSpl.s (LSpl.s (LSpl.c LSpl.z))))) LBld.none))))) ?_
     refine JA.step 9 (by kernel_rfl) rfl rfl (op_store 0 rfl rfl rfl rfl rfl rfl Tryz.sizeOf67 rfl rfl (LSpl.c (LSpl.c (LSpl.c (LSpl.c (LSpl.c LSpl.z))))) LSet.z ?_)
     refine ⟨⟨(Le.refl _), (HSub.c 2 rfl (HSub.c 3 rfl HSub.n)), CSub.n⟩, ?_⟩
     refine JA.done (by kernel_rfl) ?_
     refine Ej.keep (Keeps.k (Keeps.k (Keeps.k (Keeps.k Keeps.n)))) ?_
     refine Ej.pull Pull.z ?_
     refine Ej.pull (Pull.s Pull.z) ?_
     refine Ej.pull (Pull.s (Pull.s Pull.z)) ?_
     refine Ej.pull (Pull.s (Pull.s (Pull.s Pull.z))) ?_
     exact hcut (b24, b27) _ _ _ ⟨hb24, hb27⟩ ⟨rfl, rfl, rfl, trivial⟩ rfl rfl
   ·
    refine ⟨_, rfl, rfl, ?_⟩
    refine op_alloc rfl rfl rfl Tryz.zeroValue67 rfl ?_
    intro b29 hb29
    refine ⟨⟨(Le.refl _), (HSub.c 2 rfl (HSub.c 3 rfl HSub.n)), CSub.n⟩, ?_⟩
    refine JA.step 2 (by kernel_rfl) rfl rfl (op_pure rfl rfl rfl rfl rfl (Title_ok fs _ rk rl hok _ hr) ?_)
    refine ⟨⟨(Le.refl _), (HSub.c 2 rfl (HSub.c 3 rfl HSub.n)), CSub.n⟩, ?_⟩
    refine JA.step 4 (by kernel_rfl) rfl rfl (op_pure rfl rfl rfl rfl rfl (myear_ok fs _ rk rl hok hdl _ hr) ?_)
    refine ⟨⟨(Le.refl _), (HSub.c 2 rfl (HSub.c 3 rfl HSub.n)), CSub.n⟩, ?_⟩
    refine JA.fix ⟨(HSub.c 2 rfl (HSub.c 3 rfl HSub.n)), CSub.n, (Le.refl _)⟩ (fun fx30 => ?_)
    refine JA.tk 7 rfl fx30 (yl_buildS (pl := #[(0, 1), (1, 1), (2, 1), (3, 1), (4, 1)]) rfl rfl Tryz.zeroValue67 rfl Tryz.underlying67 (fun w => by simp [Tryz.sizeOf3, Tryz.sizeOf31, Tryz.sizeOf5, Tryz.sizeOf65, Tryz.sizeOf9]) (LBld.part rfl rfl rfl (LSpl.c LSpl.z) (LBld.part rfl rfl rfl (LSpl.s (LSpl.c LSpl.z)) (LBld.part rfl rfl rfl (LSpl.s (LSpl.s (LSpl.s (LSpl.c LSpl.z)))) (LBld.part rfl rfl rfl (LSpl.s (LSpl.s (LSpl.s (LSpl.s (LSpl.c LSpl.z))))) LBld.none))))) ?_
    refine JA.step 9 (by kernel_rfl) rfl rfl (op_store 0 rfl rfl rfl rfl rfl rfl Tryz.sizeOf67 rfl rfl (LSpl.c (LSpl.c (LSpl.c (LSpl.c (LSpl.c LSpl.z))))) LSet.z ?_)
    refine ⟨⟨(Le.refl _), (HSub.c 2 rfl (HSub.c 3 rfl HSub.n)), CSub.n⟩, ?_⟩
    refine JA.done (by kernel_rfl) ?_
    refine Ej.keep (Keeps.k (Keeps.k (Keeps.k (Keeps.k Keeps.n)))) ?_
    refine Ej.pull Pull.z ?_
    refine Ej.pull (Pull.s Pull.z) ?_
    refine Ej.pull (Pull.s (Pull.s Pull.z)) ?_
    refine Ej.pull (Pull.s (Pull.s (Pull.s Pull.z))) ?_
    exact hcut (b24, b29) _ _ _ ⟨hb24, hb29⟩ ⟨rfl, rfl, rfl, trivial⟩ rfl rfl
  ·
   refine ⟨_, rfl, rfl, ?_⟩
   refine op_pure rfl rfl rfl rfl rfl (Title_ok fs _ rk rl hok _ hr) ?_
   refine ⟨⟨(Le.refl _), (HSub.c 0 rfl (HSub.c 1 rfl HSub.n)), CSub.n⟩, ?_⟩
   refine JA.all [0, 4, 8] (by kernel_rfl) (by simp) ?_
   intro i hi
   simp only [List.mem_cons, List.not_mem_nil, or_false] at hi
   rcases hi with rfl | rfl | rfl
   ·
    refine ⟨_, rfl, rfl, ?_⟩
    refine op_makeMap rfl rfl rfl ?_
    intro b31 hb31
    refine ⟨⟨(Le.refl _), (HSub.c 1 rfl (HSub.c 2 rfl HSub.n)), CSub.n⟩, ?_⟩
    refine JA.all [4, 8] (by kernel_rfl) (by simp) ?_
    intro i hi
    simp only [List.mem_cons, List.not_mem_nil, or_false] at hi
    rcases hi with rfl | rfl
    ·
     refine ⟨_, rfl, rfl, ?_⟩
     refine op_pure rfl rfl rfl rfl rfl (myear_ok fs _ rk rl hok hdl _ hr) ?_
     refine ⟨⟨(Le.refl _), (HSub.c 1 rfl (HSub.c 2 rfl HSub.n)), CSub.n⟩, ?_⟩
     refine JA.fix ⟨(HSub.c 1 rfl (HSub.c 2 rfl HSub.n)), CSub.n, (Le.refl _)⟩ (fun fx32 => ?_)
     refine JA.tk 7 rfl fx32 (yl_buildS (pl := #[(0, 1), (1, 1), (2, 1), (3, 1), (4, 1)]) rfl rfl Tryz.zeroValue67 rfl Tryz.underlying67 (fun w => by simp [Tryz.sizeOf3, Tryz.sizeOf31, Tryz.sizeOf5, Tryz.sizeOf65, Tryz.sizeOf9]) (LBld.part rfl rfl rfl (LSpl.c LSpl.z) (LBld.part rfl rfl rfl (LSpl.s (LSpl.c LSpl.z)) (LBld.part rfl rfl rfl (LSpl.s (LSpl.s (LSpl.s (LSpl.c LSpl.z)))) (LBld.part rfl rfl rfl (LSpl.s (LSpl.s (LSpl.s (LSpl.s (LSpl.c LSpl.z))))) LBld.none))))) ?_
     refine JA.step 8 (by kernel_rfl) rfl rfl (op_alloc rfl rfl rfl Tryz.zeroValue67 rfl ?_)
     intro b33 hb33
     refine ⟨⟨(Le.refl _), (HSub.c 2 rfl (HSub.c 3 rfl HSub.n)), CSub.n⟩, ?_⟩
     refine JA.step 9 (by kernel_rfl) rfl rfl (op_store 0 rfl rfl rfl rfl rfl rfl Tryz.sizeOf67 rfl rfl (LSpl.c (LSpl.c (LSpl.c (LSpl.c (LSpl.c LSpl.z))))) LSet.z ?_)
     refine ⟨⟨(Le.refl _), (HSub.c 2 rfl (HSub.c 3 rfl HSub.n)), CSub.n⟩, ?_⟩
     refine JA.done (by kernel_rfl) ?_
     refine Ej.keep (Keeps.k (Keeps.k (Keeps.k (Keeps.k Keeps.n)))) ?_
     refine Ej.pull Pull.z ?_
     refine Ej.pull (Pull.s Pull.z) ?_
     refine Ej.pull (Pull.s (Pull.s Pull.z)) ?_
     refine Ej.pull (Pull.s (Pull.s (Pull.s Pull.z))) ?_
     exact hcut (b31, b33) _ _ _ ⟨hb31, hb33⟩ ⟨rfl, rfl, rfl, trivial⟩ rfl rfl
    ·
     refine ⟨_, rfl, rfl, ?_⟩
     refine op_alloc rfl rfl rfl Tryz.zeroValue67 rfl ?_
     intro b34 hb34
     refine ⟨⟨(Le.refl _), (HSub.c 2 rfl (HSub.c 3 rfl HSub.n)), CSub.n⟩, ?_⟩
     refine JA.step 4 (by kernel_rfl) rfl rfl (op_pure rfl rfl rfl rfl rfl (myear_ok fs _ rk rl hok hdl _ hr) ?_)
     refine ⟨⟨(Le.refl _), (HSub.c 2 rfl (HSub.c 3 rfl HSub.n)), CSub.n⟩, ?_⟩
     refine JA.fix ⟨(HSub.c 2 rfl (HSub.c 3 rfl HSub.n)), CSub.n, (Le.refl _)⟩ (fun fx35 => ?_)
     refine JA.tk 7 rfl fx35 (yl_buildS (pl := #[(0, 1), (1, 1), (2, 1), (3, 1), (4, 1)]) rfl rfl Tryz.zeroValue67 rfl Tryz.underlying67 (fun w => by simp [Tryz.sizeOf3, Tryz.sizeOf31, Tryz.sizeOf5, Tryz.sizeOf65, Tryz.sizeOf9]) (LBld.part rfl rfl rfl (LSpl.c LSpl.z) (LBld.part rfl rfl rfl (LSpl.s (LSpl.c LSpl.z)) (LBld.part rfl rfl rfl (LSpl.s (LSpl.s (LSpl.s (LSpl.c LSpl.z)))) (LBld.part rfl rfl rfl (LSpl.s (LSpl.s (LSpl.s (LSpl.s (LSpl.c LSpl.z))))) LBld.none))))) ?_
     refine JA.step 9 (by kernel_rfl) rfl rfl (op_store 0 rfl rfl rfl rfl rfl rfl Tryz.sizeOf67 rfl rfl (LSpl.c (LSpl.c (LSpl.c (LSpl.c (LSpl.c LSpl.z))))) LSet.z ?_)
     refine ⟨⟨(Le.refl _), (HSub.c 2 rfl (HSub.c 3 rfl HSub.n)), CSub.n⟩, ?_⟩
     refine JA.done (by kernel_rfl) ?_
     refine Ej.keep (Keeps.k (Keeps.k (Keeps.k (Keeps.k Keeps.n)))) ?_
     refine Ej.pull Pull.z ?_
     refine Ej.pull (Pull.s Pull.z) ?_
     refine Ej.pull (Pull.s (Pull.s Pull.z)) ?_
     refine Ej.pull (Pull.s (Pull.s (Pull.s Pull.z))) ?_
     exact hcut (b31, b34) _ _ _ ⟨hb31, hb34⟩ ⟨rfl, rfl, rfl, trivial⟩ rfl rfl
   ·
    refine ⟨_, rfl, rfl, ?_⟩
    refine op_pure rfl rfl rfl rfl rfl (myear_ok fs _ rk rl hok hdl _ hr) ?_
    refine ⟨⟨(Le.refl _), (HSub.c 0 rfl (HSub.c 1 rfl HSub.n)), CSub.n⟩, ?_⟩
    refine JA.all [0, 8] (by kernel_rfl) (by simp) ?_
    intro i hi
    simp only [List.mem_cons, List.not_mem_nil, or_false] at hi
    rcases hi with rfl | rfl
    ·
     refine ⟨_, rfl, rfl, ?_⟩
     refine op_makeMap rfl rfl rfl ?_
     intro b36 hb36
     refine ⟨⟨(Le.refl _), (HSub.c 1 rfl (HSub.c 2 rfl HSub.n)), CSub.n⟩, ?_⟩
     refine JA.fix ⟨(HSub.c 1 rfl (HSub.c 2 rfl HSub.n)), CSub.n, (Le.refl _)⟩ (fun fx37 => ?_)
     refine JA.tk 7 rfl fx37 (yl_buildS (pl := #[(0, 1), (1, 1), (2, 1), (3, 1), (4, 1)]) rfl rfl Tryz.zeroValue67 rfl Tryz.underlying67 (fun w => by simp [Tryz.sizeOf3, Tryz.sizeOf31, Tryz.sizeOf5, Tryz.sizeOf65, Tryz.sizeOf9]) (LBld.part rfl rfl rfl (LSpl.c LSpl.z) (LBld.part rfl rfl rfl (LSpl.s (LSpl.c LSpl.z)) (LBld.part rfl rfl rfl (LSpl.s (LSpl.s (LSpl.s (LSpl.c LSpl.z)))) (LBld.part rfl rfl rfl (LSpl.s (LSpl.s (LSpl.s (LSpl.s (LSpl.c LSpl.z))))) LBld.none))))) ?_
     refine JA.step 8 (by kernel_rfl) rfl rfl (op_alloc rfl rfl rfl Tryz.zeroValue67 rfl ?_)
     intro b38 hb38
     refine ⟨⟨(Le.refl _), (HSub.c 2 rfl (HSub.c 3 rfl HSub.n)), CSub.n⟩, ?_⟩
     refine JA.step 9 (by kernel_rfl) rfl rfl (op_store 0 rfl rfl rfl rfl rfl rfl Tryz.sizeOf67 rfl rfl (LSpl.c (LSpl.c (LSpl.c (LSpl.c (LSpl.c LSpl.z))))) LSet.z ?_)
     refine ⟨⟨(Le.refl _), (HSub.c 2 rfl (HSub.c 3 rfl HSub.n)), CSub.n⟩, ?_⟩
     refine JA.done (by kernel_rfl) ?_
     refine Ej.keep (Keeps.k (Keeps.k (Keeps.k (Keeps.k Keeps.n)))) ?_
     refine Ej.pull Pull.z ?_
     refine Ej.pull (Pull.s Pull.z) ?_
     refine Ej.pull (Pull.s (Pull.s Pull.z)) ?_
     refine Ej.pull (Pull.s (Pull.s (Pull.s Pull.z))) ?_
     exact hcut (b36, b38) _ _ _ ⟨hb36, hb38⟩ ⟨rfl, rfl, rfl, trivial⟩ rfl rfl
    ·
     refine ⟨_, rfl, rfl, ?_⟩
     refine op_alloc rfl rfl rfl Tryz.zeroValue67 rfl ?_
     intro b39 hb39
     refine ⟨⟨(Le.refl _), (HSub.c 1 rfl (HSub.c 2 rfl HSub.n)), CSub.n⟩, ?_⟩
     refine JA.step 0 (by kernel_rfl) rfl rfl (op_makeMap rfl rfl rfl ?_)
     intro b40 hb40
     refine ⟨⟨(Le.refl _), (HSub.c 2 rfl (HSub.c 3 rfl HSub.n)), CSub.n⟩, ?_⟩
     refine JA.fix ⟨(HSub.c 2 rfl (HSub.c 3 rfl HSub.n)), CSub.n, (Le.refl _)⟩ (fun fx41 => ?_)
     refine JA.tk 7 rfl fx41 (yl_buildS (pl := #[(0, 1), (1, 1), (2, 1), (3, 1), (4, 1)]) rfl rfl Tryz.zeroValue67 rfl Tryz.underlying67 (fun w => by simp [Tryz.sizeOf3, Tryz.sizeOf31, Tryz.sizeOf5, Tryz.sizeOf65, Tryz.sizeOf9]) (LBld.part rfl rfl rfl (LSpl.c LSpl.z) (LBld.part rfl rfl rfl (LSpl.s (LSpl.c LSpl.z)) (LBld.part rfl rfl rfl (LSpl.s (LSpl.s (LSpl.s (LSpl.c LSpl.z)))) (LBld.part rfl rfl rfl (LSpl.s (LSpl.s (LSpl.s (LSpl.s (LSpl.c LSpl.z))))) LBld.none))))) ?_
     refine JA.step 9 (by kernel_rfl) rfl rfl (op_store 1 rfl rfl rfl rfl rfl rfl Tryz.sizeOf67 rfl rfl (LSpl.c (LSpl.c (LSpl.c (LSpl.c (LSpl.c LSpl.z))))) (LSet.s LSet.z) ?_)
     refine ⟨⟨(Le.refl _), (HSub.c 2 rfl (HSub.c 3 rfl HSub.n)), CSub.n⟩, ?_⟩
     refine JA.done (by kernel_rfl) ?_
     refine Ej.keep (Keeps.k (Keeps.k (Keeps.k (Keeps.k Keeps.n)))) ?_
     refine Ej.pull (Pull.s Pull.z) ?_
     refine Ej.pull (Pull.s Pull.z) ?_
     refine Ej.pull (Pull.s (Pull.s Pull.z)) ?_
     refine Ej.pull (Pull.s (Pull.s (Pull.s Pull.z))) ?_
     exact hcut (b40, b39) _ _ _ ⟨hb40, hb39⟩ ⟨rfl, rfl, rfl, trivial⟩ rfl rfl
   ·
    refine ⟨_, rfl, rfl, ?_⟩
    refine op_alloc rfl rfl rfl Tryz.zeroValue67 rfl ?_
    intro b42 hb42
    refine ⟨⟨(Le.refl _), (HSub.c 1 rfl (HSub.c 2 rfl HSub.n)), CSub.n⟩, ?_⟩
    refine JA.all [0, 4] (by kernel_rfl) (by simp) ?_
    intro i hi
    simp only [List.mem_cons, List.not_mem_nil, or_false] at hi
    rcases hi with rfl | rfl
    ·
     refine ⟨_, rfl, rfl, ?_⟩
     refine op_makeMap rfl rfl rfl ?_
     intro b43 hb43
     refine ⟨⟨(Le.refl _), (HSub.c 2 rfl (HSub.c 3 rfl HSub.n)), CSub.n⟩, ?_⟩
     refine JA.step 4 (by kernel_rfl) rfl rfl (op_pure rfl rfl rfl rfl rfl (myear_ok fs _ rk rl hok hdl _ hr) ?_)
     refine ⟨⟨(Le.refl _), (HSub.c 2 rfl (HSub.c 3 rfl HSub.n)), CSub.n⟩, ?_⟩
     refine JA.fix ⟨(HSub.c 2 rfl (HSub.c 3 rfl HSub.n)), CSub.n, (Le.refl _)⟩ (fun fx44 => ?_)
     refine JA.tk 7 rfl fx44 (yl_buildS (pl := #[(0, 1), (1, 1), (2, 1), (3, 1), (4, 1)]) rfl rfl Tryz.zeroValue67 rfl Tryz.underlying67 (fun w => by simp [Tryz.sizeOf3, Tryz.sizeOf31, Tryz.sizeOf5, Tryz.sizeOf65, Tryz.sizeOf9]) (LBld.part rfl rfl rfl (LSpl.c LSpl.z) (LBld.part rfl rfl rfl (LSpl.s (LSpl.c LSpl.z)) (LBld.part rfl rfl rfl (LSpl.s (LSpl.s (LSpl.s (LSpl.c LSpl.z)))) (LBld.part rfl rfl rfl (LSpl.s (LSpl.s (LSpl.s (LSpl.s (LSpl.c LSpl.z))))) LBld.none))))) ?_
     refine JA.step 9 (by kernel_rfl) rfl rfl (op_store 1 rfl rfl rfl rfl rfl rfl Tryz.sizeOf67 rfl rfl (LSpl.c (LSpl.c (LSpl.c (LSpl.c (LSpl.c LSpl.z))))) (LSet.s LSet.z) ?_)
     refine ⟨⟨(Le.refl _), (HSub.c 2 rfl (HSub.c 3 rfl HSub.n)), CSub.n⟩, ?_⟩
     refine JA.done (by kernel_rfl) ?_
     refine Ej.keep (Keeps.k (Keeps.k (Keeps.k (Keeps.k Keeps.n)))) ?_
     refine Ej.pull (Pull.s Pull.z) ?_
     refine Ej.pull (Pull.s Pull.z) ?_
     refine Ej.pull (Pull.s (Pull.s Pull.z)) ?_
     refine Ej.pull (Pull.s (Pull.s (Pull.s Pull.z))) ?_
     exact hcut (b43, b42) _ _ _ ⟨hb43, hb42⟩ ⟨rfl, rfl, rfl, trivial⟩ rfl rfl
    ·
     refine ⟨_, rfl, rfl, ?_⟩
     refine op_pure rfl rfl rfl rfl rfl (myear_ok fs _ rk rl hok hdl _ hr) ?_
     refine ⟨⟨(Le.refl _), (HSub.c 1 rfl (HSub.c 2 rfl HSub.n)), CSub.n⟩, ?_⟩
     refine JA.step 0 (by kernel_rfl) rfl rfl (op_makeMap rfl rfl rfl ?_)
     intro b45 hb45
     refine ⟨⟨(Le.refl _), (HSub.c 2 rfl (HSub.c 3 rfl HSub.n)), CSub.n⟩, ?_⟩
     refine JA.fix ⟨(HSub.c 2 rfl (HSub.c 3 rfl HSub.n)), CSub.n, (Le.refl _)⟩ (fun fx46 => ?_)
     refine JA.tk 7 rfl fx46 (yl_buildS (pl := #[(0, 1), (1, 1), (2, 1), (3, 1), (4, 1)]) rfl rfl Tryz.zeroValue67 rfl Tryz.underlying67 (fun w => by simp [Tryz.sizeOf3, Tryz.sizeOf31, Tryz.sizeOf5, Tryz.sizeOf65, Tryz.sizeOf9]) (LBld.part rfl rfl rfl (LSpl.c LSpl.z) (LBld.part rfl rfl rfl (LSpl.s (LSpl.c LSpl.z)) (LBld.part rfl rfl rfl (LSpl.s (LSpl.s (LSpl.s (LSpl.c LSpl.z)))) (LBld.part rfl rfl rfl (LSpl.s (LSpl.s (LSpl.s (LSpl.s (LSpl.c LSpl.z))))) LBld.none))))) ?_
     refine JA.step 9 (by kernel_rfl) rfl rfl (op_store 1 rfl rfl rfl rfl rfl rfl Tryz.sizeOf67 rfl rfl (LSpl.c (LSpl.c (LSpl.c (LSpl.c (LSpl.c LSpl.z))))) (LSet.s LSet.z) ?_)
     refine ⟨⟨(Le.refl _), (HSub.c 2 rfl (HSub.c 3 rfl HSub.n)), CSub.n⟩, ?_⟩
     refine JA.done (by kernel_rfl) ?_
     refine Ej.keep (Keeps.k (Keeps.k (Keeps.k (Keeps.k Keeps.n)))) ?_
     refine Ej.pull (Pull.s Pull.z) ?_
     refine Ej.pull (Pull.s Pull.z) ?_
     refine Ej.pull (Pull.s (Pull.s Pull.z)) ?_
     refine Ej.pull (Pull.s (Pull.s (Pull.s Pull.z))) ?_
     exact hcut (b45, b42) _ _ _ ⟨hb45, hb42⟩ ⟨rfl, rfl, rfl, trivial⟩ rfl rfl
  ·
   refine ⟨_, rfl, rfl, ?_⟩
   refine op_alloc rfl rfl rfl Tryz.zeroValue67 rfl ?_
   intro b47 hb47
   refine ⟨⟨(Le.refl _), (HSub.c 1 rfl (HSub.c 2 rfl HSub.n)), CSub.n⟩, ?_⟩
   refine JA.all [0, 2] (by kernel_rfl) (by simp) ?_
   intro i hi
   simp only [List.mem_cons, List.not_mem_nil, or_false] at hi
   rcases hi with rfl | rfl
   ·
    refine ⟨_, rfl, rfl, ?_⟩
    refine op_makeMap rfl rfl rfl ?_
    intro b48 hb48
    refine ⟨⟨(Le.refl _), (HSub.c 2 rfl (HSub.c 3 rfl HSub.n)), CSub.n⟩, ?_⟩
    refine JA.step 2 (by kernel_rfl) rfl rfl (op_pure rfl rfl rfl rfl rfl (Title_ok fs _ rk rl hok _ hr) ?_)
    refine ⟨⟨(Le.refl _), (HSub.c 2 rfl (HSub.c 3 rfl HSub.n)), CSub.n⟩, ?_⟩
    refine JA.step 4 (by kernel_rfl) rfl rfl (op_pure rfl rfl rfl rfl rfl (myear_ok fs _ rk rl hok hdl _ hr) ?_)
    refine ⟨⟨(Le.refl _), (HSub.c 2 rfl (HSub.c 3 rfl HSub.n)), CSub.n⟩, ?_⟩
    refine JA.fix ⟨(HSub.c 2 rfl (HSub.c 3 rfl HSub.n)), CSub.n, (Le.refl _)⟩ (fun fx49 => ?_)
    refine JA.tk 7 rfl fx49 (yl_buildS (pl := #[(0, 1), (1, 1), (2, 1), (3, 1), (4, 1)]) rfl rfl Tryz.zeroValue67 rfl Tryz.underlying67 (fun w => by simp [Tryz.sizeOf3, Tryz.sizeOf31, Tryz.sizeOf5, Tryz.sizeOf65, Tryz.sizeOf9]) (LBld.part rfl rfl rfl (LSpl.c LSpl.z) (LBld.part rfl rfl rfl (LSpl.s (LSpl.c LSpl.z)) (LBld.part rfl rfl rfl (LSpl.s (LSpl.s (LSpl.s (LSpl.c LSpl.z)))) (LBld.part rfl rfl rfl (LSpl.s (LSpl.s (LSpl.s (LSpl.s (LSpl.c LSpl.z))))) LBld.none))))) ?_
    refine JA.step 9 (by kernel_rfl) rfl rfl (op_store 1 rfl rfl rfl rfl rfl rfl Tryz.sizeOf67 rfl rfl (LSpl.c (LSpl.c (LSpl.c (LSpl.c (LSpl.c LSpl.z))))) (LSet.s LSet.z) ?_)
    refine ⟨⟨(Le.refl _), (HSub.c 2 rfl (HSub.c 3 rfl HSub.n)), CSub.n⟩, ?_⟩
    refine JA.done (by kernel_rfl) ?_
    refine Ej.keep (Keeps.k (Keeps.k (Keeps.k (Keeps.k Keeps.n)))) ?_
    refine Ej.pull (Pull.s Pull.z) ?_
    refine Ej.pull (Pull.s Pull.z) ?_
    refine Ej.pull (Pull.s (Pull.s Pull.z)) ?_
    refine Ej.pull (Pull.s (Pull.s (Pull.s Pull.z))) ?_
    exact hcut (b48, b47) _ _ _ ⟨hb48, hb47⟩ ⟨rfl, rfl, rfl, trivial⟩ rfl rfl
   ·
    refine ⟨_, rfl, rfl, ?_⟩
    refine op_pure rfl rfl rfl rfl rfl (Title_ok fs _ rk rl hok _ hr) ?_
    refine ⟨⟨(Le.refl _), (HSub.c 1 rfl (HSub.c 2 rfl HSub.n)), CSub.n⟩, ?_⟩
    refine JA.all [0, 4] (by kernel_rfl) (by simp) ?_
    intro i hi
    simp only [List.mem_cons, List.not_mem_nil, or_false] at hi
    rcases hi with rfl | rfl
    ·
     refine ⟨_, rfl, rfl, ?_⟩
     refine op_makeMap rfl rfl rfl ?_
     intro b50 hb50
     refine ⟨⟨(Le.refl _), (HSub.c 2 rfl (HSub.c 3 rfl HSub.n)), CSub.n⟩, ?_⟩
     refine JA.step 4 (by kernel_rfl) rfl rfl (op_pure rfl rfl rfl rfl rfl (myear_ok fs _ rk rl hok hdl _ hr) ?_)
     refine ⟨⟨(Le.refl _), (HSub.c 2 rfl (HSub.c 3 rfl HSub.n)), CSub.n⟩, ?_⟩
     refine JA.fix ⟨(HSub.c 2 rfl (HSub.c 3 rfl HSub.n)), CSub.n, (Le.refl _)⟩ (fun fx51 => ?_)
     refine JA.tk 7 rfl fx51 (yl_buildS (pl := #[(0, 1), (1, 1), (2, 1), (3, 1), (4, 1)]) rfl rfl Tryz.zeroValue67 rfl Tryz.underlying67 (fun w => by simp [Tryz.sizeOf3, Tryz.sizeOf31, Tryz.sizeOf5, Tryz.sizeOf65, Tryz.sizeOf9]) (LBld.part rfl rfl rfl (LSpl.c LSpl.z) (LBld.part rfl rfl rfl (LSpl.s (LSpl.c LSpl.z)) (LBld.part rfl rfl rfl (LSpl.s (LSpl.s (LSpl.s (LSpl.c LSpl.z)))) (LBld.part rfl rfl rfl (LSpl.s (LSpl.s (LSpl.s (LSpl.s (LSpl.c LSpl.z))))) LBld.none))))) ?_
     refine JA.step 9 (by kernel_rfl) rfl rfl (op_store 1 rfl rfl rfl rfl rfl rfl Tryz.sizeOf67 rfl rfl (LSpl.c (LSpl.c (LSpl.c (LSpl.c (LSpl.c LSpl.z))))) (LSet.s LSet.z) ?_)
     refine ⟨⟨(Le.refl _), (HSub.c 2 rfl (HSub.c 3 rfl HSub.n)), CSub.n⟩, ?_⟩
     refine JA.done (by kernel_rfl) ?_
     refine Ej.keep (Keeps.k (Keeps.k (Keeps.k (Keeps.k Keeps.n)))) ?_
     refine Ej.pull (Pull.s Pull.z) ?_
     refine Ej.pull (Pull.s Pull.z) ?_
     refine Ej.pull (Pull.s (Pull.s Pull.z)) ?_
     refine Ej.pull (Pull.s (Pull.s (Pull.s Pull.z))) ?_
     exact hcut (b50, b47) _ _ _ ⟨hb50, hb47⟩ ⟨rfl, rfl, rfl, trivial⟩ rfl rfl
    ·
     refine ⟨_, rfl, rfl, ?_⟩
     refine op_pure rfl rfl rfl rfl rfl (myear_ok fs _ rk rl hok hdl _ hr) ?_
     refine ⟨⟨(Le.refl _), (HSub.c 1 rfl (HSub.c 2 rfl HSub.n)), CSub.n⟩, ?_⟩
     refine JA.step 0 (by kernel_rfl) rfl rfl (op_makeMap rfl rfl rfl ?_)
     intro b52 hb52
     refine ⟨⟨(Le.refl _), (HSub.c 2 rfl (HSub.c 3 rfl HSub.n)), CSub.n⟩, ?_⟩
     refine JA.fix ⟨(HSub.c 2 rfl (HSub.c 3 rfl HSub.n)), CSub.n, (Le.refl _)⟩ (fun fx53 => ?_)
     refine JA.tk 7 rfl fx53 (yl_buildS (pl := #[(0, 1), (1, 1), (2, 1), (3, 1), (4, 1)]) rfl rfl Tryz.zeroValue67 rfl Tryz.underlying67 (fun w => by simp [Tryz.sizeOf3, Tryz.sizeOf31, Tryz.sizeOf5, Tryz.sizeOf65, Tryz.sizeOf9]) (LBld.part rfl rfl rfl (LSpl.c LSpl.z) (LBld.part rfl rfl rfl (LSpl.s (LSpl.c LSpl.z)) (LBld.part rfl rfl rfl (LSpl.s (LSpl.s (LSpl.s (LSpl.c LSpl.z)))) (LBld.part rfl rfl rfl (LSpl.s (LSpl.s (LSpl.s (LSpl.s (LSpl.c LSpl.z))))) LBld.none))))) ?_
     refine JA.step 9 (by kernel_rfl) rfl rfl (op_store 1 rfl rfl rfl rfl rfl rfl Tryz.sizeOf67 rfl rfl (LSpl.c (LSpl.c (LSpl.c (LSpl.c (LSpl.c LSpl.z))))) (LSet.s LSet.z) ?_)
     refine ⟨⟨(Le.refl _), (HSub.c 2 rfl (HSub.c 3 rfl HSub.n)), CSub.n⟩, ?_⟩
     refine JA.done (by kernel_rfl) ?_
     refine Ej.keep (Keeps.k (Keeps.k (Keeps.k (Keeps.k Keeps.n)))) ?_
     refine Ej.pull (Pull.s Pull.z) ?_
     refine Ej.pull (Pull.s Pull.z) ?_
     refine Ej.pull (Pull.s (Pull.s Pull.z)) ?_
     refine Ej.pull (Pull.s (Pull.s (Pull.s Pull.z))) ?_
     exact hcut (b52, b47) _ _ _ ⟨hb52, hb47⟩ ⟨rfl, rfl, rfl, trivial⟩ rfl rfl
end Go.Proofs.YtadnofaleepkmaaGreatDoor
end
section
namespace Go.Proofs.YtadnofaleepkmaaGreatDoor
open Go Go.Sx
/-- What one comparison adds. -/
def addP (c q : Bool) (g b s : Int) : Int := if c then (if q then s + g else s + b) else s
theorem pB_add {l1 l2 : ML (List UInt8)} {c1 c2 : Nat} {a b : List (List UInt8)} (h1 : SetS l1 c1 a) (h2 : SetS l2 c2 b) {c : Bool} (hc : c = (decide ((l1.length : Int) > 0) && decide ((l2.length : Int) > 0))) : addP c (Ke.common a b) 50 (-30) 0 = Ke.pB a b := by
  subst hc
  have e1 := h1.len; have e2 := h2.len
  unfold Ke.pB
  by_cases ha : a = []
  · have := e1.2 ha
    simp [addP, this, ha]
  · by_cases hb : b = []
    · have := e2.2 hb
      simp [addP, this, hb]
    · have g1 : l1.length ≠ 0 := fun g => ha (e1.1 g)
      have g2 : l2.length ≠ 0 := fun g => hb (e2.1 g)
      have k : (decide ((l1.length : Int) > 0) && decide ((l2.length : Int) > 0)) = true := by rw [Bool.and_eq_true, decide_eq_true_eq, decide_eq_true_eq]; omega
      rw [k]; cases Ke.common a b <;> simp [addP, ha, hb]
theorem pT_add {a b : List UInt8} {c : Bool} (s : Int) (hc : c = ((a != []) && (b != []))) : addP c (a == b) 30 (-20) s = s + Ke.pT a b := by
  subst hc
  by_cases ha : a = []
  · simp [addP, Ke.pT, ha]
  · by_cases hb : b = []
    · simp [addP, Ke.pT, hb]
    · by_cases hab : a = b
      · subst hab; simp [addP, Ke.pT, ha]
      · simp [addP, Ke.pT, ha, hb, hab] <;> omega
theorem pA_add {a b : List (List UInt8)} {x y : List UInt8} (s : Int) (ha : a[0]? = some x) (hb : b[0]? = some y) : addP (x != y) true (-15) 0 (addP (x == y) (decide (a = b)) 15 8 s) = s + Ke.pA a b := by
  rcases a with _ | ⟨a0, a⟩
  · cases ha
  · rcases b with _ | ⟨b0, b⟩
    · cases hb
    · have ea : a0 = x := by simpa using ha
      have eb : b0 = y := by simpa using hb
      subst ea; subst eb
      by_cases hx : a0 = b0
      · subst hx
        by_cases hab : a = b
        · subst hab; simp [addP, Ke.pA]
        · simp [addP, Ke.pA, hab]
      · simp [addP, Ke.pA, hx]; try omega
theorem pA_no {a b : List (List UInt8)} (h : ¬ (a ≠ [] ∧ b ≠ [])) : Ke.pA a b = 0 := if_neg h
theorem pK_add (a b : UInt8) (s : Int) : addP true ((a.toNat : Int) == (b.toNat : Int)) 0 (-40) s = s + Ke.pK a b := by
  unfold addP Ke.pK
  rw [if_pos rfl]
  by_cases h : a = b
  · subst h; rw [if_pos (by simp), if_pos rfl]
  · rw [if_neg (fun g => h (UInt8.toNat_inj.1 (by have := eq_of_beq g; omega))), if_neg h]
theorem shared_eq {l vis : ML (List UInt8)} {c : Nat} {a b : List (List UInt8)} (h : SetS l c a) (hp : vis.Perm l) : (vis.any fun p => decide (p.1 ∈ b)) = Ke.common a b := by
  rw [Bool.eq_iff_iff, Ke.common_iff, List.any_eq_true]
  constructor
  · rintro ⟨p, hpm, hd⟩
    exact ⟨p.1, (h.2.2 _).1 (List.mem_map_of_mem (hp.mem_iff.1 hpm)), of_decide_eq_true hd⟩
  · rintro ⟨x, h1, h2⟩
    obtain ⟨p, hpm, rfl⟩ := List.mem_map.1 ((h.2.2 x).2 h1)
    exact ⟨p, hp.mem_iff.2 hpm, decide_eq_true h2⟩
theorem bas_inj : ∀ {a b : List (List UInt8)}, a.map (fun x => (⟨x.toArray⟩ : ByteArray)) = b.map (fun x => (⟨x.toArray⟩ : ByteArray)) → a = b
  | [], [], _ => rfl
  | [], _ :: _, h => by simp at h
  | _ :: _, [], h => by simp at h
  | x :: a, y :: b, h => by
    rw [List.map_cons, List.map_cons] at h
    obtain ⟨h1, h2⟩ := List.cons.inj h
    rw [bas_inj h2, show x = y from by have := congrArg (fun z : ByteArray => z.data.toList) h1; simpa using this]
theorem bas_cell {w : World} {b : Nat} {T : TypeId} {l : List (List UInt8)} {sp : List Value} (h : w.heap[b]? = some (cel T (l.map str ++ sp))) : ∀ j, j < (l.map fun x => (⟨x.toArray⟩ : ByteArray)).length → w.cell? ⟨b, 0 + j, none⟩ = some (.string ((l.map fun x => (⟨x.toArray⟩ : ByteArray)).getD j ByteArray.empty)) := fun j hj => by
  rw [List.length_map] at hj
  have h1 : l[j]? = some l[j] := List.getElem?_eq_getElem hj
  rw [Nat.zero_add, List.getD_eq_getElem?_getD, List.getElem?_map, h1]
  exact cell_of_heap h (str_get h1)
theorem Equal_ok (a b : List (List UInt8)) (u v : Value) (hb : b.length ≤ 100000000000000) (I : Heap) (hu : StrS 9 I a u) (hv : StrS 9 I b v) (ha : a.length ≤ 100000000000000) : Pure Tryz.prog 59 [u, v] I (.bool (decide (a = b))) := by
  have en : Go.Sx.Enters Tryz.prog 59 := Enters.of Tryz.func59 (by decide) rfl
  by_cases h0 : a = []
  · subst h0
    obtain ⟨p, c, rfl⟩ := StrS_sl hu; obtain ⟨q, d, rfl⟩ := StrS_sl hv
    refine Pure.of_same en fun w _ => (Tryz.slices_Equal_string_empty p q c b.length d w (by omega)).mono fun e w' ⟨h1, h2⟩ => ⟨?_, h2⟩
    rw [h1]
    refine congrArg (fun x => Ending.returned (.bool x)) (decide_eq_decide.2 ?_)
    constructor
    · intro g; exact (List.eq_nil_of_length_eq_zero g).symm
    · rintro rfl; rfl
  by_cases h1 : b = []
  · subst h1
    obtain ⟨p, c, rfl⟩ := StrS_sl hu; obtain ⟨q, d, rfl⟩ := StrS_sl hv
    have hl : a.length ≠ ([] : List (List UInt8)).length := fun g => h0 (List.eq_nil_of_length_eq_zero g)
    refine Pure.of_same en fun w _ => (Tryz.slices_Equal_string_lens p q a.length c _ d w hl).mono fun e w' ⟨h1, h2⟩ => ⟨?_, h2⟩
    rw [h1, decide_eq_false h0]
  obtain ⟨b1, c, s1, rfl, g1⟩ := hu.some h0
  obtain ⟨b2, d, s2, rfl, g2⟩ := hv.some h1
  refine Pure.of_below en fun w hw => ?_
  have h := Tryz.slices_Equal_string b1 0 a.length c b2 0 b.length d (a.map fun x => ⟨x.toArray⟩) (b.map fun x => ⟨x.toArray⟩) w (by simp) (by simp) (by omega) (by omega) (bas_cell (hw.1 _ _ g1)) (bas_cell (hw.1 _ _ g2))
  refine h.mono fun e w' ⟨h1, n, h2⟩ => ⟨?_, ?_⟩
  · rw [h1]
    refine congrArg (fun x => Ending.returned (.bool x)) (decide_eq_decide.2 ?_)
    rw [List.take_of_length_le (by simp), List.take_of_length_le (by simp)]
    exact ⟨bas_inj, fun g => by rw [g]⟩
  · rw [h2]
    exact (Go.RowKit.Below.refl _ w).trans ⟨rfl, rfl, rfl, Nat.le_refl _, fun _ _ => rfl⟩
set_option maxRecDepth 20000 in
theorem points1_ok (n : Int) (c q : Bool) (gd bd s : Int) (sb : Nat) (I : Heap) (hn : n ≤ 100000) (hs : -n ≤ s ∧ s ≤ n) (hg : -100 ≤ gd ∧ gd ≤ 100) (hb : -100 ≤ bd ∧ bd ≤ 100) : Ctr Tryz.prog 58 [.bool c, .bool q, i64 gd, i64 bd, ptr sb 0] I [(sb, cel 3 [i64 s])]
    (fun e I' H' => ∃ s', e = .returned (.tuple #[]) ∧ I = I' ∧ s' = addP c q gd bd s ∧ (-(n + 100) ≤ s' ∧ s' ≤ n + 100) ∧ H' = [(sb, cel 3 [i64 s'])]) := by
 refine Ctr.of_body Tryz.func58 rfl (by decide) (Nat.le_of_ble_eq_true rfl) ?_
 intro w0 hw0
 refine Cj.block (Cj.seq (Cj.region (J.z (yl_move rfl rfl) ?_)))
 refine J.z (yl_not rfl rfl) ?_
 refine J.z (yl_assign rfl rfl) ?_
 refine J.nil (Ej.seq (Cj.cond rfl (fun hc1 => ?_) (fun hc1 => ?_)))
 ·
  have hc0 : c = false := by have h := hc1; simpa using h
  refine Cj.skip (Ej.blkNormal (Ej.end0 rfl rfl ?_))
  (subst hc0; exact ⟨s, rfl, rfl, rfl, by omega, rfl⟩)
 ·
  have hc0 : c = true := by have h := hc1; simpa using h
  refine Cj.seq (Cj.region (J.z (yl_move rfl rfl) ?_))
  refine J.z (yl_assign rfl rfl) ?_
  refine J.nil (Ej.seq (Cj.cond rfl (fun hc2 => ?_) (fun hc2 => ?_)))
  ·
   have hq0 : q = true := hc2
   refine Cj.region (J.z (yl_load rfl rfl Tryz.isAgg3 (Blk.at 0 rfl) rfl) ?_)
   refine J.z (yl_move rfl rfl) ?_
   refine J.z (yl_add rfl rfl rfl (w64 (by omega))) ?_
   refine J.op rfl (op_store 0 rfl rfl rfl rfl rfl rfl Tryz.sizeOf3 rfl rfl (LSpl.c LSpl.z) LSet.z ?_)
   refine J.nil (Ej.blkNormal (Ej.end0 rfl rfl ?_))
   (subst hc0 hq0; exact ⟨_, rfl, rfl, rfl, by simp only [addP, if_true]; omega, rfl⟩)
  ·
   have hq0 : q = false := hc2
   refine Cj.region (J.z (yl_load rfl rfl Tryz.isAgg3 (Blk.at 0 rfl) rfl) ?_)
   refine J.z (yl_move rfl rfl) ?_
   refine J.z (yl_add rfl rfl rfl (w64 (by omega))) ?_
   refine J.op rfl (op_store 0 rfl rfl rfl rfl rfl rfl Tryz.sizeOf3 rfl rfl (LSpl.c LSpl.z) LSet.z ?_)
   refine J.nil (Ej.blkNormal (Ej.end0 rfl rfl ?_))
   (subst hc0 hq0; exact ⟨_, rfl, rfl, rfl, by simp only [addP, if_true, if_false, Bool.false_eq_true]; omega, rfl⟩)
set_option maxRecDepth 20000 in
set_option maxHeartbeats 2000000 in
theorem points_ok (f g : Ke.Feat) (v u : Value) (hy1 : -1 ≤ f.year ∧ f.year ≤ 9999) (hy2 : -1 ≤ g.year ∧ g.year ≤ 9999) (hl1 : f.author.length ≤ 1000000000000) (hl2 : g.author.length ≤ 1000000000000) (I : Heap) (hf : FeatS I f v) (hg : FeatS I g u) : Pure Tryz.prog 34 [v, u] I (i64 (Ke.pts f g)) := by
 refine Ctr.toPure ?_
 obtain ⟨mb1, l1, c1, p1, n1, rfl, hm1, hset1, ha1⟩ := hf
 obtain ⟨mb2, l2, c2, p2, n2, rfl, hm2, hset2, ha2⟩ := hg
 refine Ctr.of_body Tryz.func34 rfl (by decide) (Nat.le_of_ble_eq_true rfl) ?_
 intro w0 hw0
 refine Cj.seq (Cj.region (J.op rfl (op_box rfl rfl rfl rfl rfl ?_)))
 intro b1 hb1
 refine J.op rfl (op_box rfl rfl rfl rfl rfl ?_)
 intro b2 hb2
 refine J.z (yl_assign rfl rfl) ?_
 refine J.nil (Ej.seq (Cj.seq (Cj.region (J.op rfl (op_alloc rfl rfl rfl Tryz.zeroValue3 rfl ?_)))))
 intro b3 hb3
 refine J.op rfl (op_store 0 rfl rfl rfl rfl rfl rfl Tryz.sizeOf3 rfl rfl (LSpl.c LSpl.z) LSet.z ?_)
 refine J.nil (Ej.seq (Cj.seq (Cj.region (J.z (yl_makeFunc rfl rfl rfl) ?_))))
 refine J.z (yl_assign rfl rfl) ?_
 refine J.nil (Ej.seq (Cj.seq (Cj.region (J.z (yl_assign rfl rfl) ?_))))
 refine J.nil (Ej.seq (Cj.seq (Cj.seq (Cj.region (J.z (yl_fieldAddr (off' := 0) rfl rfl Tryz.underlying67 rfl Tryz.sizeOf65 rfl) ?_)))))
 refine J.z (yl_load rfl rfl Tryz.isAgg65 (Blk.at 2 rfl) rfl) ?_
 refine J.op rfl (op_rangeMap (kv := (fun a : List UInt8 => str a)) (l := l1) rfl rfl rfl rfl Tryz.underlying65 (Blk.imm hm1) ?_)
 intro b4 hb4
 refine J.nil (Ej.seq (Cj.block (Cj.loop (ι := Bool × ML (List UInt8) × ML (List UInt8)) (fun y => (y.2.1 ++ y.2.2).Perm l1 ∧ y.1 = y.2.1.any fun p => decide (p.1 ∈ g.books)) (fun y => y.2.2.length) (fun y => [(2, ptr b1 0), (3, ptr b2 0), (5, ptr b3 0), (6, .func (.func 58) #[] #[ptr b3 0]), (7, .bool y.1), (12, ptr b4 0)]) (fun y => _) (fun y => [(b4, mit mb1 c1 y.2.1 c1), (b3, cel 3 [i64 0]), (b2, cel 67 [.map (some mb2), str g.title, .slice p2 g.author.length n2, i64 g.year, u8 g.kind]), (b1, cel 67 [.map (some mb1), str f.title, .slice p1 f.author.length n1, i64 f.year, u8 f.kind])]) (false, [], l1) ⟨.refl _, rfl⟩ ⟨rfl, rfl, rfl, rfl, rfl, rfl, trivial⟩ rfl rfl ?_)))
 rintro ⟨sh, vis, rest⟩ ⟨hp, hsh⟩
 dsimp only at hp hsh ⊢
 refine Cj.seq (Cj.region (J.op rfl (op_nextMap (kv := (fun a : List UInt8 => str a)) (l := l1) 0 rfl rfl rfl rfl rfl (Blk.imm hm1) hset1.1.2.2 (Nat.le_refl _) hset1.1.2.1 hp ?_ ?_)))
 ·
  rintro x rest2 H9 hrx hpx ⟨-, hset⟩; simp only [List.set_cons_zero] at hset; subst hset
  refine J.z (yl_extract rfl rfl rfl) ?_
  refine J.nil (Ej.seq (Cj.seq (Cj.cond rfl (fun hc5 => ?_) (fun hc5 => Bool.noConfusion (Eq.trans (Eq.symm rfl) hc5)))))
  refine Cj.skip (Ej.seq (Cj.block (Cj.seq (Cj.region (J.z (yl_entry (kv := (fun a : List UInt8 => str a)) (l := l1) rfl rfl (Blk.at 0 rfl) (Blk.imm hm1) (hpx.mem_iff.1 (List.mem_append_left _ (List.mem_append_right _ (.head _)))) hset1.1.2.1) ?_)))))
  refine J.z (yl_extract rfl rfl rfl) ?_
  refine J.z (yl_assign rfl rfl) ?_
  refine J.nil (Ej.seq (Cj.region (J.z (yl_move rfl rfl) ?_)))
  refine J.z (yl_move rfl rfl) ?_
  refine J.split 18 rfl (fun hg6 => ?_) (fun hg6 => ?_)
  ·
   refine J.skip 1 18 19 false _ rfl rfl rfl hg6 rfl rfl ?_
   refine J.skip 1 18 20 false _ rfl rfl rfl hg6 rfl rfl ?_
   refine J.skip 1 18 21 false _ rfl rfl rfl hg6 rfl rfl ?_
   refine J.skip 1 18 22 false _ rfl rfl rfl hg6 rfl rfl ?_
   refine J.z (yl_pick1 rfl rfl hg6 rfl) ?_
   refine J.z (yl_assign rfl rfl) ?_
   refine J.nil (Ej.blkNormal (Ej.round (true, vis ++ [x], rest2) ⟨hpx, by dsimp only; rw [List.any_append, ← hsh, hg6]; rfl⟩ (by have h := hrx.length_eq; simp only [List.length_cons] at h; dsimp only; omega) ⟨rfl, rfl, rfl, rfl, rfl, rfl, trivial⟩ rfl rfl))
  ·
   refine J.opG 1 18 false _ rfl rfl rfl hg6 (op_yld (yl_fieldAddr (off' := 0) rfl rfl Tryz.underlying67 rfl Tryz.sizeOf65 rfl) rfl rfl ?_)
   refine J.opG 1 18 false _ rfl rfl rfl hg6 (op_yld (yl_load rfl rfl Tryz.isAgg65 (Blk.at 2 rfl) rfl) rfl rfl ?_)
   refine J.opG 1 18 false _ rfl rfl rfl hg6 (op_yld (yl_move rfl rfl) rfl rfl ?_)
   refine J.opG 1 18 false _ rfl rfl rfl hg6 (op_yld (yl_lookup1 (kv := (fun a : List UInt8 => str a)) (l := l2) (a := x.1) rfl rfl rfl rfl Tryz.underlying65 (KeyK.text Tryz.underlying9) Tryz.zeroValue4 (Blk.imm hm2)) rfl rfl ?_)
   refine J.eqv 22 rfl (show _ = .bool (decide (x.1 ∈ g.books)) from (hset2.get x.1)) ?_
   refine J.z (yl_pick0 rfl rfl hg6 rfl) ?_
   refine J.z (yl_assign rfl rfl) ?_
   refine J.nil (Ej.blkNormal (Ej.round (decide (x.1 ∈ g.books), vis ++ [x], rest2) ⟨hpx, by dsimp only; rw [List.any_append, ← hsh, hg6]; simp⟩ (by have h := hrx.length_eq; simp only [List.length_cons] at h; dsimp only; omega) ⟨rfl, rfl, rfl, rfl, rfl, rfl, trivial⟩ rfl rfl))
 ·
  intro hend
  subst hend
  have hcm : sh = Ke.common f.books g.books := hsh.trans (shared_eq hset1 (by simpa using hp))
  refine J.z (yl_extract rfl rfl rfl) ?_
  refine J.nil (Ej.seq (Cj.seq (Cj.cond rfl (fun hc7 => Bool.noConfusion (Eq.trans (Eq.symm rfl) hc7)) (fun hc7 => ?_))))
  refine Cj.exit (Ej.seqExit (Ej.loopExit (Ej.blkExit (Ej.seq (Cj.join (ι := Int) (fun y => y = Ke.pB f.books g.books) (fun y => [(2, ptr b1 0), (3, ptr b2 0), (5, ptr b3 0), (6, .func (.func 58) #[] #[ptr b3 0])]) (fun y => I) (fun y => [(b3, cel 3 [i64 y]), (b2, cel 67 [.map (some mb2), str g.title, .slice p2 g.author.length n2, i64 g.year, u8 g.kind]), (b1, cel 67 [.map (some mb1), str f.title, .slice p1 f.author.length n1, i64 f.year, u8 f.kind])]) ?_ (fun hcut => ?_))))))
  ·
   rintro s hsum
   have hr1 := Ke.pB_rng f.books g.books
   have hr2 := Ke.pT_rng f.title g.title
   have hr3 := Ke.pA_rng f.author g.author
   have hr4 := Ke.pY_rng f.year g.year
   refine Cj.join (ι := Int) (fun y => y = Ke.pB f.books g.books + Ke.pT f.title g.title) (fun y => [(2, ptr b1 0), (3, ptr b2 0), (5, ptr b3 0), (6, .func (.func 58) #[] #[ptr b3 0])]) (fun y => I) (fun y => [(b3, cel 3 [i64 y]), (b2, cel 67 [.map (some mb2), str g.title, .slice p2 g.author.length n2, i64 g.year, u8 g.kind]), (b1, cel 67 [.map (some mb1), str f.title, .slice p1 f.author.length n1, i64 f.year, u8 f.kind])]) ?_ (fun hcut => ?_)
   ·
    rintro s hsum
    have hr1 := Ke.pB_rng f.books g.books
    have hr2 := Ke.pT_rng f.title g.title
    have hr3 := Ke.pA_rng f.author g.author
    have hr4 := Ke.pY_rng f.year g.year
    refine Cj.join (ι := Int) (fun y => y = Ke.pB f.books g.books + Ke.pT f.title g.title + Ke.pA f.author g.author) (fun y => [(2, ptr b1 0), (3, ptr b2 0), (5, ptr b3 0), (6, .func (.func 58) #[] #[ptr b3 0])]) (fun y => I) (fun y => [(b3, cel 3 [i64 y]), (b2, cel 67 [.map (some mb2), str g.title, .slice p2 g.author.length n2, i64 g.year, u8 g.kind]), (b1, cel 67 [.map (some mb1), str f.title, .slice p1 f.author.length n1, i64 f.year, u8 f.kind])]) ?_ (fun hcut => ?_)
    ·
     rintro s hsum
     have hr1 := Ke.pB_rng f.books g.books
     have hr2 := Ke.pT_rng f.title g.title
     have hr3 := Ke.pA_rng f.author g.author
     have hr4 := Ke.pY_rng f.year g.year
     refine Cj.join (ι := Int) (fun y => y = Ke.pB f.books g.books + Ke.pT f.title g.title + Ke.pA f.author g.author + Ke.pY f.year g.year) (fun y => [(2, ptr b1 0), (3, ptr b2 0), (5, ptr b3 0), (6, .func (.func 58) #[] #[ptr b3 0])]) (fun y => I) (fun y => [(b3, cel 3 [i64 y]), (b2, cel 67 [.map (some mb2), str g.title, .slice p2 g.author.length n2, i64 g.year, u8 g.kind]), (b1, cel 67 [.map (some mb1), str f.title, .slice p1 f.author.length n1, i64 f.year, u8 f.kind])]) ?_ (fun hcut => ?_)
     ·
      rintro s hsum
      have hr1 := Ke.pB_rng f.books g.books
      have hr2 := Ke.pT_rng f.title g.title
      have hr3 := Ke.pA_rng f.author g.author
      have hr4 := Ke.pY_rng f.year g.year
      refine Cj.seq (Cj.region (J.z (yl_move rfl rfl) ?_))
      refine J.z (yl_fieldAddr (off' := 4) rfl rfl Tryz.underlying67 rfl Tryz.sizeOf5 rfl) ?_
      refine J.z (yl_load rfl rfl Tryz.isAgg5 (Blk.at 2 rfl) rfl) ?_
      refine J.z (yl_fieldAddr (off' := 4) rfl rfl Tryz.underlying67 rfl Tryz.sizeOf5 rfl) ?_
      refine J.z (yl_load rfl rfl Tryz.isAgg5 (Blk.at 1 rfl) rfl) ?_
      refine J.z (yl_eql rfl rfl rfl) ?_
      refine J.pull Pull.z ?_
      refine J.op rfl (op_call (H1 := [_]) rfl rfl rfl rfl rfl (points1_ok 500 _ _ _ _ _ _ _ (by decide) (by omega) (by decide) (by decide)) ?_ (fun _ _ _ _ h => by obtain ⟨_, h, _⟩ := h; cases h) (fun _ _ h => by obtain ⟨_, h, _⟩ := h; cases h))
      intro v8 I9 H10 hle11 hp12
      have hm1 := hle11 _ _ hm1
      have hm2 := hle11 _ _ hm2
      have ha1 := ha1.mono hle11
      have ha2 := ha2.mono hle11
      obtain ⟨s6, h, hI, hs6, hbs6, rfl⟩ := hp12; cases h; subst hI
      refine J.nil (Ej.seq (Cj.seq (Cj.region (J.z (yl_load rfl rfl Tryz.isAgg3 (Blk.at 0 rfl) rfl) ?_))))
      refine J.z (yl_assign rfl rfl) ?_
      refine J.nil (Ej.seq (Cj.ret (Ej.bare ?_)))
      refine Ej.ret1 rfl rfl rfl ?_
      exact ⟨by rw [hs6, pK_add, hsum]; rfl, rfl⟩
     ·
      refine Cj.seq (Cj.region (J.z (yl_fieldAddr (off' := 3) rfl rfl Tryz.underlying67 rfl Tryz.sizeOf3 rfl) ?_))
      refine J.z (yl_load rfl rfl Tryz.isAgg3 (Blk.at 2 rfl) rfl) ?_
      refine J.z (yl_geq rfl rfl rfl) ?_
      refine J.z (yl_move rfl rfl) ?_
      refine J.split 92 rfl (fun hg13 => ?_) (fun hg13 => ?_)
      ·
       have hg13p := of_decide_eq_true hg13
       refine J.opG 3 92 true _ rfl rfl rfl hg13 (op_yld (yl_fieldAddr (off' := 3) rfl rfl Tryz.underlying67 rfl Tryz.sizeOf3 rfl) rfl rfl ?_)
       refine J.opG 3 92 true _ rfl rfl rfl hg13 (op_yld (yl_load rfl rfl Tryz.isAgg3 (Blk.at 1 rfl) rfl) rfl rfl ?_)
       refine J.opG 3 92 true _ rfl rfl rfl hg13 (op_yld (yl_geq rfl rfl rfl) rfl rfl ?_)
       refine J.z (yl_pick1 rfl rfl hg13 rfl) ?_
       refine J.z (yl_move rfl rfl) ?_
       refine J.split 97 rfl (fun hg14 => ?_) (fun hg14 => ?_)
       ·
        have hg14p := of_decide_eq_true hg14
        refine J.opG 8 97 true _ rfl rfl rfl hg14 (op_yld (yl_fieldAddr (off' := 3) rfl rfl Tryz.underlying67 rfl Tryz.sizeOf3 rfl) rfl rfl ?_)
        refine J.opG 8 97 true _ rfl rfl rfl hg14 (op_yld (yl_load rfl rfl Tryz.isAgg3 (Blk.at 2 rfl) rfl) rfl rfl ?_)
        refine J.opG 8 97 true _ rfl rfl rfl hg14 (op_yld (yl_fieldAddr (off' := 3) rfl rfl Tryz.underlying67 rfl Tryz.sizeOf3 rfl) rfl rfl ?_)
        refine J.opG 8 97 true _ rfl rfl rfl hg14 (op_yld (yl_load rfl rfl Tryz.isAgg3 (Blk.at 1 rfl) rfl) rfl rfl ?_)
        refine J.opG 8 97 true _ rfl rfl rfl hg14 (op_yld (yl_sub rfl rfl rfl (w64 (by omega))) rfl rfl ?_)
        refine J.opG 8 97 true _ rfl rfl rfl hg14 (op_yld (yl_neq rfl rfl rfl) rfl rfl ?_)
        refine J.z (yl_pick1 rfl rfl hg14 rfl) ?_
        refine J.z (yl_move rfl rfl) ?_
        refine J.split 105 rfl (fun hg15 => ?_) (fun hg15 => ?_)
        ·
         have hg15p := bne_iff_ne.1 hg15
         refine J.opG 16 105 true _ rfl rfl rfl hg15 (op_yld (yl_fieldAddr (off' := 3) rfl rfl Tryz.underlying67 rfl Tryz.sizeOf3 rfl) rfl rfl ?_)
         refine J.opG 16 105 true _ rfl rfl rfl hg15 (op_yld (yl_load rfl rfl Tryz.isAgg3 (Blk.at 1 rfl) rfl) rfl rfl ?_)
         refine J.opG 16 105 true _ rfl rfl rfl hg15 (op_yld (yl_fieldAddr (off' := 3) rfl rfl Tryz.underlying67 rfl Tryz.sizeOf3 rfl) rfl rfl ?_)
         refine J.opG 16 105 true _ rfl rfl rfl hg15 (op_yld (yl_load rfl rfl Tryz.isAgg3 (Blk.at 2 rfl) rfl) rfl rfl ?_)
         refine J.opG 16 105 true _ rfl rfl rfl hg15 (op_yld (yl_sub rfl rfl rfl (w64 (by omega))) rfl rfl ?_)
         refine J.opG 16 105 true _ rfl rfl rfl hg15 (op_yld (yl_neq rfl rfl rfl) rfl rfl ?_)
         refine J.z (yl_pick1 rfl rfl hg15 rfl) ?_
         refine J.nil (Ej.seq (Cj.cond rfl (fun hc16 => ?_) (fun hc16 => ?_)))
         ·
          have hc16p := bne_iff_ne.1 hc16
          refine Cj.region (J.z (yl_move rfl rfl) ?_)
          refine J.z (yl_fieldAddr (off' := 3) rfl rfl Tryz.underlying67 rfl Tryz.sizeOf3 rfl) ?_
          refine J.z (yl_load rfl rfl Tryz.isAgg3 (Blk.at 2 rfl) rfl) ?_
          refine J.z (yl_fieldAddr (off' := 3) rfl rfl Tryz.underlying67 rfl Tryz.sizeOf3 rfl) ?_
          refine J.z (yl_load rfl rfl Tryz.isAgg3 (Blk.at 1 rfl) rfl) ?_
          refine J.z (yl_eql rfl rfl rfl) ?_
          refine J.pull Pull.z ?_
          refine J.op rfl (op_call (H1 := [_]) rfl rfl rfl rfl rfl (points1_ok 400 _ _ _ _ _ _ _ (by decide) (by omega) (by decide) (by decide)) ?_ (fun _ _ _ _ h => by obtain ⟨_, h, _⟩ := h; cases h) (fun _ _ h => by obtain ⟨_, h, _⟩ := h; cases h))
          intro v17 I18 H19 hle20 hp21
          have hm1 := hle20 _ _ hm1
          have hm2 := hle20 _ _ hm2
          have ha1 := ha1.mono hle20
          have ha2 := ha2.mono hle20
          obtain ⟨s5, h, hI, hs5, hbs5, rfl⟩ := hp21; cases h; subst hI
          refine J.nil ?_
          exact hcut _ _ _ _ (by rw [hs5, hsum]; unfold addP Ke.pY; by_cases hyy : f.year = g.year <;> simp [hyy] <;> (repeat (first | split | omega))) ⟨rfl, rfl, rfl, rfl, trivial⟩ rfl rfl
         ·
          have hc16p := bne_f hc16
          refine Cj.skip ?_
          exact hcut _ _ _ _ (by rw [hsum]; unfold Ke.pY; repeat (first | omega | split)) ⟨rfl, rfl, rfl, rfl, trivial⟩ rfl rfl
        ·
         have hg15p := bne_f hg15
         refine J.skip 16 105 106 true _ rfl rfl rfl hg15 rfl rfl ?_
         refine J.skip 16 105 107 true _ rfl rfl rfl hg15 rfl rfl ?_
         refine J.skip 16 105 108 true _ rfl rfl rfl hg15 rfl rfl ?_
         refine J.skip 16 105 109 true _ rfl rfl rfl hg15 rfl rfl ?_
         refine J.skip 16 105 110 true _ rfl rfl rfl hg15 rfl rfl ?_
         refine J.skip 16 105 111 true _ rfl rfl rfl hg15 rfl rfl ?_
         refine J.z (yl_pick0 rfl rfl hg15 rfl) ?_
         refine J.nil (Ej.seq (Cj.cond rfl (fun hc22 => Bool.noConfusion (Eq.trans (Eq.symm rfl) hc22)) (fun hc22 => ?_)))
         refine Cj.skip ?_
         exact hcut _ _ _ _ (by rw [hsum]; unfold Ke.pY; repeat (first | omega | split)) ⟨rfl, rfl, rfl, rfl, trivial⟩ rfl rfl
       ·
        have hg14p := of_decide_eq_false hg14
        refine J.skip 8 97 98 true _ rfl rfl rfl hg14 rfl rfl ?_
        refine J.skip 8 97 99 true _ rfl rfl rfl hg14 rfl rfl ?_
        refine J.skip 8 97 100 true _ rfl rfl rfl hg14 rfl rfl ?_
        refine J.skip 8 97 101 true _ rfl rfl rfl hg14 rfl rfl ?_
        refine J.skip 8 97 102 true _ rfl rfl rfl hg14 rfl rfl ?_
        refine J.skip 8 97 103 true _ rfl rfl rfl hg14 rfl rfl ?_
        refine J.z (yl_pick0 rfl rfl hg14 rfl) ?_
        refine J.z (yl_move rfl rfl) ?_
        refine J.skip 16 105 106 true _ rfl rfl rfl rfl rfl rfl ?_
        refine J.skip 16 105 107 true _ rfl rfl rfl rfl rfl rfl ?_
        refine J.skip 16 105 108 true _ rfl rfl rfl rfl rfl rfl ?_
        refine J.skip 16 105 109 true _ rfl rfl rfl rfl rfl rfl ?_
        refine J.skip 16 105 110 true _ rfl rfl rfl rfl rfl rfl ?_
        refine J.skip 16 105 111 true _ rfl rfl rfl rfl rfl rfl ?_
        refine J.z (yl_pick0 rfl rfl rfl rfl) ?_
        refine J.nil (Ej.seq (Cj.cond rfl (fun hc23 => Bool.noConfusion (Eq.trans (Eq.symm rfl) hc23)) (fun hc23 => ?_)))
        refine Cj.skip ?_
        exact hcut _ _ _ _ (by rw [hsum]; unfold Ke.pY; repeat (first | omega | split)) ⟨rfl, rfl, rfl, rfl, trivial⟩ rfl rfl
      ·
       have hg13p := of_decide_eq_false hg13
       refine J.skip 3 92 93 true _ rfl rfl rfl hg13 rfl rfl ?_
       refine J.skip 3 92 94 true _ rfl rfl rfl hg13 rfl rfl ?_
       refine J.skip 3 92 95 true _ rfl rfl rfl hg13 rfl rfl ?_
       refine J.z (yl_pick0 rfl rfl hg13 rfl) ?_
       refine J.z (yl_move rfl rfl) ?_
       refine J.skip 8 97 98 true _ rfl rfl rfl rfl rfl rfl ?_
       refine J.skip 8 97 99 true _ rfl rfl rfl rfl rfl rfl ?_
       refine J.skip 8 97 100 true _ rfl rfl rfl rfl rfl rfl ?_
       refine J.skip 8 97 101 true _ rfl rfl rfl rfl rfl rfl ?_
       refine J.skip 8 97 102 true _ rfl rfl rfl rfl rfl rfl ?_
       refine J.skip 8 97 103 true _ rfl rfl rfl rfl rfl rfl ?_
       refine J.z (yl_pick0 rfl rfl rfl rfl) ?_
       refine J.z (yl_move rfl rfl) ?_
       refine J.skip 16 105 106 true _ rfl rfl rfl rfl rfl rfl ?_
       refine J.skip 16 105 107 true _ rfl rfl rfl rfl rfl rfl ?_
       refine J.skip 16 105 108 true _ rfl rfl rfl rfl rfl rfl ?_
       refine J.skip 16 105 109 true _ rfl rfl rfl rfl rfl rfl ?_
       refine J.skip 16 105 110 true _ rfl rfl rfl rfl rfl rfl ?_
       refine J.skip 16 105 111 true _ rfl rfl rfl rfl rfl rfl ?_
       refine J.z (yl_pick0 rfl rfl rfl rfl) ?_
       refine J.nil (Ej.seq (Cj.cond rfl (fun hc24 => Bool.noConfusion (Eq.trans (Eq.symm rfl) hc24)) (fun hc24 => ?_)))
       refine Cj.skip ?_
       exact hcut _ _ _ _ (by rw [hsum]; unfold Ke.pY; repeat (first | omega | split)) ⟨rfl, rfl, rfl, rfl, trivial⟩ rfl rfl
    ·
     refine Cj.seq (Cj.region (J.z (yl_fieldAddr (off' := 2) rfl rfl Tryz.underlying67 rfl Tryz.sizeOf31 rfl) ?_))
     refine J.z (yl_load rfl rfl Tryz.isAgg31 (Blk.at 2 rfl) rfl) ?_
     refine J.z (yl_lenSlice rfl rfl Tryz.underlying31) ?_
     refine J.z (yl_gtr rfl rfl rfl) ?_
     refine J.z (yl_move rfl rfl) ?_
     refine J.split 56 rfl (fun hg25 => ?_) (fun hg25 => ?_)
     ·
      have hg25p := of_decide_eq_true hg25
      refine J.opG 4 56 true _ rfl rfl rfl hg25 (op_yld (yl_fieldAddr (off' := 2) rfl rfl Tryz.underlying67 rfl Tryz.sizeOf31 rfl) rfl rfl ?_)
      refine J.opG 4 56 true _ rfl rfl rfl hg25 (op_yld (yl_load rfl rfl Tryz.isAgg31 (Blk.at 1 rfl) rfl) rfl rfl ?_)
      refine J.opG 4 56 true _ rfl rfl rfl hg25 (op_yld (yl_lenSlice rfl rfl Tryz.underlying31) rfl rfl ?_)
      refine J.opG 4 56 true _ rfl rfl rfl hg25 (op_yld (yl_gtr rfl rfl rfl) rfl rfl ?_)
      refine J.z (yl_pick1 rfl rfl hg25 rfl) ?_
      refine J.nil (Ej.seq (Cj.cond rfl (fun hc26 => ?_) (fun hc26 => ?_)))
      ·
       have hc26p := of_decide_eq_true hc26
       have hne1 : f.author ≠ [] := fun e => by have h := hg25; rw [e] at h; exact absurd h (by decide)
       have hne2 : g.author ≠ [] := fun e => by have h := hc26; rw [e] at h; exact absurd h (by decide)
       obtain ⟨ab1, ac1, as1, hae1, hab1⟩ := ha1.some hne1
       obtain ⟨ab2, ac2, as2, hae2, hab2⟩ := ha2.some hne2
       cases hae1; cases hae2
       have hlt1 : 0 < f.author.length := List.length_pos_iff.2 hne1
       have hlt2 : 0 < g.author.length := List.length_pos_iff.2 hne2
       obtain ⟨x1, hget1⟩ : ∃ x, f.author[0]? = some x := ⟨_, List.getElem?_eq_getElem hlt1⟩
       obtain ⟨x2, hget2⟩ : ∃ x, g.author[0]? = some x := ⟨_, List.getElem?_eq_getElem hlt2⟩
       refine Cj.seq (Cj.drawSel [1, 2] [] 16 (by kernel_rfl) ?_)
       have hm1_11 := hm1
       have hm2_11 := hm2
       have hab1_11 := hab1
       have hab2_11 := hab2
       refine JA.fix ⟨(HSub.c 1 rfl (HSub.c 2 rfl HSub.n)), CSub.n, (Le.refl _)⟩ (fun fx27 => ?_)
       refine JA.tk 0 rfl fx27 (yl_move rfl rfl) ?_
       refine JA.tk 1 rfl fx27 (yl_fieldAddr (off' := 2) rfl rfl Tryz.underlying67 rfl Tryz.sizeOf31 rfl) ?_
       refine JA.tk 2 rfl fx27 (yl_load rfl rfl Tryz.isAgg31 (Blk.atC 1 rfl) rfl) ?_
       refine JA.tk 3 rfl fx27 (yl_indexAddr (off' := 0) rfl rfl rfl Tryz.underlying31 Tryz.sizeOf9 (by decide) (by omega) (by simp)) ?_
       refine JA.tk 4 rfl fx27 (yl_load rfl rfl Tryz.isAgg9 (Blk.immC hab1_11) (str_get hget1)) ?_
       refine JA.tk 5 rfl fx27 (yl_fieldAddr (off' := 2) rfl rfl Tryz.underlying67 rfl Tryz.sizeOf31 rfl) ?_
       refine JA.tk 6 rfl fx27 (yl_load rfl rfl Tryz.isAgg31 (Blk.atC 0 rfl) rfl) ?_
       refine JA.tk 7 rfl fx27 (yl_indexAddr (off' := 0) rfl rfl rfl Tryz.underlying31 Tryz.sizeOf9 (by decide) (by omega) (by simp)) ?_
       refine JA.tk 8 rfl fx27 (yl_load rfl rfl Tryz.isAgg9 (Blk.immC hab2_11) (str_get hget2)) ?_
       refine JA.tk 9 rfl fx27 (yl_eqlStr rfl rfl rfl) ?_
       refine JA.tk 10 rfl fx27 (yl_fieldAddr (off' := 2) rfl rfl Tryz.underlying67 rfl Tryz.sizeOf31 rfl) ?_
       refine JA.tk 11 rfl fx27 (yl_load rfl rfl Tryz.isAgg31 (Blk.atC 1 rfl) rfl) ?_
       refine JA.tk 12 rfl fx27 (yl_fieldAddr (off' := 2) rfl rfl Tryz.underlying67 rfl Tryz.sizeOf31 rfl) ?_
       refine JA.tk 13 rfl fx27 (yl_load rfl rfl Tryz.isAgg31 (Blk.atC 0 rfl) rfl) ?_
       refine JA.step 14 (by kernel_rfl) rfl rfl (op_pure rfl rfl rfl rfl rfl (Equal_ok f.author g.author _ _ (by omega) _ ha1 ha2 (by omega)) ?_)
       refine ⟨⟨(Le.refl _), (HSub.c 1 rfl (HSub.c 2 rfl HSub.n)), CSub.n⟩, ?_⟩
       refine JA.pull Pull.z ?_
       refine JA.step 15 (by kernel_rfl) rfl rfl (op_call (H1 := [_]) rfl rfl rfl rfl rfl (points1_ok 200 _ _ _ _ _ _ _ (by decide) (by omega) (by decide) (by decide)) ?_ (fun _ _ _ _ h => by obtain ⟨_, h, _⟩ := h; cases h) (fun _ _ h => by obtain ⟨_, h, _⟩ := h; cases h))
       intro v28 I29 H30 hle31 hp32
       have hm1 := hle31 _ _ hm1
       have hm2 := hle31 _ _ hm2
       have ha1 := ha1.mono hle31
       have ha2 := ha2.mono hle31
       have hab1 := hle31 _ _ hab1
       have hab2 := hle31 _ _ hab2
       obtain ⟨s3, h, hI, hs3, hbs3, rfl⟩ := hp32; cases h; subst hI
       refine ⟨⟨(Le.trans (Le.refl _) hle31), (HSub.c 1 rfl (HSub.c 2 rfl HSub.n)), CSub.n⟩, ?_⟩
       refine JA.done (by kernel_rfl) ?_
       refine Ej.seq (Cj.drawSel [1, 2] [] 11 (by kernel_rfl) ?_)
       have hm1_12 := hm1
       have hm2_12 := hm2
       have hab1_12 := hab1
       have hab2_12 := hab2
       refine JA.fix ⟨(HSub.c 1 rfl (HSub.c 2 rfl HSub.n)), CSub.n, (Le.refl _)⟩ (fun fx33 => ?_)
       refine JA.tk 0 rfl fx33 (yl_move rfl rfl) ?_
       refine JA.tk 1 rfl fx33 (yl_fieldAddr (off' := 2) rfl rfl Tryz.underlying67 rfl Tryz.sizeOf31 rfl) ?_
       refine JA.tk 2 rfl fx33 (yl_load rfl rfl Tryz.isAgg31 (Blk.atC 1 rfl) rfl) ?_
       refine JA.tk 3 rfl fx33 (yl_indexAddr (off' := 0) rfl rfl rfl Tryz.underlying31 Tryz.sizeOf9 (by decide) (by omega) (by simp)) ?_
       refine JA.tk 4 rfl fx33 (yl_load rfl rfl Tryz.isAgg9 (Blk.immC hab1_12) (str_get hget1)) ?_
       refine JA.tk 5 rfl fx33 (yl_fieldAddr (off' := 2) rfl rfl Tryz.underlying67 rfl Tryz.sizeOf31 rfl) ?_
       refine JA.tk 6 rfl fx33 (yl_load rfl rfl Tryz.isAgg31 (Blk.atC 0 rfl) rfl) ?_
       refine JA.tk 7 rfl fx33 (yl_indexAddr (off' := 0) rfl rfl rfl Tryz.underlying31 Tryz.sizeOf9 (by decide) (by omega) (by simp)) ?_
       refine JA.tk 8 rfl fx33 (yl_load rfl rfl Tryz.isAgg9 (Blk.immC hab2_12) (str_get hget2)) ?_
       refine JA.tk 9 rfl fx33 (yl_neqStr rfl rfl rfl) ?_
       refine JA.pull Pull.z ?_
       refine JA.step 10 (by kernel_rfl) rfl rfl (op_call (H1 := [_]) rfl rfl rfl rfl rfl (points1_ok 300 _ _ _ _ _ _ _ (by decide) (by omega) (by decide) (by decide)) ?_ (fun _ _ _ _ h => by obtain ⟨_, h, _⟩ := h; cases h) (fun _ _ h => by obtain ⟨_, h, _⟩ := h; cases h))
       intro v34 I35 H36 hle37 hp38
       have hm1 := hle37 _ _ hm1
       have hm2 := hle37 _ _ hm2
       have ha1 := ha1.mono hle37
       have ha2 := ha2.mono hle37
       have hab1 := hle37 _ _ hab1
       have hab2 := hle37 _ _ hab2
       obtain ⟨s4, h, hI, hs4, hbs4, rfl⟩ := hp38; cases h; subst hI
       refine ⟨⟨(Le.trans (Le.refl _) hle37), (HSub.c 1 rfl (HSub.c 2 rfl HSub.n)), CSub.n⟩, ?_⟩
       refine JA.done (by kernel_rfl) ?_
       exact hcut _ _ _ _ (hs4.trans ((congrArg (fun z => addP _ true (-15) 0 z) hs3).trans ((pA_add _ hget1 hget2).trans (by rw [hsum])))) ⟨rfl, rfl, rfl, rfl, trivial⟩ rfl rfl
      ·
       have hc26p := of_decide_eq_false hc26
       have hno : ¬ (f.author ≠ [] ∧ g.author ≠ []) := fun e => by have h := of_decide_eq_false hc26; have := List.length_pos_iff.2 e.2; omega
       refine Cj.skip ?_
       exact hcut _ _ _ _ (by rw [pA_no hno, hsum]; omega) ⟨rfl, rfl, rfl, rfl, trivial⟩ rfl rfl
     ·
      have hg25p := of_decide_eq_false hg25
      have hno : ¬ (f.author ≠ [] ∧ g.author ≠ []) := fun e => by have h := of_decide_eq_false hg25; have := List.length_pos_iff.2 e.1; omega
      refine J.skip 4 56 57 true _ rfl rfl rfl hg25 rfl rfl ?_
      refine J.skip 4 56 58 true _ rfl rfl rfl hg25 rfl rfl ?_
      refine J.skip 4 56 59 true _ rfl rfl rfl hg25 rfl rfl ?_
      refine J.skip 4 56 60 true _ rfl rfl rfl hg25 rfl rfl ?_
      refine J.z (yl_pick0 rfl rfl hg25 rfl) ?_
      refine J.nil (Ej.seq (Cj.cond rfl (fun hc39 => Bool.noConfusion (Eq.trans (Eq.symm rfl) hc39)) (fun hc39 => ?_)))
      refine Cj.skip ?_
      exact hcut _ _ _ _ (by rw [pA_no hno, hsum]; omega) ⟨rfl, rfl, rfl, rfl, trivial⟩ rfl rfl
   ·
    refine Cj.region (J.z (yl_move rfl rfl) ?_)
    refine J.z (yl_fieldAddr (off' := 1) rfl rfl Tryz.underlying67 rfl Tryz.sizeOf9 rfl) ?_
    refine J.z (yl_load rfl rfl Tryz.isAgg9 (Blk.at 2 rfl) rfl) ?_
    refine J.z (yl_neqStr rfl rfl rfl) ?_
    refine J.z (yl_move rfl rfl) ?_
    refine J.split 41 rfl (fun hg40 => ?_) (fun hg40 => ?_)
    ·
     have hg40p := bne_iff_ne.1 hg40
     refine J.opG 4 41 true _ rfl rfl rfl hg40 (op_yld (yl_fieldAddr (off' := 1) rfl rfl Tryz.underlying67 rfl Tryz.sizeOf9 rfl) rfl rfl ?_)
     refine J.opG 4 41 true _ rfl rfl rfl hg40 (op_yld (yl_load rfl rfl Tryz.isAgg9 (Blk.at 1 rfl) rfl) rfl rfl ?_)
     refine J.opG 4 41 true _ rfl rfl rfl hg40 (op_yld (yl_neqStr rfl rfl rfl) rfl rfl ?_)
     refine J.z (yl_pick1 rfl rfl hg40 rfl) ?_
     refine J.z (yl_fieldAddr (off' := 1) rfl rfl Tryz.underlying67 rfl Tryz.sizeOf9 rfl) ?_
     refine J.z (yl_load rfl rfl Tryz.isAgg9 (Blk.at 2 rfl) rfl) ?_
     refine J.z (yl_fieldAddr (off' := 1) rfl rfl Tryz.underlying67 rfl Tryz.sizeOf9 rfl) ?_
     refine J.z (yl_load rfl rfl Tryz.isAgg9 (Blk.at 1 rfl) rfl) ?_
     refine J.z (yl_eqlStr rfl rfl rfl) ?_
     refine J.pull Pull.z ?_
     refine J.op rfl (op_call (H1 := [_]) rfl rfl rfl rfl rfl (points1_ok 100 _ _ _ _ _ _ _ (by decide) (by omega) (by decide) (by decide)) ?_ (fun _ _ _ _ h => by obtain ⟨_, h, _⟩ := h; cases h) (fun _ _ h => by obtain ⟨_, h, _⟩ := h; cases h))
     intro v41 I42 H43 hle44 hp45
     have hm1 := hle44 _ _ hm1
     have hm2 := hle44 _ _ hm2
     have ha1 := ha1.mono hle44
     have ha2 := ha2.mono hle44
     obtain ⟨s2, h, hI, hs2, hbs2, rfl⟩ := hp45; cases h; subst hI
     refine J.nil ?_
     exact hcut _ _ _ _ (hs2.trans ((pT_add _ (by rw [hg40]; rfl)).trans (by rw [hsum]))) ⟨rfl, rfl, rfl, rfl, trivial⟩ rfl rfl
    ·
     have hg40p := bne_f hg40
     refine J.skip 4 41 42 true _ rfl rfl rfl hg40 rfl rfl ?_
     refine J.skip 4 41 43 true _ rfl rfl rfl hg40 rfl rfl ?_
     refine J.skip 4 41 44 true _ rfl rfl rfl hg40 rfl rfl ?_
     refine J.z (yl_pick0 rfl rfl hg40 rfl) ?_
     refine J.z (yl_fieldAddr (off' := 1) rfl rfl Tryz.underlying67 rfl Tryz.sizeOf9 rfl) ?_
     refine J.z (yl_load rfl rfl Tryz.isAgg9 (Blk.at 2 rfl) rfl) ?_
     refine J.z (yl_fieldAddr (off' := 1) rfl rfl Tryz.underlying67 rfl Tryz.sizeOf9 rfl) ?_
     refine J.z (yl_load rfl rfl Tryz.isAgg9 (Blk.at 1 rfl) rfl) ?_
     refine J.z (yl_eqlStr rfl rfl rfl) ?_
     refine J.pull Pull.z ?_
     refine J.op rfl (op_call (H1 := [_]) rfl rfl rfl rfl rfl (points1_ok 100 _ _ _ _ _ _ _ (by decide) (by omega) (by decide) (by decide)) ?_ (fun _ _ _ _ h => by obtain ⟨_, h, _⟩ := h; cases h) (fun _ _ h => by obtain ⟨_, h, _⟩ := h; cases h))
     intro v46 I47 H48 hle49 hp50
     have hm1 := hle49 _ _ hm1
     have hm2 := hle49 _ _ hm2
     have ha1 := ha1.mono hle49
     have ha2 := ha2.mono hle49
     obtain ⟨s2, h, hI, hs2, hbs2, rfl⟩ := hp50; cases h; subst hI
     refine J.nil ?_
     exact hcut _ _ _ _ (hs2.trans ((pT_add _ (by rw [hg40]; rfl)).trans (by rw [hsum]))) ⟨rfl, rfl, rfl, rfl, trivial⟩ rfl rfl
  ·
   refine Cj.region (J.z (yl_move rfl rfl) ?_)
   refine J.z (yl_fieldAddr (off' := 0) rfl rfl Tryz.underlying67 rfl Tryz.sizeOf65 rfl) ?_
   refine J.z (yl_load rfl rfl Tryz.isAgg65 (Blk.at 3 rfl) rfl) ?_
   refine J.z (yl_lenMap (kv := (fun a : List UInt8 => str a)) (l := l1) rfl rfl Tryz.underlying65 (Blk.imm hm1)) ?_
   refine J.z (yl_gtr rfl rfl rfl) ?_
   refine J.z (yl_move rfl rfl) ?_
   refine J.split 29 rfl (fun hg51 => ?_) (fun hg51 => ?_)
   ·
    have hg51p := of_decide_eq_true hg51
    refine J.opG 5 29 true _ rfl rfl rfl hg51 (op_yld (yl_fieldAddr (off' := 0) rfl rfl Tryz.underlying67 rfl Tryz.sizeOf65 rfl) rfl rfl ?_)
    refine J.opG 5 29 true _ rfl rfl rfl hg51 (op_yld (yl_load rfl rfl Tryz.isAgg65 (Blk.at 2 rfl) rfl) rfl rfl ?_)
    refine J.opG 5 29 true _ rfl rfl rfl hg51 (op_yld (yl_lenMap (kv := (fun a : List UInt8 => str a)) (l := l2) rfl rfl Tryz.underlying65 (Blk.imm hm2)) rfl rfl ?_)
    refine J.opG 5 29 true _ rfl rfl rfl hg51 (op_yld (yl_gtr rfl rfl rfl) rfl rfl ?_)
    refine J.z (yl_pick1 rfl rfl hg51 rfl) ?_
    refine J.z (yl_move rfl rfl) ?_
    refine J.pull (Pull.s Pull.z) ?_
    refine J.op rfl (op_call (H1 := [_]) rfl rfl rfl rfl rfl (points1_ok 0 _ _ _ _ _ _ _ (by decide) (by omega) (by decide) (by decide)) ?_ (fun _ _ _ _ h => by obtain ⟨_, h, _⟩ := h; cases h) (fun _ _ h => by obtain ⟨_, h, _⟩ := h; cases h))
    intro v52 I53 H54 hle55 hp56
    have hm1 := hle55 _ _ hm1
    have hm2 := hle55 _ _ hm2
    have ha1 := ha1.mono hle55
    have ha2 := ha2.mono hle55
    obtain ⟨s1, h, hI, hs1, hbs1, rfl⟩ := hp56; cases h; subst hI
    refine J.nil (Ej.keep (Keeps.k (Keeps.d (Keeps.k (Keeps.k Keeps.n)))) ?_)
    exact hcut _ _ _ _ (hs1.trans ((congrArg (fun z => addP _ z 50 (-30) 0) hcm).trans (pB_add hset1 hset2 (by rw [hg51]; rfl)))) ⟨rfl, rfl, rfl, rfl, trivial⟩ rfl rfl
   ·
    have hg51p := of_decide_eq_false hg51
    refine J.skip 5 29 30 true _ rfl rfl rfl hg51 rfl rfl ?_
    refine J.skip 5 29 31 true _ rfl rfl rfl hg51 rfl rfl ?_
    refine J.skip 5 29 32 true _ rfl rfl rfl hg51 rfl rfl ?_
    refine J.skip 5 29 33 true _ rfl rfl rfl hg51 rfl rfl ?_
    refine J.z (yl_pick0 rfl rfl hg51 rfl) ?_
    refine J.z (yl_move rfl rfl) ?_
    refine J.pull (Pull.s Pull.z) ?_
    refine J.op rfl (op_call (H1 := [_]) rfl rfl rfl rfl rfl (points1_ok 0 _ _ _ _ _ _ _ (by decide) (by omega) (by decide) (by decide)) ?_ (fun _ _ _ _ h => by obtain ⟨_, h, _⟩ := h; cases h) (fun _ _ h => by obtain ⟨_, h, _⟩ := h; cases h))
    intro v57 I58 H59 hle60 hp61
    have hm1 := hle60 _ _ hm1
    have hm2 := hle60 _ _ hm2
    have ha1 := ha1.mono hle60
    have ha2 := ha2.mono hle60
    obtain ⟨s1, h, hI, hs1, hbs1, rfl⟩ := hp61; cases h; subst hI
    refine J.nil (Ej.keep (Keeps.k (Keeps.d (Keeps.k (Keeps.k Keeps.n)))) ?_)
    exact hcut _ _ _ _ (hs1.trans ((congrArg (fun z => addP _ z 50 (-30) 0) hcm).trans (pB_add hset1 hset2 (by rw [hg51]; rfl)))) ⟨rfl, rfl, rfl, rfl, trivial⟩ rfl rfl
theorem author_len {fs : List Ke.Fld} (hok : FOK fs) : (Ke.author fs).length ≤ 1000000000000 := by
  have h1 := first_ok [49, 48, 48] hok
  have h2 := textOf_len (Ke.first fs [49, 48, 48]) [97]
  have h3 := Ke.words_len (Ke.textOf (Ke.first fs [49, 48, 48]) [97])
  unfold Ke.author
  omega
set_option maxRecDepth 20000 in
theorem Points_ok (fs gs : List Ke.Fld) (v u : Value) (rk rl qk ql : UInt8) (hok1 : FOK fs) (hok2 : FOK gs) (hd1 : ∀ f ∈ fs, f.data.length ≤ 2000000) (hd2 : ∀ f ∈ gs, f.data.length ≤ 2000000) (I : Heap) (hr1 : RecS I fs v) (hr2 : RecS I gs u) : Pure Tryz.prog 14 [recV rk rl v, recV qk ql u] I (i64 (Ke.pts (Ke.feat rk fs) (Ke.feat qk gs))) := by
 refine Ctr.toPure ?_
 obtain ⟨pv, cv, rfl, -, -⟩ := id hr1.1
 obtain ⟨pu, cu, rfl, -, -⟩ := id hr2.1
 refine Ctr.of_body Tryz.func14 rfl (by decide) (Nat.le_of_ble_eq_true rfl) ?_
 intro w0 hw0
 refine Cj.seq (Cj.region (J.op rfl (op_box rfl rfl rfl rfl rfl ?_)))
 intro b1 hb1
 refine J.op rfl (op_box rfl rfl rfl rfl rfl ?_)
 intro b2 hb2
 refine J.z (yl_assign rfl rfl) ?_
 refine J.nil (Ej.seq (Cj.seq (Cj.drawSel [0, 1] [] 6 (by kernel_rfl) ?_)))
 refine JA.fix ⟨(HSub.c 0 rfl (HSub.c 1 rfl HSub.n)), CSub.n, (Le.refl _)⟩ (fun fx3 => ?_)
 refine JA.tk 0 rfl fx3 (yl_loadAgg rfl rfl Tryz.isAgg26 Tryz.sizeOf26 (Blk.atC 1 rfl) rfl rfl) ?_
 refine JA.tk 2 rfl fx3 (yl_loadAgg rfl rfl Tryz.isAgg26 Tryz.sizeOf26 (Blk.atC 0 rfl) rfl rfl) ?_
 refine JA.step 1 (by kernel_rfl) rfl rfl (op_call (H1 := []) rfl rfl rfl rfl rfl (of_ok fs _ rk rl hok1 hd1 _ hr1) ?_ (fun _ _ _ _ h => by obtain ⟨_, h, _⟩ := h; cases h) (fun _ _ h => by obtain ⟨_, h, _⟩ := h; cases h))
 intro v4 I5 H6 hle7 hp8
 have hr1 := hr1.mono hle7
 have hr2 := hr2.mono hle7
 obtain ⟨vff, h, ff, rfl⟩ := hp8; cases h
 refine ⟨⟨(Le.trans (Le.refl _) hle7), (HSub.c 0 rfl (HSub.c 1 rfl HSub.n)), CSub.n⟩, ?_⟩
 refine JA.step 3 (by kernel_rfl) rfl rfl (op_call (H1 := []) rfl rfl rfl rfl rfl (of_ok gs _ qk ql hok2 hd2 _ hr2) ?_ (fun _ _ _ _ h => by obtain ⟨_, h, _⟩ := h; cases h) (fun _ _ h => by obtain ⟨_, h, _⟩ := h; cases h))
 intro v9 I10 H11 hle12 hp13
 have hr1 := hr1.mono hle12
 have hr2 := hr2.mono hle12
 have ff := ff.mono hle12
 obtain ⟨vfg, h, fg, rfl⟩ := hp13; cases h
 refine ⟨⟨(Le.trans (Le.trans (Le.refl _) hle7) hle12), (HSub.c 0 rfl (HSub.c 1 rfl HSub.n)), CSub.n⟩, ?_⟩
 refine JA.step 4 (by kernel_rfl) rfl rfl (op_pure rfl rfl rfl rfl rfl (points_ok (Ke.feat rk fs) (Ke.feat qk gs) _ _ (Ke.year_rng _) (Ke.year_rng _) (author_len hok1) (author_len hok2) _ ff fg) ?_)
 refine ⟨⟨(Le.trans (Le.trans (Le.refl _) hle7) hle12), (HSub.c 0 rfl (HSub.c 1 rfl HSub.n)), CSub.n⟩, ?_⟩
 refine JA.fix ⟨(HSub.c 0 rfl (HSub.c 1 rfl HSub.n)), CSub.n, (Le.trans (Le.trans (Le.refl _) hle7) hle12)⟩ (fun fx14 => ?_)
 refine JA.tk 5 rfl fx14 (yl_assign rfl rfl) ?_
 refine JA.done (by kernel_rfl) ?_
 refine Ej.seq (Cj.ret (Ej.bare ?_))
 refine Ej.ret1 rfl rfl rfl ?_
 exact ⟨rfl, rfl⟩
set_option maxRecDepth 20000 in
theorem Same_ok (fs gs : List Ke.Fld) (v u : Value) (rk rl qk ql : UInt8) (hok1 : FOK fs) (hok2 : FOK gs) (hd1 : ∀ f ∈ fs, f.data.length ≤ 2000000) (hd2 : ∀ f ∈ gs, f.data.length ≤ 2000000) (I : Heap) (hr1 : RecS I fs v) (hr2 : RecS I gs u) : Pure Tryz.prog 16 [recV rk rl v, recV qk ql u] I (.bool (decide (Ke.pts (Ke.feat rk fs) (Ke.feat qk gs) ≥ 40))) := by
 refine Ctr.toPure ?_
 obtain ⟨pv, cv, rfl, -, -⟩ := id hr1.1
 obtain ⟨pu, cu, rfl, -, -⟩ := id hr2.1
 refine Ctr.of_body Tryz.func16 rfl (by decide) (Nat.le_of_ble_eq_true rfl) ?_
 intro w0 hw0
 refine Cj.seq (Cj.region (J.op rfl (op_box rfl rfl rfl rfl rfl ?_)))
 intro b1 hb1
 refine J.op rfl (op_box rfl rfl rfl rfl rfl ?_)
 intro b2 hb2
 refine J.z (yl_assign rfl rfl) ?_
 refine J.nil (Ej.seq (Cj.seq (Cj.region (J.z (yl_loadAgg rfl rfl Tryz.isAgg26 Tryz.sizeOf26 (Blk.at 1 rfl) rfl rfl) ?_))))
 refine J.z (yl_loadAgg rfl rfl Tryz.isAgg26 Tryz.sizeOf26 (Blk.at 0 rfl) rfl rfl) ?_
 refine J.op rfl (op_pure rfl rfl rfl rfl rfl (Points_ok fs gs _ _ rk rl qk ql hok1 hok2 hd1 hd2 _ hr1 hr2) ?_)
 refine J.z (yl_geq rfl rfl rfl) ?_
 refine J.z (yl_assign rfl rfl) ?_
 refine J.nil (Ej.seq (Cj.ret (Ej.bare ?_)))
 refine Ej.ret1 rfl rfl rfl ?_
 exact ⟨rfl, rfl⟩
end Go.Proofs.YtadnofaleepkmaaGreatDoor
end
section
namespace Go.Proofs.YtadnofaleepkmaaGreatDoor
open Go Go.Sx
/-- Numbers as they lie. -/
abbrev nat64 (x : Nat) : Value := i64 (x : Int)
theorem nat_get {P : List Nat} {i : Nat} (h : i < P.length) : (P.map nat64)[i]? = some (i64 ((P.getD i 0 : Nat) : Int)) := by
  rw [List.getElem?_map, List.getElem?_eq_getElem h, List.getD, List.getElem?_eq_getElem h]; rfl
set_option maxRecDepth 20000 in
theorem root_ok (n : Nat) (ps : Kp.Prs) (pc rc sb : Nat) (_hn : n ≤ 1000000000000) (I : Heap) (hpc : I pc = some (cel 62 [.slice (some ⟨sb, 0, none⟩) n n])) (hrc : I rc = some (cel 97 [.func (.func 57) #[] #[ptr pc 0, ptr rc 0]])) :
    ∀ (i : Nat) (P : List Nat), i < n → Kp.For n ps P → Ctr Tryz.prog 57 [i64 (i : Int), ptr pc 0, ptr rc 0] I [(sb, cel 3 (P.map nat64))]
      (fun e I' H' => ∃ P', I = I' ∧ e = .returned (i64 ((Kp.rootOf P i : Nat) : Int)) ∧ Kp.For n ps P' ∧ (∀ j, Kp.rootOf P' j = Kp.rootOf P j) ∧ H' = [(sb, cel 3 (P'.map nat64))]) := by
 refine fun i => Nat.strongRecOn i (fun i ih P hi hF => ?_)
 have hpl := hF.len
 have hle := hF.le i hi
 refine Ctr.of_body Tryz.func57 rfl (by decide) (Nat.le_of_ble_eq_true rfl) ?_
 intro w0 hw0
 refine Cj.seq (Cj.region (J.z (yl_assign rfl rfl) ?_))
 refine J.nil (Ej.seq (Cj.seq (Cj.seq (Cj.region (J.z (yl_load rfl rfl Tryz.isAgg62 (Blk.imm hpc) rfl) ?_)))))
 refine J.z (yl_move rfl rfl) ?_
 refine J.z (yl_indexAddr (off' := i) rfl rfl rfl Tryz.underlying62 Tryz.sizeOf3 (by omega) (by omega) (by simp)) ?_
 refine J.z (yl_load rfl rfl Tryz.isAgg3 (Blk.at 0 rfl) (nat_get (by omega))) ?_
 refine J.z (yl_move rfl rfl) ?_
 refine J.z (yl_neq rfl rfl rfl) ?_
 refine J.nil (Ej.seq (Cj.cond rfl (fun hc1 => ?_) (fun hc1 => ?_)))
 ·
  have hc1p := bne_iff_ne.1 hc1
  have hlt : P.getD i 0 < i := by have h := bne_iff_ne.1 hc1; omega
  refine Cj.drawSel [] [] 10 (by kernel_rfl) ?_
  have hpc_2 := hpc
  have hrc_2 := hrc
  refine JA.fix ⟨HSub.n, CSub.n, (Le.refl _)⟩ (fun fx2 => ?_)
  refine JA.tk 0 rfl fx2 (yl_load rfl rfl Tryz.isAgg62 (Blk.immC hpc_2) rfl) ?_
  refine JA.tk 1 rfl fx2 (yl_move rfl rfl) ?_
  refine JA.tk 2 rfl fx2 (yl_load rfl rfl Tryz.isAgg97 (Blk.immC hrc_2) rfl) ?_
  refine JA.tk 3 rfl fx2 (yl_load rfl rfl Tryz.isAgg62 (Blk.immC hpc_2) rfl) ?_
  refine JA.tk 4 rfl fx2 (yl_move rfl rfl) ?_
  refine JA.tk 5 rfl fx2 (yl_indexAddr (off' := i) rfl rfl rfl Tryz.underlying62 Tryz.sizeOf3 (by omega) (by omega) (by simp)) ?_
  refine JA.step 6 (by kernel_rfl) rfl rfl (op_yld (yl_load rfl rfl Tryz.isAgg3 (Blk.at 0 rfl) (nat_get (by omega))) rfl rfl ?_)
  refine ⟨⟨(Le.refl _), HSub.n, CSub.n⟩, ?_⟩
  refine JA.pull Pull.z ?_
  refine JA.step 7 (by kernel_rfl) rfl rfl (op_call (H1 := [_]) rfl rfl rfl rfl rfl (ih (P.getD i 0) hlt P (by omega) hF) ?_ (fun _ _ _ _ h => by obtain ⟨_, _, h, _⟩ := h; cases h) (fun _ _ h => by obtain ⟨_, _, h, _⟩ := h; cases h))
  intro v3 I4 H5 hle6 hp7
  have hpc := hle6 _ _ hpc
  have hrc := hle6 _ _ hrc
  obtain ⟨P1, hI, h, hF1, hR1, rfl⟩ := hp7; cases h; subst hI
  rw [← Kp.rootOf_step hlt]
  refine ⟨⟨(Le.trans (Le.refl _) hle6), HSub.n, CSub.n⟩, ?_⟩
  refine JA.fix ⟨HSub.n, CSub.n, (Le.trans (Le.refl _) hle6)⟩ (fun fx8 => ?_)
  refine JA.tk 8 rfl fx8 (yl_indexAddr (off' := i) rfl rfl rfl Tryz.underlying62 Tryz.sizeOf3 (by omega) (by omega) (by simp)) ?_
  refine JA.step 9 (by kernel_rfl) rfl rfl (op_store1 0 rfl rfl rfl rfl rfl rfl Tryz.sizeOf3 rfl (.inl rfl) (by rw [List.length_map, hF1.len]; exact hi) LSet.z ?_)
  refine ⟨⟨(Le.trans (Le.refl _) hle6), HSub.n, CSub.n⟩, ?_⟩
  refine JA.done (by kernel_rfl) ?_
  refine Ej.seq (Cj.seq (Cj.region (J.z (yl_load rfl rfl Tryz.isAgg62 (Blk.imm hpc) rfl) ?_)))
  refine J.z (yl_move rfl rfl) ?_
  refine J.z (yl_indexAddr (off' := i) rfl rfl rfl Tryz.underlying62 Tryz.sizeOf3 (by omega) (by omega) (by simp)) ?_
  refine J.z (yl_load rfl rfl Tryz.isAgg3 (Blk.at 0 rfl) (by rw [List.getElem?_set_self (by rw [List.length_map, hF1.len]; exact hi)])) ?_
  refine J.z (yl_assign rfl rfl) ?_
  refine J.nil (Ej.seq (Cj.ret (Ej.ret1 rfl rfl rfl ?_)))
  have hs := hF1.short hi
  rw [hR1] at hs
  exact ⟨P1.set i (Kp.rootOf P i), rfl, rfl, hs, fun j => by rw [← hR1 i, Kp.rootOf_short (by rw [hF1.len]; exact hi), hR1], by rw [List.map_set]; rfl⟩
 ·
  have hc1p := bne_f hc1
  have heq : P.getD i 0 = i := by have h := bne_f hc1; omega
  refine Cj.skip (Ej.seq (Cj.seq (Cj.region (J.z (yl_load rfl rfl Tryz.isAgg62 (Blk.imm hpc) rfl) ?_))))
  refine J.z (yl_move rfl rfl) ?_
  refine J.z (yl_indexAddr (off' := i) rfl rfl rfl Tryz.underlying62 Tryz.sizeOf3 (by omega) (by omega) (by simp)) ?_
  refine J.z (yl_load rfl rfl Tryz.isAgg3 (Blk.at 0 rfl) (nat_get (by omega))) ?_
  refine J.z (yl_assign rfl rfl) ?_
  refine J.nil (Ej.seq (Cj.ret (Ej.ret1 rfl rfl rfl ?_)))
  exact ⟨P, rfl, by rw [Kp.rootOf_stop (by omega), heq], hF, fun _ => rfl, rfl⟩
end Go.Proofs.YtadnofaleepkmaaGreatDoor
end
section
namespace Go.Proofs.YtadnofaleepkmaaGreatDoor
open Go Go.Sx
end Go.Proofs.YtadnofaleepkmaaGreatDoor
end
section
namespace Go.Sx
open Go
section
variable {P : Program} {t e : TypeId}
theorem run_equalIn_two (w : World) (d : Nat) (ht : P.underlying t = some (.array 2 e)) (he : P.underlying e = some (.int .i64)) (hc : P.cellsOf e = 1) {i : TypeInfo} (hi : P.info? e = some i) (ha : ∀ w, (isAgg e).run P w = .ok false w) (a b : Int × Int) :
    (Op.equalIn (d + 2) t (.agg #[i64 a.1, i64 a.2]) (.agg #[i64 b.1, i64 b.2])).run P w = .ok (a == b) w := by
  rw [run_equalIn_array w (d + 1) _ _ ht hi, hc, show List.range 2 = [0, 1] from rfl]
  have p0 : ∀ (x y : Value) w, (part e #[x, y] (0 * 1)).run P w = .ok x w := fun x y w => run_part0 ha rfl
  have p1 : ∀ (x y : Value) w, (part e #[x, y] (1 * 1)).run P w = .ok y w := fun x y w => run_part0 ha rfl
  have q : ∀ (x y : Int) w, (Op.equalIn (d + 1) e (i64 x) (i64 y)).run P w = .ok (x == y) w := fun x y w => run_equalIn_int w d e .i64 .i64 x y he
  simp only [Op.eqItems, Sem.run_bind, p0, q, Result.andThen_ok]
  obtain ⟨a1, a2⟩ := a
  obtain ⟨b1, b2⟩ := b
  by_cases h1 : a1 = b1
  · by_cases h2 : a2 = b2
    · simp [h1, h2, Sem.run_bind, p1, q]
    · simp [h1, h2, Sem.run_bind, p1, q]
  · simp [h1]
theorem info_of {d : TypeDesc} (h : P.underlying e = some d) : ∃ i, P.info? e = some i := by
  cases hi : P.info? e with
  | none => simp [Program.underlying, hi] at h
  | some i => exact ⟨i, rfl⟩
variable {cx : Cx} {S : World → Prop} {ev0 : Env} {o : Oper}
theorem yl_neqA2 {x y : Operand} {U : Nat} {a b : Int × Int} {vs us : List Value} (ho : o.op = .binOp .neq t x y U) (hx : ev ev0 x = some (.agg vs.toArray)) (hy : ev ev0 y = some (.agg us.toArray)) (hvs : vs = [i64 a.1, i64 a.2]) (hus : us = [i64 b.1, i64 b.2])
    (ht : cx.P.underlying t = some (.array 2 e)) (he : cx.P.underlying e = some (.int .i64)) (hc : cx.P.cellsOf e = 1) (ha : ∀ w, (isAgg e).run cx.P w = .ok false w) (hq : cx.P.eqGuardType cx.P.depth t = false) : Yld cx o ev0 S (.bool (a != b)) := by
  subst hvs hus
  obtain ⟨i, hi⟩ := info_of he
  intro w0 w hw _
  have hg : (eqGuard .neq t x y (.agg #[i64 a.1, i64 a.2]) (.agg #[i64 b.1, i64 b.2])).run cx.P w = .ok () w := by
    simp [eqGuard, hq]
  have h1 := run_neq_struct (P := cx.P) w t #[i64 a.1, i64 a.2] #[i64 b.1, i64 b.2]
  rw [run_equalIn_two w 9998 ht he hc hi ha a b] at h1
  simp [execOp, ho, hw.eval hx, hw.eval hy, hg, h1, bne]
theorem yl_eqlA2 {x y : Operand} {U : Nat} {a b : Int × Int} {vs us : List Value} (ho : o.op = .binOp .eql t x y U) (hx : ev ev0 x = some (.agg vs.toArray)) (hy : ev ev0 y = some (.agg us.toArray)) (hvs : vs = [i64 a.1, i64 a.2]) (hus : us = [i64 b.1, i64 b.2])
    (ht : cx.P.underlying t = some (.array 2 e)) (he : cx.P.underlying e = some (.int .i64)) (hc : cx.P.cellsOf e = 1) (ha : ∀ w, (isAgg e).run cx.P w = .ok false w) (hq : cx.P.eqGuardType cx.P.depth t = false) : Yld cx o ev0 S (.bool (a == b)) := by
  subst hvs hus
  obtain ⟨i, hi⟩ := info_of he
  intro w0 w hw _
  have hg : (eqGuard .eql t x y (.agg #[i64 a.1, i64 a.2]) (.agg #[i64 b.1, i64 b.2])).run cx.P w = .ok () w := by
    simp [eqGuard, hq]
  have h1 := run_eql_struct (P := cx.P) w t #[i64 a.1, i64 a.2] #[i64 b.1, i64 b.2]
  rw [run_equalIn_two w 9998 ht he hc hi ha a b] at h1
  simp [execOp, ho, hw.eval hx, hw.eval hy, hg, h1]
end
end Go.Sx
end
