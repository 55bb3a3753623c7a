/-
  The law MatchYears. Own text, printed by a program. Conditions: none.
-/
import Derived.Test.YtadnofaleepkmaaGreatDoorPA11
import Derived.Test.YtadnofaleepkmaaGreatDoorPA12
import Derived.Test.YtadnofaleepkmaaGreatDoorPA10
namespace Go.Proofs.YtadnofaleepkmaaGreatDoor
open Go Go.Sx
/-- What a dated record has. -/
theorem dated_feat {x : Nat} (hx : x < 10000) {fs : List Ke.Fld} (h : Dated x fs) : (Ke.feat 97 fs).books = [] ∧ (Ke.feat 97 fs).title = [] ∧ (Ke.feat 97 fs).author = [] ∧ (Ke.feat 97 fs).year = (x : Int) := by
  rcases h with ⟨w, v, rfl⟩ | ⟨u, v, rfl⟩
  · exact ⟨rfl, rfl, rfl, Ke.year_260 hx w v⟩
  · exact ⟨rfl, rfl, rfl, Ke.year_008 hx u v _⟩
theorem small2 {fs : List Ke.Fld} (h : fs.length ≤ 5 ∧ ∀ f ∈ fs, f.subs.length ≤ 5 ∧ textsLen f.subs ≤ 50 ∧ f.ind.length ≤ 5 ∧ f.data.length ≤ 50) : FOK fs ∧ ∀ f ∈ fs, f.data.length ≤ 2000000 := by
  refine ⟨⟨by omega, fun f hf => ?_⟩, fun f hf => ?_⟩
  · obtain ⟨h1, h2, h3, -⟩ := h.2 f hf; exact ⟨by omega, by omega, by omega⟩
  · have := (h.2 f hf).2.2.2; omega
theorem dated_ok2 {x : Nat} {fs : List Ke.Fld} (h : Dated x fs) : FOK fs ∧ ∀ f ∈ fs, f.data.length ≤ 2000000 := by
  have hw : ∀ w, (Ke.wayC x w).length ≤ 20 := fun w => by unfold Ke.wayC; split <;> simp [Ke.s4]
  rcases h with ⟨w, v, rfl⟩ | ⟨u, v, rfl⟩
  · refine small2 ⟨by simp, fun f hf => ?_⟩
    rw [List.mem_singleton.1 hf]
    have := hw w
    exact ⟨by simp, by simp [textsLen]; omega, by simp, by simp⟩
  · refine small2 ⟨by simp, fun f hf => ?_⟩
    simp only [List.mem_cons, List.not_mem_nil, or_false] at hf
    rcases hf with rfl | rfl
    · exact ⟨by simp, by simp [textsLen], by simp, by simp [Ke.s4]⟩
    · exact ⟨by simp, by simp [textsLen], by simp, by simp⟩
theorem pts_dated {x y : Nat} (hx : x < 10000) (hy : y < 10000) {fs gs : List Ke.Fld} (h : Dated x fs) (k : Dated y gs) : Ke.pts (Ke.feat 97 fs) (Ke.feat 97 gs) = Ke.pY (x : Int) (y : Int) := by
  obtain ⟨h1, h2, h3, h4⟩ := dated_feat hx h
  obtain ⟨-, -, -, k4⟩ := dated_feat hy k
  rw [Ke.pts_years (b := Ke.feat 97 gs) ⟨h1, h2, h3⟩ rfl, h4, k4]
theorem pts_dated0 {x : Nat} (hx : x < 10000) {fs : List Ke.Fld} (h : Dated x fs) : Ke.pts (Ke.feat 97 fs) (Ke.feat 97 []) = 0 := by
  obtain ⟨h1, h2, h3, h4⟩ := dated_feat hx h
  rw [Ke.pts_years (b := Ke.feat 97 []) ⟨h1, h2, h3⟩ rfl]
  exact Ke.pY_none _
theorem nil_ok : FOK [] ∧ ∀ f ∈ ([] : List Ke.Fld), f.data.length ≤ 2000000 := ⟨⟨Nat.zero_le _, fun f hf => by cases hf⟩, fun f hf => by cases hf⟩
theorem nil_rec (I : Heap) : RecS I [] (.slice none 0 0) := ⟨RowS.nil, fun f hf => by cases hf⟩
theorem way8 (w : UInt8) : (w.toNat : Int).tdiv 8 = ((UInt8.ofNat (w.toNat / 8)).toNat : Int) := by
  have h := w.toNat_lt
  rw [UInt8.toNat_ofNat_of_lt' (show _ < 256 by omega), Int.tdiv_eq_ediv_of_nonneg (by omega)]; omega
set_option maxRecDepth 20000 in
theorem MatchYears_ok (a b : Nat) (way : UInt8) (_ha : a < 65536) (_hb : b < 65536) (I : Heap) : Pure Tryz.prog 5 [.int .u16 (a : Int), .int .u16 (b : Int), u8 way] I (.bool true) := by
 refine Ctr.toPure ?_
 have hwl := way.toNat_lt
 refine Ctr.of_body Tryz.func5 rfl (by decide) (Nat.le_of_ble_eq_true rfl) ?_
 intro w0 hw0
 refine Cj.seq (Cj.region (J.z (yl_assign rfl rfl) ?_))
 refine J.nil (Ej.seq (Cj.seq (Cj.region (J.op rfl (op_pure rfl rfl rfl rfl rfl (sanity_ok _) ?_)))))
 refine J.z (yl_assign rfl rfl) ?_
 refine J.nil (Ej.seq (Cj.seq (Cj.region (J.z (yl_move rfl rfl) ?_))))
 refine J.z (yl_rem rfl rfl rfl (by decide)) ?_
 refine J.eqv 15 rfl (show _ = .int .u16 (((a % 10000) : Nat) : Int) from rfl) ?_
 refine J.z (yl_convInt rfl rfl Tryz.underlying42 Tryz.underlying3) ?_
 refine J.eqv 16 rfl (show _ = i64 (((a % 10000) : Nat) : Int) from (congrArg i64 (w64 (by omega)))) ?_
 refine J.z (yl_assign rfl rfl) ?_
 refine J.nil (Ej.seq (Cj.seq (Cj.region (J.z (yl_move rfl rfl) ?_))))
 refine J.z (yl_rem rfl rfl rfl (by decide)) ?_
 refine J.eqv 18 rfl (show _ = .int .u16 (((b % 10000) : Nat) : Int) from rfl) ?_
 refine J.z (yl_convInt rfl rfl Tryz.underlying42 Tryz.underlying3) ?_
 refine J.eqv 19 rfl (show _ = i64 (((b % 10000) : Nat) : Int) from (congrArg i64 (w64 (by omega)))) ?_
 refine J.z (yl_assign rfl rfl) ?_
 refine J.nil (Ej.seq (Cj.seq (Cj.region (J.z (yl_move rfl rfl) ?_))))
 refine J.z (yl_move rfl rfl) ?_
 refine J.op rfl (op_call (H1 := []) rfl rfl rfl rfl rfl (dated_ok (a % 10000) way (by omega) _) ?_ (fun _ _ _ _ h => by obtain ⟨_, _, h, _⟩ := h; cases h) (fun _ _ h => by obtain ⟨_, _, h, _⟩ := h; cases h))
 intro v1 I2 H3 hle4 hp5
 obtain ⟨fs1, w1, h, hR1, hD1, rfl⟩ := hp5; cases h
 obtain ⟨rp1, rc1, rfl, -, -⟩ := id hR1.1
 refine J.op rfl (op_alloc rfl rfl rfl Tryz.zeroValue26 rfl ?_)
 intro b6 hb6
 refine J.op rfl (op_store 0 rfl rfl rfl rfl rfl rfl Tryz.sizeOf26 rfl rfl (LSpl.c (LSpl.c (LSpl.c LSpl.z))) LSet.z ?_)
 refine J.nil (Ej.seq (Cj.seq (Cj.region (J.z (yl_move rfl rfl) ?_))))
 refine J.z (yl_move rfl rfl) ?_
 refine J.z (yl_quo rfl rfl rfl (by decide) (u8_wrap (by rw [way8]; omega) (by rw [way8]; have := (UInt8.ofNat (way.toNat / 8)).toNat_lt; omega))) ?_
 refine J.eqv 25 rfl (show _ = u8 (UInt8.ofNat (way.toNat / 8)) from (congrArg (Value.int .u8) (way8 way))) ?_
 refine J.op rfl (op_call (H1 := []) rfl rfl rfl rfl rfl (dated_ok (b % 10000) (UInt8.ofNat (way.toNat / 8)) (by omega) _) ?_ (fun _ _ _ _ h => by obtain ⟨_, _, h, _⟩ := h; cases h) (fun _ _ h => by obtain ⟨_, _, h, _⟩ := h; cases h))
 intro v7 I8 H9 hle10 hp11
 have hR1 := hR1.mono hle10
 obtain ⟨fs2, w2, h, hR2, hD2, rfl⟩ := hp11; cases h
 obtain ⟨rp2, rc2, rfl, -, -⟩ := id hR2.1
 refine J.op rfl (op_alloc rfl rfl rfl Tryz.zeroValue26 rfl ?_)
 intro b12 hb12
 refine J.op rfl (op_store 0 rfl rfl rfl rfl rfl rfl Tryz.sizeOf26 rfl rfl (LSpl.c (LSpl.c (LSpl.c LSpl.z))) LSet.z ?_)
 refine J.nil (Ej.seq (Cj.seq (Cj.region (J.z (yl_assign rfl rfl) ?_))))
 refine J.nil (Ej.seq (Cj.seq (Cj.seq (Cj.region (J.z (yl_move rfl rfl) ?_)))))
 refine J.z (yl_move rfl rfl) ?_
 refine J.z (yl_eql rfl rfl rfl) ?_
 refine J.nil (Ej.seq (Cj.cond rfl (fun hc13 => ?_) (fun hc13 => ?_)))
 ·
  have hc13p := eq_of_beq hc13
  refine Cj.region (J.z (yl_assign rfl rfl) ?_)
  refine J.nil (Ej.seq (Cj.seq (Cj.seq (Cj.region (J.z (yl_move rfl rfl) ?_)))))
  refine J.z (yl_move rfl rfl) ?_
  refine J.z (yl_sub rfl rfl rfl (w64 (by omega))) ?_
  refine J.z (yl_eql rfl rfl rfl) ?_
  refine J.z (yl_move rfl rfl) ?_
  refine J.split 34 rfl (fun hg14 => ?_) (fun hg14 => ?_)
  ·
   have hg14p := eq_of_beq hg14
   refine J.skip 4 34 35 false _ rfl rfl rfl hg14 rfl rfl ?_
   refine J.skip 4 34 36 false _ rfl rfl rfl hg14 rfl rfl ?_
   refine J.skip 4 34 37 false _ rfl rfl rfl hg14 rfl rfl ?_
   refine J.skip 4 34 38 false _ rfl rfl rfl hg14 rfl rfl ?_
   refine J.z (yl_pick1 rfl rfl hg14 rfl) ?_
   refine J.nil (Ej.seq (Cj.cond rfl (fun hc15 => ?_) (fun hc15 => Bool.noConfusion (Eq.trans (Eq.symm rfl) hc15))))
   refine Cj.region (J.z (yl_assign rfl rfl) ?_)
   refine J.nil (Ej.seq (Cj.seq (Cj.region (J.z (yl_move rfl rfl) ?_))))
   refine J.z (yl_move rfl rfl) ?_
   refine J.opG 1 41 true _ rfl rfl rfl rfl (op_yld (yl_loadAgg rfl rfl Tryz.isAgg26 Tryz.sizeOf26 (Blk.at 1 rfl) rfl rfl) rfl rfl ?_)
   refine J.opG 1 41 true _ rfl rfl rfl rfl (op_yld (yl_loadAgg rfl rfl Tryz.isAgg26 Tryz.sizeOf26 (Blk.at 0 rfl) rfl rfl) rfl rfl ?_)
   refine J.opG 1 41 true _ rfl rfl rfl rfl (op_pure rfl rfl rfl rfl rfl (Points_ok fs1 fs2 _ _ 97 0 97 0 (dated_ok2 hD1).1 (dated_ok2 hD2).1 (dated_ok2 hD1).2 (dated_ok2 hD2).2 _ hR1 hR2) ?_)
   refine J.eqv 44 rfl (show _ = i64 (0) from (congrArg i64 (by rw [pts_dated (by omega) (by omega) hD1 hD2]; unfold Ke.pY; repeat (first | omega | split)))) ?_
   refine J.opG 1 41 true _ rfl rfl rfl rfl (op_yld (yl_move rfl rfl) rfl rfl ?_)
   refine J.opG 1 41 true _ rfl rfl rfl rfl (op_yld (yl_eql rfl rfl rfl) rfl rfl ?_)
   refine J.z (yl_pick1 rfl rfl rfl rfl) ?_
   refine J.z (yl_move rfl rfl) ?_
   refine J.opG 8 48 true _ rfl rfl rfl (by first | rfl | decide) (op_yld (yl_loadAgg rfl rfl Tryz.isAgg26 Tryz.sizeOf26 (Blk.at 1 rfl) rfl rfl) rfl rfl ?_)
   refine J.opG 8 48 true _ rfl rfl rfl (by first | rfl | decide) (op_yld (yl_buildS (pl := #[(0, 1), (1, 1), (2, 1)]) rfl rfl Tryz.zeroValue26 rfl Tryz.underlying26 (fun w => by simp [Tryz.sizeOf23, Tryz.sizeOf5]) (LBld.part rfl rfl rfl (LSpl.c LSpl.z) LBld.none)) rfl rfl ?_)
   refine J.opG 8 48 true _ rfl rfl rfl (by first | rfl | decide) (op_pure rfl rfl rfl rfl rfl (Points_ok fs1 [] _ _ 97 0 97 0 (dated_ok2 hD1).1 nil_ok.1 (dated_ok2 hD1).2 nil_ok.2 _ hR1 (nil_rec _)) ?_)
   refine J.eqv 51 rfl (show _ = i64 0 from (congrArg i64 (pts_dated0 (by omega) hD1))) ?_
   refine J.opG 8 48 true _ rfl rfl rfl (by first | rfl | decide) (op_yld (yl_eql rfl rfl rfl) rfl rfl ?_)
   refine J.z (yl_pick1 rfl rfl (by first | rfl | decide) rfl) ?_
   refine J.z (yl_assign rfl rfl) ?_
   refine J.nil (Ej.seq (Cj.ret (Ej.bare ?_)))
   refine Ej.ret1 rfl rfl rfl ?_
   exact ⟨rfl, rfl⟩
  ·
   have hg14p := ne_of_beq_false hg14
   refine J.opG 4 34 false _ rfl rfl rfl hg14 (op_yld (yl_move rfl rfl) rfl rfl ?_)
   refine J.opG 4 34 false _ rfl rfl rfl hg14 (op_yld (yl_move rfl rfl) rfl rfl ?_)
   refine J.opG 4 34 false _ rfl rfl rfl hg14 (op_yld (yl_sub rfl rfl rfl (w64 (by omega))) rfl rfl ?_)
   refine J.opG 4 34 false _ rfl rfl rfl hg14 (op_yld (yl_eql rfl rfl rfl) rfl rfl ?_)
   refine J.z (yl_pick0 rfl rfl hg14 rfl) ?_
   refine J.nil (Ej.seq (Cj.cond rfl (fun hc16 => ?_) (fun hc16 => ?_)))
   ·
    have hc16p := eq_of_beq hc16
    refine Cj.region (J.z (yl_assign rfl rfl) ?_)
    refine J.nil (Ej.seq (Cj.seq (Cj.region (J.z (yl_move rfl rfl) ?_))))
    refine J.z (yl_move rfl rfl) ?_
    refine J.opG 1 41 true _ rfl rfl rfl rfl (op_yld (yl_loadAgg rfl rfl Tryz.isAgg26 Tryz.sizeOf26 (Blk.at 1 rfl) rfl rfl) rfl rfl ?_)
    refine J.opG 1 41 true _ rfl rfl rfl rfl (op_yld (yl_loadAgg rfl rfl Tryz.isAgg26 Tryz.sizeOf26 (Blk.at 0 rfl) rfl rfl) rfl rfl ?_)
    refine J.opG 1 41 true _ rfl rfl rfl rfl (op_pure rfl rfl rfl rfl rfl (Points_ok fs1 fs2 _ _ 97 0 97 0 (dated_ok2 hD1).1 (dated_ok2 hD2).1 (dated_ok2 hD1).2 (dated_ok2 hD2).2 _ hR1 hR2) ?_)
    refine J.eqv 44 rfl (show _ = i64 (0) from (congrArg i64 (by rw [pts_dated (by omega) (by omega) hD1 hD2]; unfold Ke.pY; repeat (first | omega | split)))) ?_
    refine J.opG 1 41 true _ rfl rfl rfl rfl (op_yld (yl_move rfl rfl) rfl rfl ?_)
    refine J.opG 1 41 true _ rfl rfl rfl rfl (op_yld (yl_eql rfl rfl rfl) rfl rfl ?_)
    refine J.z (yl_pick1 rfl rfl rfl rfl) ?_
    refine J.z (yl_move rfl rfl) ?_
    refine J.opG 8 48 true _ rfl rfl rfl (by first | rfl | decide) (op_yld (yl_loadAgg rfl rfl Tryz.isAgg26 Tryz.sizeOf26 (Blk.at 1 rfl) rfl rfl) rfl rfl ?_)
    refine J.opG 8 48 true _ rfl rfl rfl (by first | rfl | decide) (op_yld (yl_buildS (pl := #[(0, 1), (1, 1), (2, 1)]) rfl rfl Tryz.zeroValue26 rfl Tryz.underlying26 (fun w => by simp [Tryz.sizeOf23, Tryz.sizeOf5]) (LBld.part rfl rfl rfl (LSpl.c LSpl.z) LBld.none)) rfl rfl ?_)
    refine J.opG 8 48 true _ rfl rfl rfl (by first | rfl | decide) (op_pure rfl rfl rfl rfl rfl (Points_ok fs1 [] _ _ 97 0 97 0 (dated_ok2 hD1).1 nil_ok.1 (dated_ok2 hD1).2 nil_ok.2 _ hR1 (nil_rec _)) ?_)
    refine J.eqv 51 rfl (show _ = i64 0 from (congrArg i64 (pts_dated0 (by omega) hD1))) ?_
    refine J.opG 8 48 true _ rfl rfl rfl (by first | rfl | decide) (op_yld (yl_eql rfl rfl rfl) rfl rfl ?_)
    refine J.z (yl_pick1 rfl rfl (by first | rfl | decide) rfl) ?_
    refine J.z (yl_assign rfl rfl) ?_
    refine J.nil (Ej.seq (Cj.ret (Ej.bare ?_)))
    refine Ej.ret1 rfl rfl rfl ?_
    exact ⟨rfl, rfl⟩
   ·
    have hc16p := ne_of_beq_false hc16
    refine Cj.skip (Ej.seq (Cj.seq (Cj.region (J.z (yl_move rfl rfl) ?_))))
    refine J.z (yl_move rfl rfl) ?_
    refine J.opG 1 41 true _ rfl rfl rfl rfl (op_yld (yl_loadAgg rfl rfl Tryz.isAgg26 Tryz.sizeOf26 (Blk.at 1 rfl) rfl rfl) rfl rfl ?_)
    refine J.opG 1 41 true _ rfl rfl rfl rfl (op_yld (yl_loadAgg rfl rfl Tryz.isAgg26 Tryz.sizeOf26 (Blk.at 0 rfl) rfl rfl) rfl rfl ?_)
    refine J.opG 1 41 true _ rfl rfl rfl rfl (op_pure rfl rfl rfl rfl rfl (Points_ok fs1 fs2 _ _ 97 0 97 0 (dated_ok2 hD1).1 (dated_ok2 hD2).1 (dated_ok2 hD1).2 (dated_ok2 hD2).2 _ hR1 hR2) ?_)
    refine J.eqv 44 rfl (show _ = i64 (10) from (congrArg i64 (by rw [pts_dated (by omega) (by omega) hD1 hD2]; unfold Ke.pY; repeat (first | omega | split)))) ?_
    refine J.opG 1 41 true _ rfl rfl rfl rfl (op_yld (yl_move rfl rfl) rfl rfl ?_)
    refine J.opG 1 41 true _ rfl rfl rfl rfl (op_yld (yl_eql rfl rfl rfl) rfl rfl ?_)
    refine J.z (yl_pick1 rfl rfl rfl rfl) ?_
    refine J.z (yl_move rfl rfl) ?_
    refine J.opG 8 48 true _ rfl rfl rfl (by first | rfl | decide) (op_yld (yl_loadAgg rfl rfl Tryz.isAgg26 Tryz.sizeOf26 (Blk.at 1 rfl) rfl rfl) rfl rfl ?_)
    refine J.opG 8 48 true _ rfl rfl rfl (by first | rfl | decide) (op_yld (yl_buildS (pl := #[(0, 1), (1, 1), (2, 1)]) rfl rfl Tryz.zeroValue26 rfl Tryz.underlying26 (fun w => by simp [Tryz.sizeOf23, Tryz.sizeOf5]) (LBld.part rfl rfl rfl (LSpl.c LSpl.z) LBld.none)) rfl rfl ?_)
    refine J.opG 8 48 true _ rfl rfl rfl (by first | rfl | decide) (op_pure rfl rfl rfl rfl rfl (Points_ok fs1 [] _ _ 97 0 97 0 (dated_ok2 hD1).1 nil_ok.1 (dated_ok2 hD1).2 nil_ok.2 _ hR1 (nil_rec _)) ?_)
    refine J.eqv 51 rfl (show _ = i64 0 from (congrArg i64 (pts_dated0 (by omega) hD1))) ?_
    refine J.opG 8 48 true _ rfl rfl rfl (by first | rfl | decide) (op_yld (yl_eql rfl rfl rfl) rfl rfl ?_)
    refine J.z (yl_pick1 rfl rfl (by first | rfl | decide) rfl) ?_
    refine J.z (yl_assign rfl rfl) ?_
    refine J.nil (Ej.seq (Cj.ret (Ej.bare ?_)))
    refine Ej.ret1 rfl rfl rfl ?_
    exact ⟨rfl, rfl⟩
 ·
  have hc13p := ne_of_beq_false hc13
  refine Cj.skip (Ej.seq (Cj.seq (Cj.seq (Cj.region (J.z (yl_move rfl rfl) ?_)))))
  refine J.z (yl_move rfl rfl) ?_
  refine J.z (yl_sub rfl rfl rfl (w64 (by omega))) ?_
  refine J.z (yl_eql rfl rfl rfl) ?_
  refine J.z (yl_move rfl rfl) ?_
  refine J.split 34 rfl (fun hg17 => ?_) (fun hg17 => ?_)
  ·
   have hg17p := eq_of_beq hg17
   refine J.skip 4 34 35 false _ rfl rfl rfl hg17 rfl rfl ?_
   refine J.skip 4 34 36 false _ rfl rfl rfl hg17 rfl rfl ?_
   refine J.skip 4 34 37 false _ rfl rfl rfl hg17 rfl rfl ?_
   refine J.skip 4 34 38 false _ rfl rfl rfl hg17 rfl rfl ?_
   refine J.z (yl_pick1 rfl rfl hg17 rfl) ?_
   refine J.nil (Ej.seq (Cj.cond rfl (fun hc18 => ?_) (fun hc18 => Bool.noConfusion (Eq.trans (Eq.symm rfl) hc18))))
   refine Cj.region (J.z (yl_assign rfl rfl) ?_)
   refine J.nil (Ej.seq (Cj.seq (Cj.region (J.z (yl_move rfl rfl) ?_))))
   refine J.z (yl_move rfl rfl) ?_
   refine J.opG 1 41 true _ rfl rfl rfl rfl (op_yld (yl_loadAgg rfl rfl Tryz.isAgg26 Tryz.sizeOf26 (Blk.at 1 rfl) rfl rfl) rfl rfl ?_)
   refine J.opG 1 41 true _ rfl rfl rfl rfl (op_yld (yl_loadAgg rfl rfl Tryz.isAgg26 Tryz.sizeOf26 (Blk.at 0 rfl) rfl rfl) rfl rfl ?_)
   refine J.opG 1 41 true _ rfl rfl rfl rfl (op_pure rfl rfl rfl rfl rfl (Points_ok fs1 fs2 _ _ 97 0 97 0 (dated_ok2 hD1).1 (dated_ok2 hD2).1 (dated_ok2 hD1).2 (dated_ok2 hD2).2 _ hR1 hR2) ?_)
   refine J.eqv 44 rfl (show _ = i64 (0) from (congrArg i64 (by rw [pts_dated (by omega) (by omega) hD1 hD2]; unfold Ke.pY; repeat (first | omega | split)))) ?_
   refine J.opG 1 41 true _ rfl rfl rfl rfl (op_yld (yl_move rfl rfl) rfl rfl ?_)
   refine J.opG 1 41 true _ rfl rfl rfl rfl (op_yld (yl_eql rfl rfl rfl) rfl rfl ?_)
   refine J.z (yl_pick1 rfl rfl rfl rfl) ?_
   refine J.z (yl_move rfl rfl) ?_
   refine J.opG 8 48 true _ rfl rfl rfl (by first | rfl | decide) (op_yld (yl_loadAgg rfl rfl Tryz.isAgg26 Tryz.sizeOf26 (Blk.at 1 rfl) rfl rfl) rfl rfl ?_)
   refine J.opG 8 48 true _ rfl rfl rfl (by first | rfl | decide) (op_yld (yl_buildS (pl := #[(0, 1), (1, 1), (2, 1)]) rfl rfl Tryz.zeroValue26 rfl Tryz.underlying26 (fun w => by simp [Tryz.sizeOf23, Tryz.sizeOf5]) (LBld.part rfl rfl rfl (LSpl.c LSpl.z) LBld.none)) rfl rfl ?_)
   refine J.opG 8 48 true _ rfl rfl rfl (by first | rfl | decide) (op_pure rfl rfl rfl rfl rfl (Points_ok fs1 [] _ _ 97 0 97 0 (dated_ok2 hD1).1 nil_ok.1 (dated_ok2 hD1).2 nil_ok.2 _ hR1 (nil_rec _)) ?_)
   refine J.eqv 51 rfl (show _ = i64 0 from (congrArg i64 (pts_dated0 (by omega) hD1))) ?_
   refine J.opG 8 48 true _ rfl rfl rfl (by first | rfl | decide) (op_yld (yl_eql rfl rfl rfl) rfl rfl ?_)
   refine J.z (yl_pick1 rfl rfl (by first | rfl | decide) rfl) ?_
   refine J.z (yl_assign rfl rfl) ?_
   refine J.nil (Ej.seq (Cj.ret (Ej.bare ?_)))
   refine Ej.ret1 rfl rfl rfl ?_
   exact ⟨rfl, rfl⟩
  ·
   have hg17p := ne_of_beq_false hg17
   refine J.opG 4 34 false _ rfl rfl rfl hg17 (op_yld (yl_move rfl rfl) rfl rfl ?_)
   refine J.opG 4 34 false _ rfl rfl rfl hg17 (op_yld (yl_move rfl rfl) rfl rfl ?_)
   refine J.opG 4 34 false _ rfl rfl rfl hg17 (op_yld (yl_sub rfl rfl rfl (w64 (by omega))) rfl rfl ?_)
   refine J.opG 4 34 false _ rfl rfl rfl hg17 (op_yld (yl_eql rfl rfl rfl) rfl rfl ?_)
   refine J.z (yl_pick0 rfl rfl hg17 rfl) ?_
   refine J.nil (Ej.seq (Cj.cond rfl (fun hc19 => ?_) (fun hc19 => ?_)))
   ·
    have hc19p := eq_of_beq hc19
    refine Cj.region (J.z (yl_assign rfl rfl) ?_)
    refine J.nil (Ej.seq (Cj.seq (Cj.region (J.z (yl_move rfl rfl) ?_))))
    refine J.z (yl_move rfl rfl) ?_
    refine J.opG 1 41 true _ rfl rfl rfl rfl (op_yld (yl_loadAgg rfl rfl Tryz.isAgg26 Tryz.sizeOf26 (Blk.at 1 rfl) rfl rfl) rfl rfl ?_)
    refine J.opG 1 41 true _ rfl rfl rfl rfl (op_yld (yl_loadAgg rfl rfl Tryz.isAgg26 Tryz.sizeOf26 (Blk.at 0 rfl) rfl rfl) rfl rfl ?_)
    refine J.opG 1 41 true _ rfl rfl rfl rfl (op_pure rfl rfl rfl rfl rfl (Points_ok fs1 fs2 _ _ 97 0 97 0 (dated_ok2 hD1).1 (dated_ok2 hD2).1 (dated_ok2 hD1).2 (dated_ok2 hD2).2 _ hR1 hR2) ?_)
    refine J.eqv 44 rfl (show _ = i64 (0) from (congrArg i64 (by rw [pts_dated (by omega) (by omega) hD1 hD2]; unfold Ke.pY; repeat (first | omega | split)))) ?_
    refine J.opG 1 41 true _ rfl rfl rfl rfl (op_yld (yl_move rfl rfl) rfl rfl ?_)
    refine J.opG 1 41 true _ rfl rfl rfl rfl (op_yld (yl_eql rfl rfl rfl) rfl rfl ?_)
    refine J.z (yl_pick1 rfl rfl rfl rfl) ?_
    refine J.z (yl_move rfl rfl) ?_
    refine J.opG 8 48 true _ rfl rfl rfl (by first | rfl | decide) (op_yld (yl_loadAgg rfl rfl Tryz.isAgg26 Tryz.sizeOf26 (Blk.at 1 rfl) rfl rfl) rfl rfl ?_)
    refine J.opG 8 48 true _ rfl rfl rfl (by first | rfl | decide) (op_yld (yl_buildS (pl := #[(0, 1), (1, 1), (2, 1)]) rfl rfl Tryz.zeroValue26 rfl Tryz.underlying26 (fun w => by simp [Tryz.sizeOf23, Tryz.sizeOf5]) (LBld.part rfl rfl rfl (LSpl.c LSpl.z) LBld.none)) rfl rfl ?_)
    refine J.opG 8 48 true _ rfl rfl rfl (by first | rfl | decide) (op_pure rfl rfl rfl rfl rfl (Points_ok fs1 [] _ _ 97 0 97 0 (dated_ok2 hD1).1 nil_ok.1 (dated_ok2 hD1).2 nil_ok.2 _ hR1 (nil_rec _)) ?_)
    refine J.eqv 51 rfl (show _ = i64 0 from (congrArg i64 (pts_dated0 (by omega) hD1))) ?_
    refine J.opG 8 48 true _ rfl rfl rfl (by first | rfl | decide) (op_yld (yl_eql rfl rfl rfl) rfl rfl ?_)
    refine J.z (yl_pick1 rfl rfl (by first | rfl | decide) rfl) ?_
    refine J.z (yl_assign rfl rfl) ?_
    refine J.nil (Ej.seq (Cj.ret (Ej.bare ?_)))
    refine Ej.ret1 rfl rfl rfl ?_
    exact ⟨rfl, rfl⟩
   ·
    have hc19p := ne_of_beq_false hc19
    refine Cj.skip (Ej.seq (Cj.seq (Cj.region (J.z (yl_move rfl rfl) ?_))))
    refine J.z (yl_move rfl rfl) ?_
    refine J.opG 1 41 true _ rfl rfl rfl rfl (op_yld (yl_loadAgg rfl rfl Tryz.isAgg26 Tryz.sizeOf26 (Blk.at 1 rfl) rfl rfl) rfl rfl ?_)
    refine J.opG 1 41 true _ rfl rfl rfl rfl (op_yld (yl_loadAgg rfl rfl Tryz.isAgg26 Tryz.sizeOf26 (Blk.at 0 rfl) rfl rfl) rfl rfl ?_)
    refine J.opG 1 41 true _ rfl rfl rfl rfl (op_pure rfl rfl rfl rfl rfl (Points_ok fs1 fs2 _ _ 97 0 97 0 (dated_ok2 hD1).1 (dated_ok2 hD2).1 (dated_ok2 hD1).2 (dated_ok2 hD2).2 _ hR1 hR2) ?_)
    refine J.eqv 44 rfl (show _ = i64 (-10) from (congrArg i64 (by rw [pts_dated (by omega) (by omega) hD1 hD2]; unfold Ke.pY; repeat (first | omega | split)))) ?_
    refine J.opG 1 41 true _ rfl rfl rfl rfl (op_yld (yl_move rfl rfl) rfl rfl ?_)
    refine J.opG 1 41 true _ rfl rfl rfl rfl (op_yld (yl_eql rfl rfl rfl) rfl rfl ?_)
    refine J.z (yl_pick1 rfl rfl rfl rfl) ?_
    refine J.z (yl_move rfl rfl) ?_
    refine J.opG 8 48 true _ rfl rfl rfl (by first | rfl | decide) (op_yld (yl_loadAgg rfl rfl Tryz.isAgg26 Tryz.sizeOf26 (Blk.at 1 rfl) rfl rfl) rfl rfl ?_)
    refine J.opG 8 48 true _ rfl rfl rfl (by first | rfl | decide) (op_yld (yl_buildS (pl := #[(0, 1), (1, 1), (2, 1)]) rfl rfl Tryz.zeroValue26 rfl Tryz.underlying26 (fun w => by simp [Tryz.sizeOf23, Tryz.sizeOf5]) (LBld.part rfl rfl rfl (LSpl.c LSpl.z) LBld.none)) rfl rfl ?_)
    refine J.opG 8 48 true _ rfl rfl rfl (by first | rfl | decide) (op_pure rfl rfl rfl rfl rfl (Points_ok fs1 [] _ _ 97 0 97 0 (dated_ok2 hD1).1 nil_ok.1 (dated_ok2 hD1).2 nil_ok.2 _ hR1 (nil_rec _)) ?_)
    refine J.eqv 51 rfl (show _ = i64 0 from (congrArg i64 (pts_dated0 (by omega) hD1))) ?_
    refine J.opG 8 48 true _ rfl rfl rfl (by first | rfl | decide) (op_yld (yl_eql rfl rfl rfl) rfl rfl ?_)
    refine J.z (yl_pick1 rfl rfl (by first | rfl | decide) rfl) ?_
    refine J.z (yl_assign rfl rfl) ?_
    refine J.nil (Ej.seq (Cj.ret (Ej.bare ?_)))
    refine Ej.ret1 rfl rfl rfl ?_
    exact ⟨rfl, rfl⟩
end Go.Proofs.YtadnofaleepkmaaGreatDoor
