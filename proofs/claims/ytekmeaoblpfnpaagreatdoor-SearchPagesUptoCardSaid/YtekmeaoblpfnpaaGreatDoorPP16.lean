/-
  Own texts on the laws of the seat, joined: the logic, and contracts of functions. Conditions: none.
-/
import Derived.Test.YtekmeaoblpfnpaaGreatDoorNmP
import Derived.Test.YtekmeaoblpfnpaaGreatDoorPP15
set_option maxRecDepth 100000
set_option maxHeartbeats 40000000
set_option maxRecDepth 100000
set_option maxHeartbeats 40000000
namespace Go.Proofs.YtekmeaoblpfnpaaGreatDoor
open _root_.Go.Proofs.Tryz
open Go Go.Sx
def MH (m : Nat) (v : Value) (k : Nat) : HL := [(m, cel 180 [v, i64 k])]
abbrev IntP' (I : Heap) (l : List Int) (v : Value) : Prop := RowS (fun n : Int => [i64 n]) I l v
def MSpec (deep : Nat) : Prop := ∀ (m k : Nat) (v : Value) (l : List Int) (I : Heap), IntP' I l v → l.length ≤ 1000000000000 → k ≤ l.length → deep ≤ 100 →
  Ctr Tryz.prog 100 [ptr m 0, i64 deep] I (MH m v k) (fun e I' H' => (∃ u, e = .returned u ∧ QV I' (Cq.made deep l k).1 u) ∧ H' = MH m v (Cq.made deep l k).2)
theorem int_at2 {l : List Int} {cs sp : List Value} {o k : Nat} {x : Int} (h : cs.drop o = l.flatMap (fun n : Int => [i64 n]) ++ sp) (hx : l[k]? = some x) : cs[o + k]? = some (i64 x) := by
  have h9 := row_fcell (f := fun n : Int => [i64 n]) (n := 1) (fun _ => rfl) h hx 0 Nat.zero_lt_one
  rw [Nat.mul_one, Nat.add_zero] at h9
  exact h9
theorem next_ok (m k n : Nat) (v : Value) (l : List Int) (I : Heap) (hl : IntP' I l v) (hll : l.length ≤ 1000000000000) (hk : k ≤ l.length) (hn : 0 < n) (hn2 : n ≤ 1000) :
    Ctr Tryz.prog 101 [ptr m 0, i64 n] I (MH m v k) (fun e _I' H' => e = .returned (i64 (Cq.next l k n).1) ∧ H' = MH m v (Cq.next l k n).2) := by
 obtain ⟨p, c, rfl, hlc, hl2⟩ := hl
 refine Ctr.ob func101 ?_
 intro w0 hw0
 refine Cj.sr (J.z q1 ?_)
 refine J.nsss (Cj.drawSel [0] [] 10 (by kernel_rfl) ?_)
 refine JA.fix ⟨(HSub.c 0 rfl HSub.n), CSub.n, (Le.refl _)⟩ (fun fx1 => ?_)
 refine JA.tk 0 rfl fx1 q0 ?_
 refine JA.tk 1 rfl fx1 q6 ?_
 refine JA.tk 2 rfl fx1 (q2 (off' := 1) tU180 tS3) ?_
 refine JA.tk 3 rfl fx1 (q3 tA3 (Blk.atC 0 rfl)) ?_
 refine JA.tk 4 rfl fx1 q0 ?_
 refine JA.tk 5 rfl fx1 q6 ?_
 refine JA.tk 6 rfl fx1 (q2 (off' := 0) tU180 sizeOf23) ?_
 refine JA.tk 7 rfl fx1 (q3 isAgg23 (Blk.atC 0 rfl)) ?_
 refine JA.tk 8 rfl fx1 (q14 tU23) ?_
 refine JA.tk 9 rfl fx1 (yl_geq rfl rfl rfl) ?_
 refine q8 ?_
 refine Ej.seq (Cj.cond rfl (fun hc2 => ?_) (fun hc2 => ?_))
 ·have hc2p := odt hc2
  have hnx : Cq.next l k n = (0, k) := by simp [Cq.next, List.getElem?_eq_none (show l.length ≤ k by omega)]
  refine Cj.sr (J.z q1 ?_)
  refine J.ns (Cj.rs (Ej.keep (Keeps.k Keeps.n) ?_))
  refine q5 ?_
  rw [hnx]; exact ⟨rfl, rfl⟩
 have hc2p := odf hc2
 have hlt : k < l.length := by omega
 obtain ⟨x, hx⟩ : ∃ x, l[k]? = some x := ⟨_, lgg hlt⟩
 obtain ⟨bl, off, cs', T, fr, sp, rfl, hbl, hat⟩ := hl2 (ne_nil_of hlt)
 have hpk := Cq.pick_eq x hn
 have hnx : Cq.next l k n = (Cq.pickN x n, k + 1) := by simp [Cq.next, hx]
 refine Cj.ks (Cj.sr (J.z q0 ?_))
 refine J.z q6 ?_
 refine J.z (q2 (off' := 1) tU180 tS3) ?_
 refine J.z (q3 tA3 (Blk.at 0 rfl)) ?_
 refine J.z (yl_add rfl rfl rfl (w64 (by omega))) ?_
 refine J.z q6 ?_
 refine J.z (q2 (off' := 1) tU180 tS3) ?_
 refine J.op rfl (q9 0 tS3 (LSpl.s (LSpl.c LSpl.z)) LSet.z ?_)
 refine J.nss (Cj.drawSel [0] [] 18 (by kernel_rfl) ?_)
 refine JA.fix ⟨(HSub.c 0 rfl HSub.n), CSub.n, (Le.refl _)⟩ (fun fx3 => ?_)
 refine JA.tk 0 rfl fx3 q0 ?_
 refine JA.tk 1 rfl fx3 q6 ?_
 refine JA.tk 2 rfl fx3 (q2 (off' := 0) tU180 sizeOf23) ?_
 refine JA.tk 3 rfl fx3 (q3 isAgg23 (Blk.atC 0 rfl)) ?_
 refine JA.tk 4 rfl fx3 q0 ?_
 refine JA.tk 5 rfl fx3 q6 ?_
 refine JA.tk 6 rfl fx3 (q2 (off' := 1) tU180 tS3) ?_
 refine JA.tk 7 rfl fx3 (q3 tA3 (Blk.atC 0 rfl)) ?_
 refine JA.tk 8 rfl fx3 (yl_sub rfl rfl rfl (w64 (by omega))) ?_
 refine JA.tk 9 rfl fx3 (yl_indexAddr (off' := off + k) rfl rfl rfl tU23 tS3 (by omega) (by omega) (by omega)) ?_
 refine JA.tk 10 rfl fx3 (yl_load rfl rfl tA3 (Blk.immC hbl) (int_at2 hat hx)) ?_
 refine JA.tk 11 rfl fx3 q0 ?_
 refine JA.tk 12 rfl fx3 (yl_rem rfl rfl rfl (by omega)) ?_
 refine JA.tk 13 rfl fx3 q0 ?_
 refine JA.tk 14 rfl fx3 (yl_add rfl rfl rfl (w64 (by omega))) ?_
 refine JA.tk 15 rfl fx3 q0 ?_
 refine JA.tk 16 rfl fx3 (yl_rem rfl rfl rfl (by omega)) ?_
 refine JA.eqv 38 rfl (show _ = i64 (Cq.pickN x n : Nat) from (by rw [hpk.1])) ?_
 refine JA.tk 17 rfl fx3 q1 ?_
 refine q8 ?_
 refine Ej.seq (Cj.ret (Ej.keep (Keeps.k Keeps.n) ?_))
 refine q5 ?_
 rw [hnx]; exact ⟨rfl, rfl⟩
theorem at_getD {l : List (List UInt8)} {sp : List Value} {a : Nat} (h : a < l.length) : (l.map str ++ sp)[a]? = some (str (l.getD a [])) :=
  str_get (by rw [List.getD_eq_getElem?_getD, lgg h]; rfl)
theorem made_le (l : List Int) : ∀ (deep k : Nat), k ≤ l.length → (Cq.made deep l k).2 ≤ l.length
  | 0, k, h => Cq.next_le l 9 (Cq.next_le l 6 (Cq.next_le l 6 (Cq.next_le l 5 h)))
  | deep + 1, k, h => by
    simp only [Cq.made]
    split
    · exact Cq.next_le l 9 (Cq.next_le l 6 (Cq.next_le l 6 (Cq.next_le l 5 h)))
    exact made_le l deep _ (made_le l deep _ (Cq.next_le l 5 h))
theorem mquery_step (deep : Nat) (ih : ∀ d, deep = d + 1 → MSpec d) : MSpec deep := by
 intro m k v l I hl hll hk0 hd
 have hx1 := Cq.next_lt l k (n := 5) (by omega)
 have hk1 : (Cq.next l k 5).2 ≤ l.length := Cq.next_le l 5 hk0
 have hk2 : (Cq.next l (Cq.next l k 5).2 6).2 ≤ l.length := Cq.next_le l 6 hk1
 have hk3 : (Cq.next l (Cq.next l (Cq.next l k 5).2 6).2 6).2 ≤ l.length := Cq.next_le l 6 hk2
 have hk4 : (Cq.next l (Cq.next l (Cq.next l (Cq.next l k 5).2 6).2 6).2 9).2 ≤ l.length := Cq.next_le l 9 hk3
 refine Ctr.ob func100 ?_
 intro w0 hw0
 refine Cj.sr (J.op rfl (q21 tZ32 ?_))
 intro b1 hb1
 refine J.nssr (J.z q0 ?_)
 refine J.pull (Pull.s Pull.z) ?_
 refine J.op rfl (op_call (H1 := [_]) rfl rfl rfl rfl rfl (next_ok m k 5 v l _ hl hll hk0 (by omega) (by omega)) ?_ (fun _ _ _ _ h => by cases h.1) (fun _ _ h => by cases h.1))
 intro v2 I3 H4 hle5 hp6
 have hl := hl.mono hle5
 obtain ⟨hv2, rfl⟩ := hp6; cases hv2
 refine J.z q1 ?_
 refine J.nsss (Cj.region (J.z q0 ?_))
 refine J.z q19 ?_
 refine J.z q0 ?_
 refine J.split 12 rfl (fun hg7 => ?_) (fun hg7 => ?_)
 ·have hd0 : deep = 0 := by have h := hg7; simp at h; omega
  subst hd0
  have hmd : Cq.made 0 l k = Cq.leaf l (Cq.next l k 5).2 := rfl
  have hx2 := Cq.next_lt l (Cq.next l k 5).2 (n := 6) (by omega)
  have hx3 := Cq.next_lt l (Cq.next l (Cq.next l k 5).2 6).2 (n := 6) (by omega)
  have hx4 := Cq.next_lt l (Cq.next l (Cq.next l (Cq.next l k 5).2 6).2 6).2 (n := 9) (by omega)
  refine q12 2 12 13 false hg7 ?_
  refine q12 2 12 14 false hg7 ?_
  refine J.z (q22 hg7) ?_
  refine J.c1 (fun hc8 => ?_)
  refine Cj.sr (J.op rfl (q17 tU69 tS9 tZ9 (LCat.one rfl (LCat.one rfl (LCat.one rfl (LCat.one rfl (LCat.one rfl (LCat.one rfl (LCat.one rfl (LCat.one rfl (LCat.one rfl LCat.none))))))))) ?_))
  intro b9 hb9
  refine J.z q1 ?_
  refine J.nss (Cj.drawSel [0] [] 17 (by kernel_rfl) ?_)
  refine JA.fix ⟨(HSub.c 0 rfl HSub.n), CSub.n, (Le.refl _)⟩ (fun fx10 => ?_)
  refine JA.tk 1 rfl fx10 q0 ?_
  refine JA.tk 6 rfl fx10 q0 ?_
  refine JA.tk 10 rfl fx10 q0 ?_
  refine JA.tk 11 rfl fx10 q0 ?_
  refine q4 0 rfl (op_call (H1 := []) rfl rfl rfl rfl rfl (rindexes_ok _) ?_ (fun _ _ _ _ h => by obtain ⟨⟨_, h, _⟩, _⟩ := h; cases h) (fun _ _ h => by obtain ⟨⟨_, h, _⟩, _⟩ := h; cases h))
  intro v11 I12 H13 hle14 hp15
  have hl := hl.mono hle14
  obtain ⟨⟨v11x, hv11, bi, cbi, spbi, rfl, hbi⟩, rfl⟩ := hp15; cases hv11
  refine ⟨⟨(Le.trans (Le.refl _) hle14), (HSub.c 0 rfl HSub.n), CSub.n⟩, ?_⟩
  refine JA.pull (Pull.s Pull.z) ?_
  refine q4 2 rfl (op_call (H1 := [_]) rfl rfl rfl rfl rfl (next_ok m (Cq.next l k 5).2 6 v l _ hl hll hk1 (by omega) (by omega)) ?_ (fun _ _ _ _ h => by cases h.1) (fun _ _ h => by cases h.1))
  intro v16 I17 H18 hle19 hp20
  have hl := hl.mono hle19
  have hbi := hle19 _ _ hbi
  obtain ⟨hv16, rfl⟩ := hp20; cases hv16
  refine ⟨⟨(Le.trans (Le.trans (Le.refl _) hle14) hle19), (HSub.c 1 rfl HSub.n), CSub.n⟩, ?_⟩
  refine JA.fix ⟨(HSub.c 1 rfl HSub.n), CSub.n, (Le.trans (Le.trans (Le.refl _) hle14) hle19)⟩ (fun fx21 => ?_)
  refine JA.tk 3 rfl fx21 (yl_indexAddr (off' := (Cq.next l (Cq.next l k 5).2 6).1) rfl rfl rfl tU69 tS9 (by omega) (by have : Cq.indexes.length = 6 := rfl; omega) (by simp)) ?_
  refine JA.all [4, 5] (by kernel_rfl) (by simp) ?_
  intro i hi
  simp only [List.mem_cons, List.not_mem_nil, or_false] at hi
  rcases hi with rfl | rfl
  ·refine ⟨_, rfl, rfl, ?_⟩
   refine op_yld (yl_load rfl rfl tA9 (Blk.imm hbi) (at_getD (by exact hx2))) rfl rfl ?_
   refine ⟨⟨(Le.trans (Le.trans (Le.refl _) hle14) hle19), (HSub.c 1 rfl HSub.n), CSub.n⟩, ?_⟩
   refine q4 5 rfl (op_call (H1 := []) rfl rfl rfl rfl rfl (rrelations_ok _) ?_ (fun _ _ _ _ h => by obtain ⟨⟨_, h, _⟩, _⟩ := h; cases h) (fun _ _ h => by obtain ⟨⟨_, h, _⟩, _⟩ := h; cases h))
   intro v22 I23 H24 hle25 hp26
   have hl := hl.mono hle25
   obtain ⟨⟨v22x, hv22, br, cbr, spbr, rfl, hbr⟩, rfl⟩ := hp26; cases hv22
   refine ⟨⟨(Le.trans (Le.trans (Le.trans (Le.refl _) hle14) hle19) hle25), (HSub.c 1 rfl HSub.n), CSub.n⟩, ?_⟩
   refine JA.pull Pull.z ?_
   refine q4 7 rfl (op_call (H1 := [_]) rfl rfl rfl rfl rfl (next_ok m (Cq.next l (Cq.next l k 5).2 6).2 6 v l _ hl hll hk2 (by omega) (by omega)) ?_ (fun _ _ _ _ h => by cases h.1) (fun _ _ h => by cases h.1))
   intro v27 I28 H29 hle30 hp31
   have hl := hl.mono hle30
   have hbr := hle30 _ _ hbr
   obtain ⟨hv27, rfl⟩ := hp31; cases hv27
   refine ⟨⟨(Le.trans (Le.trans (Le.trans (Le.trans (Le.refl _) hle14) hle19) hle25) hle30), (HSub.c 1 rfl HSub.n), CSub.n⟩, ?_⟩
   refine JA.fix ⟨(HSub.c 1 rfl HSub.n), CSub.n, (Le.trans (Le.trans (Le.trans (Le.trans (Le.refl _) hle14) hle19) hle25) hle30)⟩ (fun fx32 => ?_)
   refine JA.tk 8 rfl fx32 (yl_indexAddr (off' := (Cq.next l (Cq.next l (Cq.next l k 5).2 6).2 6).1) rfl rfl rfl tU69 tS9 (by omega) (by have : Cq.relations.length = 6 := rfl; omega) (by simp)) ?_
   refine JA.all [9, 12] (by kernel_rfl) (by simp) ?_
   intro i hi
   simp only [List.mem_cons, List.not_mem_nil, or_false] at hi
   rcases hi with rfl | rfl
   ·refine ⟨_, rfl, rfl, ?_⟩
    refine op_yld (yl_load rfl rfl tA9 (Blk.imm hbr) (at_getD (by exact hx3))) rfl rfl ?_
    refine ⟨⟨(Le.trans (Le.trans (Le.trans (Le.trans (Le.refl _) hle14) hle19) hle25) hle30), (HSub.c 1 rfl HSub.n), CSub.n⟩, ?_⟩
    refine JA.pull Pull.z ?_
    refine q4 12 rfl (op_call (H1 := [_]) rfl rfl rfl rfl rfl (next_ok m (Cq.next l (Cq.next l (Cq.next l k 5).2 6).2 6).2 9 v l _ hl hll hk3 (by omega) (by omega)) ?_ (fun _ _ _ _ h => by cases h.1) (fun _ _ h => by cases h.1))
    intro v33 I34 H35 hle36 hp37
    obtain ⟨hv33, rfl⟩ := hp37; cases hv33
    refine ⟨⟨(Le.trans (Le.trans (Le.trans (Le.trans (Le.trans (Le.refl _) hle14) hle19) hle25) hle30) hle36), (HSub.c 1 rfl HSub.n), CSub.n⟩, ?_⟩
    refine JA.fix ⟨(HSub.c 1 rfl HSub.n), CSub.n, (Le.trans (Le.trans (Le.trans (Le.trans (Le.trans (Le.refl _) hle14) hle19) hle25) hle30) hle36)⟩ (fun fx38 => ?_)
    refine JA.tk 13 rfl fx38 (q16 (off' := (Cq.next l (Cq.next l (Cq.next l (Cq.next l k 5).2 6).2 6).2 9).1) tU69 tS9) ?_
    refine JA.tk 14 rfl fx38 (yl_load rfl rfl tA9 (Blk.atC 0 rfl) (at_getD (l := Cq.texts) (sp := []) (by exact hx4))) ?_
    refine JA.tk 15 rfl fx38 (yl_buildS (pl := #[(0, 1), (1, 1), (2, 1), (3, 1), (4, 1)]) rfl rfl tZ32 rfl tU32 (fun w => by simp []) (LBld.part rfl rfl rfl (LSpl.c LSpl.z) (LBld.part rfl rfl rfl (LSpl.s (LSpl.c LSpl.z)) (LBld.part rfl rfl rfl (LSpl.s (LSpl.s (LSpl.c LSpl.z))) (LBld.part rfl rfl rfl (LSpl.s (LSpl.s (LSpl.s (LSpl.c LSpl.z)))) LBld.none))))) ?_
    refine q4 16 rfl (q9 2 tS32 (LSpl.c (LSpl.c (LSpl.c (LSpl.c (LSpl.c LSpl.z))))) (LSet.s (LSet.s LSet.z)) ?_)
    refine ⟨⟨(Le.trans (Le.trans (Le.trans (Le.trans (Le.trans (Le.refl _) hle14) hle19) hle25) hle30) hle36), (HSub.c 1 rfl HSub.n), CSub.n⟩, ?_⟩
    refine q8 ?_
    refine Ej.seq (Cj.rs (Ej.retCellK (Keeps.k (Keeps.d (Keeps.d Keeps.n))) rfl rfl rfl (Blk.at 2 rfl) tA32 tS32 rfl ?_))
    rw [hmd]
    exact ⟨⟨_, rfl, none, 0, rfl, .inl rfl⟩, rfl⟩
   refine ⟨_, rfl, rfl, ?_⟩
   refine OpJ.pull Pull.z ?_
   refine op_call (H1 := [_]) rfl rfl rfl rfl rfl (next_ok m (Cq.next l (Cq.next l (Cq.next l k 5).2 6).2 6).2 9 v l _ hl hll hk3 (by omega) (by omega)) ?_ (fun _ _ _ _ h => by cases h.1) (fun _ _ h => by cases h.1)
   intro v39 I40 H41 hle42 hp43
   have hbr := hle42 _ _ hbr
   obtain ⟨hv39, rfl⟩ := hp43; cases hv39
   refine ⟨⟨(Le.trans (Le.trans (Le.trans (Le.trans (Le.trans (Le.refl _) hle14) hle19) hle25) hle30) hle42), (HSub.c 1 rfl HSub.n), CSub.n⟩, ?_⟩
   refine JA.fix ⟨(HSub.c 1 rfl HSub.n), CSub.n, (Le.trans (Le.trans (Le.trans (Le.trans (Le.trans (Le.refl _) hle14) hle19) hle25) hle30) hle42)⟩ (fun fx44 => ?_)
   refine JA.tk 13 rfl fx44 (q16 (off' := (Cq.next l (Cq.next l (Cq.next l (Cq.next l k 5).2 6).2 6).2 9).1) tU69 tS9) ?_
   refine JA.tk 14 rfl fx44 (yl_load rfl rfl tA9 (Blk.atC 0 rfl) (at_getD (l := Cq.texts) (sp := []) (by exact hx4))) ?_
   refine q4 9 rfl (op_yld (yl_load rfl rfl tA9 (Blk.imm hbr) (at_getD (by exact hx3))) rfl rfl ?_)
   refine ⟨⟨(Le.trans (Le.trans (Le.trans (Le.trans (Le.trans (Le.refl _) hle14) hle19) hle25) hle30) hle42), (HSub.c 1 rfl HSub.n), CSub.n⟩, ?_⟩
   refine JA.fix ⟨(HSub.c 1 rfl HSub.n), CSub.n, (Le.trans (Le.trans (Le.trans (Le.trans (Le.trans (Le.refl _) hle14) hle19) hle25) hle30) hle42)⟩ (fun fx45 => ?_)
   refine JA.tk 15 rfl fx45 (yl_buildS (pl := #[(0, 1), (1, 1), (2, 1), (3, 1), (4, 1)]) rfl rfl tZ32 rfl tU32 (fun w => by simp []) (LBld.part rfl rfl rfl (LSpl.c LSpl.z) (LBld.part rfl rfl rfl (LSpl.s (LSpl.c LSpl.z)) (LBld.part rfl rfl rfl (LSpl.s (LSpl.s (LSpl.c LSpl.z))) (LBld.part rfl rfl rfl (LSpl.s (LSpl.s (LSpl.s (LSpl.c LSpl.z)))) LBld.none))))) ?_
   refine q4 16 rfl (q9 2 tS32 (LSpl.c (LSpl.c (LSpl.c (LSpl.c (LSpl.c LSpl.z))))) (LSet.s (LSet.s LSet.z)) ?_)
   refine ⟨⟨(Le.trans (Le.trans (Le.trans (Le.trans (Le.trans (Le.refl _) hle14) hle19) hle25) hle30) hle42), (HSub.c 1 rfl HSub.n), CSub.n⟩, ?_⟩
   refine q8 ?_
   refine Ej.seq (Cj.rs (Ej.retCellK (Keeps.k (Keeps.d (Keeps.d Keeps.n))) rfl rfl rfl (Blk.at 2 rfl) tA32 tS32 rfl ?_))
   rw [hmd]
   exact ⟨⟨_, rfl, none, 0, rfl, .inl rfl⟩, rfl⟩
  refine ⟨_, rfl, rfl, ?_⟩
  refine op_call (H1 := []) rfl rfl rfl rfl rfl (rrelations_ok _) ?_ (fun _ _ _ _ h => by obtain ⟨⟨_, h, _⟩, _⟩ := h; cases h) (fun _ _ h => by obtain ⟨⟨_, h, _⟩, _⟩ := h; cases h)
  intro v46 I47 H48 hle49 hp50
  have hl := hl.mono hle49
  have hbi := hle49 _ _ hbi
  obtain ⟨⟨v46x, hv46, br, cbr, spbr, rfl, hbr⟩, rfl⟩ := hp50; cases hv46
  refine ⟨⟨(Le.trans (Le.trans (Le.trans (Le.refl _) hle14) hle19) hle49), (HSub.c 1 rfl HSub.n), CSub.n⟩, ?_⟩
  refine JA.all [4, 7] (by kernel_rfl) (by simp) ?_
  intro i hi
  simp only [List.mem_cons, List.not_mem_nil, or_false] at hi
  rcases hi with rfl | rfl
  ·refine ⟨_, rfl, rfl, ?_⟩
   refine op_yld (yl_load rfl rfl tA9 (Blk.imm hbi) (at_getD (by exact hx2))) rfl rfl ?_
   refine ⟨⟨(Le.trans (Le.trans (Le.trans (Le.refl _) hle14) hle19) hle49), (HSub.c 1 rfl HSub.n), CSub.n⟩, ?_⟩
   refine JA.pull Pull.z ?_
   refine q4 7 rfl (op_call (H1 := [_]) rfl rfl rfl rfl rfl (next_ok m (Cq.next l (Cq.next l k 5).2 6).2 6 v l _ hl hll hk2 (by omega) (by omega)) ?_ (fun _ _ _ _ h => by cases h.1) (fun _ _ h => by cases h.1))
   intro v51 I52 H53 hle54 hp55
   have hl := hl.mono hle54
   have hbr := hle54 _ _ hbr
   obtain ⟨hv51, rfl⟩ := hp55; cases hv51
   refine ⟨⟨(Le.trans (Le.trans (Le.trans (Le.trans (Le.refl _) hle14) hle19) hle49) hle54), (HSub.c 1 rfl HSub.n), CSub.n⟩, ?_⟩
   refine JA.fix ⟨(HSub.c 1 rfl HSub.n), CSub.n, (Le.trans (Le.trans (Le.trans (Le.trans (Le.refl _) hle14) hle19) hle49) hle54)⟩ (fun fx56 => ?_)
   refine JA.tk 8 rfl fx56 (yl_indexAddr (off' := (Cq.next l (Cq.next l (Cq.next l k 5).2 6).2 6).1) rfl rfl rfl tU69 tS9 (by omega) (by have : Cq.relations.length = 6 := rfl; omega) (by simp)) ?_
   refine JA.all [9, 12] (by kernel_rfl) (by simp) ?_
   intro i hi
   simp only [List.mem_cons, List.not_mem_nil, or_false] at hi
   rcases hi with rfl | rfl
   ·refine ⟨_, rfl, rfl, ?_⟩
    refine op_yld (yl_load rfl rfl tA9 (Blk.imm hbr) (at_getD (by exact hx3))) rfl rfl ?_
    refine ⟨⟨(Le.trans (Le.trans (Le.trans (Le.trans (Le.refl _) hle14) hle19) hle49) hle54), (HSub.c 1 rfl HSub.n), CSub.n⟩, ?_⟩
    refine JA.pull Pull.z ?_
    refine q4 12 rfl (op_call (H1 := [_]) rfl rfl rfl rfl rfl (next_ok m (Cq.next l (Cq.next l (Cq.next l k 5).2 6).2 6).2 9 v l _ hl hll hk3 (by omega) (by omega)) ?_ (fun _ _ _ _ h => by cases h.1) (fun _ _ h => by cases h.1))
    intro v57 I58 H59 hle60 hp61
    obtain ⟨hv57, rfl⟩ := hp61; cases hv57
    refine ⟨⟨(Le.trans (Le.trans (Le.trans (Le.trans (Le.trans (Le.refl _) hle14) hle19) hle49) hle54) hle60), (HSub.c 1 rfl HSub.n), CSub.n⟩, ?_⟩
    refine JA.fix ⟨(HSub.c 1 rfl HSub.n), CSub.n, (Le.trans (Le.trans (Le.trans (Le.trans (Le.trans (Le.refl _) hle14) hle19) hle49) hle54) hle60)⟩ (fun fx62 => ?_)
    refine JA.tk 13 rfl fx62 (q16 (off' := (Cq.next l (Cq.next l (Cq.next l (Cq.next l k 5).2 6).2 6).2 9).1) tU69 tS9) ?_
    refine JA.tk 14 rfl fx62 (yl_load rfl rfl tA9 (Blk.atC 0 rfl) (at_getD (l := Cq.texts) (sp := []) (by exact hx4))) ?_
    refine JA.tk 15 rfl fx62 (yl_buildS (pl := #[(0, 1), (1, 1), (2, 1), (3, 1), (4, 1)]) rfl rfl tZ32 rfl tU32 (fun w => by simp []) (LBld.part rfl rfl rfl (LSpl.c LSpl.z) (LBld.part rfl rfl rfl (LSpl.s (LSpl.c LSpl.z)) (LBld.part rfl rfl rfl (LSpl.s (LSpl.s (LSpl.c LSpl.z))) (LBld.part rfl rfl rfl (LSpl.s (LSpl.s (LSpl.s (LSpl.c LSpl.z)))) LBld.none))))) ?_
    refine q4 16 rfl (q9 2 tS32 (LSpl.c (LSpl.c (LSpl.c (LSpl.c (LSpl.c LSpl.z))))) (LSet.s (LSet.s LSet.z)) ?_)
    refine ⟨⟨(Le.trans (Le.trans (Le.trans (Le.trans (Le.trans (Le.refl _) hle14) hle19) hle49) hle54) hle60), (HSub.c 1 rfl HSub.n), CSub.n⟩, ?_⟩
    refine q8 ?_
    refine Ej.seq (Cj.rs (Ej.retCellK (Keeps.k (Keeps.d (Keeps.d Keeps.n))) rfl rfl rfl (Blk.at 2 rfl) tA32 tS32 rfl ?_))
    rw [hmd]
    exact ⟨⟨_, rfl, none, 0, rfl, .inl rfl⟩, rfl⟩
   refine ⟨_, rfl, rfl, ?_⟩
   refine OpJ.pull Pull.z ?_
   refine op_call (H1 := [_]) rfl rfl rfl rfl rfl (next_ok m (Cq.next l (Cq.next l (Cq.next l k 5).2 6).2 6).2 9 v l _ hl hll hk3 (by omega) (by omega)) ?_ (fun _ _ _ _ h => by cases h.1) (fun _ _ h => by cases h.1)
   intro v63 I64 H65 hle66 hp67
   have hbr := hle66 _ _ hbr
   obtain ⟨hv63, rfl⟩ := hp67; cases hv63
   refine ⟨⟨(Le.trans (Le.trans (Le.trans (Le.trans (Le.trans (Le.refl _) hle14) hle19) hle49) hle54) hle66), (HSub.c 1 rfl HSub.n), CSub.n⟩, ?_⟩
   refine JA.fix ⟨(HSub.c 1 rfl HSub.n), CSub.n, (Le.trans (Le.trans (Le.trans (Le.trans (Le.trans (Le.refl _) hle14) hle19) hle49) hle54) hle66)⟩ (fun fx68 => ?_)
   refine JA.tk 13 rfl fx68 (q16 (off' := (Cq.next l (Cq.next l (Cq.next l (Cq.next l k 5).2 6).2 6).2 9).1) tU69 tS9) ?_
   refine JA.tk 14 rfl fx68 (yl_load rfl rfl tA9 (Blk.atC 0 rfl) (at_getD (l := Cq.texts) (sp := []) (by exact hx4))) ?_
   refine q4 9 rfl (op_yld (yl_load rfl rfl tA9 (Blk.imm hbr) (at_getD (by exact hx3))) rfl rfl ?_)
   refine ⟨⟨(Le.trans (Le.trans (Le.trans (Le.trans (Le.trans (Le.refl _) hle14) hle19) hle49) hle54) hle66), (HSub.c 1 rfl HSub.n), CSub.n⟩, ?_⟩
   refine JA.fix ⟨(HSub.c 1 rfl HSub.n), CSub.n, (Le.trans (Le.trans (Le.trans (Le.trans (Le.trans (Le.refl _) hle14) hle19) hle49) hle54) hle66)⟩ (fun fx69 => ?_)
   refine JA.tk 15 rfl fx69 (yl_buildS (pl := #[(0, 1), (1, 1), (2, 1), (3, 1), (4, 1)]) rfl rfl tZ32 rfl tU32 (fun w => by simp []) (LBld.part rfl rfl rfl (LSpl.c LSpl.z) (LBld.part rfl rfl rfl (LSpl.s (LSpl.c LSpl.z)) (LBld.part rfl rfl rfl (LSpl.s (LSpl.s (LSpl.c LSpl.z))) (LBld.part rfl rfl rfl (LSpl.s (LSpl.s (LSpl.s (LSpl.c LSpl.z)))) LBld.none))))) ?_
   refine q4 16 rfl (q9 2 tS32 (LSpl.c (LSpl.c (LSpl.c (LSpl.c (LSpl.c LSpl.z))))) (LSet.s (LSet.s LSet.z)) ?_)
   refine ⟨⟨(Le.trans (Le.trans (Le.trans (Le.trans (Le.trans (Le.refl _) hle14) hle19) hle49) hle54) hle66), (HSub.c 1 rfl HSub.n), CSub.n⟩, ?_⟩
   refine q8 ?_
   refine Ej.seq (Cj.rs (Ej.retCellK (Keeps.k (Keeps.d (Keeps.d Keeps.n))) rfl rfl rfl (Blk.at 2 rfl) tA32 tS32 rfl ?_))
   rw [hmd]
   exact ⟨⟨_, rfl, none, 0, rfl, .inl rfl⟩, rfl⟩
  refine ⟨_, rfl, rfl, ?_⟩
  refine OpJ.pull Pull.z ?_
  refine op_call (H1 := [_]) rfl rfl rfl rfl rfl (next_ok m (Cq.next l (Cq.next l k 5).2 6).2 6 v l _ hl hll hk2 (by omega) (by omega)) ?_ (fun _ _ _ _ h => by cases h.1) (fun _ _ h => by cases h.1)
  intro v70 I71 H72 hle73 hp74
  have hl := hl.mono hle73
  have hbi := hle73 _ _ hbi
  have hbr := hle73 _ _ hbr
  obtain ⟨hv70, rfl⟩ := hp74; cases hv70
  refine ⟨⟨(Le.trans (Le.trans (Le.trans (Le.trans (Le.refl _) hle14) hle19) hle49) hle73), (HSub.c 1 rfl HSub.n), CSub.n⟩, ?_⟩
  refine JA.fix ⟨(HSub.c 1 rfl HSub.n), CSub.n, (Le.trans (Le.trans (Le.trans (Le.trans (Le.refl _) hle14) hle19) hle49) hle73)⟩ (fun fx75 => ?_)
  refine JA.tk 8 rfl fx75 (yl_indexAddr (off' := (Cq.next l (Cq.next l (Cq.next l k 5).2 6).2 6).1) rfl rfl rfl tU69 tS9 (by omega) (by have : Cq.relations.length = 6 := rfl; omega) (by simp)) ?_
  refine JA.all [4, 9, 12] (by kernel_rfl) (by simp) ?_
  intro i hi
  simp only [List.mem_cons, List.not_mem_nil, or_false] at hi
  rcases hi with rfl | rfl | rfl
  ·refine ⟨_, rfl, rfl, ?_⟩
   refine op_yld (yl_load rfl rfl tA9 (Blk.imm hbi) (at_getD (by exact hx2))) rfl rfl ?_
   refine ⟨⟨(Le.trans (Le.trans (Le.trans (Le.trans (Le.refl _) hle14) hle19) hle49) hle73), (HSub.c 1 rfl HSub.n), CSub.n⟩, ?_⟩
   refine JA.all [9, 12] (by kernel_rfl) (by simp) ?_
   intro i hi
   simp only [List.mem_cons, List.not_mem_nil, or_false] at hi
   rcases hi with rfl | rfl
   ·refine ⟨_, rfl, rfl, ?_⟩
    refine op_yld (yl_load rfl rfl tA9 (Blk.imm hbr) (at_getD (by exact hx3))) rfl rfl ?_
    refine ⟨⟨(Le.trans (Le.trans (Le.trans (Le.trans (Le.refl _) hle14) hle19) hle49) hle73), (HSub.c 1 rfl HSub.n), CSub.n⟩, ?_⟩
    refine JA.pull Pull.z ?_
    refine q4 12 rfl (op_call (H1 := [_]) rfl rfl rfl rfl rfl (next_ok m (Cq.next l (Cq.next l (Cq.next l k 5).2 6).2 6).2 9 v l _ hl hll hk3 (by omega) (by omega)) ?_ (fun _ _ _ _ h => by cases h.1) (fun _ _ h => by cases h.1))
    intro v76 I77 H78 hle79 hp80
    obtain ⟨hv76, rfl⟩ := hp80; cases hv76
    refine ⟨⟨(Le.trans (Le.trans (Le.trans (Le.trans (Le.trans (Le.refl _) hle14) hle19) hle49) hle73) hle79), (HSub.c 1 rfl HSub.n), CSub.n⟩, ?_⟩
    refine JA.fix ⟨(HSub.c 1 rfl HSub.n), CSub.n, (Le.trans (Le.trans (Le.trans (Le.trans (Le.trans (Le.refl _) hle14) hle19) hle49) hle73) hle79)⟩ (fun fx81 => ?_)
    refine JA.tk 13 rfl fx81 (q16 (off' := (Cq.next l (Cq.next l (Cq.next l (Cq.next l k 5).2 6).2 6).2 9).1) tU69 tS9) ?_
    refine JA.tk 14 rfl fx81 (yl_load rfl rfl tA9 (Blk.atC 0 rfl) (at_getD (l := Cq.texts) (sp := []) (by exact hx4))) ?_
    refine JA.tk 15 rfl fx81 (yl_buildS (pl := #[(0, 1), (1, 1), (2, 1), (3, 1), (4, 1)]) rfl rfl tZ32 rfl tU32 (fun w => by simp []) (LBld.part rfl rfl rfl (LSpl.c LSpl.z) (LBld.part rfl rfl rfl (LSpl.s (LSpl.c LSpl.z)) (LBld.part rfl rfl rfl (LSpl.s (LSpl.s (LSpl.c LSpl.z))) (LBld.part rfl rfl rfl (LSpl.s (LSpl.s (LSpl.s (LSpl.c LSpl.z)))) LBld.none))))) ?_
    refine q4 16 rfl (q9 2 tS32 (LSpl.c (LSpl.c (LSpl.c (LSpl.c (LSpl.c LSpl.z))))) (LSet.s (LSet.s LSet.z)) ?_)
    refine ⟨⟨(Le.trans (Le.trans (Le.trans (Le.trans (Le.trans (Le.refl _) hle14) hle19) hle49) hle73) hle79), (HSub.c 1 rfl HSub.n), CSub.n⟩, ?_⟩
    refine q8 ?_
    refine Ej.seq (Cj.rs (Ej.retCellK (Keeps.k (Keeps.d (Keeps.d Keeps.n))) rfl rfl rfl (Blk.at 2 rfl) tA32 tS32 rfl ?_))
    rw [hmd]
    exact ⟨⟨_, rfl, none, 0, rfl, .inl rfl⟩, rfl⟩
   refine ⟨_, rfl, rfl, ?_⟩
   refine OpJ.pull Pull.z ?_
   refine op_call (H1 := [_]) rfl rfl rfl rfl rfl (next_ok m (Cq.next l (Cq.next l (Cq.next l k 5).2 6).2 6).2 9 v l _ hl hll hk3 (by omega) (by omega)) ?_ (fun _ _ _ _ h => by cases h.1) (fun _ _ h => by cases h.1)
   intro v82 I83 H84 hle85 hp86
   have hbr := hle85 _ _ hbr
   obtain ⟨hv82, rfl⟩ := hp86; cases hv82
   refine ⟨⟨(Le.trans (Le.trans (Le.trans (Le.trans (Le.trans (Le.refl _) hle14) hle19) hle49) hle73) hle85), (HSub.c 1 rfl HSub.n), CSub.n⟩, ?_⟩
   refine JA.fix ⟨(HSub.c 1 rfl HSub.n), CSub.n, (Le.trans (Le.trans (Le.trans (Le.trans (Le.trans (Le.refl _) hle14) hle19) hle49) hle73) hle85)⟩ (fun fx87 => ?_)
   refine JA.tk 13 rfl fx87 (q16 (off' := (Cq.next l (Cq.next l (Cq.next l (Cq.next l k 5).2 6).2 6).2 9).1) tU69 tS9) ?_
   refine JA.tk 14 rfl fx87 (yl_load rfl rfl tA9 (Blk.atC 0 rfl) (at_getD (l := Cq.texts) (sp := []) (by exact hx4))) ?_
   refine q4 9 rfl (op_yld (yl_load rfl rfl tA9 (Blk.imm hbr) (at_getD (by exact hx3))) rfl rfl ?_)
   refine ⟨⟨(Le.trans (Le.trans (Le.trans (Le.trans (Le.trans (Le.refl _) hle14) hle19) hle49) hle73) hle85), (HSub.c 1 rfl HSub.n), CSub.n⟩, ?_⟩
   refine JA.fix ⟨(HSub.c 1 rfl HSub.n), CSub.n, (Le.trans (Le.trans (Le.trans (Le.trans (Le.trans (Le.refl _) hle14) hle19) hle49) hle73) hle85)⟩ (fun fx88 => ?_)
   refine JA.tk 15 rfl fx88 (yl_buildS (pl := #[(0, 1), (1, 1), (2, 1), (3, 1), (4, 1)]) rfl rfl tZ32 rfl tU32 (fun w => by simp []) (LBld.part rfl rfl rfl (LSpl.c LSpl.z) (LBld.part rfl rfl rfl (LSpl.s (LSpl.c LSpl.z)) (LBld.part rfl rfl rfl (LSpl.s (LSpl.s (LSpl.c LSpl.z))) (LBld.part rfl rfl rfl (LSpl.s (LSpl.s (LSpl.s (LSpl.c LSpl.z)))) LBld.none))))) ?_
   refine q4 16 rfl (q9 2 tS32 (LSpl.c (LSpl.c (LSpl.c (LSpl.c (LSpl.c LSpl.z))))) (LSet.s (LSet.s LSet.z)) ?_)
   refine ⟨⟨(Le.trans (Le.trans (Le.trans (Le.trans (Le.trans (Le.refl _) hle14) hle19) hle49) hle73) hle85), (HSub.c 1 rfl HSub.n), CSub.n⟩, ?_⟩
   refine q8 ?_
   refine Ej.seq (Cj.rs (Ej.retCellK (Keeps.k (Keeps.d (Keeps.d Keeps.n))) rfl rfl rfl (Blk.at 2 rfl) tA32 tS32 rfl ?_))
   rw [hmd]
   exact ⟨⟨_, rfl, none, 0, rfl, .inl rfl⟩, rfl⟩
  ·refine ⟨_, rfl, rfl, ?_⟩
   refine op_yld (yl_load rfl rfl tA9 (Blk.imm hbr) (at_getD (by exact hx3))) rfl rfl ?_
   refine ⟨⟨(Le.trans (Le.trans (Le.trans (Le.trans (Le.refl _) hle14) hle19) hle49) hle73), (HSub.c 1 rfl HSub.n), CSub.n⟩, ?_⟩
   refine JA.all [4, 12] (by kernel_rfl) (by simp) ?_
   intro i hi
   simp only [List.mem_cons, List.not_mem_nil, or_false] at hi
   rcases hi with rfl | rfl
   ·refine ⟨_, rfl, rfl, ?_⟩
    refine op_yld (yl_load rfl rfl tA9 (Blk.imm hbi) (at_getD (by exact hx2))) rfl rfl ?_
    refine ⟨⟨(Le.trans (Le.trans (Le.trans (Le.trans (Le.refl _) hle14) hle19) hle49) hle73), (HSub.c 1 rfl HSub.n), CSub.n⟩, ?_⟩
    refine JA.pull Pull.z ?_
    refine q4 12 rfl (op_call (H1 := [_]) rfl rfl rfl rfl rfl (next_ok m (Cq.next l (Cq.next l (Cq.next l k 5).2 6).2 6).2 9 v l _ hl hll hk3 (by omega) (by omega)) ?_ (fun _ _ _ _ h => by cases h.1) (fun _ _ h => by cases h.1))
    intro v89 I90 H91 hle92 hp93
    obtain ⟨hv89, rfl⟩ := hp93; cases hv89
    refine ⟨⟨(Le.trans (Le.trans (Le.trans (Le.trans (Le.trans (Le.refl _) hle14) hle19) hle49) hle73) hle92), (HSub.c 1 rfl HSub.n), CSub.n⟩, ?_⟩
    refine JA.fix ⟨(HSub.c 1 rfl HSub.n), CSub.n, (Le.trans (Le.trans (Le.trans (Le.trans (Le.trans (Le.refl _) hle14) hle19) hle49) hle73) hle92)⟩ (fun fx94 => ?_)
    refine JA.tk 13 rfl fx94 (q16 (off' := (Cq.next l (Cq.next l (Cq.next l (Cq.next l k 5).2 6).2 6).2 9).1) tU69 tS9) ?_
    refine JA.tk 14 rfl fx94 (yl_load rfl rfl tA9 (Blk.atC 0 rfl) (at_getD (l := Cq.texts) (sp := []) (by exact hx4))) ?_
    refine JA.tk 15 rfl fx94 (yl_buildS (pl := #[(0, 1), (1, 1), (2, 1), (3, 1), (4, 1)]) rfl rfl tZ32 rfl tU32 (fun w => by simp []) (LBld.part rfl rfl rfl (LSpl.c LSpl.z) (LBld.part rfl rfl rfl (LSpl.s (LSpl.c LSpl.z)) (LBld.part rfl rfl rfl (LSpl.s (LSpl.s (LSpl.c LSpl.z))) (LBld.part rfl rfl rfl (LSpl.s (LSpl.s (LSpl.s (LSpl.c LSpl.z)))) LBld.none))))) ?_
    refine q4 16 rfl (q9 2 tS32 (LSpl.c (LSpl.c (LSpl.c (LSpl.c (LSpl.c LSpl.z))))) (LSet.s (LSet.s LSet.z)) ?_)
    refine ⟨⟨(Le.trans (Le.trans (Le.trans (Le.trans (Le.trans (Le.refl _) hle14) hle19) hle49) hle73) hle92), (HSub.c 1 rfl HSub.n), CSub.n⟩, ?_⟩
    refine q8 ?_
    refine Ej.seq (Cj.rs (Ej.retCellK (Keeps.k (Keeps.d (Keeps.d Keeps.n))) rfl rfl rfl (Blk.at 2 rfl) tA32 tS32 rfl ?_))
    rw [hmd]
    exact ⟨⟨_, rfl, none, 0, rfl, .inl rfl⟩, rfl⟩
   refine ⟨_, rfl, rfl, ?_⟩
   refine OpJ.pull Pull.z ?_
   refine op_call (H1 := [_]) rfl rfl rfl rfl rfl (next_ok m (Cq.next l (Cq.next l (Cq.next l k 5).2 6).2 6).2 9 v l _ hl hll hk3 (by omega) (by omega)) ?_ (fun _ _ _ _ h => by cases h.1) (fun _ _ h => by cases h.1)
   intro v95 I96 H97 hle98 hp99
   have hbi := hle98 _ _ hbi
   obtain ⟨hv95, rfl⟩ := hp99; cases hv95
   refine ⟨⟨(Le.trans (Le.trans (Le.trans (Le.trans (Le.trans (Le.refl _) hle14) hle19) hle49) hle73) hle98), (HSub.c 1 rfl HSub.n), CSub.n⟩, ?_⟩
   refine JA.fix ⟨(HSub.c 1 rfl HSub.n), CSub.n, (Le.trans (Le.trans (Le.trans (Le.trans (Le.trans (Le.refl _) hle14) hle19) hle49) hle73) hle98)⟩ (fun fx100 => ?_)
   refine JA.tk 13 rfl fx100 (q16 (off' := (Cq.next l (Cq.next l (Cq.next l (Cq.next l k 5).2 6).2 6).2 9).1) tU69 tS9) ?_
   refine JA.tk 14 rfl fx100 (yl_load rfl rfl tA9 (Blk.atC 0 rfl) (at_getD (l := Cq.texts) (sp := []) (by exact hx4))) ?_
   refine q4 4 rfl (op_yld (yl_load rfl rfl tA9 (Blk.imm hbi) (at_getD (by exact hx2))) rfl rfl ?_)
   refine ⟨⟨(Le.trans (Le.trans (Le.trans (Le.trans (Le.trans (Le.refl _) hle14) hle19) hle49) hle73) hle98), (HSub.c 1 rfl HSub.n), CSub.n⟩, ?_⟩
   refine JA.fix ⟨(HSub.c 1 rfl HSub.n), CSub.n, (Le.trans (Le.trans (Le.trans (Le.trans (Le.trans (Le.refl _) hle14) hle19) hle49) hle73) hle98)⟩ (fun fx101 => ?_)
   refine JA.tk 15 rfl fx101 (yl_buildS (pl := #[(0, 1), (1, 1), (2, 1), (3, 1), (4, 1)]) rfl rfl tZ32 rfl tU32 (fun w => by simp []) (LBld.part rfl rfl rfl (LSpl.c LSpl.z) (LBld.part rfl rfl rfl (LSpl.s (LSpl.c LSpl.z)) (LBld.part rfl rfl rfl (LSpl.s (LSpl.s (LSpl.c LSpl.z))) (LBld.part rfl rfl rfl (LSpl.s (LSpl.s (LSpl.s (LSpl.c LSpl.z)))) LBld.none))))) ?_
   refine q4 16 rfl (q9 2 tS32 (LSpl.c (LSpl.c (LSpl.c (LSpl.c (LSpl.c LSpl.z))))) (LSet.s (LSet.s LSet.z)) ?_)
   refine ⟨⟨(Le.trans (Le.trans (Le.trans (Le.trans (Le.trans (Le.refl _) hle14) hle19) hle49) hle73) hle98), (HSub.c 1 rfl HSub.n), CSub.n⟩, ?_⟩
   refine q8 ?_
   refine Ej.seq (Cj.rs (Ej.retCellK (Keeps.k (Keeps.d (Keeps.d Keeps.n))) rfl rfl rfl (Blk.at 2 rfl) tA32 tS32 rfl ?_))
   rw [hmd]
   exact ⟨⟨_, rfl, none, 0, rfl, .inl rfl⟩, rfl⟩
  refine ⟨_, rfl, rfl, ?_⟩
  refine OpJ.pull Pull.z ?_
  refine op_call (H1 := [_]) rfl rfl rfl rfl rfl (next_ok m (Cq.next l (Cq.next l (Cq.next l k 5).2 6).2 6).2 9 v l _ hl hll hk3 (by omega) (by omega)) ?_ (fun _ _ _ _ h => by cases h.1) (fun _ _ h => by cases h.1)
  intro v102 I103 H104 hle105 hp106
  have hbi := hle105 _ _ hbi
  have hbr := hle105 _ _ hbr
  obtain ⟨hv102, rfl⟩ := hp106; cases hv102
  refine ⟨⟨(Le.trans (Le.trans (Le.trans (Le.trans (Le.trans (Le.refl _) hle14) hle19) hle49) hle73) hle105), (HSub.c 1 rfl HSub.n), CSub.n⟩, ?_⟩
  refine JA.fix ⟨(HSub.c 1 rfl HSub.n), CSub.n, (Le.trans (Le.trans (Le.trans (Le.trans (Le.trans (Le.refl _) hle14) hle19) hle49) hle73) hle105)⟩ (fun fx107 => ?_)
  refine JA.tk 13 rfl fx107 (q16 (off' := (Cq.next l (Cq.next l (Cq.next l (Cq.next l k 5).2 6).2 6).2 9).1) tU69 tS9) ?_
  refine JA.tk 14 rfl fx107 (yl_load rfl rfl tA9 (Blk.atC 0 rfl) (at_getD (l := Cq.texts) (sp := []) (by exact hx4))) ?_
  refine JA.all [4, 9] (by kernel_rfl) (by simp) ?_
  intro i hi
  simp only [List.mem_cons, List.not_mem_nil, or_false] at hi
  rcases hi with rfl | rfl
  ·refine ⟨_, rfl, rfl, ?_⟩
   refine op_yld (yl_load rfl rfl tA9 (Blk.imm hbi) (at_getD (by exact hx2))) rfl rfl ?_
   refine ⟨⟨(Le.trans (Le.trans (Le.trans (Le.trans (Le.trans (Le.refl _) hle14) hle19) hle49) hle73) hle105), (HSub.c 1 rfl HSub.n), CSub.n⟩, ?_⟩
   refine q4 9 rfl (op_yld (yl_load rfl rfl tA9 (Blk.imm hbr) (at_getD (by exact hx3))) rfl rfl ?_)
   refine ⟨⟨(Le.trans (Le.trans (Le.trans (Le.trans (Le.trans (Le.refl _) hle14) hle19) hle49) hle73) hle105), (HSub.c 1 rfl HSub.n), CSub.n⟩, ?_⟩
   refine JA.fix ⟨(HSub.c 1 rfl HSub.n), CSub.n, (Le.trans (Le.trans (Le.trans (Le.trans (Le.trans (Le.refl _) hle14) hle19) hle49) hle73) hle105)⟩ (fun fx108 => ?_)
   refine JA.tk 15 rfl fx108 (yl_buildS (pl := #[(0, 1), (1, 1), (2, 1), (3, 1), (4, 1)]) rfl rfl tZ32 rfl tU32 (fun w => by simp []) (LBld.part rfl rfl rfl (LSpl.c LSpl.z) (LBld.part rfl rfl rfl (LSpl.s (LSpl.c LSpl.z)) (LBld.part rfl rfl rfl (LSpl.s (LSpl.s (LSpl.c LSpl.z))) (LBld.part rfl rfl rfl (LSpl.s (LSpl.s (LSpl.s (LSpl.c LSpl.z)))) LBld.none))))) ?_
   refine q4 16 rfl (q9 2 tS32 (LSpl.c (LSpl.c (LSpl.c (LSpl.c (LSpl.c LSpl.z))))) (LSet.s (LSet.s LSet.z)) ?_)
   refine ⟨⟨(Le.trans (Le.trans (Le.trans (Le.trans (Le.trans (Le.refl _) hle14) hle19) hle49) hle73) hle105), (HSub.c 1 rfl HSub.n), CSub.n⟩, ?_⟩
   refine q8 ?_
   refine Ej.seq (Cj.rs (Ej.retCellK (Keeps.k (Keeps.d (Keeps.d Keeps.n))) rfl rfl rfl (Blk.at 2 rfl) tA32 tS32 rfl ?_))
   rw [hmd]
   exact ⟨⟨_, rfl, none, 0, rfl, .inl rfl⟩, rfl⟩
  refine ⟨_, rfl, rfl, ?_⟩
  refine op_yld (yl_load rfl rfl tA9 (Blk.imm hbr) (at_getD (by exact hx3))) rfl rfl ?_
  refine ⟨⟨(Le.trans (Le.trans (Le.trans (Le.trans (Le.trans (Le.refl _) hle14) hle19) hle49) hle73) hle105), (HSub.c 1 rfl HSub.n), CSub.n⟩, ?_⟩
  refine q4 4 rfl (op_yld (yl_load rfl rfl tA9 (Blk.imm hbi) (at_getD (by exact hx2))) rfl rfl ?_)
  refine ⟨⟨(Le.trans (Le.trans (Le.trans (Le.trans (Le.trans (Le.refl _) hle14) hle19) hle49) hle73) hle105), (HSub.c 1 rfl HSub.n), CSub.n⟩, ?_⟩
  refine JA.fix ⟨(HSub.c 1 rfl HSub.n), CSub.n, (Le.trans (Le.trans (Le.trans (Le.trans (Le.trans (Le.refl _) hle14) hle19) hle49) hle73) hle105)⟩ (fun fx109 => ?_)
  refine JA.tk 15 rfl fx109 (yl_buildS (pl := #[(0, 1), (1, 1), (2, 1), (3, 1), (4, 1)]) rfl rfl tZ32 rfl tU32 (fun w => by simp []) (LBld.part rfl rfl rfl (LSpl.c LSpl.z) (LBld.part rfl rfl rfl (LSpl.s (LSpl.c LSpl.z)) (LBld.part rfl rfl rfl (LSpl.s (LSpl.s (LSpl.c LSpl.z))) (LBld.part rfl rfl rfl (LSpl.s (LSpl.s (LSpl.s (LSpl.c LSpl.z)))) LBld.none))))) ?_
  refine q4 16 rfl (q9 2 tS32 (LSpl.c (LSpl.c (LSpl.c (LSpl.c (LSpl.c LSpl.z))))) (LSet.s (LSet.s LSet.z)) ?_)
  refine ⟨⟨(Le.trans (Le.trans (Le.trans (Le.trans (Le.trans (Le.refl _) hle14) hle19) hle49) hle73) hle105), (HSub.c 1 rfl HSub.n), CSub.n⟩, ?_⟩
  refine q8 ?_
  refine Ej.seq (Cj.rs (Ej.retCellK (Keeps.k (Keeps.d (Keeps.d Keeps.n))) rfl rfl rfl (Blk.at 2 rfl) tA32 tS32 rfl ?_))
  rw [hmd]
  exact ⟨⟨_, rfl, none, 0, rfl, .inl rfl⟩, rfl⟩
 have hd0 : deep ≠ 0 := by have h := hg7; simp at h; omega
 obtain ⟨d, rfl⟩ : ∃ d, deep = d + 1 := ⟨deep - 1, by omega⟩
 refine q13 2 12 false hg7 (q7 q0 ?_)
 refine q13 2 12 false hg7 (q7 q18 ?_)
 refine J.z (q23 hg7) ?_
 refine J.cd (fun hc110 => ?_) (fun hc110 => ?_)
 ·have hc110p := odt hc110
  have hmd : Cq.made (d + 1) l k = Cq.leaf l (Cq.next l k 5).2 := by have h := odt hc110; simp only [Cq.made]; rw [if_pos (by omega)]
  have hx2 := Cq.next_lt l (Cq.next l k 5).2 (n := 6) (by omega)
  have hx3 := Cq.next_lt l (Cq.next l (Cq.next l k 5).2 6).2 (n := 6) (by omega)
  have hx4 := Cq.next_lt l (Cq.next l (Cq.next l (Cq.next l k 5).2 6).2 6).2 (n := 9) (by omega)
  refine Cj.sr (J.op rfl (q17 tU69 tS9 tZ9 (LCat.one rfl (LCat.one rfl (LCat.one rfl (LCat.one rfl (LCat.one rfl (LCat.one rfl (LCat.one rfl (LCat.one rfl (LCat.one rfl LCat.none))))))))) ?_))
  intro b111 hb111
  refine J.z q1 ?_
  refine J.nss (Cj.drawSel [0] [] 17 (by kernel_rfl) ?_)
  refine JA.fix ⟨(HSub.c 0 rfl HSub.n), CSub.n, (Le.refl _)⟩ (fun fx112 => ?_)
  refine JA.tk 1 rfl fx112 q0 ?_
  refine JA.tk 6 rfl fx112 q0 ?_
  refine JA.tk 10 rfl fx112 q0 ?_
  refine JA.tk 11 rfl fx112 q0 ?_
  refine q4 0 rfl (op_call (H1 := []) rfl rfl rfl rfl rfl (rindexes_ok _) ?_ (fun _ _ _ _ h => by obtain ⟨⟨_, h, _⟩, _⟩ := h; cases h) (fun _ _ h => by obtain ⟨⟨_, h, _⟩, _⟩ := h; cases h))
  intro v113 I114 H115 hle116 hp117
  have hl := hl.mono hle116
  obtain ⟨⟨v113x, hv113, bi, cbi, spbi, rfl, hbi⟩, rfl⟩ := hp117; cases hv113
  refine ⟨⟨(Le.trans (Le.refl _) hle116), (HSub.c 0 rfl HSub.n), CSub.n⟩, ?_⟩
  refine JA.pull (Pull.s Pull.z) ?_
  refine q4 2 rfl (op_call (H1 := [_]) rfl rfl rfl rfl rfl (next_ok m (Cq.next l k 5).2 6 v l _ hl hll hk1 (by omega) (by omega)) ?_ (fun _ _ _ _ h => by cases h.1) (fun _ _ h => by cases h.1))
  intro v118 I119 H120 hle121 hp122
  have hl := hl.mono hle121
  have hbi := hle121 _ _ hbi
  obtain ⟨hv118, rfl⟩ := hp122; cases hv118
  refine ⟨⟨(Le.trans (Le.trans (Le.refl _) hle116) hle121), (HSub.c 1 rfl HSub.n), CSub.n⟩, ?_⟩
  refine JA.fix ⟨(HSub.c 1 rfl HSub.n), CSub.n, (Le.trans (Le.trans (Le.refl _) hle116) hle121)⟩ (fun fx123 => ?_)
  refine JA.tk 3 rfl fx123 (yl_indexAddr (off' := (Cq.next l (Cq.next l k 5).2 6).1) rfl rfl rfl tU69 tS9 (by omega) (by have : Cq.indexes.length = 6 := rfl; omega) (by simp)) ?_
  refine JA.all [4, 5] (by kernel_rfl) (by simp) ?_
  intro i hi
  simp only [List.mem_cons, List.not_mem_nil, or_false] at hi
  rcases hi with rfl | rfl
  ·refine ⟨_, rfl, rfl, ?_⟩
   refine op_yld (yl_load rfl rfl tA9 (Blk.imm hbi) (at_getD (by exact hx2))) rfl rfl ?_
   refine ⟨⟨(Le.trans (Le.trans (Le.refl _) hle116) hle121), (HSub.c 1 rfl HSub.n), CSub.n⟩, ?_⟩
   refine q4 5 rfl (op_call (H1 := []) rfl rfl rfl rfl rfl (rrelations_ok _) ?_ (fun _ _ _ _ h => by obtain ⟨⟨_, h, _⟩, _⟩ := h; cases h) (fun _ _ h => by obtain ⟨⟨_, h, _⟩, _⟩ := h; cases h))
   intro v124 I125 H126 hle127 hp128
   have hl := hl.mono hle127
   obtain ⟨⟨v124x, hv124, br, cbr, spbr, rfl, hbr⟩, rfl⟩ := hp128; cases hv124
   refine ⟨⟨(Le.trans (Le.trans (Le.trans (Le.refl _) hle116) hle121) hle127), (HSub.c 1 rfl HSub.n), CSub.n⟩, ?_⟩
   refine JA.pull Pull.z ?_
   refine q4 7 rfl (op_call (H1 := [_]) rfl rfl rfl rfl rfl (next_ok m (Cq.next l (Cq.next l k 5).2 6).2 6 v l _ hl hll hk2 (by omega) (by omega)) ?_ (fun _ _ _ _ h => by cases h.1) (fun _ _ h => by cases h.1))
   intro v129 I130 H131 hle132 hp133
   have hl := hl.mono hle132
   have hbr := hle132 _ _ hbr
   obtain ⟨hv129, rfl⟩ := hp133; cases hv129
   refine ⟨⟨(Le.trans (Le.trans (Le.trans (Le.trans (Le.refl _) hle116) hle121) hle127) hle132), (HSub.c 1 rfl HSub.n), CSub.n⟩, ?_⟩
   refine JA.fix ⟨(HSub.c 1 rfl HSub.n), CSub.n, (Le.trans (Le.trans (Le.trans (Le.trans (Le.refl _) hle116) hle121) hle127) hle132)⟩ (fun fx134 => ?_)
   refine JA.tk 8 rfl fx134 (yl_indexAddr (off' := (Cq.next l (Cq.next l (Cq.next l k 5).2 6).2 6).1) rfl rfl rfl tU69 tS9 (by omega) (by have : Cq.relations.length = 6 := rfl; omega) (by simp)) ?_
   refine JA.all [9, 12] (by kernel_rfl) (by simp) ?_
   intro i hi
   simp only [List.mem_cons, List.not_mem_nil, or_false] at hi
   rcases hi with rfl | rfl
   ·refine ⟨_, rfl, rfl, ?_⟩
    refine op_yld (yl_load rfl rfl tA9 (Blk.imm hbr) (at_getD (by exact hx3))) rfl rfl ?_
    refine ⟨⟨(Le.trans (Le.trans (Le.trans (Le.trans (Le.refl _) hle116) hle121) hle127) hle132), (HSub.c 1 rfl HSub.n), CSub.n⟩, ?_⟩
    refine JA.pull Pull.z ?_
    refine q4 12 rfl (op_call (H1 := [_]) rfl rfl rfl rfl rfl (next_ok m (Cq.next l (Cq.next l (Cq.next l k 5).2 6).2 6).2 9 v l _ hl hll hk3 (by omega) (by omega)) ?_ (fun _ _ _ _ h => by cases h.1) (fun _ _ h => by cases h.1))
    intro v135 I136 H137 hle138 hp139
    obtain ⟨hv135, rfl⟩ := hp139; cases hv135
    refine ⟨⟨(Le.trans (Le.trans (Le.trans (Le.trans (Le.trans (Le.refl _) hle116) hle121) hle127) hle132) hle138), (HSub.c 1 rfl HSub.n), CSub.n⟩, ?_⟩
    refine JA.fix ⟨(HSub.c 1 rfl HSub.n), CSub.n, (Le.trans (Le.trans (Le.trans (Le.trans (Le.trans (Le.refl _) hle116) hle121) hle127) hle132) hle138)⟩ (fun fx140 => ?_)
    refine JA.tk 13 rfl fx140 (q16 (off' := (Cq.next l (Cq.next l (Cq.next l (Cq.next l k 5).2 6).2 6).2 9).1) tU69 tS9) ?_
    refine JA.tk 14 rfl fx140 (yl_load rfl rfl tA9 (Blk.atC 0 rfl) (at_getD (l := Cq.texts) (sp := []) (by exact hx4))) ?_
    refine JA.tk 15 rfl fx140 (yl_buildS (pl := #[(0, 1), (1, 1), (2, 1), (3, 1), (4, 1)]) rfl rfl tZ32 rfl tU32 (fun w => by simp []) (LBld.part rfl rfl rfl (LSpl.c LSpl.z) (LBld.part rfl rfl rfl (LSpl.s (LSpl.c LSpl.z)) (LBld.part rfl rfl rfl (LSpl.s (LSpl.s (LSpl.c LSpl.z))) (LBld.part rfl rfl rfl (LSpl.s (LSpl.s (LSpl.s (LSpl.c LSpl.z)))) LBld.none))))) ?_
    refine q4 16 rfl (q9 2 tS32 (LSpl.c (LSpl.c (LSpl.c (LSpl.c (LSpl.c LSpl.z))))) (LSet.s (LSet.s LSet.z)) ?_)
    refine ⟨⟨(Le.trans (Le.trans (Le.trans (Le.trans (Le.trans (Le.refl _) hle116) hle121) hle127) hle132) hle138), (HSub.c 1 rfl HSub.n), CSub.n⟩, ?_⟩
    refine q8 ?_
    refine Ej.seq (Cj.rs (Ej.retCellK (Keeps.k (Keeps.d (Keeps.d Keeps.n))) rfl rfl rfl (Blk.at 2 rfl) tA32 tS32 rfl ?_))
    rw [hmd]
    exact ⟨⟨_, rfl, none, 0, rfl, .inl rfl⟩, rfl⟩
   refine ⟨_, rfl, rfl, ?_⟩
   refine OpJ.pull Pull.z ?_
   refine op_call (H1 := [_]) rfl rfl rfl rfl rfl (next_ok m (Cq.next l (Cq.next l (Cq.next l k 5).2 6).2 6).2 9 v l _ hl hll hk3 (by omega) (by omega)) ?_ (fun _ _ _ _ h => by cases h.1) (fun _ _ h => by cases h.1)
   intro v141 I142 H143 hle144 hp145
   have hbr := hle144 _ _ hbr
   obtain ⟨hv141, rfl⟩ := hp145; cases hv141
   refine ⟨⟨(Le.trans (Le.trans (Le.trans (Le.trans (Le.trans (Le.refl _) hle116) hle121) hle127) hle132) hle144), (HSub.c 1 rfl HSub.n), CSub.n⟩, ?_⟩
   refine JA.fix ⟨(HSub.c 1 rfl HSub.n), CSub.n, (Le.trans (Le.trans (Le.trans (Le.trans (Le.trans (Le.refl _) hle116) hle121) hle127) hle132) hle144)⟩ (fun fx146 => ?_)
   refine JA.tk 13 rfl fx146 (q16 (off' := (Cq.next l (Cq.next l (Cq.next l (Cq.next l k 5).2 6).2 6).2 9).1) tU69 tS9) ?_
   refine JA.tk 14 rfl fx146 (yl_load rfl rfl tA9 (Blk.atC 0 rfl) (at_getD (l := Cq.texts) (sp := []) (by exact hx4))) ?_
   refine q4 9 rfl (op_yld (yl_load rfl rfl tA9 (Blk.imm hbr) (at_getD (by exact hx3))) rfl rfl ?_)
   refine ⟨⟨(Le.trans (Le.trans (Le.trans (Le.trans (Le.trans (Le.refl _) hle116) hle121) hle127) hle132) hle144), (HSub.c 1 rfl HSub.n), CSub.n⟩, ?_⟩
   refine JA.fix ⟨(HSub.c 1 rfl HSub.n), CSub.n, (Le.trans (Le.trans (Le.trans (Le.trans (Le.trans (Le.refl _) hle116) hle121) hle127) hle132) hle144)⟩ (fun fx147 => ?_)
   refine JA.tk 15 rfl fx147 (yl_buildS (pl := #[(0, 1), (1, 1), (2, 1), (3, 1), (4, 1)]) rfl rfl tZ32 rfl tU32 (fun w => by simp []) (LBld.part rfl rfl rfl (LSpl.c LSpl.z) (LBld.part rfl rfl rfl (LSpl.s (LSpl.c LSpl.z)) (LBld.part rfl rfl rfl (LSpl.s (LSpl.s (LSpl.c LSpl.z))) (LBld.part rfl rfl rfl (LSpl.s (LSpl.s (LSpl.s (LSpl.c LSpl.z)))) LBld.none))))) ?_
   refine q4 16 rfl (q9 2 tS32 (LSpl.c (LSpl.c (LSpl.c (LSpl.c (LSpl.c LSpl.z))))) (LSet.s (LSet.s LSet.z)) ?_)
   refine ⟨⟨(Le.trans (Le.trans (Le.trans (Le.trans (Le.trans (Le.refl _) hle116) hle121) hle127) hle132) hle144), (HSub.c 1 rfl HSub.n), CSub.n⟩, ?_⟩
   refine q8 ?_
   refine Ej.seq (Cj.rs (Ej.retCellK (Keeps.k (Keeps.d (Keeps.d Keeps.n))) rfl rfl rfl (Blk.at 2 rfl) tA32 tS32 rfl ?_))
   rw [hmd]
   exact ⟨⟨_, rfl, none, 0, rfl, .inl rfl⟩, rfl⟩
  refine ⟨_, rfl, rfl, ?_⟩
  refine op_call (H1 := []) rfl rfl rfl rfl rfl (rrelations_ok _) ?_ (fun _ _ _ _ h => by obtain ⟨⟨_, h, _⟩, _⟩ := h; cases h) (fun _ _ h => by obtain ⟨⟨_, h, _⟩, _⟩ := h; cases h)
  intro v148 I149 H150 hle151 hp152
  have hl := hl.mono hle151
  have hbi := hle151 _ _ hbi
  obtain ⟨⟨v148x, hv148, br, cbr, spbr, rfl, hbr⟩, rfl⟩ := hp152; cases hv148
  refine ⟨⟨(Le.trans (Le.trans (Le.trans (Le.refl _) hle116) hle121) hle151), (HSub.c 1 rfl HSub.n), CSub.n⟩, ?_⟩
  refine JA.all [4, 7] (by kernel_rfl) (by simp) ?_
  intro i hi
  simp only [List.mem_cons, List.not_mem_nil, or_false] at hi
  rcases hi with rfl | rfl
  ·refine ⟨_, rfl, rfl, ?_⟩
   refine op_yld (yl_load rfl rfl tA9 (Blk.imm hbi) (at_getD (by exact hx2))) rfl rfl ?_
   refine ⟨⟨(Le.trans (Le.trans (Le.trans (Le.refl _) hle116) hle121) hle151), (HSub.c 1 rfl HSub.n), CSub.n⟩, ?_⟩
   refine JA.pull Pull.z ?_
   refine q4 7 rfl (op_call (H1 := [_]) rfl rfl rfl rfl rfl (next_ok m (Cq.next l (Cq.next l k 5).2 6).2 6 v l _ hl hll hk2 (by omega) (by omega)) ?_ (fun _ _ _ _ h => by cases h.1) (fun _ _ h => by cases h.1))
   intro v153 I154 H155 hle156 hp157
   have hl := hl.mono hle156
   have hbr := hle156 _ _ hbr
   obtain ⟨hv153, rfl⟩ := hp157; cases hv153
   refine ⟨⟨(Le.trans (Le.trans (Le.trans (Le.trans (Le.refl _) hle116) hle121) hle151) hle156), (HSub.c 1 rfl HSub.n), CSub.n⟩, ?_⟩
   refine JA.fix ⟨(HSub.c 1 rfl HSub.n), CSub.n, (Le.trans (Le.trans (Le.trans (Le.trans (Le.refl _) hle116) hle121) hle151) hle156)⟩ (fun fx158 => ?_)
   refine JA.tk 8 rfl fx158 (yl_indexAddr (off' := (Cq.next l (Cq.next l (Cq.next l k 5).2 6).2 6).1) rfl rfl rfl tU69 tS9 (by omega) (by have : Cq.relations.length = 6 := rfl; omega) (by simp)) ?_
   refine JA.all [9, 12] (by kernel_rfl) (by simp) ?_
   intro i hi
   simp only [List.mem_cons, List.not_mem_nil, or_false] at hi
   rcases hi with rfl | rfl
   ·refine ⟨_, rfl, rfl, ?_⟩
    refine op_yld (yl_load rfl rfl tA9 (Blk.imm hbr) (at_getD (by exact hx3))) rfl rfl ?_
    refine ⟨⟨(Le.trans (Le.trans (Le.trans (Le.trans (Le.refl _) hle116) hle121) hle151) hle156), (HSub.c 1 rfl HSub.n), CSub.n⟩, ?_⟩
    refine JA.pull Pull.z ?_
    refine q4 12 rfl (op_call (H1 := [_]) rfl rfl rfl rfl rfl (next_ok m (Cq.next l (Cq.next l (Cq.next l k 5).2 6).2 6).2 9 v l _ hl hll hk3 (by omega) (by omega)) ?_ (fun _ _ _ _ h => by cases h.1) (fun _ _ h => by cases h.1))
    intro v159 I160 H161 hle162 hp163
    obtain ⟨hv159, rfl⟩ := hp163; cases hv159
    refine ⟨⟨(Le.trans (Le.trans (Le.trans (Le.trans (Le.trans (Le.refl _) hle116) hle121) hle151) hle156) hle162), (HSub.c 1 rfl HSub.n), CSub.n⟩, ?_⟩
    refine JA.fix ⟨(HSub.c 1 rfl HSub.n), CSub.n, (Le.trans (Le.trans (Le.trans (Le.trans (Le.trans (Le.refl _) hle116) hle121) hle151) hle156) hle162)⟩ (fun fx164 => ?_)
    refine JA.tk 13 rfl fx164 (q16 (off' := (Cq.next l (Cq.next l (Cq.next l (Cq.next l k 5).2 6).2 6).2 9).1) tU69 tS9) ?_
    refine JA.tk 14 rfl fx164 (yl_load rfl rfl tA9 (Blk.atC 0 rfl) (at_getD (l := Cq.texts) (sp := []) (by exact hx4))) ?_
    refine JA.tk 15 rfl fx164 (yl_buildS (pl := #[(0, 1), (1, 1), (2, 1), (3, 1), (4, 1)]) rfl rfl tZ32 rfl tU32 (fun w => by simp []) (LBld.part rfl rfl rfl (LSpl.c LSpl.z) (LBld.part rfl rfl rfl (LSpl.s (LSpl.c LSpl.z)) (LBld.part rfl rfl rfl (LSpl.s (LSpl.s (LSpl.c LSpl.z))) (LBld.part rfl rfl rfl (LSpl.s (LSpl.s (LSpl.s (LSpl.c LSpl.z)))) LBld.none))))) ?_
    refine q4 16 rfl (q9 2 tS32 (LSpl.c (LSpl.c (LSpl.c (LSpl.c (LSpl.c LSpl.z))))) (LSet.s (LSet.s LSet.z)) ?_)
    refine ⟨⟨(Le.trans (Le.trans (Le.trans (Le.trans (Le.trans (Le.refl _) hle116) hle121) hle151) hle156) hle162), (HSub.c 1 rfl HSub.n), CSub.n⟩, ?_⟩
    refine q8 ?_
    refine Ej.seq (Cj.rs (Ej.retCellK (Keeps.k (Keeps.d (Keeps.d Keeps.n))) rfl rfl rfl (Blk.at 2 rfl) tA32 tS32 rfl ?_))
    rw [hmd]
    exact ⟨⟨_, rfl, none, 0, rfl, .inl rfl⟩, rfl⟩
   refine ⟨_, rfl, rfl, ?_⟩
   refine OpJ.pull Pull.z ?_
   refine op_call (H1 := [_]) rfl rfl rfl rfl rfl (next_ok m (Cq.next l (Cq.next l (Cq.next l k 5).2 6).2 6).2 9 v l _ hl hll hk3 (by omega) (by omega)) ?_ (fun _ _ _ _ h => by cases h.1) (fun _ _ h => by cases h.1)
   intro v165 I166 H167 hle168 hp169
   have hbr := hle168 _ _ hbr
   obtain ⟨hv165, rfl⟩ := hp169; cases hv165
   refine ⟨⟨(Le.trans (Le.trans (Le.trans (Le.trans (Le.trans (Le.refl _) hle116) hle121) hle151) hle156) hle168), (HSub.c 1 rfl HSub.n), CSub.n⟩, ?_⟩
   refine JA.fix ⟨(HSub.c 1 rfl HSub.n), CSub.n, (Le.trans (Le.trans (Le.trans (Le.trans (Le.trans (Le.refl _) hle116) hle121) hle151) hle156) hle168)⟩ (fun fx170 => ?_)
   refine JA.tk 13 rfl fx170 (q16 (off' := (Cq.next l (Cq.next l (Cq.next l (Cq.next l k 5).2 6).2 6).2 9).1) tU69 tS9) ?_
   refine JA.tk 14 rfl fx170 (yl_load rfl rfl tA9 (Blk.atC 0 rfl) (at_getD (l := Cq.texts) (sp := []) (by exact hx4))) ?_
   refine q4 9 rfl (op_yld (yl_load rfl rfl tA9 (Blk.imm hbr) (at_getD (by exact hx3))) rfl rfl ?_)
   refine ⟨⟨(Le.trans (Le.trans (Le.trans (Le.trans (Le.trans (Le.refl _) hle116) hle121) hle151) hle156) hle168), (HSub.c 1 rfl HSub.n), CSub.n⟩, ?_⟩
   refine JA.fix ⟨(HSub.c 1 rfl HSub.n), CSub.n, (Le.trans (Le.trans (Le.trans (Le.trans (Le.trans (Le.refl _) hle116) hle121) hle151) hle156) hle168)⟩ (fun fx171 => ?_)
   refine JA.tk 15 rfl fx171 (yl_buildS (pl := #[(0, 1), (1, 1), (2, 1), (3, 1), (4, 1)]) rfl rfl tZ32 rfl tU32 (fun w => by simp []) (LBld.part rfl rfl rfl (LSpl.c LSpl.z) (LBld.part rfl rfl rfl (LSpl.s (LSpl.c LSpl.z)) (LBld.part rfl rfl rfl (LSpl.s (LSpl.s (LSpl.c LSpl.z))) (LBld.part rfl rfl rfl (LSpl.s (LSpl.s (LSpl.s (LSpl.c LSpl.z)))) LBld.none))))) ?_
   refine q4 16 rfl (q9 2 tS32 (LSpl.c (LSpl.c (LSpl.c (LSpl.c (LSpl.c LSpl.z))))) (LSet.s (LSet.s LSet.z)) ?_)
   refine ⟨⟨(Le.trans (Le.trans (Le.trans (Le.trans (Le.trans (Le.refl _) hle116) hle121) hle151) hle156) hle168), (HSub.c 1 rfl HSub.n), CSub.n⟩, ?_⟩
   refine q8 ?_
   refine Ej.seq (Cj.rs (Ej.retCellK (Keeps.k (Keeps.d (Keeps.d Keeps.n))) rfl rfl rfl (Blk.at 2 rfl) tA32 tS32 rfl ?_))
   rw [hmd]
   exact ⟨⟨_, rfl, none, 0, rfl, .inl rfl⟩, rfl⟩
  refine ⟨_, rfl, rfl, ?_⟩
  refine OpJ.pull Pull.z ?_
  refine op_call (H1 := [_]) rfl rfl rfl rfl rfl (next_ok m (Cq.next l (Cq.next l k 5).2 6).2 6 v l _ hl hll hk2 (by omega) (by omega)) ?_ (fun _ _ _ _ h => by cases h.1) (fun _ _ h => by cases h.1)
  intro v172 I173 H174 hle175 hp176
  have hl := hl.mono hle175
  have hbi := hle175 _ _ hbi
  have hbr := hle175 _ _ hbr
  obtain ⟨hv172, rfl⟩ := hp176; cases hv172
  refine ⟨⟨(Le.trans (Le.trans (Le.trans (Le.trans (Le.refl _) hle116) hle121) hle151) hle175), (HSub.c 1 rfl HSub.n), CSub.n⟩, ?_⟩
  refine JA.fix ⟨(HSub.c 1 rfl HSub.n), CSub.n, (Le.trans (Le.trans (Le.trans (Le.trans (Le.refl _) hle116) hle121) hle151) hle175)⟩ (fun fx177 => ?_)
  refine JA.tk 8 rfl fx177 (yl_indexAddr (off' := (Cq.next l (Cq.next l (Cq.next l k 5).2 6).2 6).1) rfl rfl rfl tU69 tS9 (by omega) (by have : Cq.relations.length = 6 := rfl; omega) (by simp)) ?_
  refine JA.all [4, 9, 12] (by kernel_rfl) (by simp) ?_
  intro i hi
  simp only [List.mem_cons, List.not_mem_nil, or_false] at hi
  rcases hi with rfl | rfl | rfl
  ·refine ⟨_, rfl, rfl, ?_⟩
   refine op_yld (yl_load rfl rfl tA9 (Blk.imm hbi) (at_getD (by exact hx2))) rfl rfl ?_
   refine ⟨⟨(Le.trans (Le.trans (Le.trans (Le.trans (Le.refl _) hle116) hle121) hle151) hle175), (HSub.c 1 rfl HSub.n), CSub.n⟩, ?_⟩
   refine JA.all [9, 12] (by kernel_rfl) (by simp) ?_
   intro i hi
   simp only [List.mem_cons, List.not_mem_nil, or_false] at hi
   rcases hi with rfl | rfl
   ·refine ⟨_, rfl, rfl, ?_⟩
    refine op_yld (yl_load rfl rfl tA9 (Blk.imm hbr) (at_getD (by exact hx3))) rfl rfl ?_
    refine ⟨⟨(Le.trans (Le.trans (Le.trans (Le.trans (Le.refl _) hle116) hle121) hle151) hle175), (HSub.c 1 rfl HSub.n), CSub.n⟩, ?_⟩
    refine JA.pull Pull.z ?_
    refine q4 12 rfl (op_call (H1 := [_]) rfl rfl rfl rfl rfl (next_ok m (Cq.next l (Cq.next l (Cq.next l k 5).2 6).2 6).2 9 v l _ hl hll hk3 (by omega) (by omega)) ?_ (fun _ _ _ _ h => by cases h.1) (fun _ _ h => by cases h.1))
    intro v178 I179 H180 hle181 hp182
    obtain ⟨hv178, rfl⟩ := hp182; cases hv178
    refine ⟨⟨(Le.trans (Le.trans (Le.trans (Le.trans (Le.trans (Le.refl _) hle116) hle121) hle151) hle175) hle181), (HSub.c 1 rfl HSub.n), CSub.n⟩, ?_⟩
    refine JA.fix ⟨(HSub.c 1 rfl HSub.n), CSub.n, (Le.trans (Le.trans (Le.trans (Le.trans (Le.trans (Le.refl _) hle116) hle121) hle151) hle175) hle181)⟩ (fun fx183 => ?_)
    refine JA.tk 13 rfl fx183 (q16 (off' := (Cq.next l (Cq.next l (Cq.next l (Cq.next l k 5).2 6).2 6).2 9).1) tU69 tS9) ?_
    refine JA.tk 14 rfl fx183 (yl_load rfl rfl tA9 (Blk.atC 0 rfl) (at_getD (l := Cq.texts) (sp := []) (by exact hx4))) ?_
    refine JA.tk 15 rfl fx183 (yl_buildS (pl := #[(0, 1), (1, 1), (2, 1), (3, 1), (4, 1)]) rfl rfl tZ32 rfl tU32 (fun w => by simp []) (LBld.part rfl rfl rfl (LSpl.c LSpl.z) (LBld.part rfl rfl rfl (LSpl.s (LSpl.c LSpl.z)) (LBld.part rfl rfl rfl (LSpl.s (LSpl.s (LSpl.c LSpl.z))) (LBld.part rfl rfl rfl (LSpl.s (LSpl.s (LSpl.s (LSpl.c LSpl.z)))) LBld.none))))) ?_
    refine q4 16 rfl (q9 2 tS32 (LSpl.c (LSpl.c (LSpl.c (LSpl.c (LSpl.c LSpl.z))))) (LSet.s (LSet.s LSet.z)) ?_)
    refine ⟨⟨(Le.trans (Le.trans (Le.trans (Le.trans (Le.trans (Le.refl _) hle116) hle121) hle151) hle175) hle181), (HSub.c 1 rfl HSub.n), CSub.n⟩, ?_⟩
    refine q8 ?_
    refine Ej.seq (Cj.rs (Ej.retCellK (Keeps.k (Keeps.d (Keeps.d Keeps.n))) rfl rfl rfl (Blk.at 2 rfl) tA32 tS32 rfl ?_))
    rw [hmd]
    exact ⟨⟨_, rfl, none, 0, rfl, .inl rfl⟩, rfl⟩
   refine ⟨_, rfl, rfl, ?_⟩
   refine OpJ.pull Pull.z ?_
   refine op_call (H1 := [_]) rfl rfl rfl rfl rfl (next_ok m (Cq.next l (Cq.next l (Cq.next l k 5).2 6).2 6).2 9 v l _ hl hll hk3 (by omega) (by omega)) ?_ (fun _ _ _ _ h => by cases h.1) (fun _ _ h => by cases h.1)
   intro v184 I185 H186 hle187 hp188
   have hbr := hle187 _ _ hbr
   obtain ⟨hv184, rfl⟩ := hp188; cases hv184
   refine ⟨⟨(Le.trans (Le.trans (Le.trans (Le.trans (Le.trans (Le.refl _) hle116) hle121) hle151) hle175) hle187), (HSub.c 1 rfl HSub.n), CSub.n⟩, ?_⟩
   refine JA.fix ⟨(HSub.c 1 rfl HSub.n), CSub.n, (Le.trans (Le.trans (Le.trans (Le.trans (Le.trans (Le.refl _) hle116) hle121) hle151) hle175) hle187)⟩ (fun fx189 => ?_)
   refine JA.tk 13 rfl fx189 (q16 (off' := (Cq.next l (Cq.next l (Cq.next l (Cq.next l k 5).2 6).2 6).2 9).1) tU69 tS9) ?_
   refine JA.tk 14 rfl fx189 (yl_load rfl rfl tA9 (Blk.atC 0 rfl) (at_getD (l := Cq.texts) (sp := []) (by exact hx4))) ?_
   refine q4 9 rfl (op_yld (yl_load rfl rfl tA9 (Blk.imm hbr) (at_getD (by exact hx3))) rfl rfl ?_)
   refine ⟨⟨(Le.trans (Le.trans (Le.trans (Le.trans (Le.trans (Le.refl _) hle116) hle121) hle151) hle175) hle187), (HSub.c 1 rfl HSub.n), CSub.n⟩, ?_⟩
   refine JA.fix ⟨(HSub.c 1 rfl HSub.n), CSub.n, (Le.trans (Le.trans (Le.trans (Le.trans (Le.trans (Le.refl _) hle116) hle121) hle151) hle175) hle187)⟩ (fun fx190 => ?_)
   refine JA.tk 15 rfl fx190 (yl_buildS (pl := #[(0, 1), (1, 1), (2, 1), (3, 1), (4, 1)]) rfl rfl tZ32 rfl tU32 (fun w => by simp []) (LBld.part rfl rfl rfl (LSpl.c LSpl.z) (LBld.part rfl rfl rfl (LSpl.s (LSpl.c LSpl.z)) (LBld.part rfl rfl rfl (LSpl.s (LSpl.s (LSpl.c LSpl.z))) (LBld.part rfl rfl rfl (LSpl.s (LSpl.s (LSpl.s (LSpl.c LSpl.z)))) LBld.none))))) ?_
   refine q4 16 rfl (q9 2 tS32 (LSpl.c (LSpl.c (LSpl.c (LSpl.c (LSpl.c LSpl.z))))) (LSet.s (LSet.s LSet.z)) ?_)
   refine ⟨⟨(Le.trans (Le.trans (Le.trans (Le.trans (Le.trans (Le.refl _) hle116) hle121) hle151) hle175) hle187), (HSub.c 1 rfl HSub.n), CSub.n⟩, ?_⟩
   refine q8 ?_
   refine Ej.seq (Cj.rs (Ej.retCellK (Keeps.k (Keeps.d (Keeps.d Keeps.n))) rfl rfl rfl (Blk.at 2 rfl) tA32 tS32 rfl ?_))
   rw [hmd]
   exact ⟨⟨_, rfl, none, 0, rfl, .inl rfl⟩, rfl⟩
  ·refine ⟨_, rfl, rfl, ?_⟩
   refine op_yld (yl_load rfl rfl tA9 (Blk.imm hbr) (at_getD (by exact hx3))) rfl rfl ?_
   refine ⟨⟨(Le.trans (Le.trans (Le.trans (Le.trans (Le.refl _) hle116) hle121) hle151) hle175), (HSub.c 1 rfl HSub.n), CSub.n⟩, ?_⟩
   refine JA.all [4, 12] (by kernel_rfl) (by simp) ?_
   intro i hi
   simp only [List.mem_cons, List.not_mem_nil, or_false] at hi
   rcases hi with rfl | rfl
   ·refine ⟨_, rfl, rfl, ?_⟩
    refine op_yld (yl_load rfl rfl tA9 (Blk.imm hbi) (at_getD (by exact hx2))) rfl rfl ?_
    refine ⟨⟨(Le.trans (Le.trans (Le.trans (Le.trans (Le.refl _) hle116) hle121) hle151) hle175), (HSub.c 1 rfl HSub.n), CSub.n⟩, ?_⟩
    refine JA.pull Pull.z ?_
    refine q4 12 rfl (op_call (H1 := [_]) rfl rfl rfl rfl rfl (next_ok m (Cq.next l (Cq.next l (Cq.next l k 5).2 6).2 6).2 9 v l _ hl hll hk3 (by omega) (by omega)) ?_ (fun _ _ _ _ h => by cases h.1) (fun _ _ h => by cases h.1))
    intro v191 I192 H193 hle194 hp195
    obtain ⟨hv191, rfl⟩ := hp195; cases hv191
    refine ⟨⟨(Le.trans (Le.trans (Le.trans (Le.trans (Le.trans (Le.refl _) hle116) hle121) hle151) hle175) hle194), (HSub.c 1 rfl HSub.n), CSub.n⟩, ?_⟩
    refine JA.fix ⟨(HSub.c 1 rfl HSub.n), CSub.n, (Le.trans (Le.trans (Le.trans (Le.trans (Le.trans (Le.refl _) hle116) hle121) hle151) hle175) hle194)⟩ (fun fx196 => ?_)
    refine JA.tk 13 rfl fx196 (q16 (off' := (Cq.next l (Cq.next l (Cq.next l (Cq.next l k 5).2 6).2 6).2 9).1) tU69 tS9) ?_
    refine JA.tk 14 rfl fx196 (yl_load rfl rfl tA9 (Blk.atC 0 rfl) (at_getD (l := Cq.texts) (sp := []) (by exact hx4))) ?_
    refine JA.tk 15 rfl fx196 (yl_buildS (pl := #[(0, 1), (1, 1), (2, 1), (3, 1), (4, 1)]) rfl rfl tZ32 rfl tU32 (fun w => by simp []) (LBld.part rfl rfl rfl (LSpl.c LSpl.z) (LBld.part rfl rfl rfl (LSpl.s (LSpl.c LSpl.z)) (LBld.part rfl rfl rfl (LSpl.s (LSpl.s (LSpl.c LSpl.z))) (LBld.part rfl rfl rfl (LSpl.s (LSpl.s (LSpl.s (LSpl.c LSpl.z)))) LBld.none))))) ?_
    refine q4 16 rfl (q9 2 tS32 (LSpl.c (LSpl.c (LSpl.c (LSpl.c (LSpl.c LSpl.z))))) (LSet.s (LSet.s LSet.z)) ?_)
    refine ⟨⟨(Le.trans (Le.trans (Le.trans (Le.trans (Le.trans (Le.refl _) hle116) hle121) hle151) hle175) hle194), (HSub.c 1 rfl HSub.n), CSub.n⟩, ?_⟩
    refine q8 ?_
    refine Ej.seq (Cj.rs (Ej.retCellK (Keeps.k (Keeps.d (Keeps.d Keeps.n))) rfl rfl rfl (Blk.at 2 rfl) tA32 tS32 rfl ?_))
    rw [hmd]
    exact ⟨⟨_, rfl, none, 0, rfl, .inl rfl⟩, rfl⟩
   refine ⟨_, rfl, rfl, ?_⟩
   refine OpJ.pull Pull.z ?_
   refine op_call (H1 := [_]) rfl rfl rfl rfl rfl (next_ok m (Cq.next l (Cq.next l (Cq.next l k 5).2 6).2 6).2 9 v l _ hl hll hk3 (by omega) (by omega)) ?_ (fun _ _ _ _ h => by cases h.1) (fun _ _ h => by cases h.1)
   intro v197 I198 H199 hle200 hp201
   have hbi := hle200 _ _ hbi
   obtain ⟨hv197, rfl⟩ := hp201; cases hv197
   refine ⟨⟨(Le.trans (Le.trans (Le.trans (Le.trans (Le.trans (Le.refl _) hle116) hle121) hle151) hle175) hle200), (HSub.c 1 rfl HSub.n), CSub.n⟩, ?_⟩
   refine JA.fix ⟨(HSub.c 1 rfl HSub.n), CSub.n, (Le.trans (Le.trans (Le.trans (Le.trans (Le.trans (Le.refl _) hle116) hle121) hle151) hle175) hle200)⟩ (fun fx202 => ?_)
   refine JA.tk 13 rfl fx202 (q16 (off' := (Cq.next l (Cq.next l (Cq.next l (Cq.next l k 5).2 6).2 6).2 9).1) tU69 tS9) ?_
   refine JA.tk 14 rfl fx202 (yl_load rfl rfl tA9 (Blk.atC 0 rfl) (at_getD (l := Cq.texts) (sp := []) (by exact hx4))) ?_
   refine q4 4 rfl (op_yld (yl_load rfl rfl tA9 (Blk.imm hbi) (at_getD (by exact hx2))) rfl rfl ?_)
   refine ⟨⟨(Le.trans (Le.trans (Le.trans (Le.trans (Le.trans (Le.refl _) hle116) hle121) hle151) hle175) hle200), (HSub.c 1 rfl HSub.n), CSub.n⟩, ?_⟩
   refine JA.fix ⟨(HSub.c 1 rfl HSub.n), CSub.n, (Le.trans (Le.trans (Le.trans (Le.trans (Le.trans (Le.refl _) hle116) hle121) hle151) hle175) hle200)⟩ (fun fx203 => ?_)
   refine JA.tk 15 rfl fx203 (yl_buildS (pl := #[(0, 1), (1, 1), (2, 1), (3, 1), (4, 1)]) rfl rfl tZ32 rfl tU32 (fun w => by simp []) (LBld.part rfl rfl rfl (LSpl.c LSpl.z) (LBld.part rfl rfl rfl (LSpl.s (LSpl.c LSpl.z)) (LBld.part rfl rfl rfl (LSpl.s (LSpl.s (LSpl.c LSpl.z))) (LBld.part rfl rfl rfl (LSpl.s (LSpl.s (LSpl.s (LSpl.c LSpl.z)))) LBld.none))))) ?_
   refine q4 16 rfl (q9 2 tS32 (LSpl.c (LSpl.c (LSpl.c (LSpl.c (LSpl.c LSpl.z))))) (LSet.s (LSet.s LSet.z)) ?_)
   refine ⟨⟨(Le.trans (Le.trans (Le.trans (Le.trans (Le.trans (Le.refl _) hle116) hle121) hle151) hle175) hle200), (HSub.c 1 rfl HSub.n), CSub.n⟩, ?_⟩
   refine q8 ?_
   refine Ej.seq (Cj.rs (Ej.retCellK (Keeps.k (Keeps.d (Keeps.d Keeps.n))) rfl rfl rfl (Blk.at 2 rfl) tA32 tS32 rfl ?_))
   rw [hmd]
   exact ⟨⟨_, rfl, none, 0, rfl, .inl rfl⟩, rfl⟩
  refine ⟨_, rfl, rfl, ?_⟩
  refine OpJ.pull Pull.z ?_
  refine op_call (H1 := [_]) rfl rfl rfl rfl rfl (next_ok m (Cq.next l (Cq.next l (Cq.next l k 5).2 6).2 6).2 9 v l _ hl hll hk3 (by omega) (by omega)) ?_ (fun _ _ _ _ h => by cases h.1) (fun _ _ h => by cases h.1)
  intro v204 I205 H206 hle207 hp208
  have hbi := hle207 _ _ hbi
  have hbr := hle207 _ _ hbr
  obtain ⟨hv204, rfl⟩ := hp208; cases hv204
  refine ⟨⟨(Le.trans (Le.trans (Le.trans (Le.trans (Le.trans (Le.refl _) hle116) hle121) hle151) hle175) hle207), (HSub.c 1 rfl HSub.n), CSub.n⟩, ?_⟩
  refine JA.fix ⟨(HSub.c 1 rfl HSub.n), CSub.n, (Le.trans (Le.trans (Le.trans (Le.trans (Le.trans (Le.refl _) hle116) hle121) hle151) hle175) hle207)⟩ (fun fx209 => ?_)
  refine JA.tk 13 rfl fx209 (q16 (off' := (Cq.next l (Cq.next l (Cq.next l (Cq.next l k 5).2 6).2 6).2 9).1) tU69 tS9) ?_
  refine JA.tk 14 rfl fx209 (yl_load rfl rfl tA9 (Blk.atC 0 rfl) (at_getD (l := Cq.texts) (sp := []) (by exact hx4))) ?_
  refine JA.all [4, 9] (by kernel_rfl) (by simp) ?_
  intro i hi
  simp only [List.mem_cons, List.not_mem_nil, or_false] at hi
  rcases hi with rfl | rfl
  ·refine ⟨_, rfl, rfl, ?_⟩
   refine op_yld (yl_load rfl rfl tA9 (Blk.imm hbi) (at_getD (by exact hx2))) rfl rfl ?_
   refine ⟨⟨(Le.trans (Le.trans (Le.trans (Le.trans (Le.trans (Le.refl _) hle116) hle121) hle151) hle175) hle207), (HSub.c 1 rfl HSub.n), CSub.n⟩, ?_⟩
   refine q4 9 rfl (op_yld (yl_load rfl rfl tA9 (Blk.imm hbr) (at_getD (by exact hx3))) rfl rfl ?_)
   refine ⟨⟨(Le.trans (Le.trans (Le.trans (Le.trans (Le.trans (Le.refl _) hle116) hle121) hle151) hle175) hle207), (HSub.c 1 rfl HSub.n), CSub.n⟩, ?_⟩
   refine JA.fix ⟨(HSub.c 1 rfl HSub.n), CSub.n, (Le.trans (Le.trans (Le.trans (Le.trans (Le.trans (Le.refl _) hle116) hle121) hle151) hle175) hle207)⟩ (fun fx210 => ?_)
   refine JA.tk 15 rfl fx210 (yl_buildS (pl := #[(0, 1), (1, 1), (2, 1), (3, 1), (4, 1)]) rfl rfl tZ32 rfl tU32 (fun w => by simp []) (LBld.part rfl rfl rfl (LSpl.c LSpl.z) (LBld.part rfl rfl rfl (LSpl.s (LSpl.c LSpl.z)) (LBld.part rfl rfl rfl (LSpl.s (LSpl.s (LSpl.c LSpl.z))) (LBld.part rfl rfl rfl (LSpl.s (LSpl.s (LSpl.s (LSpl.c LSpl.z)))) LBld.none))))) ?_
   refine q4 16 rfl (q9 2 tS32 (LSpl.c (LSpl.c (LSpl.c (LSpl.c (LSpl.c LSpl.z))))) (LSet.s (LSet.s LSet.z)) ?_)
   refine ⟨⟨(Le.trans (Le.trans (Le.trans (Le.trans (Le.trans (Le.refl _) hle116) hle121) hle151) hle175) hle207), (HSub.c 1 rfl HSub.n), CSub.n⟩, ?_⟩
   refine q8 ?_
   refine Ej.seq (Cj.rs (Ej.retCellK (Keeps.k (Keeps.d (Keeps.d Keeps.n))) rfl rfl rfl (Blk.at 2 rfl) tA32 tS32 rfl ?_))
   rw [hmd]
   exact ⟨⟨_, rfl, none, 0, rfl, .inl rfl⟩, rfl⟩
  refine ⟨_, rfl, rfl, ?_⟩
  refine op_yld (yl_load rfl rfl tA9 (Blk.imm hbr) (at_getD (by exact hx3))) rfl rfl ?_
  refine ⟨⟨(Le.trans (Le.trans (Le.trans (Le.trans (Le.trans (Le.refl _) hle116) hle121) hle151) hle175) hle207), (HSub.c 1 rfl HSub.n), CSub.n⟩, ?_⟩
  refine q4 4 rfl (op_yld (yl_load rfl rfl tA9 (Blk.imm hbi) (at_getD (by exact hx2))) rfl rfl ?_)
  refine ⟨⟨(Le.trans (Le.trans (Le.trans (Le.trans (Le.trans (Le.refl _) hle116) hle121) hle151) hle175) hle207), (HSub.c 1 rfl HSub.n), CSub.n⟩, ?_⟩
  refine JA.fix ⟨(HSub.c 1 rfl HSub.n), CSub.n, (Le.trans (Le.trans (Le.trans (Le.trans (Le.trans (Le.refl _) hle116) hle121) hle151) hle175) hle207)⟩ (fun fx211 => ?_)
  refine JA.tk 15 rfl fx211 (yl_buildS (pl := #[(0, 1), (1, 1), (2, 1), (3, 1), (4, 1)]) rfl rfl tZ32 rfl tU32 (fun w => by simp []) (LBld.part rfl rfl rfl (LSpl.c LSpl.z) (LBld.part rfl rfl rfl (LSpl.s (LSpl.c LSpl.z)) (LBld.part rfl rfl rfl (LSpl.s (LSpl.s (LSpl.c LSpl.z))) (LBld.part rfl rfl rfl (LSpl.s (LSpl.s (LSpl.s (LSpl.c LSpl.z)))) LBld.none))))) ?_
  refine q4 16 rfl (q9 2 tS32 (LSpl.c (LSpl.c (LSpl.c (LSpl.c (LSpl.c LSpl.z))))) (LSet.s (LSet.s LSet.z)) ?_)
  refine ⟨⟨(Le.trans (Le.trans (Le.trans (Le.trans (Le.trans (Le.refl _) hle116) hle121) hle151) hle175) hle207), (HSub.c 1 rfl HSub.n), CSub.n⟩, ?_⟩
  refine q8 ?_
  refine Ej.seq (Cj.rs (Ej.retCellK (Keeps.k (Keeps.d (Keeps.d Keeps.n))) rfl rfl rfl (Blk.at 2 rfl) tA32 tS32 rfl ?_))
  rw [hmd]
  exact ⟨⟨_, rfl, none, 0, rfl, .inl rfl⟩, rfl⟩
 have hc110p := odf hc110
 have hmd : Cq.made (d + 1) l k = (Cq.two (Cq.next l k 5).1 (Cq.made d l (Cq.next l k 5).2).1 (Cq.made d l (Cq.made d l (Cq.next l k 5).2).2).1, (Cq.made d l (Cq.made d l (Cq.next l k 5).2).2).2) := by have h := odf hc110; simp only [Cq.made]; rw [if_neg (by omega)]
 refine Cj.ks (Cj.sr (J.z q0 ?_))
 refine J.z q0 ?_
 refine J.z (yl_sub rfl rfl rfl (w64 (by omega))) ?_
 refine J.eqv 35 rfl (show _ = i64 (d : Nat) from (by simp)) ?_
 refine J.pull Pull.z ?_
 refine J.op rfl (op_call (H1 := [_]) rfl rfl rfl rfl rfl (ih d rfl m (Cq.next l k 5).2 v l _ hl hll hk1 (by omega)) ?_ (fun _ _ _ _ h => by obtain ⟨⟨_, h, _⟩, _⟩ := h; cases h) (fun _ _ h => by obtain ⟨⟨_, h, _⟩, _⟩ := h; cases h))
 intro v212 I213 H214 hle215 hp216
 have hl := hl.mono hle215
 obtain ⟨⟨v212x, hv212, pa, ca, rfl, hpa⟩, rfl⟩ := hp216; cases hv212
 refine J.op rfl (q21 tZ32 ?_)
 intro b217 hb217
 refine J.op rfl (q9 0 tS32 (LSpl.c (LSpl.c (LSpl.c (LSpl.c (LSpl.c LSpl.z))))) LSet.z ?_)
 refine J.nss (Cj.drawSel [0] [] 9 (by kernel_rfl) ?_)
 refine JA.fix ⟨(HSub.c 0 rfl HSub.n), CSub.n, (Le.refl _)⟩ (fun fx218 => ?_)
 refine JA.tk 0 rfl fx218 q0 ?_
 refine JA.tk 1 rfl fx218 (q10 tA32 tS32 (Blk.atC 0 rfl)) ?_
 refine JA.tk 2 rfl fx218 q0 ?_
 refine JA.tk 3 rfl fx218 q0 ?_
 refine JA.tk 4 rfl fx218 (yl_sub rfl rfl rfl (w64 (by omega))) ?_
 refine JA.eqv 41 rfl (show _ = i64 (d : Nat) from (by simp)) ?_
 refine JA.pull (Pull.s Pull.z) ?_
 refine q4 5 rfl (op_call (H1 := [_]) rfl rfl rfl rfl rfl (ih d rfl m (Cq.made d l (Cq.next l k 5).2).2 v l _ hl hll (made_le l d _ hk1) (by omega)) ?_ (fun _ _ _ _ h => by obtain ⟨⟨_, h, _⟩, _⟩ := h; cases h) (fun _ _ h => by obtain ⟨⟨_, h, _⟩, _⟩ := h; cases h))
 intro v219 I220 H221 hle222 hp223
 have hpa := hpa.mono hle222
 obtain ⟨⟨v219x, hv219, pb, cb, rfl, hpb⟩, rfl⟩ := hp223; cases hv219
 refine ⟨⟨(Le.trans (Le.refl _) hle222), (HSub.c 1 rfl HSub.n), CSub.n⟩, ?_⟩
 refine q4 6 rfl (q17 tU30 tS32 tZ32 (LCat.agg rfl (LCat.agg rfl LCat.none)) ?_)
 intro b224 hb224
 refine ⟨⟨(Le.trans (Le.refl _) hle222), (HSub.c 2 rfl HSub.n), CSub.n⟩, ?_⟩
 refine JA.persist hb224 (fun I226 hle225 hb224i => ?_)
 have hpa := hpa.mono hle225
 have hpb := hpb.mono hle225
 refine JA.fix ⟨(HSub.c 1 rfl HSub.n), CSub.n, (Le.trans (Le.trans (Le.refl _) hle222) hle225)⟩ (fun fx227 => ?_)
 refine JA.tk 7 rfl fx227 (yl_buildS (pl := #[(0, 1), (1, 1), (2, 1), (3, 1), (4, 1)]) rfl rfl tZ32 rfl tU32 (fun w => by simp []) (LBld.part rfl rfl rfl (LSpl.c LSpl.z) (LBld.part rfl rfl rfl (LSpl.s (LSpl.s (LSpl.s (LSpl.s (LSpl.c LSpl.z))))) LBld.none))) ?_
 refine q4 8 rfl (q9 2 tS32 (LSpl.c (LSpl.c (LSpl.c (LSpl.c (LSpl.c LSpl.z))))) (LSet.s (LSet.s LSet.z)) ?_)
 refine ⟨⟨(Le.trans (Le.trans (Le.refl _) hle222) hle225), (HSub.c 1 rfl HSub.n), CSub.n⟩, ?_⟩
 refine q8 ?_
 refine Ej.seq (Cj.ret (Ej.retCellK (Keeps.k (Keeps.d (Keeps.d Keeps.n))) rfl rfl rfl (Blk.at 2 rfl) tA32 tS32 rfl ?_))
 rw [hmd]
 exact ⟨⟨_, rfl, some ⟨b224, 0, none⟩, 2, rfl, PS.two hpa hpb hb224i⟩, rfl⟩
theorem mquery_ok : ∀ deep, MSpec deep
  | 0 => mquery_step 0 fun d h => by omega
  | deep + 1 => mquery_step (deep + 1) fun d h => by have : d = deep := by omega
                                                     subst this; exact mquery_ok d
theorem Made11_ok (v : Value) (l : List Int) (hll : l.length ≤ 1000000000000) (I : Heap) (hl : IntP' I l v) : Ctr Tryz.prog 53 [v] I [] (fun e I' H' => (∃ u, e = .returned u ∧ QV I' (Cq.madeQ l) u) ∧ H' = []) := by
 have hx1 := Cq.next_lt l 0 (n := 7) (by omega)
 obtain ⟨pl, cl, hve⟩ := rowS_len hl
 subst hve
 refine Ctr.ob func53 ?_
 intro w0 hw0
 refine Cj.sr (J.op rfl (q21 tZ32 ?_))
 intro b1 hb1
 refine J.nssr (J.z q0 ?_)
 refine J.z (yl_buildS (pl := #[(0, 1), (1, 1)]) rfl rfl zeroValue180 rfl tU180 (fun w => by simp [sizeOf23]) (LBld.part rfl rfl rfl (LSpl.c LSpl.z) LBld.none)) ?_
 refine J.op rfl (q15 ?_)
 intro b2 hb2
 refine J.z q1 ?_
 refine J.nssr (J.z q0 ?_)
 refine J.z q0 ?_
 refine J.pull Pull.z ?_
 refine J.op rfl (op_call (H1 := [_]) rfl rfl rfl rfl rfl (next_ok b2 0 7 _ l _ hl hll (Nat.zero_le _) (by omega) (by omega)) ?_ (fun _ _ _ _ h => by cases h.1) (fun _ _ h => by cases h.1))
 intro v3 I4 H5 hle6 hp7
 have hl := hl.mono hle6
 obtain ⟨hv3, rfl⟩ := hp7; cases hv3
 refine J.pull Pull.z ?_
 refine J.op rfl (op_call (H1 := [_]) rfl rfl rfl rfl rfl (mquery_ok (Cq.next l 0 7).1 b2 (Cq.next l 0 7).2 _ l _ hl hll (Cq.next_le l 7 (Nat.zero_le _)) (by omega)) ?_ (fun _ _ _ _ h => by obtain ⟨⟨_, h, _⟩, _⟩ := h; cases h) (fun _ _ h => by obtain ⟨⟨_, h, _⟩, _⟩ := h; cases h))
 intro v8 I9 H10 hle11 hp12
 obtain ⟨⟨v8x, hv8, pq, cq, rfl, hpq⟩, rfl⟩ := hp12; cases hv8
 refine J.op rfl (q9 1 tS32 (LSpl.c (LSpl.c (LSpl.c (LSpl.c (LSpl.c LSpl.z))))) (LSet.s LSet.z) ?_)
 refine J.ns (Cj.ret (Ej.retCellK (Keeps.d (Keeps.d Keeps.n)) rfl rfl rfl (Blk.at 1 rfl) tA32 tS32 rfl ?_))
 exact ⟨⟨_, rfl, pq, cq, rfl, hpq⟩, rfl⟩
def srW : List (List UInt8) := [[115, 101, 97], [69, 109, 109, 97], [116, 104, 101, 32, 115, 101, 97], [49, 57, 56, 52], [119, 97, 114, 32, 112, 101, 97, 99, 101], [49, 57, 57, 57], [65, 117, 115, 116, 101, 110], [97], [104, 105, 115, 116, 111, 114, 121], [122, 122]]
theorem srW_len (n : Nat) : (srW.getD (n % 10) []).length ≤ 9 := by
  have h : n % 10 < srW.length := Nat.mod_lt _ (by decide)
  rw [List.getD_eq_getElem?_getD, lgg h]
  exact (by decide : ∀ w ∈ srW, w.length ≤ 9) _ (List.getElem_mem h)
theorem srW_at (n : Nat) : (srW.map str)[n % 10]? = some (str (srW.getD (n % 10) [])) := by
  have h := at_getD (l := srW) (sp := []) (a := n % 10) (Nat.mod_lt _ (by decide))
  rwa [List.append_nil] at h
structure Tx (q q' : Cq.Qn) : Prop where
  form : Cq.form q' = true
  depth : Cq.depth q' = Cq.depth q
  k : q'.k = q.k
  size : q'.size = q.size
  wide : q'.wide ≤ q.wide + 9 * (q.size + 1)
theorem Tx.leaf {q : Cq.Qn} (hk : q.k = 1) (hf : Cq.form q = true) (w : List UInt8) (hw : w.length ≤ 9) : Tx q ⟨q.k, q.i, q.r, w, q.ps⟩ :=
  ⟨by rw [Cq.form_term hk] at hf; rw [Cq.form_term (by exact hk)]; exact hf, by rw [Cq.depth_term hk, Cq.depth_term (by exact hk)], rfl, rfl, by simp only [Cq.Qn.wide, Cq.Qn.size]; omega⟩
theorem Tx.same {q : Cq.Qn} (hf : Cq.form q = true) : Tx q q := ⟨hf, rfl, rfl, rfl, by omega⟩
theorem Tx.two {q a b a' b' : Cq.Qn} (hk : q.k ≠ 1) (h2 : 2 ≤ q.k) (h4 : q.k ≤ 4) (ht : q.Two a b) (ha : Tx a a') (hb : Tx b b') : Tx q (Ix.bothQ q.k a' b') := by
  have hs := ht.sizes
  refine ⟨Ix.bothQ_form h2 h4 ha.form hb.form, ?_, rfl, by rw [Ix.bothQ_size, ha.size, hb.size, hs.1], ?_⟩
  · rw [Cq.depth_two hk ht, Cq.depth_two (q := Ix.bothQ q.k a' b') (a := a') (b := b') hk rfl, ha.depth, hb.depth, hb.k]
  have h1 := ha.wide
  have h3 := hb.wide
  rw [Ix.bothQ_wide]
  have h5 : q.wide = q.i.length + q.r.length + q.t.length + q.ps.wide := rfl
  omega
def TSpec (q : Cq.Qn) : Prop := ∀ (p : Option Addr) (c n : Nat) (I : Heap), PS I q.ps p → Cq.form q = true → q.wide ≤ 1000000000 → n + q.size ≤ 2000000000000 →
  Ctr Tryz.prog 52 [.agg (qCells q p c).toArray, i64 (n : Int)] I [] (fun e I' H' => (∃ q' u, e = .returned u ∧ QV I' q' u ∧ Tx q q') ∧ H' = [])
theorem texts_step (q : Cq.Qn) (ih : ∀ q', Cq.Qn.size q' < q.size → TSpec q') : TSpec q := by
 intro p c n I hps hform hwd hn
 have hwi : q.i.length + q.r.length + q.t.length ≤ 1000000000 := by unfold Cq.Qn.wide at hwd; omega
 refine Ctr.ob func52 ?_
 intro w0 hw0
 refine Cj.sr (J.op rfl (q15 ?_))
 intro b1 hb1
 refine J.op rfl (q21 tZ32 ?_)
 intro b2 hb2
 refine J.nsss (Cj.region (J.z (q2 (off' := 0) tU32 tS3) ?_))
 refine J.z (q3 tA3 (Blk.at 1 rfl)) ?_
 refine J.z (yl_neq rfl rfl rfl) ?_
 refine J.cd (fun hc3 => ?_) (fun hc3 => ?_)
 ·have hc3p := bne_iff_ne.1 hc3
  have hk : q.k ≠ 1 := bne_iff_ne.1 hc3
  obtain ⟨_, hk2, hk4, qa, qb, htw, hfa, hfb⟩ := (Cq.form_tree hform).resolve_left hk
  have hln := htw.len
  have hsz2 := htw.sizes
  have hwd2 := htw.wide
  obtain ⟨bl, off, cs', T, fr, pa, ca, pb, cb, rfl, hbl, hca, hcb, hkb, hpa, hpb⟩ := hps.two_at htw
  refine Cj.seq (Cj.drawSel [1] [] 18 (by kernel_rfl) ?_)
  have hbl_2 := hbl
  refine JA.fix ⟨(HSub.c 1 rfl HSub.n), CSub.n, (Le.refl _)⟩ (fun fx4 => ?_)
  refine JA.tk 0 rfl fx4 (q2 (off' := 0) tU32 tS3) ?_
  refine JA.tk 1 rfl fx4 (q3 tA3 (Blk.atC 0 rfl)) ?_
  refine JA.tk 2 rfl fx4 (q2 (off' := 4) tU32 tS30) ?_
  refine JA.tk 3 rfl fx4 (q3 tA30 (Blk.atC 0 rfl)) ?_
  refine JA.tk 4 rfl fx4 (q16 (off' := off) tU30 tS32) ?_
  refine JA.tk 5 rfl fx4 (yl_loadAgg rfl rfl tA32 tS32 (Blk.immC hbl_2) hca rfl) ?_
  refine JA.tk 6 rfl fx4 q0 ?_
  refine JA.tk 8 rfl fx4 (q2 (off' := 4) tU32 tS30) ?_
  refine JA.tk 9 rfl fx4 (q3 tA30 (Blk.atC 0 rfl)) ?_
  refine JA.tk 10 rfl fx4 (q16 (off' := off + 5) tU30 tS32) ?_
  refine JA.tk 11 rfl fx4 (yl_loadAgg rfl rfl tA32 tS32 (Blk.immC hbl_2) hcb rfl) ?_
  refine JA.tk 12 rfl fx4 q0 ?_
  refine JA.tk 13 rfl fx4 (yl_add rfl rfl rfl (w64 (by omega))) ?_
  refine JA.eqv 22 rfl (show _ = i64 ((n + 1 : Nat) : Int) from (congrArg i64 (by omega))) ?_
  refine q4 7 rfl (op_call (H1 := []) rfl rfl rfl rfl rfl (ih qa (by omega) pa ca n _ hpa hfa (by omega) (by omega)) ?_ (fun _ _ _ _ h => by obtain ⟨⟨_, _, h, _⟩, _⟩ := h; cases h) (fun _ _ h => by obtain ⟨⟨_, _, h, _⟩, _⟩ := h; cases h))
  intro v5 I6 H7 hle8 hp9
  have hpb := hpb.mono hle8
  obtain ⟨⟨q1, v5x, hv5, ⟨p1, c1, rfl, hp1⟩, ht1⟩, rfl⟩ := hp9; cases hv5
  refine ⟨⟨(Le.trans (Le.refl _) hle8), (HSub.c 1 rfl HSub.n), CSub.n⟩, ?_⟩
  refine q4 14 rfl (op_call (H1 := []) rfl rfl rfl rfl rfl (ih qb (by omega) pb cb (n + 1) _ hpb hfb (by omega) (by omega)) ?_ (fun _ _ _ _ h => by obtain ⟨⟨_, _, h, _⟩, _⟩ := h; cases h) (fun _ _ h => by obtain ⟨⟨_, _, h, _⟩, _⟩ := h; cases h))
  intro v10 I11 H12 hle13 hp14
  have hp1 := hp1.mono hle13
  obtain ⟨⟨q2, v10x, hv10, ⟨p2, c2, rfl, hp2⟩, ht2⟩, rfl⟩ := hp14; cases hv10
  refine ⟨⟨(Le.trans (Le.trans (Le.refl _) hle8) hle13), (HSub.c 1 rfl HSub.n), CSub.n⟩, ?_⟩
  refine q4 15 rfl (q17 tU30 tS32 tZ32 (LCat.agg rfl (LCat.agg rfl LCat.none)) ?_)
  intro b15 hb15
  refine ⟨⟨(Le.trans (Le.trans (Le.refl _) hle8) hle13), (HSub.c 2 rfl HSub.n), CSub.n⟩, ?_⟩
  refine JA.persist hb15 (fun I17 hle16 hb15i => ?_)
  have hp1 := hp1.mono hle16
  have hp2 := hp2.mono hle16
  refine JA.fix ⟨(HSub.c 1 rfl HSub.n), CSub.n, (Le.trans (Le.trans (Le.trans (Le.refl _) hle8) hle13) hle16)⟩ (fun fx18 => ?_)
  refine JA.tk 16 rfl fx18 (yl_buildS (pl := #[(0, 1), (1, 1), (2, 1), (3, 1), (4, 1)]) rfl rfl tZ32 rfl tU32 (fun w => by simp []) (LBld.part rfl rfl rfl (LSpl.c LSpl.z) (LBld.part rfl rfl rfl (LSpl.s (LSpl.s (LSpl.s (LSpl.s (LSpl.c LSpl.z))))) LBld.none))) ?_
  refine q4 17 rfl (q9 0 tS32 (LSpl.c (LSpl.c (LSpl.c (LSpl.c (LSpl.c LSpl.z))))) LSet.z ?_)
  refine ⟨⟨(Le.trans (Le.trans (Le.trans (Le.refl _) hle8) hle13) hle16), (HSub.c 1 rfl HSub.n), CSub.n⟩, ?_⟩
  refine q8 ?_
  refine Ej.seq (Cj.rs (Ej.retCellK (Keeps.d (Keeps.d Keeps.n)) rfl rfl rfl (Blk.at 0 rfl) tA32 tS32 rfl ?_))
  exact ⟨⟨Ix.bothQ q.k q1 q2, _, rfl, ⟨some ⟨b15, 0, none⟩, 2, rfl, PS.two hp1 hp2 hb15i⟩, Tx.two hk hk2 hk4 htw ht1 ht2⟩, rfl⟩
 have hc3p := bne_f hc3
 have hk : q.k = 1 := bne_f hc3
 refine Cj.ks (Cj.sr (J.op rfl (q17 tU69 tS9 tZ9 (LCat.one rfl (LCat.one rfl (LCat.one rfl (LCat.one rfl (LCat.one rfl (LCat.one rfl (LCat.one rfl (LCat.one rfl (LCat.one rfl (LCat.one rfl LCat.none)))))))))) ?_)))
 intro b19 hb19
 refine J.z q1 ?_
 refine J.nsss (Cj.region (J.z (q2 (off' := 3) tU32 tS9) ?_))
 refine J.z (q3 tA9 (Blk.at 2 rfl)) ?_
 refine J.z (yl_lenStr rfl rfl tU9) ?_
 refine J.z (yl_rem rfl rfl rfl (by decide)) ?_
 refine J.z q19 ?_
 refine J.cd (fun hc20 => ?_) (fun hc20 => ?_)
 ·have hc20p := ebq hc20
  refine Cj.region (J.z q0 ?_)
  refine J.z (q2 (off' := 3) tU32 tS9) ?_
  refine J.z (q3 tA9 (Blk.at 2 rfl)) ?_
  refine J.z (yl_lenStr rfl rfl tU9) ?_
  refine J.z q0 ?_
  refine J.z (yl_add rfl rfl rfl (w64 (by omega))) ?_
  refine J.z (q2 (off' := 2) tU32 tS9) ?_
  refine J.z (q3 tA9 (Blk.at 2 rfl)) ?_
  refine J.z (yl_lenStr rfl rfl tU9) ?_
  refine J.z (yl_add rfl rfl rfl (w64 (by omega))) ?_
  refine J.z (q2 (off' := 1) tU32 tS9) ?_
  refine J.z (q3 tA9 (Blk.at 2 rfl)) ?_
  refine J.z (yl_lenStr rfl rfl tU9) ?_
  refine J.z (yl_add rfl rfl rfl (w64 (by omega))) ?_
  refine J.z (yl_rem rfl rfl rfl (by decide)) ?_
  refine J.eqv 46 rfl (show _ = i64 (((q.t.length + n + q.r.length + q.i.length) % 10 : Nat) : Int) from (congrArg i64 (by rw [Int.tmod_eq_emod_of_nonneg (by omega)]; omega))) ?_
  refine J.z (yl_indexAddr (off' := ((q.t.length + n + q.r.length + q.i.length) % 10)) rfl rfl rfl tU69 tS9 (by omega) (by omega) (by omega)) ?_
  refine J.z (yl_load rfl rfl tA9 (Blk.at 0 rfl) (srW_at (q.t.length + n + q.r.length + q.i.length))) ?_
  refine J.z (q2 (off' := 3) tU32 tS9) ?_
  refine J.op rfl (q9 2 tS9 (LSpl.s (LSpl.s (LSpl.s (LSpl.c LSpl.z)))) (LSet.s (LSet.s LSet.z)) ?_)
  refine J.nssr (J.z (q10 tA32 tS32 (Blk.at 2 rfl)) ?_)
  refine J.op rfl (q9 1 tS32 (LSpl.c (LSpl.c (LSpl.c (LSpl.c (LSpl.c LSpl.z))))) (LSet.s LSet.z) ?_)
  refine J.ns (Cj.ret (Ej.retCellK (Keeps.d (Keeps.d (Keeps.d Keeps.n))) rfl rfl rfl (Blk.at 1 rfl) tA32 tS32 rfl ?_))
  exact ⟨⟨⟨q.k, q.i, q.r, srW.getD ((q.t.length + n + q.r.length + q.i.length) % 10) [], q.ps⟩, _, rfl, ⟨p, c, rfl, hps⟩, Tx.leaf hk hform _ (srW_len _)⟩, rfl⟩
 have hc20p := nbf hc20
 refine Cj.ks (Cj.sr (J.z (q10 tA32 tS32 (Blk.at 2 rfl)) ?_))
 refine J.op rfl (q9 1 tS32 (LSpl.c (LSpl.c (LSpl.c (LSpl.c (LSpl.c LSpl.z))))) (LSet.s LSet.z) ?_)
 refine J.ns (Cj.ret (Ej.retCellK (Keeps.d (Keeps.d (Keeps.d Keeps.n))) rfl rfl rfl (Blk.at 1 rfl) tA32 tS32 rfl ?_))
 exact ⟨⟨q, _, rfl, ⟨p, c, rfl, hps⟩, Tx.same hform⟩, rfl⟩
theorem texts_ok (q : Cq.Qn) : TSpec q := by
  suffices ∀ n (q : Cq.Qn), q.size < n → TSpec q from this _ q (Nat.lt_succ_self _)
  intro n
  induction n with
  | zero => intro q h; omega
  | succ n ih => intro q h; exact texts_step q fun q' h' => ih q' (by omega)
structure MadeOk (q : Cq.Qn) : Prop where
  form : Cq.form q = true
  depth : Cq.depth q ≤ 6
  size : q.size ≤ 200
  wide : q.wide ≤ 12000
theorem MadeOk.right {q : Cq.Qn} (h : MadeOk q) : Cq.right q = true := Ix.right_of h.form (by have := h.depth; omega)
theorem Made12_ok (v : Value) (l : List Int) (hll : l.length ≤ 1000000000000) (I : Heap) (hl : IntP' I l v) : Ctr Tryz.prog 16 [v] I [] (fun e I' H' => (∃ q u, e = .returned u ∧ QV I' q u ∧ MadeOk q) ∧ H' = []) := by
 obtain ⟨hf, hd, hw, hz⟩ := Cq.madeQ_form l
 have hwd := Cq.wide_write hf
 obtain ⟨pl, cl, hve⟩ := rowS_len hl
 subst hve
 refine Ctr.ob func16 ?_
 intro w0 hw0
 refine Cj.sr (J.op rfl (q21 tZ32 ?_))
 intro b1 hb1
 refine J.nssr (J.z q0 ?_)
 refine J.op rfl (op_call (H1 := []) rfl rfl rfl rfl rfl (Made11_ok _ l hll _ hl) ?_ (fun _ _ _ _ h => by obtain ⟨⟨_, h, _⟩, _⟩ := h; cases h) (fun _ _ h => by obtain ⟨⟨_, h, _⟩, _⟩ := h; cases h))
 intro v2 I3 H4 hle5 hp6
 obtain ⟨⟨v2x, hv2, pq, cq, rfl, hpq⟩, rfl⟩ := hp6; cases hv2
 refine J.z q0 ?_
 refine J.z (q14 tU23) ?_
 refine J.op rfl (op_call (H1 := []) rfl rfl rfl rfl rfl (texts_ok (Cq.madeQ l) pq cq l.length _ hpq hf (by omega) (by omega)) ?_ (fun _ _ _ _ h => by obtain ⟨⟨_, _, h, _⟩, _⟩ := h; cases h) (fun _ _ h => by obtain ⟨⟨_, _, h, _⟩, _⟩ := h; cases h))
 intro v7 I8 H9 hle10 hp11
 obtain ⟨⟨q2, v7x, hv7, ⟨p2, c2, rfl, hp2⟩, ht2⟩, rfl⟩ := hp11; cases hv7
 refine J.op rfl (q9 0 tS32 (LSpl.c (LSpl.c (LSpl.c (LSpl.c (LSpl.c LSpl.z))))) LSet.z ?_)
 refine J.ns (Cj.ret (Ej.retCellK (Keeps.d Keeps.n) rfl rfl rfl (Blk.at 0 rfl) tA32 tS32 rfl ?_))
 exact ⟨⟨q2, _, rfl, ⟨p2, c2, rfl, hp2⟩, ⟨ht2.form, by rw [ht2.depth]; exact hd, by rw [ht2.size]; exact hz, by have := ht2.wide; omega⟩⟩, rfl⟩
