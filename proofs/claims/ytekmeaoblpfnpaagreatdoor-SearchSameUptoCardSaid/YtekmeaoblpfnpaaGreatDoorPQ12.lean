/-
  Own texts on the laws of the seat, joined: the logic, and contracts of functions. Conditions: none.
-/
import Derived.Test.YtekmeaoblpfnpaaGreatDoorNmQ
import Derived.Test.YtekmeaoblpfnpaaGreatDoorPQ11
set_option linter.all false
set_option maxRecDepth 100000
set_option maxHeartbeats 40000000
section
namespace Go.Proofs.YtekmeaoblpfnpaaGreatDoor
open _root_.Go.Proofs.Tryz
open Go Go.Sx
def MH (m : Nat) (v : Value) (k : Nat) : HL := [(m, zJ 180 [v, i64 k])]
abbrev RQ (I : Heap) (l : List Int) (v : Value) : Prop := zU (fun n : Int => [i64 n]) I l v
def b1v (deep : Nat) : Prop := ∀ (m k : Nat) (v : Value) (l : List Int) (I : Heap), RQ I l v → l.length ≤ 1000000000000 → k ≤ l.length → deep ≤ 100 →
  yZ Tryz.prog 100 [ptr m 0, i64 deep] I (MH m v k) (fun e I' H' => (∃ u, e = .returned u ∧ QV I' (Cq.made deep l k).1 u) ∧ H' = MH m v (Cq.made deep l k).2)
theorem b8U {l : List Int} {cs sp : List Value} {o k x} (h : cs.drop o = l.flatMap (fun n : Int => [i64 n]) ++ sp) (hx : l[k]? = some x) : cs[o + k]? = some (i64 x) := by
  have h9 := TY (f := fun n : Int => [i64 n]) (n := 1) (fun _ => rfl) h hx 0 Nat.zero_lt_one
  rw [Nat.mul_one, Nat.add_zero] at h9
  exact h9
theorem GZ (m k n : Nat) v l I (hl : RQ I l v) (hll : l.length ≤ 1000000000000) (hk : k ≤ l.length) (hn : 0 < n) (hn2 : n ≤ 1000) :
    yZ Tryz.prog 101 [ptr m 0, i64 n] I (MH m v k) (fun e I' H' => e = .returned (i64 (Cq.next l k n).1) ∧ H' = MH m v (Cq.next l k n).2) := by
 obtain ⟨p, c, rfl, hlc, hl2⟩ := hl
 refine zT func101 fun w0 hw0 => ?_
 refine yU 7 ?_
 refine Cj.AL [0] [] 10 (by kernel_rfl) ?_
 refine AP (fun hc2 hc2p => ?_) (fun hc2 hc2p => ?_)
 ·have hnx : Cq.next l k n = (0, k) := by simp [Cq.next, List.getElem?_eq_none (show l.length ≤ k by omega)]
  refine yU 7 ?_
  refine Ej.keep (Keeps.k Keeps.n) ?_
  refine zZ ?_
  rw [hnx]; exact ⟨rfl, rfl⟩
 have hlt : k < l.length := by omega
 obtain ⟨x, hx⟩ : ∃ x, l[k]? = some x := ⟨_, CX hlt⟩
 obtain ⟨bl, off, cs', T, fr, sp, rfl, hbl, hat⟩ := hl2 (BG hlt)
 have hpk := Cq.b0O x hn
 have hnx : Cq.next l k n = (Cq.a2d x n, k + 1) := by simp [Cq.next, hx]
 refine yU 15 ?_
 refine Cj.AL [0] [] 18 (by kernel_rfl) ?_
 refine yU 9 ?_
 refine JA.fix BM (fun fx3 => ?_)
 refine JA.tk 9 rfl fx3 (DF (off' := off + k) rfl rfl rfl b7w IC (by omega) (by omega) (by omega)) ?_
 refine JA.tk 10 rfl fx3 (zN rfl rfl XG (yY.IY hbl) (b8U hat hx)) ?_
 refine JA.tk 11 rfl fx3 BR ?_
 refine JA.tk 12 rfl fx3 (a4p rfl rfl rfl (by omega)) ?_
 refine JA.tk 13 rfl fx3 BR ?_
 refine JA.tk 14 rfl fx3 (NC rfl rfl rfl (ND (by omega))) ?_
 refine JA.tk 15 rfl fx3 BR ?_
 refine JA.tk 16 rfl fx3 (a4p rfl rfl rfl (by omega)) ?_
 refine JA.eqv 38 rfl (show _ = i64 (Cq.a2d x n : Nat) from (by rw [hpk.1])) ?_
 refine yU 4 ?_
 refine Ej.keep (Keeps.k Keeps.n) ?_
 refine zZ ?_
 rw [hnx]; exact ⟨rfl, rfl⟩
theorem CW {l : List (List UInt8)} {sp a} (h : a < l.length) : (l.map str ++ sp)[a]? = some (str (l.getD a [])) :=
  JW (by rw [List.getD_eq_getElem?_getD, CX h]; rfl)
theorem a4F l : ∀ (deep k : Nat), k ≤ l.length → (Cq.made deep l k).2 ≤ l.length
  | 0, k, h => Cq.IV l 9 (Cq.IV l 6 (Cq.IV l 6 (Cq.IV l 5 h)))
  | deep + 1, k, h => by
    simp only [Cq.made]
    split
    · exact Cq.IV l 9 (Cq.IV l 6 (Cq.IV l 6 (Cq.IV l 5 h)))
    exact a4F l deep _ (a4F l deep _ (Cq.IV l 5 h))
theorem a2O deep (ih : ∀ d, deep = d + 1 → b1v d) : b1v deep := by
 intro m k v l I hl hll hk0 hd
 have hx1 := Cq.next_lt l k (n := 5) (by omega)
 have hk1 : (Cq.next l k 5).2 ≤ l.length := Cq.IV l 5 hk0
 have hk2 : (Cq.next l (Cq.next l k 5).2 6).2 ≤ l.length := Cq.IV l 6 hk1
 have hk3 : (Cq.next l (Cq.next l (Cq.next l k 5).2 6).2 6).2 ≤ l.length := Cq.IV l 6 hk2
 have hk4 : (Cq.next l (Cq.next l (Cq.next l (Cq.next l k 5).2 6).2 6).2 9).2 ≤ l.length := Cq.IV l 9 hk3
 refine zT func100 fun w0 hw0 => ?_
 refine Cj.sr (J.op rfl (GV BX ?_))
 intro b1 hb1
 refine J.MX (J.z BR ?_)
 refine J.pull (Pull.s Pull.z) ?_
 refine J.op rfl (zM (H1 := [_]) rfl rfl rfl rfl rfl (GZ m k 5 v l _ hl hll hk0 (by omega) (by omega)) ?_ (fun _ _ _ _ h => by cases h.1) (fun _ _ h => by cases h.1))
 intro v2 I3 H4 hle5 hp6
 have hl := hl.mono hle5
 obtain ⟨hv2, rfl⟩ := hp6; cases hv2
 refine J.z FN ?_
 refine J.nss ?_
 refine Cj.join (ι := Bool × Heap) (fun y => (y.1 = true → Cq.made deep l k = Cq.leaf l (Cq.next l k 5).2) ∧ (y.1 = false → ∃ d, deep = d + 1 ∧ ¬ ((Cq.next l k 5).1 : Int) < 2) ∧ RQ y.2 l v) (fun y => [(0, ptr m 0), (1, i64 (deep : Int)), (4, ptr b1 0), (5, i64 ((Cq.next l k 5).1 : Int)), (15, .bool y.1)]) (fun y => y.2) (fun y => [(m, zJ 180 [v, i64 ((Cq.next l k 5).2 : Int)]), (b1, zJ 32 (AV Cq.zero none 0))]) ?_ (fun hcut => ?_)
 ·rintro ⟨y, J9⟩ ⟨hy, hn, hl⟩
  dsimp only at hy hn hl ⊢
  refine Cj.cond rfl (fun hc7 => ?_) (fun hc7 => ?_)
  rotate_left
  ·obtain ⟨d, rfl, hd2⟩ := hn hc7
   have hmd : Cq.made (d + 1) l k = (Cq.two (Cq.next l k 5).1 (Cq.made d l (Cq.next l k 5).2).1 (Cq.made d l (Cq.made d l (Cq.next l k 5).2).2).1, (Cq.made d l (Cq.made d l (Cq.next l k 5).2).2).2) := by simp only [Cq.made]; rw [if_neg (by omega)]
   refine yU 7 ?_
   refine J.ev 35 (i64 (d : Nat)) rfl (by simp) ?_
   refine J.pull Pull.z ?_
   refine BH (ih d rfl m (Cq.next l k 5).2 v l _ hl hll hk1 (by omega)) ?_
   intro v109 I110 H111 hle112 hp113
   have hl := hl.mono hle112
   obtain ⟨⟨v109x, hv109, pa, ca, rfl, hpa⟩, rfl⟩ := hp113; cases hv109
   refine yU 1 ?_
   intro b114 hb114
   refine yU 4 ?_
   refine Cj.AL [0] [] 9 (by kernel_rfl) ?_
   refine yU 5 ?_
   refine JA.ev 41 (i64 (d : Nat)) rfl (by simp) ?_
   refine JA.pull (Pull.s Pull.z) ?_
   refine BH (ih d rfl m (Cq.made d l (Cq.next l k 5).2).2 v l _ hl hll (a4F l d _ hk1) (by omega)) ?_
   intro v116 I117 H118 hle119 hp120
   have hl := hl.mono hle119
   have hpa := hpa.mono hle119
   obtain ⟨⟨v116x, hv116, pb, cb, rfl, hpb⟩, rfl⟩ := hp120; cases hv116
   refine yU 2 ?_
   intro b121 hb121
   refine yU 1 ?_
   refine JA.persist hb121 (fun I123 hle122 hb121i => ?_)
   have hl := hl.mono hle122
   have hpa := hpa.mono hle122
   have hpb := hpb.mono hle122
   refine JA.fix BM (fun fx124 => ?_)
   refine JA.tk 7 rfl fx124 (zS (pl := #[(0, 1), (1, 1), (2, 1), (3, 1), (4, 1)]) rfl rfl BX rfl tU32 (fun w => by simp [IC, FQ, CG]) (zL.part rfl rfl rfl (yV.c yV.z) (zL.part rfl rfl rfl (yV.s (yV.s (yV.s (yV.s (yV.c yV.z))))) zL.none))) ?_
   refine zO 8 rfl (qq2 2 zK (yV.c (yV.c (yV.c (yV.c (yV.c yV.z))))) (yX.s (yX.s yX.z)) ?_)
   refine ⟨⟨(Le.trans (Le.trans (Le.refl _) hle119) hle122), (HSub.c 1 rfl HSub.n), CSub.n⟩, ?_⟩
   refine EZ ?_
   refine Ej.seq (Cj.ret ?_)
   refine Ej.CP (Keeps.k (Keeps.d (Keeps.d Keeps.n))) rfl rfl rfl (yY.at 2 rfl) AA zK rfl ?_
   rw [hmd]
   exact ⟨⟨_, rfl, some ⟨b121, 0, none⟩, 2, rfl, PS.two hpa hpb hb121i⟩, rfl⟩
  have hmd := (hy hc7)
  have hx2 := Cq.next_lt l (Cq.next l k 5).2 (n := 6) (by omega)
  have hx3 := Cq.next_lt l (Cq.next l (Cq.next l k 5).2 6).2 (n := 6) (by omega)
  have hx4 := Cq.next_lt l (Cq.next l (Cq.next l (Cq.next l k 5).2 6).2 6).2 (n := 9) (by omega)
  refine Cj.sr (J.op rfl (zX rfl rfl rfl ED CG WZ rfl rfl rfl rfl (zQ.one rfl (zQ.one rfl (zQ.one rfl (zQ.one rfl (zQ.one rfl (zQ.one rfl (zQ.one rfl (zQ.one rfl (zQ.one rfl zQ.none))))))))) ?_))
  intro b8 hb8
  refine J.z FN ?_
  refine J.nss ?_
  refine Cj.AL [0] [] 17 (by kernel_rfl) ?_
  refine JA.fix BM (fun fx9 => ?_)
  refine JA.tk 1 rfl fx9 BR ?_
  refine JA.tk 6 rfl fx9 BR ?_
  refine JA.tk 10 rfl fx9 BR ?_
  refine JA.tk 11 rfl fx9 BR ?_
  refine zO 0 rfl (zM (H1 := []) rfl rfl rfl rfl rfl (a9D _) ?_ (fun _ _ _ _ h => by obtain ⟨⟨_, h, _⟩, _⟩ := h; cases h) (fun _ _ h => by obtain ⟨⟨_, h, _⟩, _⟩ := h; cases h))
  intro v10 I11 H12 hle13 hp14
  have hl := hl.mono hle13
  obtain ⟨⟨v10x, hv10, bi, cbi, spbi, rfl, hbi⟩, rfl⟩ := hp14; cases hv10
  refine ⟨⟨(Le.trans (Le.refl _) hle13), (HSub.c 0 rfl HSub.n), CSub.n⟩, ?_⟩
  refine JA.pull (Pull.s Pull.z) ?_
  refine zO 2 rfl (zM (H1 := [_]) rfl rfl rfl rfl rfl (GZ m (Cq.next l k 5).2 6 v l _ hl hll hk1 (by omega) (by omega)) ?_ (fun _ _ _ _ h => by cases h.1) (fun _ _ h => by cases h.1))
  intro v15 I16 H17 hle18 hp19
  have hl := hl.mono hle18
  have hbi := hle18 _ _ hbi
  obtain ⟨hv15, rfl⟩ := hp19; cases hv15
  refine ⟨⟨(Le.trans (Le.trans (Le.refl _) hle13) hle18), (HSub.c 1 rfl HSub.n), CSub.n⟩, ?_⟩
  refine JA.fix BM (fun fx20 => ?_)
  refine JA.tk 3 rfl fx20 (DF (off' := (Cq.next l (Cq.next l k 5).2 6).1) rfl rfl rfl ED CG (by omega) (by have : Cq.indexes.length = 6 := rfl; omega) (by simp)) ?_
  refine JA.all [4, 5] (by kernel_rfl) (by simp) ?_
  intro i hi
  simp only [List.mem_cons, List.not_mem_nil, or_false] at hi
  rcases hi with rfl | rfl
  ·refine ⟨_, rfl, rfl, ?_⟩
   refine AX (zN rfl rfl EK (yY.BQ hbi) (CW (by exact hx2))) rfl rfl ?_
   refine ⟨⟨(Le.trans (Le.trans (Le.refl _) hle13) hle18), (HSub.c 1 rfl HSub.n), CSub.n⟩, ?_⟩
   refine zO 5 rfl (zM (H1 := []) rfl rfl rfl rfl rfl (a0Y _) ?_ (fun _ _ _ _ h => by obtain ⟨⟨_, h, _⟩, _⟩ := h; cases h) (fun _ _ h => by obtain ⟨⟨_, h, _⟩, _⟩ := h; cases h))
   intro v21 I22 H23 hle24 hp25
   have hl := hl.mono hle24
   have hbi := hle24 _ _ hbi
   obtain ⟨⟨v21x, hv21, br, cbr, spbr, rfl, hbr⟩, rfl⟩ := hp25; cases hv21
   refine ⟨⟨(Le.trans (Le.trans (Le.trans (Le.refl _) hle13) hle18) hle24), (HSub.c 1 rfl HSub.n), CSub.n⟩, ?_⟩
   refine JA.pull Pull.z ?_
   refine zO 7 rfl (zM (H1 := [_]) rfl rfl rfl rfl rfl (GZ m (Cq.next l (Cq.next l k 5).2 6).2 6 v l _ hl hll hk2 (by omega) (by omega)) ?_ (fun _ _ _ _ h => by cases h.1) (fun _ _ h => by cases h.1))
   intro v26 I27 H28 hle29 hp30
   have hl := hl.mono hle29
   have hbi := hle29 _ _ hbi
   have hbr := hle29 _ _ hbr
   obtain ⟨hv26, rfl⟩ := hp30; cases hv26
   refine ⟨⟨(Le.trans (Le.trans (Le.trans (Le.trans (Le.refl _) hle13) hle18) hle24) hle29), (HSub.c 1 rfl HSub.n), CSub.n⟩, ?_⟩
   refine JA.fix BM (fun fx31 => ?_)
   refine JA.tk 8 rfl fx31 (DF (off' := (Cq.next l (Cq.next l (Cq.next l k 5).2 6).2 6).1) rfl rfl rfl ED CG (by omega) (by have : Cq.relations.length = 6 := rfl; omega) (by simp)) ?_
   refine JA.all [9, 12] (by kernel_rfl) (by simp) ?_
   intro i hi
   simp only [List.mem_cons, List.not_mem_nil, or_false] at hi
   rcases hi with rfl | rfl
   ·refine ⟨_, rfl, rfl, ?_⟩
    refine AX (zN rfl rfl EK (yY.BQ hbr) (CW (by exact hx3))) rfl rfl ?_
    refine ⟨⟨(Le.trans (Le.trans (Le.trans (Le.trans (Le.refl _) hle13) hle18) hle24) hle29), (HSub.c 1 rfl HSub.n), CSub.n⟩, ?_⟩
    refine JA.pull Pull.z ?_
    refine zO 12 rfl (zM (H1 := [_]) rfl rfl rfl rfl rfl (GZ m (Cq.next l (Cq.next l (Cq.next l k 5).2 6).2 6).2 9 v l _ hl hll hk3 (by omega) (by omega)) ?_ (fun _ _ _ _ h => by cases h.1) (fun _ _ h => by cases h.1))
    intro v32 I33 H34 hle35 hp36
    have hl := hl.mono hle35
    have hbi := hle35 _ _ hbi
    have hbr := hle35 _ _ hbr
    obtain ⟨hv32, rfl⟩ := hp36; cases hv32
    refine ⟨⟨(Le.trans (Le.trans (Le.trans (Le.trans (Le.trans (Le.refl _) hle13) hle18) hle24) hle29) hle35), (HSub.c 1 rfl HSub.n), CSub.n⟩, ?_⟩
    refine JA.fix BM (fun fx37 => ?_)
    refine JA.tk 13 rfl fx37 (OQ (off' := (Cq.next l (Cq.next l (Cq.next l (Cq.next l k 5).2 6).2 6).2 9).1) ED CG) ?_
    refine JA.tk 14 rfl fx37 (zN rfl rfl EK (yY.EG 0 rfl) (CW (l := Cq.texts) (sp := []) (by exact hx4))) ?_
    refine JA.tk 15 rfl fx37 (zS (pl := #[(0, 1), (1, 1), (2, 1), (3, 1), (4, 1)]) rfl rfl BX rfl tU32 (fun w => by simp [IC, FQ, CG]) (zL.part rfl rfl rfl (yV.c yV.z) (zL.part rfl rfl rfl (yV.s (yV.c yV.z)) (zL.part rfl rfl rfl (yV.s (yV.s (yV.c yV.z))) (zL.part rfl rfl rfl (yV.s (yV.s (yV.s (yV.c yV.z)))) zL.none))))) ?_
    refine zO 16 rfl (qq2 2 zK (yV.c (yV.c (yV.c (yV.c (yV.c yV.z))))) (yX.s (yX.s yX.z)) ?_)
    refine ⟨⟨(Le.trans (Le.trans (Le.trans (Le.trans (Le.trans (Le.refl _) hle13) hle18) hle24) hle29) hle35), (HSub.c 1 rfl HSub.n), CSub.n⟩, ?_⟩
    refine EZ ?_
    refine Ej.seq (Cj.ret (Ej.IK ?_))
    refine Ej.CP (Keeps.k (Keeps.d (Keeps.d Keeps.n))) rfl rfl rfl (yY.at 2 rfl) AA zK rfl ?_
    rw [hmd]
    exact ⟨⟨_, rfl, none, 0, rfl, .inl rfl⟩, rfl⟩
   refine ⟨_, rfl, rfl, ?_⟩
   refine BU.pull Pull.z ?_
   refine zM (H1 := [_]) rfl rfl rfl rfl rfl (GZ m (Cq.next l (Cq.next l (Cq.next l k 5).2 6).2 6).2 9 v l _ hl hll hk3 (by omega) (by omega)) ?_ (fun _ _ _ _ h => by cases h.1) (fun _ _ h => by cases h.1)
   intro v38 I39 H40 hle41 hp42
   have hl := hl.mono hle41
   have hbi := hle41 _ _ hbi
   have hbr := hle41 _ _ hbr
   obtain ⟨hv38, rfl⟩ := hp42; cases hv38
   refine ⟨⟨(Le.trans (Le.trans (Le.trans (Le.trans (Le.trans (Le.refl _) hle13) hle18) hle24) hle29) hle41), (HSub.c 1 rfl HSub.n), CSub.n⟩, ?_⟩
   refine JA.fix BM (fun fx43 => ?_)
   refine JA.tk 13 rfl fx43 (OQ (off' := (Cq.next l (Cq.next l (Cq.next l (Cq.next l k 5).2 6).2 6).2 9).1) ED CG) ?_
   refine JA.tk 14 rfl fx43 (zN rfl rfl EK (yY.EG 0 rfl) (CW (l := Cq.texts) (sp := []) (by exact hx4))) ?_
   refine zO 9 rfl (AX (zN rfl rfl EK (yY.BQ hbr) (CW (by exact hx3))) rfl rfl ?_)
   refine ⟨⟨(Le.trans (Le.trans (Le.trans (Le.trans (Le.trans (Le.refl _) hle13) hle18) hle24) hle29) hle41), (HSub.c 1 rfl HSub.n), CSub.n⟩, ?_⟩
   refine JA.fix BM (fun fx44 => ?_)
   refine JA.tk 15 rfl fx44 (zS (pl := #[(0, 1), (1, 1), (2, 1), (3, 1), (4, 1)]) rfl rfl BX rfl tU32 (fun w => by simp [IC, FQ, CG]) (zL.part rfl rfl rfl (yV.c yV.z) (zL.part rfl rfl rfl (yV.s (yV.c yV.z)) (zL.part rfl rfl rfl (yV.s (yV.s (yV.c yV.z))) (zL.part rfl rfl rfl (yV.s (yV.s (yV.s (yV.c yV.z)))) zL.none))))) ?_
   refine zO 16 rfl (qq2 2 zK (yV.c (yV.c (yV.c (yV.c (yV.c yV.z))))) (yX.s (yX.s yX.z)) ?_)
   refine ⟨⟨(Le.trans (Le.trans (Le.trans (Le.trans (Le.trans (Le.refl _) hle13) hle18) hle24) hle29) hle41), (HSub.c 1 rfl HSub.n), CSub.n⟩, ?_⟩
   refine EZ ?_
   refine Ej.seq (Cj.ret (Ej.IK ?_))
   refine Ej.CP (Keeps.k (Keeps.d (Keeps.d Keeps.n))) rfl rfl rfl (yY.at 2 rfl) AA zK rfl ?_
   rw [hmd]
   exact ⟨⟨_, rfl, none, 0, rfl, .inl rfl⟩, rfl⟩
  refine ⟨_, rfl, rfl, ?_⟩
  refine zM (H1 := []) rfl rfl rfl rfl rfl (a0Y _) ?_ (fun _ _ _ _ h => by obtain ⟨⟨_, h, _⟩, _⟩ := h; cases h) (fun _ _ h => by obtain ⟨⟨_, h, _⟩, _⟩ := h; cases h)
  intro v45 I46 H47 hle48 hp49
  have hl := hl.mono hle48
  have hbi := hle48 _ _ hbi
  obtain ⟨⟨v45x, hv45, br, cbr, spbr, rfl, hbr⟩, rfl⟩ := hp49; cases hv45
  refine ⟨⟨(Le.trans (Le.trans (Le.trans (Le.refl _) hle13) hle18) hle48), (HSub.c 1 rfl HSub.n), CSub.n⟩, ?_⟩
  refine JA.all [4, 7] (by kernel_rfl) (by simp) ?_
  intro i hi
  simp only [List.mem_cons, List.not_mem_nil, or_false] at hi
  rcases hi with rfl | rfl
  ·refine ⟨_, rfl, rfl, ?_⟩
   refine AX (zN rfl rfl EK (yY.BQ hbi) (CW (by exact hx2))) rfl rfl ?_
   refine ⟨⟨(Le.trans (Le.trans (Le.trans (Le.refl _) hle13) hle18) hle48), (HSub.c 1 rfl HSub.n), CSub.n⟩, ?_⟩
   refine JA.pull Pull.z ?_
   refine zO 7 rfl (zM (H1 := [_]) rfl rfl rfl rfl rfl (GZ m (Cq.next l (Cq.next l k 5).2 6).2 6 v l _ hl hll hk2 (by omega) (by omega)) ?_ (fun _ _ _ _ h => by cases h.1) (fun _ _ h => by cases h.1))
   intro v50 I51 H52 hle53 hp54
   have hl := hl.mono hle53
   have hbi := hle53 _ _ hbi
   have hbr := hle53 _ _ hbr
   obtain ⟨hv50, rfl⟩ := hp54; cases hv50
   refine ⟨⟨(Le.trans (Le.trans (Le.trans (Le.trans (Le.refl _) hle13) hle18) hle48) hle53), (HSub.c 1 rfl HSub.n), CSub.n⟩, ?_⟩
   refine JA.fix BM (fun fx55 => ?_)
   refine JA.tk 8 rfl fx55 (DF (off' := (Cq.next l (Cq.next l (Cq.next l k 5).2 6).2 6).1) rfl rfl rfl ED CG (by omega) (by have : Cq.relations.length = 6 := rfl; omega) (by simp)) ?_
   refine JA.all [9, 12] (by kernel_rfl) (by simp) ?_
   intro i hi
   simp only [List.mem_cons, List.not_mem_nil, or_false] at hi
   rcases hi with rfl | rfl
   ·refine ⟨_, rfl, rfl, ?_⟩
    refine AX (zN rfl rfl EK (yY.BQ hbr) (CW (by exact hx3))) rfl rfl ?_
    refine ⟨⟨(Le.trans (Le.trans (Le.trans (Le.trans (Le.refl _) hle13) hle18) hle48) hle53), (HSub.c 1 rfl HSub.n), CSub.n⟩, ?_⟩
    refine JA.pull Pull.z ?_
    refine zO 12 rfl (zM (H1 := [_]) rfl rfl rfl rfl rfl (GZ m (Cq.next l (Cq.next l (Cq.next l k 5).2 6).2 6).2 9 v l _ hl hll hk3 (by omega) (by omega)) ?_ (fun _ _ _ _ h => by cases h.1) (fun _ _ h => by cases h.1))
    intro v56 I57 H58 hle59 hp60
    have hl := hl.mono hle59
    have hbi := hle59 _ _ hbi
    have hbr := hle59 _ _ hbr
    obtain ⟨hv56, rfl⟩ := hp60; cases hv56
    refine ⟨⟨(Le.trans (Le.trans (Le.trans (Le.trans (Le.trans (Le.refl _) hle13) hle18) hle48) hle53) hle59), (HSub.c 1 rfl HSub.n), CSub.n⟩, ?_⟩
    refine JA.fix BM (fun fx61 => ?_)
    refine JA.tk 13 rfl fx61 (OQ (off' := (Cq.next l (Cq.next l (Cq.next l (Cq.next l k 5).2 6).2 6).2 9).1) ED CG) ?_
    refine JA.tk 14 rfl fx61 (zN rfl rfl EK (yY.EG 0 rfl) (CW (l := Cq.texts) (sp := []) (by exact hx4))) ?_
    refine JA.tk 15 rfl fx61 (zS (pl := #[(0, 1), (1, 1), (2, 1), (3, 1), (4, 1)]) rfl rfl BX rfl tU32 (fun w => by simp [IC, FQ, CG]) (zL.part rfl rfl rfl (yV.c yV.z) (zL.part rfl rfl rfl (yV.s (yV.c yV.z)) (zL.part rfl rfl rfl (yV.s (yV.s (yV.c yV.z))) (zL.part rfl rfl rfl (yV.s (yV.s (yV.s (yV.c yV.z)))) zL.none))))) ?_
    refine zO 16 rfl (qq2 2 zK (yV.c (yV.c (yV.c (yV.c (yV.c yV.z))))) (yX.s (yX.s yX.z)) ?_)
    refine ⟨⟨(Le.trans (Le.trans (Le.trans (Le.trans (Le.trans (Le.refl _) hle13) hle18) hle48) hle53) hle59), (HSub.c 1 rfl HSub.n), CSub.n⟩, ?_⟩
    refine EZ ?_
    refine Ej.seq (Cj.ret (Ej.IK ?_))
    refine Ej.CP (Keeps.k (Keeps.d (Keeps.d Keeps.n))) rfl rfl rfl (yY.at 2 rfl) AA zK rfl ?_
    rw [hmd]
    exact ⟨⟨_, rfl, none, 0, rfl, .inl rfl⟩, rfl⟩
   refine ⟨_, rfl, rfl, ?_⟩
   refine BU.pull Pull.z ?_
   refine zM (H1 := [_]) rfl rfl rfl rfl rfl (GZ m (Cq.next l (Cq.next l (Cq.next l k 5).2 6).2 6).2 9 v l _ hl hll hk3 (by omega) (by omega)) ?_ (fun _ _ _ _ h => by cases h.1) (fun _ _ h => by cases h.1)
   intro v62 I63 H64 hle65 hp66
   have hl := hl.mono hle65
   have hbi := hle65 _ _ hbi
   have hbr := hle65 _ _ hbr
   obtain ⟨hv62, rfl⟩ := hp66; cases hv62
   refine ⟨⟨(Le.trans (Le.trans (Le.trans (Le.trans (Le.trans (Le.refl _) hle13) hle18) hle48) hle53) hle65), (HSub.c 1 rfl HSub.n), CSub.n⟩, ?_⟩
   refine JA.fix BM (fun fx67 => ?_)
   refine JA.tk 13 rfl fx67 (OQ (off' := (Cq.next l (Cq.next l (Cq.next l (Cq.next l k 5).2 6).2 6).2 9).1) ED CG) ?_
   refine JA.tk 14 rfl fx67 (zN rfl rfl EK (yY.EG 0 rfl) (CW (l := Cq.texts) (sp := []) (by exact hx4))) ?_
   refine zO 9 rfl (AX (zN rfl rfl EK (yY.BQ hbr) (CW (by exact hx3))) rfl rfl ?_)
   refine ⟨⟨(Le.trans (Le.trans (Le.trans (Le.trans (Le.trans (Le.refl _) hle13) hle18) hle48) hle53) hle65), (HSub.c 1 rfl HSub.n), CSub.n⟩, ?_⟩
   refine JA.fix BM (fun fx68 => ?_)
   refine JA.tk 15 rfl fx68 (zS (pl := #[(0, 1), (1, 1), (2, 1), (3, 1), (4, 1)]) rfl rfl BX rfl tU32 (fun w => by simp [IC, FQ, CG]) (zL.part rfl rfl rfl (yV.c yV.z) (zL.part rfl rfl rfl (yV.s (yV.c yV.z)) (zL.part rfl rfl rfl (yV.s (yV.s (yV.c yV.z))) (zL.part rfl rfl rfl (yV.s (yV.s (yV.s (yV.c yV.z)))) zL.none))))) ?_
   refine zO 16 rfl (qq2 2 zK (yV.c (yV.c (yV.c (yV.c (yV.c yV.z))))) (yX.s (yX.s yX.z)) ?_)
   refine ⟨⟨(Le.trans (Le.trans (Le.trans (Le.trans (Le.trans (Le.refl _) hle13) hle18) hle48) hle53) hle65), (HSub.c 1 rfl HSub.n), CSub.n⟩, ?_⟩
   refine EZ ?_
   refine Ej.seq (Cj.ret (Ej.IK ?_))
   refine Ej.CP (Keeps.k (Keeps.d (Keeps.d Keeps.n))) rfl rfl rfl (yY.at 2 rfl) AA zK rfl ?_
   rw [hmd]
   exact ⟨⟨_, rfl, none, 0, rfl, .inl rfl⟩, rfl⟩
  refine ⟨_, rfl, rfl, ?_⟩
  refine BU.pull Pull.z ?_
  refine zM (H1 := [_]) rfl rfl rfl rfl rfl (GZ m (Cq.next l (Cq.next l k 5).2 6).2 6 v l _ hl hll hk2 (by omega) (by omega)) ?_ (fun _ _ _ _ h => by cases h.1) (fun _ _ h => by cases h.1)
  intro v69 I70 H71 hle72 hp73
  have hl := hl.mono hle72
  have hbi := hle72 _ _ hbi
  have hbr := hle72 _ _ hbr
  obtain ⟨hv69, rfl⟩ := hp73; cases hv69
  refine ⟨⟨(Le.trans (Le.trans (Le.trans (Le.trans (Le.refl _) hle13) hle18) hle48) hle72), (HSub.c 1 rfl HSub.n), CSub.n⟩, ?_⟩
  refine JA.fix BM (fun fx74 => ?_)
  refine JA.tk 8 rfl fx74 (DF (off' := (Cq.next l (Cq.next l (Cq.next l k 5).2 6).2 6).1) rfl rfl rfl ED CG (by omega) (by have : Cq.relations.length = 6 := rfl; omega) (by simp)) ?_
  refine JA.all [4, 9, 12] (by kernel_rfl) (by simp) ?_
  intro i hi
  simp only [List.mem_cons, List.not_mem_nil, or_false] at hi
  rcases hi with rfl | rfl | rfl
  ·refine ⟨_, rfl, rfl, ?_⟩
   refine AX (zN rfl rfl EK (yY.BQ hbi) (CW (by exact hx2))) rfl rfl ?_
   refine ⟨⟨(Le.trans (Le.trans (Le.trans (Le.trans (Le.refl _) hle13) hle18) hle48) hle72), (HSub.c 1 rfl HSub.n), CSub.n⟩, ?_⟩
   refine JA.all [9, 12] (by kernel_rfl) (by simp) ?_
   intro i hi
   simp only [List.mem_cons, List.not_mem_nil, or_false] at hi
   rcases hi with rfl | rfl
   ·refine ⟨_, rfl, rfl, ?_⟩
    refine AX (zN rfl rfl EK (yY.BQ hbr) (CW (by exact hx3))) rfl rfl ?_
    refine ⟨⟨(Le.trans (Le.trans (Le.trans (Le.trans (Le.refl _) hle13) hle18) hle48) hle72), (HSub.c 1 rfl HSub.n), CSub.n⟩, ?_⟩
    refine JA.pull Pull.z ?_
    refine zO 12 rfl (zM (H1 := [_]) rfl rfl rfl rfl rfl (GZ m (Cq.next l (Cq.next l (Cq.next l k 5).2 6).2 6).2 9 v l _ hl hll hk3 (by omega) (by omega)) ?_ (fun _ _ _ _ h => by cases h.1) (fun _ _ h => by cases h.1))
    intro v75 I76 H77 hle78 hp79
    have hl := hl.mono hle78
    have hbi := hle78 _ _ hbi
    have hbr := hle78 _ _ hbr
    obtain ⟨hv75, rfl⟩ := hp79; cases hv75
    refine ⟨⟨(Le.trans (Le.trans (Le.trans (Le.trans (Le.trans (Le.refl _) hle13) hle18) hle48) hle72) hle78), (HSub.c 1 rfl HSub.n), CSub.n⟩, ?_⟩
    refine JA.fix BM (fun fx80 => ?_)
    refine JA.tk 13 rfl fx80 (OQ (off' := (Cq.next l (Cq.next l (Cq.next l (Cq.next l k 5).2 6).2 6).2 9).1) ED CG) ?_
    refine JA.tk 14 rfl fx80 (zN rfl rfl EK (yY.EG 0 rfl) (CW (l := Cq.texts) (sp := []) (by exact hx4))) ?_
    refine JA.tk 15 rfl fx80 (zS (pl := #[(0, 1), (1, 1), (2, 1), (3, 1), (4, 1)]) rfl rfl BX rfl tU32 (fun w => by simp [IC, FQ, CG]) (zL.part rfl rfl rfl (yV.c yV.z) (zL.part rfl rfl rfl (yV.s (yV.c yV.z)) (zL.part rfl rfl rfl (yV.s (yV.s (yV.c yV.z))) (zL.part rfl rfl rfl (yV.s (yV.s (yV.s (yV.c yV.z)))) zL.none))))) ?_
    refine zO 16 rfl (qq2 2 zK (yV.c (yV.c (yV.c (yV.c (yV.c yV.z))))) (yX.s (yX.s yX.z)) ?_)
    refine ⟨⟨(Le.trans (Le.trans (Le.trans (Le.trans (Le.trans (Le.refl _) hle13) hle18) hle48) hle72) hle78), (HSub.c 1 rfl HSub.n), CSub.n⟩, ?_⟩
    refine EZ ?_
    refine Ej.seq (Cj.ret (Ej.IK ?_))
    refine Ej.CP (Keeps.k (Keeps.d (Keeps.d Keeps.n))) rfl rfl rfl (yY.at 2 rfl) AA zK rfl ?_
    rw [hmd]
    exact ⟨⟨_, rfl, none, 0, rfl, .inl rfl⟩, rfl⟩
   refine ⟨_, rfl, rfl, ?_⟩
   refine BU.pull Pull.z ?_
   refine zM (H1 := [_]) rfl rfl rfl rfl rfl (GZ m (Cq.next l (Cq.next l (Cq.next l k 5).2 6).2 6).2 9 v l _ hl hll hk3 (by omega) (by omega)) ?_ (fun _ _ _ _ h => by cases h.1) (fun _ _ h => by cases h.1)
   intro v81 I82 H83 hle84 hp85
   have hl := hl.mono hle84
   have hbi := hle84 _ _ hbi
   have hbr := hle84 _ _ hbr
   obtain ⟨hv81, rfl⟩ := hp85; cases hv81
   refine ⟨⟨(Le.trans (Le.trans (Le.trans (Le.trans (Le.trans (Le.refl _) hle13) hle18) hle48) hle72) hle84), (HSub.c 1 rfl HSub.n), CSub.n⟩, ?_⟩
   refine JA.fix BM (fun fx86 => ?_)
   refine JA.tk 13 rfl fx86 (OQ (off' := (Cq.next l (Cq.next l (Cq.next l (Cq.next l k 5).2 6).2 6).2 9).1) ED CG) ?_
   refine JA.tk 14 rfl fx86 (zN rfl rfl EK (yY.EG 0 rfl) (CW (l := Cq.texts) (sp := []) (by exact hx4))) ?_
   refine zO 9 rfl (AX (zN rfl rfl EK (yY.BQ hbr) (CW (by exact hx3))) rfl rfl ?_)
   refine ⟨⟨(Le.trans (Le.trans (Le.trans (Le.trans (Le.trans (Le.refl _) hle13) hle18) hle48) hle72) hle84), (HSub.c 1 rfl HSub.n), CSub.n⟩, ?_⟩
   refine JA.fix BM (fun fx87 => ?_)
   refine JA.tk 15 rfl fx87 (zS (pl := #[(0, 1), (1, 1), (2, 1), (3, 1), (4, 1)]) rfl rfl BX rfl tU32 (fun w => by simp [IC, FQ, CG]) (zL.part rfl rfl rfl (yV.c yV.z) (zL.part rfl rfl rfl (yV.s (yV.c yV.z)) (zL.part rfl rfl rfl (yV.s (yV.s (yV.c yV.z))) (zL.part rfl rfl rfl (yV.s (yV.s (yV.s (yV.c yV.z)))) zL.none))))) ?_
   refine zO 16 rfl (qq2 2 zK (yV.c (yV.c (yV.c (yV.c (yV.c yV.z))))) (yX.s (yX.s yX.z)) ?_)
   refine ⟨⟨(Le.trans (Le.trans (Le.trans (Le.trans (Le.trans (Le.refl _) hle13) hle18) hle48) hle72) hle84), (HSub.c 1 rfl HSub.n), CSub.n⟩, ?_⟩
   refine EZ ?_
   refine Ej.seq (Cj.ret (Ej.IK ?_))
   refine Ej.CP (Keeps.k (Keeps.d (Keeps.d Keeps.n))) rfl rfl rfl (yY.at 2 rfl) AA zK rfl ?_
   rw [hmd]
   exact ⟨⟨_, rfl, none, 0, rfl, .inl rfl⟩, rfl⟩
  ·refine ⟨_, rfl, rfl, ?_⟩
   refine AX (zN rfl rfl EK (yY.BQ hbr) (CW (by exact hx3))) rfl rfl ?_
   refine ⟨⟨(Le.trans (Le.trans (Le.trans (Le.trans (Le.refl _) hle13) hle18) hle48) hle72), (HSub.c 1 rfl HSub.n), CSub.n⟩, ?_⟩
   refine JA.all [4, 12] (by kernel_rfl) (by simp) ?_
   intro i hi
   simp only [List.mem_cons, List.not_mem_nil, or_false] at hi
   rcases hi with rfl | rfl
   ·refine ⟨_, rfl, rfl, ?_⟩
    refine AX (zN rfl rfl EK (yY.BQ hbi) (CW (by exact hx2))) rfl rfl ?_
    refine ⟨⟨(Le.trans (Le.trans (Le.trans (Le.trans (Le.refl _) hle13) hle18) hle48) hle72), (HSub.c 1 rfl HSub.n), CSub.n⟩, ?_⟩
    refine JA.pull Pull.z ?_
    refine zO 12 rfl (zM (H1 := [_]) rfl rfl rfl rfl rfl (GZ m (Cq.next l (Cq.next l (Cq.next l k 5).2 6).2 6).2 9 v l _ hl hll hk3 (by omega) (by omega)) ?_ (fun _ _ _ _ h => by cases h.1) (fun _ _ h => by cases h.1))
    intro v88 I89 H90 hle91 hp92
    have hl := hl.mono hle91
    have hbi := hle91 _ _ hbi
    have hbr := hle91 _ _ hbr
    obtain ⟨hv88, rfl⟩ := hp92; cases hv88
    refine ⟨⟨(Le.trans (Le.trans (Le.trans (Le.trans (Le.trans (Le.refl _) hle13) hle18) hle48) hle72) hle91), (HSub.c 1 rfl HSub.n), CSub.n⟩, ?_⟩
    refine JA.fix BM (fun fx93 => ?_)
    refine JA.tk 13 rfl fx93 (OQ (off' := (Cq.next l (Cq.next l (Cq.next l (Cq.next l k 5).2 6).2 6).2 9).1) ED CG) ?_
    refine JA.tk 14 rfl fx93 (zN rfl rfl EK (yY.EG 0 rfl) (CW (l := Cq.texts) (sp := []) (by exact hx4))) ?_
    refine JA.tk 15 rfl fx93 (zS (pl := #[(0, 1), (1, 1), (2, 1), (3, 1), (4, 1)]) rfl rfl BX rfl tU32 (fun w => by simp [IC, FQ, CG]) (zL.part rfl rfl rfl (yV.c yV.z) (zL.part rfl rfl rfl (yV.s (yV.c yV.z)) (zL.part rfl rfl rfl (yV.s (yV.s (yV.c yV.z))) (zL.part rfl rfl rfl (yV.s (yV.s (yV.s (yV.c yV.z)))) zL.none))))) ?_
    refine zO 16 rfl (qq2 2 zK (yV.c (yV.c (yV.c (yV.c (yV.c yV.z))))) (yX.s (yX.s yX.z)) ?_)
    refine ⟨⟨(Le.trans (Le.trans (Le.trans (Le.trans (Le.trans (Le.refl _) hle13) hle18) hle48) hle72) hle91), (HSub.c 1 rfl HSub.n), CSub.n⟩, ?_⟩
    refine EZ ?_
    refine Ej.seq (Cj.ret (Ej.IK ?_))
    refine Ej.CP (Keeps.k (Keeps.d (Keeps.d Keeps.n))) rfl rfl rfl (yY.at 2 rfl) AA zK rfl ?_
    rw [hmd]
    exact ⟨⟨_, rfl, none, 0, rfl, .inl rfl⟩, rfl⟩
   refine ⟨_, rfl, rfl, ?_⟩
   refine BU.pull Pull.z ?_
   refine zM (H1 := [_]) rfl rfl rfl rfl rfl (GZ m (Cq.next l (Cq.next l (Cq.next l k 5).2 6).2 6).2 9 v l _ hl hll hk3 (by omega) (by omega)) ?_ (fun _ _ _ _ h => by cases h.1) (fun _ _ h => by cases h.1)
   intro v94 I95 H96 hle97 hp98
   have hl := hl.mono hle97
   have hbi := hle97 _ _ hbi
   have hbr := hle97 _ _ hbr
   obtain ⟨hv94, rfl⟩ := hp98; cases hv94
   refine ⟨⟨(Le.trans (Le.trans (Le.trans (Le.trans (Le.trans (Le.refl _) hle13) hle18) hle48) hle72) hle97), (HSub.c 1 rfl HSub.n), CSub.n⟩, ?_⟩
   refine JA.fix BM (fun fx99 => ?_)
   refine JA.tk 13 rfl fx99 (OQ (off' := (Cq.next l (Cq.next l (Cq.next l (Cq.next l k 5).2 6).2 6).2 9).1) ED CG) ?_
   refine JA.tk 14 rfl fx99 (zN rfl rfl EK (yY.EG 0 rfl) (CW (l := Cq.texts) (sp := []) (by exact hx4))) ?_
   refine zO 4 rfl (AX (zN rfl rfl EK (yY.BQ hbi) (CW (by exact hx2))) rfl rfl ?_)
   refine ⟨⟨(Le.trans (Le.trans (Le.trans (Le.trans (Le.trans (Le.refl _) hle13) hle18) hle48) hle72) hle97), (HSub.c 1 rfl HSub.n), CSub.n⟩, ?_⟩
   refine JA.fix BM (fun fx100 => ?_)
   refine JA.tk 15 rfl fx100 (zS (pl := #[(0, 1), (1, 1), (2, 1), (3, 1), (4, 1)]) rfl rfl BX rfl tU32 (fun w => by simp [IC, FQ, CG]) (zL.part rfl rfl rfl (yV.c yV.z) (zL.part rfl rfl rfl (yV.s (yV.c yV.z)) (zL.part rfl rfl rfl (yV.s (yV.s (yV.c yV.z))) (zL.part rfl rfl rfl (yV.s (yV.s (yV.s (yV.c yV.z)))) zL.none))))) ?_
   refine zO 16 rfl (qq2 2 zK (yV.c (yV.c (yV.c (yV.c (yV.c yV.z))))) (yX.s (yX.s yX.z)) ?_)
   refine ⟨⟨(Le.trans (Le.trans (Le.trans (Le.trans (Le.trans (Le.refl _) hle13) hle18) hle48) hle72) hle97), (HSub.c 1 rfl HSub.n), CSub.n⟩, ?_⟩
   refine EZ ?_
   refine Ej.seq (Cj.ret (Ej.IK ?_))
   refine Ej.CP (Keeps.k (Keeps.d (Keeps.d Keeps.n))) rfl rfl rfl (yY.at 2 rfl) AA zK rfl ?_
   rw [hmd]
   exact ⟨⟨_, rfl, none, 0, rfl, .inl rfl⟩, rfl⟩
  refine ⟨_, rfl, rfl, ?_⟩
  refine BU.pull Pull.z ?_
  refine zM (H1 := [_]) rfl rfl rfl rfl rfl (GZ m (Cq.next l (Cq.next l (Cq.next l k 5).2 6).2 6).2 9 v l _ hl hll hk3 (by omega) (by omega)) ?_ (fun _ _ _ _ h => by cases h.1) (fun _ _ h => by cases h.1)
  intro v101 I102 H103 hle104 hp105
  have hl := hl.mono hle104
  have hbi := hle104 _ _ hbi
  have hbr := hle104 _ _ hbr
  obtain ⟨hv101, rfl⟩ := hp105; cases hv101
  refine ⟨⟨(Le.trans (Le.trans (Le.trans (Le.trans (Le.trans (Le.refl _) hle13) hle18) hle48) hle72) hle104), (HSub.c 1 rfl HSub.n), CSub.n⟩, ?_⟩
  refine JA.fix BM (fun fx106 => ?_)
  refine JA.tk 13 rfl fx106 (OQ (off' := (Cq.next l (Cq.next l (Cq.next l (Cq.next l k 5).2 6).2 6).2 9).1) ED CG) ?_
  refine JA.tk 14 rfl fx106 (zN rfl rfl EK (yY.EG 0 rfl) (CW (l := Cq.texts) (sp := []) (by exact hx4))) ?_
  refine JA.all [4, 9] (by kernel_rfl) (by simp) ?_
  intro i hi
  simp only [List.mem_cons, List.not_mem_nil, or_false] at hi
  rcases hi with rfl | rfl
  ·refine ⟨_, rfl, rfl, ?_⟩
   refine AX (zN rfl rfl EK (yY.BQ hbi) (CW (by exact hx2))) rfl rfl ?_
   refine ⟨⟨(Le.trans (Le.trans (Le.trans (Le.trans (Le.trans (Le.refl _) hle13) hle18) hle48) hle72) hle104), (HSub.c 1 rfl HSub.n), CSub.n⟩, ?_⟩
   refine zO 9 rfl (AX (zN rfl rfl EK (yY.BQ hbr) (CW (by exact hx3))) rfl rfl ?_)
   refine ⟨⟨(Le.trans (Le.trans (Le.trans (Le.trans (Le.trans (Le.refl _) hle13) hle18) hle48) hle72) hle104), (HSub.c 1 rfl HSub.n), CSub.n⟩, ?_⟩
   refine JA.fix BM (fun fx107 => ?_)
   refine JA.tk 15 rfl fx107 (zS (pl := #[(0, 1), (1, 1), (2, 1), (3, 1), (4, 1)]) rfl rfl BX rfl tU32 (fun w => by simp [IC, FQ, CG]) (zL.part rfl rfl rfl (yV.c yV.z) (zL.part rfl rfl rfl (yV.s (yV.c yV.z)) (zL.part rfl rfl rfl (yV.s (yV.s (yV.c yV.z))) (zL.part rfl rfl rfl (yV.s (yV.s (yV.s (yV.c yV.z)))) zL.none))))) ?_
   refine zO 16 rfl (qq2 2 zK (yV.c (yV.c (yV.c (yV.c (yV.c yV.z))))) (yX.s (yX.s yX.z)) ?_)
   refine ⟨⟨(Le.trans (Le.trans (Le.trans (Le.trans (Le.trans (Le.refl _) hle13) hle18) hle48) hle72) hle104), (HSub.c 1 rfl HSub.n), CSub.n⟩, ?_⟩
   refine EZ ?_
   refine Ej.seq (Cj.ret (Ej.IK ?_))
   refine Ej.CP (Keeps.k (Keeps.d (Keeps.d Keeps.n))) rfl rfl rfl (yY.at 2 rfl) AA zK rfl ?_
   rw [hmd]
   exact ⟨⟨_, rfl, none, 0, rfl, .inl rfl⟩, rfl⟩
  refine ⟨_, rfl, rfl, ?_⟩
  refine AX (zN rfl rfl EK (yY.BQ hbr) (CW (by exact hx3))) rfl rfl ?_
  refine yU 1 ?_
  refine zO 4 rfl (AX (zN rfl rfl EK (yY.BQ hbi) (CW (by exact hx2))) rfl rfl ?_)
  refine ⟨⟨(Le.trans (Le.trans (Le.trans (Le.trans (Le.trans (Le.refl _) hle13) hle18) hle48) hle72) hle104), (HSub.c 1 rfl HSub.n), CSub.n⟩, ?_⟩
  refine JA.fix BM (fun fx108 => ?_)
  refine JA.tk 15 rfl fx108 (zS (pl := #[(0, 1), (1, 1), (2, 1), (3, 1), (4, 1)]) rfl rfl BX rfl tU32 (fun w => by simp [IC, FQ, CG]) (zL.part rfl rfl rfl (yV.c yV.z) (zL.part rfl rfl rfl (yV.s (yV.c yV.z)) (zL.part rfl rfl rfl (yV.s (yV.s (yV.c yV.z))) (zL.part rfl rfl rfl (yV.s (yV.s (yV.s (yV.c yV.z)))) zL.none))))) ?_
  refine zO 16 rfl (qq2 2 zK (yV.c (yV.c (yV.c (yV.c (yV.c yV.z))))) (yX.s (yX.s yX.z)) ?_)
  refine ⟨⟨(Le.trans (Le.trans (Le.trans (Le.trans (Le.trans (Le.refl _) hle13) hle18) hle48) hle72) hle104), (HSub.c 1 rfl HSub.n), CSub.n⟩, ?_⟩
  refine EZ ?_
  refine Ej.seq (Cj.ret (Ej.IK ?_))
  refine Ej.CP (Keeps.k (Keeps.d (Keeps.d Keeps.n))) rfl rfl rfl (yY.at 2 rfl) AA zK rfl ?_
  rw [hmd]
  exact ⟨⟨_, rfl, none, 0, rfl, .inl rfl⟩, rfl⟩
 refine TV (fun hg125 => ?_) (fun hg125 => ?_)
 ·have hd0 : deep = 0 := by have h := hg125; simp at h; omega
  refine yU 4 ?_
  exact hcut (true, _) _ _ _ ⟨fun _ => by rw [hd0]; rfl, fun h => (by cases h), hl⟩ ⟨rfl, rfl, rfl, rfl, by first | rfl | exact congrArg some (congrArg Value.bool (by simp_all)), trivial⟩ rfl rfl
 have hd0 : deep ≠ 0 := by have h := hg125; simp at h; omega
 refine yU 4 ?_
 exact hcut (decide (((Cq.next l k 5).1 : Int) < 2), _) _ _ _ ⟨fun h => by obtain ⟨d, rfl⟩ : ∃ d, deep = d + 1 := ⟨deep - 1, by omega⟩; have h := FZ h; simp only [Cq.made]; rw [if_pos (by omega)], fun h => ⟨deep - 1, by omega, LY h⟩, hl⟩ ⟨rfl, rfl, rfl, rfl, rfl, trivial⟩ rfl rfl
theorem a6c : ∀ deep, b1v deep
 | 0 => a2O 0 fun d h => by omega
 | deep + 1 => a2O (deep + 1) fun d h => by
  have : d = deep := by omega
  subst this; exact a6c d
theorem b2V v l (hll : l.length ≤ 1000000000000) I (hl : RQ I l v) : yZ Tryz.prog 53 [v] I [] (fun e I' H' => (∃ u, e = .returned u ∧ QV I' (Cq.VJ l) u) ∧ H' = []) := by
 have hx1 := Cq.next_lt l 0 (n := 7) (by omega)
 obtain ⟨pl, cl, hve⟩ := EJ hl
 subst hve
 refine zT func53 fun w0 hw0 => ?_
 refine yU 3 ?_
 intro b1 hb1
 refine J.MX (J.z BR ?_)
 refine J.z (zS (pl := #[(0, 1), (1, 1)]) rfl rfl zeroValue180 rfl underlying180 (fun w => by simp [sizeOf23, IC]) (zL.part rfl rfl rfl (yV.c yV.z) zL.none)) ?_
 refine J.op rfl (IJ rfl rfl rfl rfl rfl ?_)
 intro b2 hb2
 refine J.z FN ?_
 refine J.MX (J.z BR ?_)
 refine J.z BR ?_
 refine J.pull Pull.z ?_
 refine J.op rfl (zM (H1 := [_]) rfl rfl rfl rfl rfl (GZ b2 0 7 _ l _ hl hll (Nat.zero_le _) (by omega) (by omega)) ?_ (fun _ _ _ _ h => by cases h.1) (fun _ _ h => by cases h.1))
 intro v3 I4 H5 hle6 hp7
 have hl := hl.mono hle6
 obtain ⟨hv3, rfl⟩ := hp7; cases hv3
 refine J.pull Pull.z ?_
 refine BH (a6c (Cq.next l 0 7).1 b2 (Cq.next l 0 7).2 _ l _ hl hll (Cq.IV l 7 (Nat.zero_le _)) (by omega)) ?_
 intro v8 I9 H10 hle11 hp12
 have hl := hl.mono hle11
 obtain ⟨⟨v8x, hv8, pq, cq, rfl, hpq⟩, rfl⟩ := hp12; cases hv8
 refine yU 4 ?_
 refine Ej.CP (Keeps.d (Keeps.d Keeps.n)) rfl rfl rfl (yY.at 1 rfl) AA zK rfl ?_
 exact ⟨⟨_, rfl, pq, cq, rfl, hpq⟩, rfl⟩
def srW : List (List UInt8) := [[115, 101, 97], [69, 109, 109, 97], [116, 104, 101, 32, 115, 101, 97], [49, 57, 56, 52], [119, 97, 114, 32, 112, 101, 97, 99, 101], [49, 57, 57, 57], [65, 117, 115, 116, 101, 110], [97], [104, 105, 115, 116, 111, 114, 121], [122, 122]]
theorem b7S n : (srW.getD (n % 10) []).length ≤ 9 := by
  have h : n % 10 < srW.length := Nat.mod_lt _ (by decide)
  rw [List.getD_eq_getElem?_getD, CX h]
  exact (by decide : ∀ w ∈ srW, w.length ≤ 9) _ (List.getElem_mem h)
theorem b9W n : (srW.map str)[n % 10]? = some (str (srW.getD (n % 10) [])) := by
  have h := CW (l := srW) (sp := []) (a := n % 10) (Nat.mod_lt _ (by decide))
  rwa [List.append_nil] at h
structure Tx (q q' : Cq.Qn) : Prop where
  form : Cq.form q' = true
  depth : Cq.depth q' = Cq.depth q
  k : q'.k = q.k
  size : q'.size = q.size
  wide : q'.wide ≤ q.wide + 9 * (q.size + 1)
theorem Tx.leaf {q} (hk : q.k = 1) (hf : Cq.form q = true) w (hw : w.length ≤ 9) : Tx q ⟨q.k, q.i, q.r, w, q.ps⟩ :=
  ⟨by rw [Cq.KY hk] at hf; rw [Cq.KY (by exact hk)]; exact hf, by rw [Cq.LQ hk, Cq.LQ (by exact hk)], rfl, rfl, by simp only [Cq.Qn.wide, Cq.Qn.size]; omega⟩
theorem Tx.same {q} (hf : Cq.form q = true) : Tx q q := ⟨hf, rfl, rfl, rfl, by omega⟩
theorem Tx.two {q a b a' b'} (hk : q.k ≠ 1) (h2 : 2 ≤ q.k) (h4 : q.k ≤ 4) (ht : q.Two a b) (ha : Tx a a') (hb : Tx b b') : Tx q (Ix.AB q.k a' b') := by
  have hs := ht.sizes
  refine ⟨Ix.a4k h2 h4 ha.form hb.form, ?_, rfl, by rw [Ix.QM, ha.size, hb.size, hs.1], ?_⟩
  · rw [Cq.MW hk ht, Cq.MW (q := Ix.AB q.k a' b') (a := a') (b := b') hk rfl, ha.depth, hb.depth, hb.k]
  have h1 := ha.wide
  have h3 := hb.wide
  rw [Ix.QE]
  have h5 : q.wide = q.i.length + q.r.length + q.t.length + q.ps.wide := rfl
  omega
def a6U (q : Cq.Qn) : Prop := ∀ (p : Option Addr) (c n : Nat) (I : Heap), PS I q.ps p → Cq.form q = true → q.wide ≤ 1000000000 → n + q.size ≤ 2000000000000 →
  yZ Tryz.prog 52 [.agg (AV q p c).toArray, i64 (n : Int)] I [] (fun e I' H' => (∃ q' u, e = .returned u ∧ QV I' q' u ∧ Tx q q') ∧ H' = [])
theorem b1N (q : Cq.Qn) (ih : ∀ q', Cq.Qn.size q' < q.size → a6U q') : a6U q := by
 intro p c n I hps hform hwd hn
 have hwi : q.i.length + q.r.length + q.t.length ≤ 1000000000 := by unfold Cq.Qn.wide at hwd; omega
 refine zT func52 fun w0 hw0 => ?_
 refine yU 3 ?_
 intro b1 hb1
 refine yU 1 ?_
 intro b2 hb2
 refine AP (fun hc3 hc3p => ?_) (fun hc3 hc3p => ?_)
 ·have hk : q.k ≠ 1 := bne_iff_ne.1 hc3
  obtain ⟨_, hk2, hk4, qa, qb, htw, hfa, hfb⟩ := (Cq.DU hform).resolve_left hk
  have hln := htw.len
  have hsz2 := htw.sizes
  have hwd2 := htw.wide
  obtain ⟨bl, off, cs', T, fr, pa, ca, pb, cb, rfl, hbl, hca, hcb, hkb, hpa, hpb⟩ := hps.WT htw
  refine yU 1 ?_
  refine Cj.AL [1] [] 18 (by kernel_rfl) ?_
  have hbl_2 := hbl
  refine yU 4 ?_
  refine JA.fix BM (fun fx4 => ?_)
  refine JA.tk 4 rfl fx4 (OQ (off' := off) GL zK) ?_
  refine JA.tk 5 rfl fx4 (CO AA zK (yY.IY hbl_2) hca) ?_
  refine JA.tk 6 rfl fx4 BR ?_
  refine JA.tk 8 rfl fx4 (DN (off' := 4) tU32 FQ) ?_
  refine JA.tk 9 rfl fx4 (DV isAgg30 (yY.EG 0 rfl)) ?_
  refine JA.tk 10 rfl fx4 (OQ (off' := off + 5) GL zK) ?_
  refine JA.tk 11 rfl fx4 (CO AA zK (yY.IY hbl_2) hcb) ?_
  refine JA.tk 12 rfl fx4 BR ?_
  refine JA.tk 13 rfl fx4 (NC rfl rfl rfl (ND (by omega))) ?_
  refine JA.eqv 22 rfl (show _ = i64 ((n + 1 : Nat) : Int) from (congrArg i64 (by omega))) ?_
  refine zO 7 rfl (zM (H1 := []) rfl rfl rfl rfl rfl (ih qa (by omega) pa ca n _ hpa hfa (by omega) (by omega)) ?_ (fun _ _ _ _ h => by obtain ⟨⟨_, _, h, _⟩, _⟩ := h; cases h) (fun _ _ h => by obtain ⟨⟨_, _, h, _⟩, _⟩ := h; cases h))
  intro v5 I6 H7 hle8 hp9
  have hbl := hle8 _ _ hbl
  have hpa := hpa.mono hle8
  have hpb := hpb.mono hle8
  obtain ⟨⟨q1, v5x, hv5, ⟨p1, c1, rfl, hp1⟩, ht1⟩, rfl⟩ := hp9; cases hv5
  refine ⟨⟨(Le.trans (Le.refl _) hle8), (HSub.c 1 rfl HSub.n), CSub.n⟩, ?_⟩
  refine zO 14 rfl (zM (H1 := []) rfl rfl rfl rfl rfl (ih qb (by omega) pb cb (n + 1) _ hpb hfb (by omega) (by omega)) ?_ (fun _ _ _ _ h => by obtain ⟨⟨_, _, h, _⟩, _⟩ := h; cases h) (fun _ _ h => by obtain ⟨⟨_, _, h, _⟩, _⟩ := h; cases h))
  intro v10 I11 H12 hle13 hp14
  have hbl := hle13 _ _ hbl
  have hpa := hpa.mono hle13
  have hpb := hpb.mono hle13
  have hp1 := hp1.mono hle13
  obtain ⟨⟨q2, v10x, hv10, ⟨p2, c2, rfl, hp2⟩, ht2⟩, rfl⟩ := hp14; cases hv10
  refine ⟨⟨(Le.trans (Le.trans (Le.refl _) hle8) hle13), (HSub.c 1 rfl HSub.n), CSub.n⟩, ?_⟩
  refine zO 15 rfl (zX rfl rfl rfl GL zK BX rfl rfl rfl rfl (zQ.agg rfl (zQ.agg rfl zQ.none)) ?_)
  intro b15 hb15
  refine ⟨⟨(Le.trans (Le.trans (Le.refl _) hle8) hle13), (HSub.c 2 rfl HSub.n), CSub.n⟩, ?_⟩
  refine JA.persist hb15 (fun I17 hle16 hb15i => ?_)
  have hbl := hle16 _ _ hbl
  have hpa := hpa.mono hle16
  have hpb := hpb.mono hle16
  have hp1 := hp1.mono hle16
  have hp2 := hp2.mono hle16
  refine JA.fix BM (fun fx18 => ?_)
  refine JA.tk 16 rfl fx18 (zS (pl := #[(0, 1), (1, 1), (2, 1), (3, 1), (4, 1)]) rfl rfl BX rfl tU32 (fun w => by simp [IC, FQ, CG]) (zL.part rfl rfl rfl (yV.c yV.z) (zL.part rfl rfl rfl (yV.s (yV.s (yV.s (yV.s (yV.c yV.z))))) zL.none))) ?_
  refine zO 17 rfl (qq2 0 zK (yV.c (yV.c (yV.c (yV.c (yV.c yV.z))))) yX.z ?_)
  refine ⟨⟨(Le.trans (Le.trans (Le.trans (Le.refl _) hle8) hle13) hle16), (HSub.c 1 rfl HSub.n), CSub.n⟩, ?_⟩
  refine EZ ?_
  refine Ej.seq (Cj.ret (Ej.IK ?_))
  refine Ej.CP (Keeps.d (Keeps.d Keeps.n)) rfl rfl rfl (yY.at 0 rfl) AA zK rfl ?_
  exact ⟨⟨Ix.AB q.k q1 q2, _, rfl, ⟨some ⟨b15, 0, none⟩, 2, rfl, PS.two hp1 hp2 hb15i⟩, Tx.two hk hk2 hk4 htw ht1 ht2⟩, rfl⟩
 have hk : q.k = 1 := QS hc3
 refine yU 5 ?_
 intro b19 hb19
 refine AP (fun hc20 hc20p => ?_) (fun hc20 hc20p => ?_)
 ·refine yU 16 ?_
  refine J.ev 46 (i64 (((q.t.length + n + q.r.length + q.i.length) % 10 : Nat) : Int)) rfl (congrArg i64 (by rw [Int.tmod_eq_emod_of_nonneg (by omega)]; omega)) ?_
  refine BD (((q.t.length + n + q.r.length + q.i.length) % 10)) ?_
  refine J.z (zN rfl rfl EK (yY.at 0 rfl) (b9W (q.t.length + n + q.r.length + q.i.length))) ?_
  refine J.z (DN (off' := 3) tU32 CG) ?_
  refine J.op rfl (qq2 2 CG (yV.s (yV.s (yV.s (yV.c yV.z)))) (yX.s (yX.s yX.z)) ?_)
  refine J.MX (J.z (AU rfl rfl AA zK (yY.at 2 rfl) rfl rfl) ?_)
  refine J.op rfl (qq2 1 zK (yV.c (yV.c (yV.c (yV.c (yV.c yV.z))))) (yX.s yX.z) ?_)
  refine J.ns (Cj.ret ?_)
  refine Ej.CP (Keeps.d (Keeps.d (Keeps.d Keeps.n))) rfl rfl rfl (yY.at 1 rfl) AA zK rfl ?_
  exact ⟨⟨⟨q.k, q.i, q.r, srW.getD ((q.t.length + n + q.r.length + q.i.length) % 10) [], q.ps⟩, _, rfl, ⟨p, c, rfl, hps⟩, Tx.leaf hk hform _ (b7S _)⟩, rfl⟩
 refine Cj.skip (Ej.seq (Cj.sr (J.z (AU rfl rfl AA zK (yY.at 2 rfl) rfl rfl) ?_)))
 refine J.op rfl (qq2 1 zK (yV.c (yV.c (yV.c (yV.c (yV.c yV.z))))) (yX.s yX.z) ?_)
 refine J.ns (Cj.ret ?_)
 refine Ej.CP (Keeps.d (Keeps.d (Keeps.d Keeps.n))) rfl rfl rfl (yY.at 1 rfl) AA zK rfl ?_
 exact ⟨⟨q, _, rfl, ⟨p, c, rfl, hps⟩, Tx.same hform⟩, rfl⟩
theorem b6V q : a6U q := by
  suffices ∀ n (q : Cq.Qn), q.size < n → a6U q from this _ q (Nat.lt_succ_self _)
  intro n
  induction n with
  | zero => intro q h; omega
  | succ n ih => intro q h; exact b1N q fun q' h' => ih q' (by omega)
structure b9H (q : Cq.Qn) : Prop where
  form : Cq.form q = true
  depth : Cq.depth q ≤ 6
  size : q.size ≤ 200
  wide : q.wide ≤ 12000
theorem UH v l (hll : l.length ≤ 1000000000000) I (hl : RQ I l v) : yZ Tryz.prog 16 [v] I [] (fun e I' H' => (∃ q u, e = .returned u ∧ QV I' q u ∧ b9H q) ∧ H' = []) := by
 obtain ⟨hf, hd, hw, hz⟩ := Cq.b1L l
 have hwd := Cq.b2w hf
 obtain ⟨pl, cl, hve⟩ := EJ hl
 subst hve
 refine zT func16 fun w0 hw0 => ?_
 refine yU 3 ?_
 intro b1 hb1
 refine BH (b2V _ l hll _ hl) ?_
 intro v2 I3 H4 hle5 hp6
 have hl := hl.mono hle5
 obtain ⟨⟨v2x, hv2, pq, cq, rfl, hpq⟩, rfl⟩ := hp6; cases hv2
 refine BH (b6V (Cq.VJ l) pq cq l.length _ hpq hf (by omega) (by omega)) ?_
 intro v7 I8 H9 hle10 hp11
 have hl := hl.mono hle10
 have hpq := hpq.mono hle10
 obtain ⟨⟨q2, v7x, hv7, ⟨p2, c2, rfl, hp2⟩, ht2⟩, rfl⟩ := hp11; cases hv7
 refine yU 4 ?_
 refine Ej.CP (Keeps.d Keeps.n) rfl rfl rfl (yY.at 0 rfl) AA zK rfl ?_
 exact ⟨⟨q2, _, rfl, ⟨p2, c2, rfl, hp2⟩, ⟨ht2.form, by rw [ht2.depth]; exact hd, by rw [ht2.size]; exact hz, by have := ht2.wide; omega⟩⟩, rfl⟩
end Go.Proofs.YtekmeaoblpfnpaaGreatDoor
end
namespace Go.Stab
variable {α:Type} {lt:α→α→Bool}
structure RH (lt : α → α → Bool) : Prop where
  neg : ∀ x y z, lt x z = true → lt x y = true ∨ lt y z = true
  asy : ∀ x y, lt x y = true → lt y x = false
def TL (lt:α→α→Bool) (p q:α×Nat):Prop:=lt p.1 q.1=true∨(lt q.1 p.1=false∧p.2<q.2)
theorem TL.irr (h : RH lt) {p} (g : TL lt p p) : False := by
  rcases g with g | ⟨_, g⟩
  · have := h.asy _ _ g; rw [g] at this; cases this
  omega
theorem TL.tr (h : RH lt) {p q r} (g : TL lt p q) (k : TL lt q r) : TL lt p r := by
  rcases g with g | ⟨g1, g2⟩
  · have h1 := h.neg p.1 r.1 q.1 g
    rcases h1 with h1 | h1
    · exact .inl h1
    rcases k with k | ⟨k1, _⟩
    · have := h.asy _ _ k; rw [h1] at this; cases this
    rw [h1] at k1; cases k1
  rcases k with k | ⟨k1, k2⟩
  · rcases h.neg q.1 p.1 r.1 k with h1 | h1
    · rw [h1] at g1; cases g1
    exact .inl h1
  refine .inr ⟨?_, by omega⟩
  cases hr : lt r.1 p.1 with
  | false => rfl
  | true =>
    rcases h.neg r.1 q.1 p.1 hr with h1 | h1
    · rw [h1] at k1; cases k1
    rw [h1] at g1; cases g1
abbrev AO (lt:α→α→Bool) (l:List (α×Nat)):Prop:=l.Pairwise (TL lt)
theorem AO.uniq (h : RH lt) : ∀ {l l' : List (α × Nat)}, AO lt l → AO lt l' → l.Perm l' → l = l'
  | [], _, _, _, hp => (List.Perm.nil_eq hp)
  | a :: l, [], _, _, hp => by have := hp.length_eq; simp at this
  | a :: l, b :: l', h1, h2, hp => by
    have h1' := List.pairwise_cons.1 h1
    have h2' := List.pairwise_cons.1 h2
    have hab : a = b := by
      have ha : a ∈ b :: l' := hp.mem_iff.1 (.head _)
      have hb : b ∈ a :: l := hp.mem_iff.2 (.head _)
      rcases List.mem_cons.1 ha with g | g
      · exact g
      rcases List.mem_cons.1 hb with k | k
      · exact k.symm
      exact (TL.irr h (TL.tr h (h1'.1 _ k) (h2'.1 _ g))).elim
    subst hab
    rw [AO.uniq h h1'.2 h2'.2 ((List.perm_cons a).1 hp)]
def Stab (lt : α → α → Bool) (l r : List α) : Prop := ∃ t : List (α × Nat), t.map (·.1) = r ∧ t.Perm l.zipIdx ∧ AO lt t
theorem Stab.uniq (h : RH lt) {l r r'} : Stab lt l r → Stab lt l r' → r = r' := by
  rintro ⟨t, rfl, hp, hs⟩ ⟨t', rfl, hp', hs'⟩
  rw [AO.uniq h hs hs' (hp.trans hp'.symm)]
theorem Stab.perm {l r} (h : Stab lt l r) : r.Perm l := by
  obtain ⟨t, rfl, hp, _⟩ := h
  have := hp.map (·.1)
  rwa [List.zipIdx_map_fst] at this
def Low (l r : List (α × Nat)) : Prop := ∀ x ∈ l, ∀ y ∈ r, x.2 < y.2
theorem TL.le {p q} (hi : p.2 < q.2) (h : lt q.1 p.1 = false) : TL lt p q := .inr ⟨h, hi⟩
theorem AO.ins {l r x} (h : RH lt) (hs : AO lt (l ++ r)) (hi : ∀ y ∈ l ++ r, y.2 < x.2) (hl : ∀ y, l.getLast? = some y → lt x.1 y.1 = false) (hr : ∀ y ∈ r, lt x.1 y.1 = true) : AO lt (l ++ x :: r) := by
  have hs' := List.pairwise_append.1 hs
  refine List.pairwise_append.2 ⟨hs'.1, List.pairwise_cons.2 ⟨fun y hy => .inl (hr y hy), hs'.2.1⟩, fun a ha b hb => ?_⟩
  rcases List.mem_cons.1 hb with g | g
  · subst g
    cases hg : l.getLast? with
    | none => rw [List.getLast?_eq_none_iff.1 hg] at ha; cases ha
    | some y =>
      have h1 : TL lt y b := TL.le (hi y (List.mem_append_left _ (List.mem_of_getLast? hg))) (hl y hg)
      obtain ⟨l', rfl⟩ : ∃ l', l = l' ++ [y] := by
        obtain ⟨hn, he⟩ := List.getLast?_eq_some_iff.1 hg
        exact ⟨hn, he⟩
      rcases List.mem_append.1 ha with k | k
      · exact TL.tr h ((List.pairwise_append.1 hs'.1).2.2 a k y (.head _)) h1
      rw [List.mem_singleton.1 k]; exact h1
  exact hs'.2.2 a ha b g
theorem AO.halves {L1 L2 R1 R2 M1 M2} (h : RH lt) (hL : AO lt (L1 ++ L2)) (hR : AO lt (R1 ++ R2)) (h1 : ∀ x y, L1.getLast? = some x → R2.head? = some y → TL lt x y) (h2 : ∀ x y, R1.getLast? = some x → L2.head? = some y → TL lt x y)
    (p1 : M1.Perm (L1 ++ R1)) (p2 : M2.Perm (L2 ++ R2)) (s1 : AO lt M1) (s2 : AO lt M2) : AO lt (M1 ++ M2) := by
  have cross : ∀ {A B C D : List (α × Nat)}, AO lt (A ++ B) → AO lt (C ++ D) → (∀ x y, A.getLast? = some x → D.head? = some y → TL lt x y) → ∀ x ∈ A, ∀ y ∈ D, TL lt x y := by
    intro A B C D hAB hCD hc x hx y hy
    have hA := (List.pairwise_append.1 hAB).1
    have hD := (List.pairwise_append.1 hCD).2.1
    cases hg : A.getLast? with
    | none => rw [List.getLast?_eq_none_iff.1 hg] at hx; cases hx
    | some a =>
      obtain ⟨A', rfl⟩ := List.getLast?_eq_some_iff.1 hg
      cases D with
      | nil => cases hy
      | cons d D' =>
        have had := hc a d hg rfl
        have hxd : TL lt x d := by
          rcases List.mem_append.1 hx with k | k
          · exact TL.tr h ((List.pairwise_append.1 hA).2.2 x k a (.head _)) had
          rw [List.mem_singleton.1 k]; exact had
        rcases List.mem_cons.1 hy with k | k
        · rw [k]; exact hxd
        exact TL.tr h hxd ((List.pairwise_cons.1 hD).1 y k)
  have hL' := List.pairwise_append.1 hL
  have hR' := List.pairwise_append.1 hR
  refine List.pairwise_append.2 ⟨s1, s2, fun x hx y hy => ?_⟩
  rcases List.mem_append.1 (p1.mem_iff.1 hx) with kx | kx <;> rcases List.mem_append.1 (p2.mem_iff.1 hy) with ky | ky
  · exact hL'.2.2 x kx y ky
  · exact cross hL hR h1 x kx y ky
  · exact cross hR hL h2 x kx y ky
  exact hR'.2.2 x kx y ky
theorem AO.mid {l r x} (h : RH lt) (hs : AO lt (l ++ r)) (hl : ∀ y, l.getLast? = some y → TL lt y x) (hr : ∀ y, r.head? = some y → TL lt x y) : AO lt (l ++ x :: r) := by
  have hs' := List.pairwise_append.1 hs
  have hxr : ∀ y ∈ r, TL lt x y := by
    intro y hy
    cases r with
    | nil => cases hy
    | cons d r' =>
      rcases List.mem_cons.1 hy with k | k
      · rw [k]; exact hr d rfl
      exact TL.tr h (hr d rfl) ((List.pairwise_cons.1 hs'.2.1).1 y k)
  refine List.pairwise_append.2 ⟨hs'.1, List.pairwise_cons.2 ⟨hxr, hs'.2.1⟩, fun a ha b hb => ?_⟩
  have hax : TL lt a x := by
    cases hg : l.getLast? with
    | none => rw [List.getLast?_eq_none_iff.1 hg] at ha; cases ha
    | some y =>
      obtain ⟨l', rfl⟩ := List.getLast?_eq_some_iff.1 hg
      rcases List.mem_append.1 ha with k | k
      · exact TL.tr h ((List.pairwise_append.1 hs'.1).2.2 a k y (.head _)) (hl y hg)
      rw [List.mem_singleton.1 k]; exact hl y hg
  rcases List.mem_cons.1 hb with g | g
  · rw [g]; exact hax
  exact TL.tr h hax (hxr b g)
theorem Low.mono {l r l' r' : List (α × Nat)} (h : Low l r) (h1 : ∀ x ∈ l', x ∈ l) (h2 : ∀ x ∈ r', x ∈ r) : Low l' r' := fun x hx y hy => h x (h1 x hx) y (h2 y hy)
structure Pos (lt : α → α → Bool) (x : α) (out : List α) (j k : Nat) : Prop where
  le : k ≤ j
  bef : ∀ y, (out.take k).getLast? = some y → lt x y = false
  aft : ∀ y ∈ (out.take j).drop k, lt x y = true
theorem Pos.nil x out : Pos lt x out 0 0 := ⟨Nat.le_refl _, fun y h => by simp at h, fun y h => by simp at h⟩
theorem Pos.next {x y out j k} (h : Pos lt x out j k) (hy : out[j]? = some y) : Pos lt x out (j + 1) (if lt x y = true then k else j + 1) := by
  split
  · rename_i hl
    refine ⟨Nat.le_succ_of_le h.le, h.bef, fun z hz => ?_⟩
    rw [List.take_add_one, hy, List.drop_append_of_le_length (by
      have := (List.getElem?_eq_some_iff.1 hy).1
      rw [List.length_take]; have := h.le; omega)] at hz
    rcases List.mem_append.1 hz with g | g
    · exact h.aft z g
    rw [show z = y by simpa using g]; exact hl
  rename_i hl
  refine ⟨Nat.le_refl _, fun z hz => ?_, fun z hz => ?_⟩
  · rw [List.take_add_one, hy] at hz
    rw [show z = y by simpa using hz.symm]
    simpa using hl
  rw [List.drop_eq_nil_of_le (by rw [List.length_take]; omega)] at hz; cases hz
theorem Stab.nil : Stab lt ([] : List α) [] := ⟨[], rfl, .refl _, .nil⟩
theorem b9j {d : List α} {y} (h : y ∈ d.zipIdx) : y.2 < d.length := by
  have := List.snd_lt_add_of_mem_zipIdx h
  omega
theorem Stab.ins {d out x k} (h : RH lt) (hs : Stab lt d out) (hp : Pos lt x out out.length k) : Stab lt (d ++ [x]) (out.take k ++ x :: out.drop k) := by
  obtain ⟨t, rfl, hp1, hs1⟩ := hs
  refine ⟨t.take k ++ (x, d.length) :: t.drop k, by simp, ?_, ?_⟩
  · rw [List.zipIdx_append]
    refine List.perm_middle.trans ?_
    rw [List.take_append_drop]
    refine (List.Perm.cons _ hp1).trans ?_
    simpa using (List.perm_append_comm (l₁ := [(x, d.length)]) (l₂ := d.zipIdx))
  refine AO.ins h (by rw [List.take_append_drop]; exact hs1) (fun y hy => ?_) (fun y hy => ?_) (fun y hy => ?_)
  · rw [List.take_append_drop] at hy
    exact b9j (hp1.mem_iff.1 hy)
  · refine hp.bef y.1 ?_
    rw [← List.map_take, List.getLast?_map, hy]; rfl
  refine hp.aft y.1 ?_
  rw [List.take_of_length_le (Nat.le_refl _), ← List.map_drop]
  exact List.mem_map_of_mem hy
section
variable {τ:Type}
theorem RY {A B : List τ} {x : τ} {n : Nat} (h : n = A.length) : (A ++ x :: B)[n]? = some x := by subst h; simp
theorem set_mid {A B : List τ} {x y : τ} {n : Nat} (h : n = A.length) : (A ++ x :: B).set n y = A ++ y :: B := by subst h; simp
theorem a3C {l : List τ} {k} (h : k < l.length) : ∃ A x B, l = A ++ x :: B ∧ A.length = k := ⟨l.take k, l[k], l.drop (k + 1), by rw [← List.drop_eq_getElem_cons h, List.take_append_drop], by rw [List.length_take]; omega⟩
theorem SN {l : List τ} {k} (h : k ≤ l.length) : ∃ A B, l = A ++ B ∧ A.length = k := ⟨l.take k, l.drop k, (List.take_append_drop k l).symm, by rw [List.length_take]; omega⟩
def XB (A X M Y B : List τ) (k : Nat) : List τ := A ++ (Y.take k ++ (X.drop k ++ (M ++ (X.take k ++ (Y.drop k ++ B)))))
theorem b9c (A X M Y B : List τ) k (h : X.length = Y.length) : (XB A X M Y B k).length = A.length + X.length + M.length + Y.length + B.length := by
  unfold XB; simp only [List.length_append, List.length_take, List.length_drop]; omega
theorem b7n {A X M Y B : List τ} {k} (hk : k < X.length) (h : X.length = Y.length) : ∃ x y, (XB A X M Y B k)[A.length + k]? = some x ∧ (XB A X M Y B k)[A.length + X.length + M.length + k]? = some y ∧
    ((XB A X M Y B k).set (A.length + k) y).set (A.length + X.length + M.length + k) x = XB A X M Y B (k + 1) := by
  obtain ⟨X1, x, X2, rfl, h1⟩ := a3C hk
  obtain ⟨Y1, y, Y2, rfl, h2⟩ := a3C (l := Y) (k := k) (by omega)
  have e : XB A (X1 ++ x :: X2) M (Y1 ++ y :: Y2) B k = (A ++ Y1) ++ x :: (X2 ++ M ++ X1 ++ y :: (Y2 ++ B)) := by
    unfold XB
    rw [List.take_left' h1, List.take_left' h2, List.drop_left' h1, List.drop_left' h2]
    simp
  have e2 : XB A (X1 ++ x :: X2) M (Y1 ++ y :: Y2) B (k + 1) = ((A ++ Y1) ++ y :: (X2 ++ M ++ X1)) ++ x :: (Y2 ++ B) := by
    unfold XB
    rw [List.append_cons X1, List.append_cons Y1, List.take_left' (l₁ := Y1 ++ [y]) (by simp [h2]), List.take_left' (l₁ := X1 ++ [x]) (by simp [h1]), List.drop_left' (l₁ := X1 ++ [x]) (by simp [h1]), List.drop_left' (l₁ := Y1 ++ [y]) (by simp [h2])]
    simp
  have hl : X2.length = Y2.length := by simp at h; omega
  refine ⟨x, y, ?_, ?_, ?_⟩
  · rw [e]; exact RY (by simp [h2])
  · rw [e, show (A ++ Y1) ++ x :: (X2 ++ M ++ X1 ++ y :: (Y2 ++ B)) = ((A ++ Y1) ++ x :: (X2 ++ M ++ X1)) ++ y :: (Y2 ++ B) by simp]
    exact RY (by simp; omega)
  rw [e, e2, set_mid (by simp [h2]), show (A ++ Y1) ++ y :: (X2 ++ M ++ X1 ++ y :: (Y2 ++ B)) = ((A ++ Y1) ++ y :: (X2 ++ M ++ X1)) ++ y :: (Y2 ++ B) by simp]
  exact set_mid (by simp; omega)
theorem b5a (A X M Y B : List τ) : XB A X M Y B 0 = A ++ (X ++ (M ++ (Y ++ B))) := by simp [XB]
theorem b8E {A X M Y B : List τ} {n} (h1 : X.length = n) (h2 : Y.length = n) : XB A X M Y B n = A ++ (Y ++ (M ++ (X ++ B))) := by
  unfold XB
  rw [List.take_of_length_le (by omega), List.take_of_length_le (by omega), List.drop_of_length_le (by omega), List.drop_of_length_le (by omega)]
  simp
def QH (A P : List τ) (x : τ) (Q R : List τ) : List τ := A ++ (P ++ x :: (Q ++ R))
theorem a8H (A P : List τ) (x : τ) (Q R : List τ) : (QH A P x Q R).length = A.length + P.length + 1 + Q.length + R.length := by
  unfold QH; simp only [List.length_append, List.length_cons]; omega
theorem b0S {A P : List τ} {x Q R} {j : Nat} (h : j = A.length + P.length) : (QH A P x Q R)[j]? = some x := by
  unfold QH
  rw [← List.append_assoc]
  exact RY (by simp [h])
theorem a6s {A P : List τ} {x y : τ} {Q R} {j : Nat} (h : j = A.length + P.length) : (QH A (P ++ [y]) x Q R)[j]? = some y ∧ ((QH A (P ++ [y]) x Q R).set (j + 1) y).set j x = QH A P x (y :: Q) R := by
  unfold QH
  rw [show A ++ ((P ++ [y]) ++ x :: (Q ++ R)) = (A ++ P) ++ y :: x :: (Q ++ R) by simp]
  refine ⟨RY (by simp [h]), ?_⟩
  rw [show (A ++ P) ++ y :: x :: (Q ++ R) = ((A ++ P) ++ [y]) ++ x :: (Q ++ R) by simp, set_mid (by simp [h, Nat.add_assoc]), show ((A ++ P) ++ [y]) ++ y :: (Q ++ R) = (A ++ P) ++ y :: y :: (Q ++ R) by simp, set_mid (by simp [h])]
  simp
end
section
variable {α:Type} {lt:α→α→Bool}
def Tags (l : List (α × Nat)) : Prop := l.Pairwise fun x y => x.2 < y.2
theorem Tags.low {l r : List (α × Nat)} (h : Tags (l ++ r)) : Low l r := (List.pairwise_append.1 h).2.2
theorem Low.perm {l r l' r' : List (α × Nat)} (h : Low l r) (h1 : l'.Perm l) (h2 : r'.Perm r) : Low l' r' := fun x hx y hy => h x (h1.mem_iff.1 hx) y (h2.mem_iff.1 hy)
structure VQ (lt : α → α → Bool) (M : List (α × Nat)) (k : Nat) (P : List (α × Nat)) (x : α × Nat) (Q : List (α × Nat)) : Prop where
  at' : M[k]? = some x
  perm : (P ++ Q).Perm (M.take k)
  GH : AO lt (P ++ Q)
  up : ∀ y ∈ Q, lt x.1 y.1 = true
theorem VQ.start {M S k x} (h : M[k]? = some x) (hp : S.Perm (M.take k)) (hs : AO lt S) : VQ lt M k S x [] := ⟨h, by simpa using hp, by simpa using hs, fun y hy => by cases hy⟩
theorem VQ.down {M P Q k x y} (h : VQ lt M k (P ++ [y]) x Q) (hl : lt x.1 y.1 = true) : VQ lt M k P x (y :: Q) :=
  ⟨h.at', by have := h.perm; simpa using this, by have := h.GH; simpa using this, fun z hz => (List.mem_cons.1 hz).elim (fun e => by rw [e]; exact hl) (h.up z)⟩
theorem VQ.done (hsw : RH lt) {M P Q k x} (h : VQ lt M k P x Q) (ht : Tags M) (hl : ∀ y, P.getLast? = some y → lt x.1 y.1 = false) : (P ++ x :: Q).Perm (M.take (k + 1)) ∧ AO lt (P ++ x :: Q) := by
  have hlt := (List.getElem?_eq_some_iff.1 h.at').1
  have he : M.take (k + 1) = M.take k ++ [x] := by rw [List.take_add_one, h.at']; rfl
  refine ⟨?_, AO.ins hsw h.GH (fun y hy => ?_) hl h.up⟩
  · rw [he]
    refine List.perm_middle.trans ?_
    exact (List.Perm.cons x h.perm).trans (List.perm_append_comm (l₁ := [x]))
  have hy' : y ∈ M.take k := h.perm.mem_iff.1 hy
  have hM : Tags (M.take (k + 1)) := ht.sublist (List.take_sublist _ _)
  rw [he] at hM
  exact hM.low y hy' x (by simp)
theorem AO.merge {L1 L2 R1 R2 M1 M2} (h : RH lt) (hL : AO lt (L1 ++ L2)) (hR : AO lt (R1 ++ R2)) (hlow : Low (L1 ++ L2) (R1 ++ R2)) (h1 : ∀ x y, L1.getLast? = some x → R2.head? = some y → lt y.1 x.1 = false) (h2 : ∀ x y, R1.getLast? = some x → L2.head? = some y → lt x.1 y.1 = true)
    (p1 : M1.Perm (L1 ++ R1)) (p2 : M2.Perm (L2 ++ R2)) (s1 : AO lt M1) (s2 : AO lt M2) : AO lt (M1 ++ M2) :=
  AO.halves h hL hR (fun x y hx hy => TL.le (hlow x (List.mem_append_left _ (List.mem_of_getLast? hx)) y (List.mem_append_right _ (List.mem_of_mem_head? hy))) (h1 x y hx hy)) (fun x y hx hy => .inl (h2 x y hx hy)) p1 p2 s1 s2
theorem a0t {L1 L2 R1 R2 M1 M2 : List (α × Nat)} (p1 : M1.Perm (L1 ++ R1)) (p2 : M2.Perm (L2 ++ R2)) : (M1 ++ M2).Perm ((L1 ++ L2) ++ (R1 ++ R2)) := by
  refine (p1.append p2).trans ?_
  rw [List.append_assoc, List.append_assoc]
  refine List.Perm.append_left L1 ?_
  rw [← List.append_assoc, ← List.append_assoc]
  exact List.Perm.append_right R2 List.perm_append_comm
theorem AO.b6g {x R1 R2} (h : RH lt) (hR : AO lt (R1 ++ R2)) (hlow : Low [x] (R1 ++ R2)) (h1 : ∀ y, R1.getLast? = some y → lt y.1 x.1 = true) (h2 : ∀ y, R2.head? = some y → lt y.1 x.1 = false) : AO lt (R1 ++ x :: R2) :=
  AO.mid h hR (fun y hy => .inl (h1 y hy)) (fun y hy => TL.le (hlow x (.head _) y (List.mem_append_right _ (List.mem_of_mem_head? hy))) (h2 y hy))
theorem AO.b4h {x L1 L2} (h : RH lt) (hL : AO lt (L1 ++ L2)) (hlow : Low (L1 ++ L2) [x]) (h1 : ∀ y, L1.getLast? = some y → lt x.1 y.1 = false) (h2 : ∀ y, L2.head? = some y → lt x.1 y.1 = true) : AO lt (L1 ++ x :: L2) :=
  AO.mid h hL (fun y hy => TL.le (hlow y (List.mem_append_left _ (List.mem_of_getLast? hy)) x (.head _)) (h1 y hy)) (fun y hy => .inl (h2 y hy))
structure Bk (lt : α → α → Bool) (D T : List (α × Nat)) : Prop where
  perm : D.Perm T
  GH : AO lt D
theorem Bk.len {D T} (h : Bk lt D T) : D.length = T.length := h.perm.length_eq
inductive Full (lt : α → α → Bool) (z : Nat) : List (α × Nat) → List (α × Nat) → Prop where
  | nil : Full lt z [] []
  | cons {D1 T1 D T : List (α × Nat)} : D1.length = z → Bk lt D1 T1 → Full lt z D T → Full lt z (D1 ++ D) (T1 ++ T)
inductive Chunks (lt : α → α → Bool) (z : Nat) : List (α × Nat) → List (α × Nat) → Prop where
  | last {D T : List (α × Nat)} : D.length ≤ z → Bk lt D T → Chunks lt z D T
  | cons {D1 T1 D T : List (α × Nat)} : D1.length = z → Bk lt D1 T1 → Chunks lt z D T → Chunks lt z (D1 ++ D) (T1 ++ T)
theorem Full.snoc {z P TP D T} (h : Full lt z P TP) (hz : D.length = z) (hb : Bk lt D T) : Full lt z (P ++ D) (TP ++ T) := by
  induction h with
  | nil => have := Full.cons hz hb Full.nil; simpa using this
  | cons h1 h2 _ ih => rw [List.append_assoc, List.append_assoc]; exact .cons h1 h2 ih
theorem Full.app {z P TP D T} (h : Full lt z P TP) (hc : Chunks lt z D T) : Chunks lt z (P ++ D) (TP ++ T) := by
  induction h with
  | nil => exact hc
  | cons h1 h2 _ ih => rw [List.append_assoc, List.append_assoc]; exact .cons h1 h2 ih
theorem Chunks.perm {z D T} (h : Chunks lt z D T) : D.Perm T := by
  induction h with
  | last _ h => exact h.perm
  | cons _ h _ ih => exact h.perm.append ih
theorem Full.perm {z D T} (h : Full lt z D T) : D.Perm T := by
  induction h with
  | nil => exact .refl _
  | cons _ h _ ih => exact h.perm.append ih
theorem Chunks.first {z D T} (h : Chunks lt z D T) (hz : z ≤ D.length) : ∃ D1 T1 D' T', D = D1 ++ D' ∧ T = T1 ++ T' ∧ D1.length = z ∧ Bk lt D1 T1 ∧ Chunks lt z D' T' := by
  cases h with
  | last h1 h2 => exact ⟨D, T, [], [], by simp, by simp, by omega, h2, .last (Nat.zero_le _) ⟨.refl _, .nil⟩⟩
  | cons h1 h2 h3 => exact ⟨_, _, _, _, rfl, rfl, h1, h2, h3⟩
theorem Chunks.all {z D T} (h : Chunks lt z D T) (hz : D.length ≤ z) : Bk lt D T := by
  induction h with
  | last _ h => exact h
  | @cons D1 T1 D T h1 h2 h3 ih =>
    rw [List.length_append] at hz
    have hD : D = [] := List.length_eq_zero_iff.1 (by omega)
    have hT : T = [] := List.length_eq_zero_iff.1 (by have := h3.perm.length_eq; rw [hD] at this; simpa using this.symm)
    rw [hD, hT, List.append_nil, List.append_nil]; exact h2
theorem Bk.low {D1 D2 T1 T2 T} (h1 : Bk lt D1 T1) (h2 : Bk lt D2 T2) (ht : Tags (T1 ++ (T2 ++ T))) : Low D1 D2 :=
  Low.perm (Low.mono ht.low (fun _ h => h) (fun _ h => List.mem_append_left _ h)) h1.perm h2.perm
theorem Tags.tl {T1 T : List (α × Nat)} (h : Tags (T1 ++ T)) : Tags T := (List.pairwise_append.1 h).2.1
theorem Bk.cat {D1 D2 T1 T2 M} (h1 : Bk lt D1 T1) (h2 : Bk lt D2 T2) (hp : M.Perm (D1 ++ D2)) (hs : AO lt M) : Bk lt M (T1 ++ T2) := ⟨hp.trans (h1.perm.append h2.perm), hs⟩
theorem b6w (l : List α) k : Tags (l.zipIdx k) := by
  induction l generalizing k with
  | nil => exact .nil
  | cons a r ih =>
    rw [List.zipIdx_cons]
    refine List.pairwise_cons.2 ⟨fun y hy => ?_, ih _⟩
    have := List.le_snd_of_mem_zipIdx hy
    dsimp only; omega
theorem Bk.c0T {l D} (h : Bk lt D l.zipIdx) : Stab lt l (D.map (·.1)) := ⟨D, rfl, h.perm, h.GH⟩
end
end Go.Stab
section
namespace Go.Proofs.YtekmeaoblpfnpaaGreatDoor
open _root_.Go.Proofs.Tryz
open Go Go.Sx Go.Stab
structure QI where
  q : Cq.Qn
  p : Option Addr
  c : Nat
abbrev TQ := QI × Nat
def tqC (x : TQ) : List Value := AV x.1.q x.1.p x.1.c
theorem BK x : (tqC x).length = 5 := rfl
structure c0U where
  J : Heap
  X : List TQ
  U : List TQ
  V : List TQ
  Y : List TQ
abbrev DI (b : Nat) (l : List TQ) (sp : List Value) : Nat × Obj := (b, zJ 32 (l.flatMap tqC ++ sp))
theorem a3s (b : Nat) (A X M Y B : List TQ) (c N a e n : Nat) sp (fv : Value) (hxy : X.length = Y.length) (hN : N = A.length + X.length + M.length + Y.length + B.length) (ha : a = A.length) (he : e = A.length + X.length + M.length) (hn : n = X.length) (hl : N ≤ 1000000000) I : yZ Tryz.prog 326 [.slice (some ⟨b, 0, none⟩) N c, i64 (a : Int), i64 (e : Int), i64 (n : Int), fv] I [DI b (A ++ (X ++ (M ++ (Y ++ B)))) sp] (fun ev _ H' => ev = .returned (.tuple #[]) ∧ H' = [DI b (A ++ (Y ++ (M ++ (X ++ B)))) sp]) := by
 subst hn
 refine zT func326 fun w0 hw0 => ?_
 refine yU 6 ?_
 refine Cj.loop (ι := Nat) (fun y => y ≤ X.length) (fun y => X.length - y) (fun y => [(0, .slice (some ⟨b, 0, none⟩) N c), (1, i64 (a : Int)), (2, i64 (e : Int)), (3, i64 (X.length : Int)), (10, i64 (y : Int))]) (fun y => _) (fun y => [DI b (XB A X M Y B y) sp]) 0 (Nat.zero_le _) ⟨rfl, rfl, rfl, rfl, rfl, trivial⟩ rfl (by rw [b5a]) ?_
 intro k hk
 have hln := b9c A X M Y B k hxy
 refine AP (fun hc1 hc1p => ?_) (fun hc1 hc1p => ?_)
 ·refine yU 4 ?_
  obtain ⟨x, y, hgx, hgy, hnx⟩ := b7n (A := A) (M := M) (B := B) (k := k) (by omega) hxy
  rw [← ha] at hgx
  rw [← he] at hgy
  rw [← he, ← ha] at hnx
  refine Cj.AL [] [] 24 (by kernel_rfl) ?_
  refine BD ((e + k) * 5) ?_
  refine yU 4 ?_
  refine JA.fix BM (fun fx2 => ?_)
  refine JA.tk 18 rfl fx2 (DF (off' := (a + k) * 5) rfl rfl rfl GL zK (by omega) (by omega) (by omega)) ?_
  refine JA.all [13, 19] (by kernel_rfl) (by simp) ?_
  intro i hi
  simp only [List.mem_cons, List.not_mem_nil, or_false] at hi
  rcases hi with rfl | rfl
  ·refine ⟨_, rfl, rfl, ?_⟩
   refine AX (CO AA zK (yY.at 0 rfl) (DT BK hgy)) rfl rfl ?_
   refine yU 1 ?_
   refine zO 19 rfl (AX (CO AA zK (yY.at 0 rfl) (DT BK hgx)) rfl rfl ?_)
   refine BD ((a + k) * 5) ?_
   refine zO 21 rfl (BN 0 rfl rfl rfl rfl rfl rfl zK rfl rfl (EW (x := y) BK (by first | omega | (simp only [List.length_set]; omega))) yX.z ?_)
   refine BD ((e + k) * 5) ?_
   refine zO 23 rfl (BN 0 rfl rfl rfl rfl rfl rfl zK rfl rfl (EW (x := x) BK (by first | omega | (simp only [List.length_set]; omega))) yX.z ?_)
   refine yU 9 ?_
   refine Ej.round (k + 1) (by omega) (by omega) ⟨rfl, rfl, rfl, rfl, rfl, trivial⟩ rfl (by rw [hnx])
  refine ⟨_, rfl, rfl, ?_⟩
  refine AX (CO AA zK (yY.at 0 rfl) (DT BK hgx)) rfl rfl ?_
  refine yU 1 ?_
  refine zO 13 rfl (AX (CO AA zK (yY.at 0 rfl) (DT BK hgy)) rfl rfl ?_)
  refine BD ((a + k) * 5) ?_
  refine zO 21 rfl (BN 0 rfl rfl rfl rfl rfl rfl zK rfl rfl (EW (x := y) BK (by first | omega | (simp only [List.length_set]; omega))) yX.z ?_)
  refine BD ((e + k) * 5) ?_
  refine zO 23 rfl (BN 0 rfl rfl rfl rfl rfl rfl zK rfl rfl (EW (x := x) BK (by first | omega | (simp only [List.length_set]; omega))) yX.z ?_)
  refine yU 9 ?_
  refine Ej.round (k + 1) (by omega) (by omega) ⟨rfl, rfl, rfl, rfl, rfl, trivial⟩ rfl (by rw [hnx])
 refine yU 4 ?_
 refine Ej.GY rfl rfl ?_
 exact ⟨rfl, by rw [show k = X.length by omega, b8E rfl hxy.symm]⟩
theorem b3t (b : Nat) (A U V B : List TQ) (c N a m e : Nat) sp (fv : Value) (hU : U ≠ []) (hV : V ≠ []) (hN : N = A.length + U.length + V.length + B.length) (ha : a = A.length) (hm : m = A.length + U.length) (he : e = A.length + U.length + V.length) (hl : N ≤ 1000000000) I : yZ Tryz.prog 310 [.slice (some ⟨b, 0, none⟩) N c, i64 (a : Int), i64 (m : Int), i64 (e : Int), fv] I [DI b (A ++ (U ++ (V ++ B))) sp] (fun ev _ H' => ev = .returned (.tuple #[]) ∧ H' = [DI b (A ++ (V ++ (U ++ B))) sp]) := by
 refine zT func310 fun w0 hw0 => ?_
 refine yU 5 ?_
 refine J.ev 14 (i64 (U.length : Int)) rfl (congrArg i64 (by omega)) ?_
 refine yU 8 ?_
 refine J.ev 17 (i64 (V.length : Int)) rfl (congrArg i64 (by omega)) ?_
 refine yU 5 ?_
 refine Cj.loop (ι := c0U) (fun y => y.U ≠ [] ∧ y.V ≠ [] ∧ A.length + y.X.length + y.U.length = m ∧ y.X ++ (y.V ++ (y.U ++ y.Y)) = V ++ U) (fun y => y.U.length + y.V.length) (fun y => [(0, .slice (some ⟨b, 0, none⟩) N c), (2, i64 (m : Int)), (4, fv), (10, i64 (y.U.length : Int)), (11, i64 (y.V.length : Int))]) (fun y => y.J) (fun y => [DI b (A ++ (y.X ++ (y.U ++ (y.V ++ (y.Y ++ B))))) sp]) ⟨_, [], U, V, []⟩ ⟨hU, hV, by dsimp only; rw [hm, List.length_nil]; rfl, by dsimp only; simp⟩ ⟨rfl, rfl, rfl, rfl, rfl, trivial⟩ rfl (by simp) ?_
 rintro ⟨J1, X, U', V', Y⟩ ⟨hU', hV', hml, htg⟩
 dsimp only at hU' hV' hml htg ⊢
 have hU1 := List.length_pos_iff.2 hU'
 have hV1 := List.length_pos_iff.2 hV'
 have hlen := congrArg List.length htg
 simp only [List.length_append] at hlen
 refine AP (fun hc1 hc1p => ?_) (fun hc1 hc1p => ?_)
 ·refine AP (fun hc2 hc2p => ?_) (fun hc2 hc2p => ?_)
  ·refine yU 1 ?_
   obtain ⟨U1, U2, rfl, h1⟩ := SN (l := U') (k := V'.length) (by omega)
   have hgt : V'.length < (U1 ++ U2).length := by omega
   refine yU 5 ?_
   refine J.ev 27 (i64 ((A ++ X).length : Int)) rfl (congrArg i64 (by simp only [List.length_append] at *; omega)) ?_
   refine yU 3 ?_
   refine J.perm (H' := [DI b ((A ++ X) ++ (U1 ++ (U2 ++ (V' ++ (Y ++ B))))) sp]) (.of_eq (by simp only [List.append_assoc, List.nil_append, List.append_nil])) ?_
   refine J.pull Pull.z ?_
   refine BH (a3s b (A ++ X) U1 U2 V' (Y ++ B) c N (A ++ X).length m V'.length sp fv h1 (by simp only [List.length_append, List.length_nil] at *; omega) rfl (by simp only [List.length_append] at *; omega) h1.symm hl _) ?_
   intro v3 I4 H5 hle6 hp7
   obtain ⟨h, rfl⟩ := hp7; cases h
   refine yU 6 ?_
   refine J.ev 34 (i64 (U2.length : Int)) rfl (congrArg i64 (by rw [List.length_append]; omega)) ?_
   refine yU 3 ?_
   refine Ej.round ⟨_, X ++ V', U2, U1, Y⟩ ⟨List.ne_nil_of_length_pos (by dsimp only; simp only [List.length_append] at *; omega), List.ne_nil_of_length_pos (by dsimp only; simp only [List.length_append] at *; omega), (by dsimp only; simp only [List.length_append] at *; omega), by dsimp only; rw [← htg]; simp only [List.append_assoc]⟩ (by dsimp only; simp only [List.length_append] at *; omega) ⟨rfl, rfl, rfl, rfl, (congrArg (fun n : Nat => some (i64 (n : Int))) h1.symm), trivial⟩ rfl (by simp only [List.append_assoc, List.nil_append, List.append_nil])
  refine yU 1 ?_
  obtain ⟨V1, V2, rfl, h1⟩ := SN (l := V') (k := V'.length - U'.length) (by omega)
  have h2 : V2.length = U'.length := by rw [List.length_append] at *; omega
  refine yU 5 ?_
  refine J.ev 38 (i64 ((A ++ X).length : Int)) rfl (congrArg i64 (by simp only [List.length_append] at *; omega)) ?_
  refine yU 5 ?_
  refine J.ev 43 (i64 ((m + V1.length : Nat) : Int)) rfl (congrArg i64 (by rw [List.length_append] at *; omega)) ?_
  refine yU 2 ?_
  refine J.perm (H' := [DI b ((A ++ X) ++ (U' ++ (V1 ++ (V2 ++ (Y ++ B))))) sp]) (.of_eq (by simp only [List.append_assoc, List.nil_append, List.append_nil])) ?_
  refine J.pull Pull.z ?_
  refine BH (a3s b (A ++ X) U' V1 V2 (Y ++ B) c N (A ++ X).length (m + V1.length) U'.length sp fv h2.symm (by simp only [List.length_append, List.length_nil] at *; omega) rfl (by simp only [List.length_append] at *; omega) rfl hl _) ?_
  intro v8 I9 H10 hle11 hp12
  obtain ⟨h, rfl⟩ := hp12; cases h
  refine yU 6 ?_
  refine J.ev 49 (i64 (V1.length : Int)) rfl (congrArg i64 (by rw [List.length_append] at *; omega)) ?_
  refine yU 3 ?_
  refine Ej.round ⟨_, X, V2, V1, U' ++ Y⟩ ⟨List.ne_nil_of_length_pos (by dsimp only; simp only [List.length_append] at *; omega), List.ne_nil_of_length_pos (by dsimp only; simp only [List.length_append] at *; omega), (by dsimp only; simp only [List.length_append] at *; omega), by dsimp only; rw [← htg]; simp only [List.append_assoc]⟩ (by dsimp only; simp only [List.length_append] at *; omega) ⟨rfl, rfl, rfl, (congrArg (fun n : Nat => some (i64 (n : Int))) h2.symm), rfl, trivial⟩ rfl (by simp only [List.append_assoc, List.nil_append, List.append_nil])
 refine yU 10 ?_
 refine J.ev 53 (i64 ((A ++ X).length : Int)) rfl (congrArg i64 (by simp only [List.length_append] at *; omega)) ?_
 refine yU 3 ?_
 refine J.perm (H' := [DI b ((A ++ X) ++ (U' ++ ([] ++ (V' ++ (Y ++ B))))) sp]) (.of_eq (by simp only [List.append_assoc, List.nil_append, List.append_nil])) ?_
 refine J.pull Pull.z ?_
 refine BH (a3s b (A ++ X) U' [] V' (Y ++ B) c N (A ++ X).length m U'.length sp fv (by omega) (by simp only [List.length_append, List.length_nil] at *; omega) rfl (by simp only [List.length_append, List.length_nil] at *; omega) rfl hl _) ?_
 intro v13 I14 H15 hle16 hp17
 obtain ⟨h, rfl⟩ := hp17; cases h
 refine yU 1 ?_
 refine Ej.GY rfl rfl ?_
 exact ⟨rfl, by have h := congrArg (fun t => A ++ (t ++ B)) htg; simp only [List.append_assoc, List.nil_append, List.append_nil] at h ⊢; rw [h]⟩
end Go.Proofs.YtekmeaoblpfnpaaGreatDoor
end
section
namespace Go.Proofs.YtekmeaoblpfnpaaGreatDoor
open _root_.Go.Proofs.Tryz
open Go Go.Sx Go.Stab
abbrev KW (x : QI) : List Value := AV x.q x.p x.c
structure XK {σ : Type} (f : Nat) (cap : List Value) (hS : σ → HL) (Inv : Heap → σ → Prop) (lt : QI → QI → Bool) (Good : Heap → QI → Prop) : Prop where
  call : ∀ (x y : QI) (I : Heap) (s : σ), Good I x → Good I y → Inv I s → yZ Tryz.prog f ([.agg (KW x).toArray, .agg (KW y).toArray] ++ cap) I (hS s) (fun e I' H' => ∃ (z : Int) (s' : σ), e = .returned (i64 z) ∧ decide (z < 0) = lt x y ∧ Inv I' s' ∧ H' = hS s')
  imono : ∀ {I I' : Heap} {s : σ}, Inv I s → Le I I' → Inv I' s
  gmono : ∀ {I I' : Heap} {x : QI}, Good I x → Le I I' → Good I' x
  sw : RH lt
structure c1d (σ : Type) where
  J : Heap
  k : Nat
  S : List TQ
  s : σ
structure c0O (σ : Type) where
  J : Heap
  P : List TQ
  Q : List TQ
  s : σ
theorem b8G {α : Type} {lt} (M : List (α × Nat)) : AO lt (M.take 1) := by
  cases M with
  | nil => exact List.Pairwise.nil
  | cons a r => exact List.pairwise_singleton _ _
theorem a9w {α : Type} {l : List α} {k x} (h : l[k]? = some x) : l.drop k = x :: l.drop (k + 1) := by
  obtain ⟨hl, he⟩ := List.getElem?_eq_some_iff.1 h
  rw [List.drop_eq_getElem_cons hl, he]
theorem b0D {σ : Type} {f : Nat} {cap : List Value} {hS : σ → HL} {Inv : Heap → σ → Prop} {lt : QI → QI → Bool} {Good : Heap → QI → Prop} (hC : XK f cap hS Inv lt Good) (b : Nat) (A M B : List TQ) (c N a e : Nat) (sp : List Value) (hN : N = A.length + M.length + B.length) (ha : a = A.length) (he : e = A.length + M.length) (hl : N ≤ 1000000000) (ht : Tags M) (I : Heap) (s0 : σ) (hI : Inv I s0) (hG : ∀ x ∈ M, Good I x.1) :
    yZ Tryz.prog 284 [.slice (some ⟨b, 0, none⟩) N c, i64 (a : Int), i64 (e : Int), .func (.func f) ([] : List Value).toArray cap.toArray] I ([DI b (A ++ (M ++ B)) sp] ++ hS s0) (fun ev I' H' => ∃ M' s', ev = .returned (.tuple #[]) ∧ M'.Perm M ∧ AO lt M' ∧ Inv I' s' ∧ H' = [DI b (A ++ (M' ++ B)) sp] ++ hS s') := by
 refine zT func284 fun w0 hw0 => ?_
 refine yU 8 ?_
 refine Cj.loop (ι := c1d σ) (fun y => 1 ≤ y.k ∧ y.S.Perm (M.take y.k) ∧ AO lt y.S ∧ Le I y.J ∧ Inv y.J y.s) (fun y => M.length + 1 - y.k) (fun y => [(0, .slice (some ⟨b, 0, none⟩) N c), (1, i64 (a : Int)), (2, i64 (e : Int)), (3, .func (.func f) ([] : List Value).toArray cap.toArray), (8, i64 ((a + y.k : Nat) : Int))]) (fun y => y.J) (fun y => [DI b (A ++ (y.S ++ (M.drop y.k ++ B))) sp] ++ hS y.s) ⟨_, 1, M.take 1, s0⟩ ⟨Nat.le_refl _, .refl _, b8G M, Le.refl _, hI⟩ ⟨rfl, rfl, rfl, rfl, rfl, trivial⟩ rfl (by dsimp only; rw [← List.append_assoc (M.take 1), List.take_append_drop]) ?_
 rintro ⟨J1, k, S, s1⟩ ⟨hk1, hSp, hSs, hIJ, hI1⟩
 dsimp only at hk1 hSp hSs hIJ hI1 ⊢
 have hSl := hSp.length_eq
 rw [List.length_take] at hSl
 refine AP (fun hc1 hc1p => ?_) (fun hc1 hc1p => ?_)
 ·refine yU 5 ?_
  have hkl : k < M.length := by omega
  obtain ⟨x, hx⟩ : ∃ x, M[k]? = some x := ⟨_, CX hkl⟩
  have hSk : S.length = k := by omega
  rw [a9w hx]
  have hxm : x ∈ M := ET hx
  refine yU 6 ?_
  refine Cj.loop (ι := c0O σ) (fun y => VQ lt M k y.P x y.Q ∧ Le I y.J ∧ Inv y.J y.s) (fun y => y.P.length) (fun y => [(0, .slice (some ⟨b, 0, none⟩) N c), (1, i64 (a : Int)), (2, i64 (e : Int)), (3, .func (.func f) ([] : List Value).toArray cap.toArray), (8, i64 ((a + k : Nat) : Int)), (9, i64 ((a + y.P.length : Nat) : Int))]) (fun y => y.J) (fun y => [DI b (QH A y.P x y.Q (M.drop (k + 1) ++ B)) sp] ++ hS y.s) ⟨_, S, [], s1⟩ ⟨VQ.start hx hSp hSs, hIJ, hI1⟩ ⟨rfl, rfl, rfl, rfl, rfl, (congrArg (fun n : Nat => some (i64 ((a + n : Nat) : Int))) hSk.symm), trivial⟩ rfl rfl ?_
  rintro ⟨J2, P, Q, s2⟩ ⟨hin, hIJ, hI2⟩
  dsimp only at hin hIJ hI2 ⊢
  rcases List.eq_nil_or_concat P with rfl | ⟨P', y, hPe⟩
  ·skip
   refine yU 2 ?_
   refine Cj.AL [0] [] 17 (by kernel_rfl) ?_
   refine JA.fix BM (fun fx2 => ?_)
   refine JA.tk 0 rfl fx2 BR ?_
   refine JA.tk 1 rfl fx2 BR ?_
   refine JA.tk 2 rfl fx2 (a9s rfl rfl rfl) ?_
   refine JA.tk 3 rfl fx2 BR ?_
   refine JA.ZK 4 3 21 true _ rfl fx2 rfl rfl (.inl (congrArg Value.bool (decide_eq_false (by rw [List.length_nil]; omega)))) ?_
   refine JA.ZK 5 3 21 true _ rfl fx2 rfl rfl (.inl (congrArg Value.bool (decide_eq_false (by rw [List.length_nil]; omega)))) ?_
   refine JA.ZK 6 3 21 true _ rfl fx2 rfl rfl (.inl (congrArg Value.bool (decide_eq_false (by rw [List.length_nil]; omega)))) ?_
   refine JA.ZK 7 3 21 true _ rfl fx2 rfl rfl (.inl (congrArg Value.bool (decide_eq_false (by rw [List.length_nil]; omega)))) ?_
   refine JA.ZK 8 3 21 true _ rfl fx2 rfl rfl (.inl (congrArg Value.bool (decide_eq_false (by rw [List.length_nil]; omega)))) ?_
   refine JA.ZK 9 3 21 true _ rfl fx2 rfl rfl (.inl (congrArg Value.bool (decide_eq_false (by rw [List.length_nil]; omega)))) ?_
   refine JA.ZK 10 3 21 true _ rfl fx2 rfl rfl (.inl (congrArg Value.bool (decide_eq_false (by rw [List.length_nil]; omega)))) ?_
   refine JA.ZK 11 3 21 true _ rfl fx2 rfl rfl (.inl (congrArg Value.bool (decide_eq_false (by rw [List.length_nil]; omega)))) ?_
   refine JA.ZK 12 3 21 true _ rfl fx2 rfl rfl (.inl (congrArg Value.bool (decide_eq_false (by rw [List.length_nil]; omega)))) ?_
   refine JA.ZK 13 3 21 true _ rfl fx2 rfl rfl (.inl (congrArg Value.bool (decide_eq_false (by rw [List.length_nil]; omega)))) ?_
   refine JA.ZK 14 3 21 true _ rfl fx2 rfl rfl (.inl (congrArg Value.bool (decide_eq_false (by rw [List.length_nil]; omega)))) ?_
   refine JA.ZK 15 3 21 true _ rfl fx2 rfl rfl (.inl (congrArg Value.bool (decide_eq_false (by rw [List.length_nil]; omega)))) ?_
   refine JA.tk 16 rfl fx2 (a3c rfl rfl (decide_eq_false (by rw [List.length_nil]; omega)) rfl) ?_
   refine EZ ?_
   refine Ej.seq (Cj.cond rfl (fun hc3 => Bool.noConfusion (Eq.trans (Eq.symm rfl) hc3)) (fun hc3 => ?_))
   refine Cj.exit (Ej.a2f (Ej.a0J (Ej.ZU (Ej.PX (Ej.seq (Cj.region (J.z BR ?_)))))))
   refine J.z (NC rfl rfl rfl (ND (by omega))) ?_
   refine J.z FN ?_
   refine J.nil ?_
   refine Ej.round ⟨_, k + 1, [] ++ x :: Q, s2⟩ ⟨by dsimp only; omega, (hin.done hC.sw ht (fun z hz => by simp at hz)).1, (hin.done hC.sw ht (fun z hz => by simp at hz)).2, hIJ, hI2⟩ (by dsimp only; omega) ⟨rfl, rfl, rfl, rfl, rfl, trivial⟩ rfl (by unfold QH; simp only [List.append_assoc, List.cons_append, List.nil_append])
  obtain rfl : P = P' ++ [y] := by rw [hPe, List.concat_eq_append]
  have hPl : (P' ++ [y]).length = P'.length + 1 := by simp
  have hym : y ∈ M := List.mem_of_mem_take (hin.perm.mem_iff.1 (by simp))
  have hgx := b0S (A := A) (P := P' ++ [y]) (x := x) (Q := Q) (R := (M.drop (k + 1) ++ B)) (j := a + (P' ++ [y]).length) (by rw [ha])
  obtain ⟨hgy, hnx⟩ := a6s (A := A) (P := P') (x := x) (y := y) (Q := Q) (R := (M.drop (k + 1) ++ B)) (j := a + P'.length) (by rw [ha])
  have hil := a8H A (P' ++ [y]) x Q (M.drop (k + 1) ++ B)
  have hGx := hC.gmono (hG x hxm) hIJ
  have hGy := hC.gmono (hG y hym) hIJ
  have hml := hin.perm.length_eq
  rw [List.length_append, List.length_take] at hml
  simp only [List.length_append, List.length_drop, List.length_cons, List.length_nil] at hil
  refine yU 2 ?_
  refine Cj.AL [0] [] 17 (by kernel_rfl) ?_
  refine JA.fix BM (fun fx4 => ?_)
  refine JA.tk 0 rfl fx4 BR ?_
  refine JA.tk 1 rfl fx4 BR ?_
  refine JA.tk 2 rfl fx4 (a9s rfl rfl rfl) ?_
  refine JA.tk 3 rfl fx4 BR ?_
  refine JA.UY 4 3 21 true _ rfl fx4 rfl rfl (decide_eq_true (by omega)) BR ?_
  refine JA.UY 5 3 21 true _ rfl fx4 rfl rfl (decide_eq_true (by omega)) BR ?_
  refine JA.UY 6 3 21 true _ rfl fx4 rfl rfl (decide_eq_true (by omega)) BR ?_
  refine JA.UY 7 3 21 true _ rfl fx4 rfl rfl (decide_eq_true (by omega)) (DF (off' := (a + (P' ++ [y]).length) * 5) rfl rfl rfl GL zK (by omega) (by omega) (by omega)) ?_
  refine JA.UY 8 3 21 true _ rfl fx4 rfl rfl (decide_eq_true (by omega)) (CO AA zK (yY.EG 0 rfl) (DT BK hgx)) ?_
  refine JA.UY 9 3 21 true _ rfl fx4 rfl rfl (decide_eq_true (by omega)) BR ?_
  refine JA.UY 10 3 21 true _ rfl fx4 rfl rfl (decide_eq_true (by omega)) BR ?_
  refine JA.UY 11 3 21 true _ rfl fx4 rfl rfl (decide_eq_true (by omega)) (a1I rfl rfl rfl (ND (by omega))) ?_
  refine JA.eqv 29 rfl (show _ = i64 ((a + P'.length : Nat) : Int) from (congrArg i64 (by omega))) ?_
  refine JA.UY 12 3 21 true _ rfl fx4 rfl rfl (decide_eq_true (by omega)) (DF (off' := (a + P'.length) * 5) rfl rfl rfl GL zK (by omega) (by omega) (by omega)) ?_
  refine JA.UY 13 3 21 true _ rfl fx4 rfl rfl (decide_eq_true (by omega)) (CO AA zK (yY.EG 0 rfl) (DT BK hgy)) ?_
  refine JA.stepG 14 3 21 true _ (by kernel_rfl) rfl rfl rfl rfl (decide_eq_true (by omega)) (LP (H1 := hS s2) [_] rfl rfl rfl rfl rfl rfl (hC.call x.1 y.1 _ s2 hGx hGy hI2) ?_ (fun _ _ _ _ ⟨_, _, h, _⟩ => by cases h) (fun _ _ ⟨_, _, h, _⟩ => by cases h))
  intro v5 I6 H7 hle8 hp9
  have hIJ := hIJ.mono hle8
  obtain ⟨z, s3, h, hz, hI3, rfl⟩ := hp9; cases h
  refine ⟨⟨(Le.trans (Le.refl _) hle8), (HSub.c 0 rfl HSub.n), CSub.n⟩, ?_⟩
  refine JA.fix BM (fun fx10 => ?_)
  refine JA.UY 15 3 21 true _ rfl fx10 rfl rfl (decide_eq_true (by omega)) (a4r rfl rfl rfl) ?_
  refine JA.eqv 33 rfl (show _ = .bool (lt x.1 y.1) from (congrArg Value.bool hz)) ?_
  refine JA.zt 16 rfl (a3p rfl rfl (decide_eq_true (by omega)) rfl) ?_
  refine FV (fun hc11 => ?_) (fun hc11 => ?_)
  ·refine yU 4 ?_
   refine Cj.AL [] [] 18 (by kernel_rfl) ?_
   refine yU 5 ?_
   refine JA.ev 41 (i64 ((a + P'.length : Nat) : Int)) rfl (congrArg i64 (by omega)) ?_
   refine yU 3 ?_
   refine JA.ev 44 (i64 ((a + P'.length : Nat) : Int)) rfl (congrArg i64 (by omega)) ?_
   refine BD ((a + P'.length) * 5) ?_
   refine yU 2 ?_
   refine JA.fix BM (fun fx12 => ?_)
   refine JA.tk 12 rfl fx12 (DF (off' := (a + (P' ++ [y]).length) * 5) rfl rfl rfl GL zK (by omega) (by omega) (by omega)) ?_
   refine JA.all [9, 13] (by kernel_rfl) (by simp) ?_
   intro i hi
   simp only [List.mem_cons, List.not_mem_nil, or_false] at hi
   rcases hi with rfl | rfl
   ·refine ⟨_, rfl, rfl, ?_⟩
    refine AX (CO AA zK (yY.at 0 rfl) (DT BK hgy)) rfl rfl ?_
    refine yU 1 ?_
    refine zO 13 rfl (AX (CO AA zK (yY.at 0 rfl) (DT BK hgx)) rfl rfl ?_)
    refine BD ((a + P'.length + 1) * 5) ?_
    refine zO 15 rfl (BN 0 rfl rfl rfl rfl rfl rfl zK rfl rfl (EW (x := y) BK (by first | omega | (simp only [List.length_set]; omega))) yX.z ?_)
    refine BD ((a + P'.length) * 5) ?_
    refine zO 17 rfl (BN 0 rfl rfl rfl rfl rfl rfl zK rfl rfl (EW (x := x) BK (by first | omega | (simp only [List.length_set]; omega))) yX.z ?_)
    refine yU 7 ?_
    refine J.ev 36 (i64 ((a + P'.length : Nat) : Int)) rfl (congrArg i64 (by omega)) ?_
    refine yU 2 ?_
    refine Ej.round ⟨_, P', y :: Q, s3⟩ ⟨hin.down hc11, hIJ, hI3⟩ (by dsimp only; omega) ⟨rfl, rfl, rfl, rfl, rfl, rfl, trivial⟩ rfl (by dsimp only; rw [hnx]; rfl)
   refine ⟨_, rfl, rfl, ?_⟩
   refine AX (CO AA zK (yY.at 0 rfl) (DT BK hgx)) rfl rfl ?_
   refine yU 1 ?_
   refine zO 9 rfl (AX (CO AA zK (yY.at 0 rfl) (DT BK hgy)) rfl rfl ?_)
   refine BD ((a + P'.length + 1) * 5) ?_
   refine zO 15 rfl (BN 0 rfl rfl rfl rfl rfl rfl zK rfl rfl (EW (x := y) BK (by first | omega | (simp only [List.length_set]; omega))) yX.z ?_)
   refine BD ((a + P'.length) * 5) ?_
   refine zO 17 rfl (BN 0 rfl rfl rfl rfl rfl rfl zK rfl rfl (EW (x := x) BK (by first | omega | (simp only [List.length_set]; omega))) yX.z ?_)
   refine yU 7 ?_
   refine J.ev 36 (i64 ((a + P'.length : Nat) : Int)) rfl (congrArg i64 (by omega)) ?_
   refine yU 2 ?_
   refine Ej.round ⟨_, P', y :: Q, s3⟩ ⟨hin.down hc11, hIJ, hI3⟩ (by dsimp only; omega) ⟨rfl, rfl, rfl, rfl, rfl, rfl, trivial⟩ rfl (by dsimp only; rw [hnx]; rfl)
  refine yU 11 ?_
  refine Ej.round ⟨_, k + 1, (P' ++ [y]) ++ x :: Q, s3⟩ ⟨by dsimp only; omega, (hin.done hC.sw ht (fun z hz => by rw [List.getLast?_concat] at hz; cases hz; exact hc11)).1, (hin.done hC.sw ht (fun z hz => by rw [List.getLast?_concat] at hz; cases hz; exact hc11)).2, hIJ, hI3⟩ (by dsimp only; omega) ⟨rfl, rfl, rfl, rfl, rfl, trivial⟩ rfl (by unfold QH; simp only [List.append_assoc, List.cons_append, List.nil_append])
 refine yU 4 ?_
 refine Ej.GY rfl rfl ?_
 have hkM : M.length ≤ k := by omega
 rw [List.take_of_length_le hkM] at hSp
 exact ⟨S, s1, rfl, hSp, hSs, hI1, by rw [List.drop_eq_nil_of_le hkM]; rfl⟩
end Go.Proofs.YtekmeaoblpfnpaaGreatDoor
end
namespace Go.Sx
open Go
section
variable {cx:Cx} {o:Oper} {e:Env} {S:World→Prop}
theorem a2o {x y T U k k' p} (ho : o.op = .binOp .shr T x y U) (hx : ev e x = some (.int k p)) (hy : ev e y = some (.int k' 1)) (hb : min 1 k.bits = 1) : BJ cx o e S (.int k (p.fdiv 2)) := by
  intro a w ha _
  simp [execOp, ho, ha.eval hx, ha.eval hy, eqGuard, binOp, Op.shift, hb]
theorem b3H {n : Nat} (h : n ≤ 4000000000) : IntKind.u64.wrap (n : Int) = (n : Int) := by
  unfold IntKind.wrap
  simp only [IntKind.bits, IntKind.signed, Bool.false_and, Bool.false_eq_true, if_false]
  omega
theorem b8W {n : Nat} : ((n : Int)).fdiv 2 = ((n / 2 : Nat) : Int) := by
  rw [Int.fdiv_eq_ediv_of_nonneg _ (by decide)]
  omega
theorem a3Z {i j : Nat} (h : i + j ≤ 4000000000) : Value.int .i64 (IntKind.i64.wrap ((IntKind.u64.wrap ((i : Int) + (j : Int))).fdiv 2)) = i64 (((i + j) / 2 : Nat) : Int) := by
  rw [show (i : Int) + (j : Int) = ((i + j : Nat) : Int) by omega, b3H h, b8W, ND (by omega)]
