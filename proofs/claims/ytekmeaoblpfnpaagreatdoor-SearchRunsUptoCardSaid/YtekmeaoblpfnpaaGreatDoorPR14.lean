/-
  Own texts on the laws of the seat, joined: the logic, and contracts of functions. Conditions: none.
-/
import Derived.Test.YtekmeaoblpfnpaaGreatDoorNmR
import Derived.Test.YtekmeaoblpfnpaaGreatDoorPR13
set_option linter.all false
set_option maxRecDepth 100000
set_option maxHeartbeats 40000000
section
namespace Go.Proofs.YtekmeaoblpfnpaaGreatDoor
open _root_.Go.Proofs.Tryz
open Go Go.Sx
def MH (m : Nat) (v : Value) (k : Nat) : HL := [(m, jM 180 [v, i64 k])]
abbrev a0c (I : Heap) (l : List Int) (v : Value) : Prop := jW (fun n : Int => [i64 n]) I l v
def a8j (deep : Nat) : Prop := ∀ (m k : Nat) (v : Value) (l : List Int) (I : Heap), a0c I l v → l.length ≤ 1000000000000 → k ≤ l.length → deep ≤ 100 →
  jO Tryz.prog 100 [ptr m 0, i64 deep] I (MH m v k) (fun e I' H' => (∃ u, e = .returned u ∧ QV I' (Cq.made deep l k).1 u) ∧ H' = MH m v (Cq.made deep l k).2)
theorem b3Q {l : List Int} {cs sp : List Value} {o k x} (h : cs.drop o = l.flatMap (fun n : Int => [i64 n]) ++ sp) (hx : l[k]? = some x) : cs[o + k]? = some (i64 x) := by
  have h9 := lW (f := fun n : Int => [i64 n]) (n := 1) (fun _ => rfl) h hx 0 Nat.zero_lt_one
  rw [Nat.mul_one, Nat.add_zero] at h9
  exact h9
theorem pK (m k n : Nat) v l I (hl : a0c I l v) (hll : l.length ≤ 1000000000000) (hk : k ≤ l.length) (hn : 0 < n) (hn2 : n ≤ 1000) :
    jO Tryz.prog 101 [ptr m 0, i64 n] I (MH m v k) (fun e I' H' => e = .returned (i64 (Cq.next l k n).1) ∧ H' = MH m v (Cq.next l k n).2) := by
 obtain ⟨p, c, rfl, hlc, hl2⟩ := hl
 refine jU func101 fun w0 hw0 => ?_
 refine jL 7 ?_
 refine Cj.qC [0] [] 10 (by kernel_rfl) ?_
 refine jS (fun hc2 hc2p => ?_) (fun hc2 hc2p => ?_)
 ·have hnx : Cq.next l k n = (0, k) := by simp [Cq.next, List.getElem?_eq_none (show l.length ≤ k by omega)]
  refine jL 7 ?_
  refine Ej.keep (Keeps.k Keeps.n) ?_
  refine jV ?_
  rw [hnx]; exact ⟨rfl, rfl⟩
 have hlt : k < l.length := by omega
 obtain ⟨x, hx⟩ : ∃ x, l[k]? = some x := ⟨_, kW hlt⟩
 obtain ⟨bl, off, cs', T, fr, sp, rfl, hbl, hat⟩ := hl2 (jT hlt)
 have hpk := Cq.a0z x hn
 have hnx : Cq.next l k n = (Cq.OC x n, k + 1) := by simp [Cq.next, hx]
 refine jL 15 ?_
 refine Cj.qC [0] [] 18 (by kernel_rfl) ?_
 refine jL 9 ?_
 refine JA.fix lI (fun fx3 => ?_)
 refine JA.tk 9 rfl fx3 (nG (off' := off + k) rfl rfl rfl b6l oJ (by omega) (by omega) (by omega)) ?_
 refine JA.tk 10 rfl fx3 (jP rfl rfl JF (jR.zL hbl) (b3Q hat hx)) ?_
 refine JA.tk 11 rfl fx3 q3 ?_
 refine JA.tk 12 rfl fx3 (XT rfl rfl rfl (by omega)) ?_
 refine JA.tk 13 rfl fx3 q3 ?_
 refine JA.tk 14 rfl fx3 (zT rfl rfl rfl (qW (by omega))) ?_
 refine JA.tk 15 rfl fx3 q3 ?_
 refine JA.tk 16 rfl fx3 (XT rfl rfl rfl (by omega)) ?_
 refine JA.eqv 38 rfl (show _ = i64 (Cq.OC x n : Nat) from (by rw [hpk.1])) ?_
 refine jL 4 ?_
 refine Ej.keep (Keeps.k Keeps.n) ?_
 refine jV ?_
 rw [hnx]; exact ⟨rfl, rfl⟩
theorem mM {l : List (List UInt8)} {sp a} (h : a < l.length) : (l.map str ++ sp)[a]? = some (str (l.getD a [])) :=
  nN (by rw [List.getD_eq_getElem?_getD, kW h]; rfl)
theorem a0p l : ∀ (deep k : Nat), k ≤ l.length → (Cq.made deep l k).2 ≤ l.length
  | 0, k, h => Cq.b4h l 9 (Cq.b4h l 6 (Cq.b4h l 6 (Cq.b4h l 5 h)))
  | deep + 1, k, h => by
    simp only [Cq.made]
    split
    · exact Cq.b4h l 9 (Cq.b4h l 6 (Cq.b4h l 6 (Cq.b4h l 5 h)))
    exact a0p l deep _ (a0p l deep _ (Cq.b4h l 5 h))
theorem UK deep (ih : ∀ d, deep = d + 1 → a8j d) : a8j deep := by
 intro m k v l I hl hll hk0 hd
 have hx1 := Cq.next_lt l k (n := 5) (by omega)
 have hk1 : (Cq.next l k 5).2 ≤ l.length := Cq.b4h l 5 hk0
 have hk2 : (Cq.next l (Cq.next l k 5).2 6).2 ≤ l.length := Cq.b4h l 6 hk1
 have hk3 : (Cq.next l (Cq.next l (Cq.next l k 5).2 6).2 6).2 ≤ l.length := Cq.b4h l 6 hk2
 have hk4 : (Cq.next l (Cq.next l (Cq.next l (Cq.next l k 5).2 6).2 6).2 9).2 ≤ l.length := Cq.b4h l 9 hk3
 refine jU func100 fun w0 hw0 => ?_
 refine Cj.sr (J.op rfl (qI rfl rfl rfl rJ rfl ?_))
 intro b1 hb1
 refine J.yC (J.z q3 ?_)
 refine J.pull (Pull.s Pull.z) ?_
 refine J.op rfl (kT (H1 := [_]) rfl rfl rfl rfl rfl (pK m k 5 v l _ hl hll hk0 (by omega) (by omega)) ?_ (fun _ _ _ _ h => by cases h.1) (fun _ _ h => by cases h.1))
 intro v2 I3 H4 hle5 hp6
 have hl := hl.mono hle5
 obtain ⟨hv2, rfl⟩ := hp6; cases hv2
 refine J.as ?_
 refine J.nss ?_
 refine Cj.join (ι := Bool × Heap) (fun y => (y.1 = true → Cq.made deep l k = Cq.leaf l (Cq.next l k 5).2) ∧ (y.1 = false → ∃ d, deep = d + 1 ∧ ¬ ((Cq.next l k 5).1 : Int) < 2) ∧ a0c y.2 l v) (fun y => [(0, ptr m 0), (1, i64 (deep : Int)), (4, ptr b1 0), (5, i64 ((Cq.next l k 5).1 : Int)), (15, .bool y.1)]) (fun y => y.2) (fun y => [(m, jM 180 [v, i64 ((Cq.next l k 5).2 : Int)]), (b1, jM 32 (kD Cq.zero none 0))]) ?_ (fun hcut => ?_)
 ·rintro ⟨y, J9⟩ ⟨hy, hn, hl⟩
  dsimp only at hy hn hl ⊢
  refine Cj.cond rfl (fun hc7 => ?_) (fun hc7 => ?_)
  rotate_left
  ·obtain ⟨d, rfl, hd2⟩ := hn hc7
   have hmd : Cq.made (d + 1) l k = (Cq.two (Cq.next l k 5).1 (Cq.made d l (Cq.next l k 5).2).1 (Cq.made d l (Cq.made d l (Cq.next l k 5).2).2).1, (Cq.made d l (Cq.made d l (Cq.next l k 5).2).2).2) := by simp only [Cq.made]; rw [if_neg (by omega)]
   refine jL 7 ?_
   refine J.ev 35 (i64 (d : Nat)) rfl (by simp) ?_
   refine J.pull Pull.z ?_
   refine kL (ih d rfl m (Cq.next l k 5).2 v l _ hl hll hk1 (by omega)) ?_
   intro v109 I110 H111 hle112 hp113
   have hl := hl.mono hle112
   obtain ⟨⟨v109x, hv109, pa, ca, rfl, hpa⟩, rfl⟩ := hp113; cases hv109
   refine jL 1 ?_
   intro b114 hb114
   refine jL 4 ?_
   refine Cj.qC [0] [] 9 (by kernel_rfl) ?_
   refine jL 5 ?_
   refine JA.ev 41 (i64 (d : Nat)) rfl (by simp) ?_
   refine JA.pull (Pull.s Pull.z) ?_
   refine kL (ih d rfl m (Cq.made d l (Cq.next l k 5).2).2 v l _ hl hll (a0p l d _ hk1) (by omega)) ?_
   intro v116 I117 H118 hle119 hp120
   have hl := hl.mono hle119
   have hpa := hpa.mono hle119
   obtain ⟨⟨v116x, hv116, pb, cb, rfl, hpb⟩, rfl⟩ := hp120; cases hv116
   refine jL 2 ?_
   intro b121 hb121
   refine jL 1 ?_
   refine JA.persist hb121 (fun I123 hle122 hb121i => ?_)
   have hl := hl.mono hle122
   have hpa := hpa.mono hle122
   have hpb := hpb.mono hle122
   refine JA.fix lI (fun fx124 => ?_)
   refine JA.tk 7 rfl fx124 (jX (pl := #[(0, 1), (1, 1), (2, 1), (3, 1), (4, 1)]) rfl rfl rJ rfl tU32 (fun w => by simp [oJ, qQ, kU]) (pR.part rfl rfl rfl (oD.c oD.z) (pR.part rfl rfl rfl (oD.s (oD.s (oD.s (oD.s (oD.c oD.z))))) pR.none))) ?_
   refine q0 8 rfl (q5 2 kE (oD.c (oD.c (oD.c (oD.c (oD.c oD.z))))) (lS.s (lS.s lS.z)) ?_)
   refine ⟨⟨(Le.trans (Le.trans (Le.refl _) hle119) hle122), (HSub.c 1 rfl HSub.n), CSub.n⟩, ?_⟩
   refine JA.done (by kernel_rfl) ?_
   refine Ej.seq (Cj.ret ?_)
   refine Ej.a4V (Keeps.k (Keeps.d (Keeps.d Keeps.n))) rfl rfl rfl (jR.at 2 rfl) lT kE rfl ?_
   rw [hmd]
   exact ⟨⟨_, rfl, some ⟨b121, 0, none⟩, 2, rfl, PS.two hpa hpb hb121i⟩, rfl⟩
  have hmd := (hy hc7)
  have hx2 := Cq.next_lt l (Cq.next l k 5).2 (n := 6) (by omega)
  have hx3 := Cq.next_lt l (Cq.next l (Cq.next l k 5).2 6).2 (n := 6) (by omega)
  have hx4 := Cq.next_lt l (Cq.next l (Cq.next l (Cq.next l k 5).2 6).2 6).2 (n := 9) (by omega)
  refine Cj.sr (J.op rfl (jY rfl rfl rfl lJ kU yN rfl rfl rfl rfl (xM.one rfl (xM.one rfl (xM.one rfl (xM.one rfl (xM.one rfl (xM.one rfl (xM.one rfl (xM.one rfl (xM.one rfl xM.none))))))))) ?_))
  intro b8 hb8
  refine J.as ?_
  refine J.nss ?_
  refine Cj.qC [0] [] 17 (by kernel_rfl) ?_
  refine JA.fix lI (fun fx9 => ?_)
  refine JA.tk 1 rfl fx9 q3 ?_
  refine JA.tk 6 rfl fx9 q3 ?_
  refine JA.tk 10 rfl fx9 q3 ?_
  refine JA.tk 11 rfl fx9 q3 ?_
  refine q0 0 rfl (kT (H1 := []) rfl rfl rfl rfl rfl (UQ _) ?_ (fun _ _ _ _ h => by obtain ⟨⟨_, h, _⟩, _⟩ := h; cases h) (fun _ _ h => by obtain ⟨⟨_, h, _⟩, _⟩ := h; cases h))
  intro v10 I11 H12 hle13 hp14
  have hl := hl.mono hle13
  obtain ⟨⟨v10x, hv10, bi, cbi, spbi, rfl, hbi⟩, rfl⟩ := hp14; cases hv10
  refine ⟨⟨(Le.trans (Le.refl _) hle13), (HSub.c 0 rfl HSub.n), CSub.n⟩, ?_⟩
  refine JA.pull (Pull.s Pull.z) ?_
  refine q0 2 rfl (kT (H1 := [_]) rfl rfl rfl rfl rfl (pK m (Cq.next l k 5).2 6 v l _ hl hll hk1 (by omega) (by omega)) ?_ (fun _ _ _ _ h => by cases h.1) (fun _ _ h => by cases h.1))
  intro v15 I16 H17 hle18 hp19
  have hl := hl.mono hle18
  have hbi := hle18 _ _ hbi
  obtain ⟨hv15, rfl⟩ := hp19; cases hv15
  refine ⟨⟨(Le.trans (Le.trans (Le.refl _) hle13) hle18), (HSub.c 1 rfl HSub.n), CSub.n⟩, ?_⟩
  refine JA.fix lI (fun fx20 => ?_)
  refine JA.tk 3 rfl fx20 (nG (off' := (Cq.next l (Cq.next l k 5).2 6).1) rfl rfl rfl lJ kU (by omega) (by have : Cq.indexes.length = 6 := rfl; omega) (by simp)) ?_
  refine JA.all [4, 5] (by kernel_rfl) (by simp) ?_
  intro i hi
  simp only [List.mem_cons, List.not_mem_nil, or_false] at hi
  rcases hi with rfl | rfl
  ·refine ⟨_, rfl, rfl, ?_⟩
   refine kV (jP rfl rfl lQ (jR.EH hbi) (mM (by exact hx2))) rfl rfl ?_
   refine ⟨⟨(Le.trans (Le.trans (Le.refl _) hle13) hle18), (HSub.c 1 rfl HSub.n), CSub.n⟩, ?_⟩
   refine q0 5 rfl (kT (H1 := []) rfl rfl rfl rfl rfl (EF _) ?_ (fun _ _ _ _ h => by obtain ⟨⟨_, h, _⟩, _⟩ := h; cases h) (fun _ _ h => by obtain ⟨⟨_, h, _⟩, _⟩ := h; cases h))
   intro v21 I22 H23 hle24 hp25
   have hl := hl.mono hle24
   have hbi := hle24 _ _ hbi
   obtain ⟨⟨v21x, hv21, br, cbr, spbr, rfl, hbr⟩, rfl⟩ := hp25; cases hv21
   refine ⟨⟨(Le.trans (Le.trans (Le.trans (Le.refl _) hle13) hle18) hle24), (HSub.c 1 rfl HSub.n), CSub.n⟩, ?_⟩
   refine JA.pull Pull.z ?_
   refine q0 7 rfl (kT (H1 := [_]) rfl rfl rfl rfl rfl (pK m (Cq.next l (Cq.next l k 5).2 6).2 6 v l _ hl hll hk2 (by omega) (by omega)) ?_ (fun _ _ _ _ h => by cases h.1) (fun _ _ h => by cases h.1))
   intro v26 I27 H28 hle29 hp30
   have hl := hl.mono hle29
   have hbi := hle29 _ _ hbi
   have hbr := hle29 _ _ hbr
   obtain ⟨hv26, rfl⟩ := hp30; cases hv26
   refine ⟨⟨(Le.trans (Le.trans (Le.trans (Le.trans (Le.refl _) hle13) hle18) hle24) hle29), (HSub.c 1 rfl HSub.n), CSub.n⟩, ?_⟩
   refine JA.fix lI (fun fx31 => ?_)
   refine JA.tk 8 rfl fx31 (nG (off' := (Cq.next l (Cq.next l (Cq.next l k 5).2 6).2 6).1) rfl rfl rfl lJ kU (by omega) (by have : Cq.relations.length = 6 := rfl; omega) (by simp)) ?_
   refine JA.all [9, 12] (by kernel_rfl) (by simp) ?_
   intro i hi
   simp only [List.mem_cons, List.not_mem_nil, or_false] at hi
   rcases hi with rfl | rfl
   ·refine ⟨_, rfl, rfl, ?_⟩
    refine kV (jP rfl rfl lQ (jR.EH hbr) (mM (by exact hx3))) rfl rfl ?_
    refine ⟨⟨(Le.trans (Le.trans (Le.trans (Le.trans (Le.refl _) hle13) hle18) hle24) hle29), (HSub.c 1 rfl HSub.n), CSub.n⟩, ?_⟩
    refine JA.pull Pull.z ?_
    refine q0 12 rfl (kT (H1 := [_]) rfl rfl rfl rfl rfl (pK m (Cq.next l (Cq.next l (Cq.next l k 5).2 6).2 6).2 9 v l _ hl hll hk3 (by omega) (by omega)) ?_ (fun _ _ _ _ h => by cases h.1) (fun _ _ h => by cases h.1))
    intro v32 I33 H34 hle35 hp36
    have hl := hl.mono hle35
    have hbi := hle35 _ _ hbi
    have hbr := hle35 _ _ hbr
    obtain ⟨hv32, rfl⟩ := hp36; cases hv32
    refine ⟨⟨(Le.trans (Le.trans (Le.trans (Le.trans (Le.trans (Le.refl _) hle13) hle18) hle24) hle29) hle35), (HSub.c 1 rfl HSub.n), CSub.n⟩, ?_⟩
    refine JA.fix lI (fun fx37 => ?_)
    refine JA.tk 13 rfl fx37 (q6 (off' := (Cq.next l (Cq.next l (Cq.next l (Cq.next l k 5).2 6).2 6).2 9).1) lJ kU) ?_
    refine JA.tk 14 rfl fx37 (jP rfl rfl lQ (jR.atC 0 rfl) (mM (l := Cq.texts) (sp := []) (by exact hx4))) ?_
    refine JA.tk 15 rfl fx37 (jX (pl := #[(0, 1), (1, 1), (2, 1), (3, 1), (4, 1)]) rfl rfl rJ rfl tU32 (fun w => by simp [oJ, qQ, kU]) (pR.part rfl rfl rfl (oD.c oD.z) (pR.part rfl rfl rfl (oD.s (oD.c oD.z)) (pR.part rfl rfl rfl (oD.s (oD.s (oD.c oD.z))) (pR.part rfl rfl rfl (oD.s (oD.s (oD.s (oD.c oD.z)))) pR.none))))) ?_
    refine q0 16 rfl (q5 2 kE (oD.c (oD.c (oD.c (oD.c (oD.c oD.z))))) (lS.s (lS.s lS.z)) ?_)
    refine ⟨⟨(Le.trans (Le.trans (Le.trans (Le.trans (Le.trans (Le.refl _) hle13) hle18) hle24) hle29) hle35), (HSub.c 1 rfl HSub.n), CSub.n⟩, ?_⟩
    refine JA.done (by kernel_rfl) ?_
    refine Ej.seq (Cj.rs ?_)
    refine Ej.a4V (Keeps.k (Keeps.d (Keeps.d Keeps.n))) rfl rfl rfl (jR.at 2 rfl) lT kE rfl ?_
    rw [hmd]
    exact ⟨⟨_, rfl, none, 0, rfl, .inl rfl⟩, rfl⟩
   refine ⟨_, rfl, rfl, ?_⟩
   refine mF.pull Pull.z ?_
   refine kT (H1 := [_]) rfl rfl rfl rfl rfl (pK m (Cq.next l (Cq.next l (Cq.next l k 5).2 6).2 6).2 9 v l _ hl hll hk3 (by omega) (by omega)) ?_ (fun _ _ _ _ h => by cases h.1) (fun _ _ h => by cases h.1)
   intro v38 I39 H40 hle41 hp42
   have hl := hl.mono hle41
   have hbi := hle41 _ _ hbi
   have hbr := hle41 _ _ hbr
   obtain ⟨hv38, rfl⟩ := hp42; cases hv38
   refine ⟨⟨(Le.trans (Le.trans (Le.trans (Le.trans (Le.trans (Le.refl _) hle13) hle18) hle24) hle29) hle41), (HSub.c 1 rfl HSub.n), CSub.n⟩, ?_⟩
   refine JA.fix lI (fun fx43 => ?_)
   refine JA.tk 13 rfl fx43 (q6 (off' := (Cq.next l (Cq.next l (Cq.next l (Cq.next l k 5).2 6).2 6).2 9).1) lJ kU) ?_
   refine JA.tk 14 rfl fx43 (jP rfl rfl lQ (jR.atC 0 rfl) (mM (l := Cq.texts) (sp := []) (by exact hx4))) ?_
   refine q0 9 rfl (kV (jP rfl rfl lQ (jR.EH hbr) (mM (by exact hx3))) rfl rfl ?_)
   refine ⟨⟨(Le.trans (Le.trans (Le.trans (Le.trans (Le.trans (Le.refl _) hle13) hle18) hle24) hle29) hle41), (HSub.c 1 rfl HSub.n), CSub.n⟩, ?_⟩
   refine JA.fix lI (fun fx44 => ?_)
   refine JA.tk 15 rfl fx44 (jX (pl := #[(0, 1), (1, 1), (2, 1), (3, 1), (4, 1)]) rfl rfl rJ rfl tU32 (fun w => by simp [oJ, qQ, kU]) (pR.part rfl rfl rfl (oD.c oD.z) (pR.part rfl rfl rfl (oD.s (oD.c oD.z)) (pR.part rfl rfl rfl (oD.s (oD.s (oD.c oD.z))) (pR.part rfl rfl rfl (oD.s (oD.s (oD.s (oD.c oD.z)))) pR.none))))) ?_
   refine q0 16 rfl (q5 2 kE (oD.c (oD.c (oD.c (oD.c (oD.c oD.z))))) (lS.s (lS.s lS.z)) ?_)
   refine ⟨⟨(Le.trans (Le.trans (Le.trans (Le.trans (Le.trans (Le.refl _) hle13) hle18) hle24) hle29) hle41), (HSub.c 1 rfl HSub.n), CSub.n⟩, ?_⟩
   refine JA.done (by kernel_rfl) ?_
   refine Ej.seq (Cj.rs ?_)
   refine Ej.a4V (Keeps.k (Keeps.d (Keeps.d Keeps.n))) rfl rfl rfl (jR.at 2 rfl) lT kE rfl ?_
   rw [hmd]
   exact ⟨⟨_, rfl, none, 0, rfl, .inl rfl⟩, rfl⟩
  refine ⟨_, rfl, rfl, ?_⟩
  refine kT (H1 := []) rfl rfl rfl rfl rfl (EF _) ?_ (fun _ _ _ _ h => by obtain ⟨⟨_, h, _⟩, _⟩ := h; cases h) (fun _ _ h => by obtain ⟨⟨_, h, _⟩, _⟩ := h; cases h)
  intro v45 I46 H47 hle48 hp49
  have hl := hl.mono hle48
  have hbi := hle48 _ _ hbi
  obtain ⟨⟨v45x, hv45, br, cbr, spbr, rfl, hbr⟩, rfl⟩ := hp49; cases hv45
  refine ⟨⟨(Le.trans (Le.trans (Le.trans (Le.refl _) hle13) hle18) hle48), (HSub.c 1 rfl HSub.n), CSub.n⟩, ?_⟩
  refine JA.all [4, 7] (by kernel_rfl) (by simp) ?_
  intro i hi
  simp only [List.mem_cons, List.not_mem_nil, or_false] at hi
  rcases hi with rfl | rfl
  ·refine ⟨_, rfl, rfl, ?_⟩
   refine kV (jP rfl rfl lQ (jR.EH hbi) (mM (by exact hx2))) rfl rfl ?_
   refine ⟨⟨(Le.trans (Le.trans (Le.trans (Le.refl _) hle13) hle18) hle48), (HSub.c 1 rfl HSub.n), CSub.n⟩, ?_⟩
   refine JA.pull Pull.z ?_
   refine q0 7 rfl (kT (H1 := [_]) rfl rfl rfl rfl rfl (pK m (Cq.next l (Cq.next l k 5).2 6).2 6 v l _ hl hll hk2 (by omega) (by omega)) ?_ (fun _ _ _ _ h => by cases h.1) (fun _ _ h => by cases h.1))
   intro v50 I51 H52 hle53 hp54
   have hl := hl.mono hle53
   have hbi := hle53 _ _ hbi
   have hbr := hle53 _ _ hbr
   obtain ⟨hv50, rfl⟩ := hp54; cases hv50
   refine ⟨⟨(Le.trans (Le.trans (Le.trans (Le.trans (Le.refl _) hle13) hle18) hle48) hle53), (HSub.c 1 rfl HSub.n), CSub.n⟩, ?_⟩
   refine JA.fix lI (fun fx55 => ?_)
   refine JA.tk 8 rfl fx55 (nG (off' := (Cq.next l (Cq.next l (Cq.next l k 5).2 6).2 6).1) rfl rfl rfl lJ kU (by omega) (by have : Cq.relations.length = 6 := rfl; omega) (by simp)) ?_
   refine JA.all [9, 12] (by kernel_rfl) (by simp) ?_
   intro i hi
   simp only [List.mem_cons, List.not_mem_nil, or_false] at hi
   rcases hi with rfl | rfl
   ·refine ⟨_, rfl, rfl, ?_⟩
    refine kV (jP rfl rfl lQ (jR.EH hbr) (mM (by exact hx3))) rfl rfl ?_
    refine ⟨⟨(Le.trans (Le.trans (Le.trans (Le.trans (Le.refl _) hle13) hle18) hle48) hle53), (HSub.c 1 rfl HSub.n), CSub.n⟩, ?_⟩
    refine JA.pull Pull.z ?_
    refine q0 12 rfl (kT (H1 := [_]) rfl rfl rfl rfl rfl (pK m (Cq.next l (Cq.next l (Cq.next l k 5).2 6).2 6).2 9 v l _ hl hll hk3 (by omega) (by omega)) ?_ (fun _ _ _ _ h => by cases h.1) (fun _ _ h => by cases h.1))
    intro v56 I57 H58 hle59 hp60
    have hl := hl.mono hle59
    have hbi := hle59 _ _ hbi
    have hbr := hle59 _ _ hbr
    obtain ⟨hv56, rfl⟩ := hp60; cases hv56
    refine ⟨⟨(Le.trans (Le.trans (Le.trans (Le.trans (Le.trans (Le.refl _) hle13) hle18) hle48) hle53) hle59), (HSub.c 1 rfl HSub.n), CSub.n⟩, ?_⟩
    refine JA.fix lI (fun fx61 => ?_)
    refine JA.tk 13 rfl fx61 (q6 (off' := (Cq.next l (Cq.next l (Cq.next l (Cq.next l k 5).2 6).2 6).2 9).1) lJ kU) ?_
    refine JA.tk 14 rfl fx61 (jP rfl rfl lQ (jR.atC 0 rfl) (mM (l := Cq.texts) (sp := []) (by exact hx4))) ?_
    refine JA.tk 15 rfl fx61 (jX (pl := #[(0, 1), (1, 1), (2, 1), (3, 1), (4, 1)]) rfl rfl rJ rfl tU32 (fun w => by simp [oJ, qQ, kU]) (pR.part rfl rfl rfl (oD.c oD.z) (pR.part rfl rfl rfl (oD.s (oD.c oD.z)) (pR.part rfl rfl rfl (oD.s (oD.s (oD.c oD.z))) (pR.part rfl rfl rfl (oD.s (oD.s (oD.s (oD.c oD.z)))) pR.none))))) ?_
    refine q0 16 rfl (q5 2 kE (oD.c (oD.c (oD.c (oD.c (oD.c oD.z))))) (lS.s (lS.s lS.z)) ?_)
    refine ⟨⟨(Le.trans (Le.trans (Le.trans (Le.trans (Le.trans (Le.refl _) hle13) hle18) hle48) hle53) hle59), (HSub.c 1 rfl HSub.n), CSub.n⟩, ?_⟩
    refine JA.done (by kernel_rfl) ?_
    refine Ej.seq (Cj.rs ?_)
    refine Ej.a4V (Keeps.k (Keeps.d (Keeps.d Keeps.n))) rfl rfl rfl (jR.at 2 rfl) lT kE rfl ?_
    rw [hmd]
    exact ⟨⟨_, rfl, none, 0, rfl, .inl rfl⟩, rfl⟩
   refine ⟨_, rfl, rfl, ?_⟩
   refine mF.pull Pull.z ?_
   refine kT (H1 := [_]) rfl rfl rfl rfl rfl (pK m (Cq.next l (Cq.next l (Cq.next l k 5).2 6).2 6).2 9 v l _ hl hll hk3 (by omega) (by omega)) ?_ (fun _ _ _ _ h => by cases h.1) (fun _ _ h => by cases h.1)
   intro v62 I63 H64 hle65 hp66
   have hl := hl.mono hle65
   have hbi := hle65 _ _ hbi
   have hbr := hle65 _ _ hbr
   obtain ⟨hv62, rfl⟩ := hp66; cases hv62
   refine ⟨⟨(Le.trans (Le.trans (Le.trans (Le.trans (Le.trans (Le.refl _) hle13) hle18) hle48) hle53) hle65), (HSub.c 1 rfl HSub.n), CSub.n⟩, ?_⟩
   refine JA.fix lI (fun fx67 => ?_)
   refine JA.tk 13 rfl fx67 (q6 (off' := (Cq.next l (Cq.next l (Cq.next l (Cq.next l k 5).2 6).2 6).2 9).1) lJ kU) ?_
   refine JA.tk 14 rfl fx67 (jP rfl rfl lQ (jR.atC 0 rfl) (mM (l := Cq.texts) (sp := []) (by exact hx4))) ?_
   refine q0 9 rfl (kV (jP rfl rfl lQ (jR.EH hbr) (mM (by exact hx3))) rfl rfl ?_)
   refine ⟨⟨(Le.trans (Le.trans (Le.trans (Le.trans (Le.trans (Le.refl _) hle13) hle18) hle48) hle53) hle65), (HSub.c 1 rfl HSub.n), CSub.n⟩, ?_⟩
   refine JA.fix lI (fun fx68 => ?_)
   refine JA.tk 15 rfl fx68 (jX (pl := #[(0, 1), (1, 1), (2, 1), (3, 1), (4, 1)]) rfl rfl rJ rfl tU32 (fun w => by simp [oJ, qQ, kU]) (pR.part rfl rfl rfl (oD.c oD.z) (pR.part rfl rfl rfl (oD.s (oD.c oD.z)) (pR.part rfl rfl rfl (oD.s (oD.s (oD.c oD.z))) (pR.part rfl rfl rfl (oD.s (oD.s (oD.s (oD.c oD.z)))) pR.none))))) ?_
   refine q0 16 rfl (q5 2 kE (oD.c (oD.c (oD.c (oD.c (oD.c oD.z))))) (lS.s (lS.s lS.z)) ?_)
   refine ⟨⟨(Le.trans (Le.trans (Le.trans (Le.trans (Le.trans (Le.refl _) hle13) hle18) hle48) hle53) hle65), (HSub.c 1 rfl HSub.n), CSub.n⟩, ?_⟩
   refine JA.done (by kernel_rfl) ?_
   refine Ej.seq (Cj.rs ?_)
   refine Ej.a4V (Keeps.k (Keeps.d (Keeps.d Keeps.n))) rfl rfl rfl (jR.at 2 rfl) lT kE rfl ?_
   rw [hmd]
   exact ⟨⟨_, rfl, none, 0, rfl, .inl rfl⟩, rfl⟩
  refine ⟨_, rfl, rfl, ?_⟩
  refine mF.pull Pull.z ?_
  refine kT (H1 := [_]) rfl rfl rfl rfl rfl (pK m (Cq.next l (Cq.next l k 5).2 6).2 6 v l _ hl hll hk2 (by omega) (by omega)) ?_ (fun _ _ _ _ h => by cases h.1) (fun _ _ h => by cases h.1)
  intro v69 I70 H71 hle72 hp73
  have hl := hl.mono hle72
  have hbi := hle72 _ _ hbi
  have hbr := hle72 _ _ hbr
  obtain ⟨hv69, rfl⟩ := hp73; cases hv69
  refine ⟨⟨(Le.trans (Le.trans (Le.trans (Le.trans (Le.refl _) hle13) hle18) hle48) hle72), (HSub.c 1 rfl HSub.n), CSub.n⟩, ?_⟩
  refine JA.fix lI (fun fx74 => ?_)
  refine JA.tk 8 rfl fx74 (nG (off' := (Cq.next l (Cq.next l (Cq.next l k 5).2 6).2 6).1) rfl rfl rfl lJ kU (by omega) (by have : Cq.relations.length = 6 := rfl; omega) (by simp)) ?_
  refine JA.all [4, 9, 12] (by kernel_rfl) (by simp) ?_
  intro i hi
  simp only [List.mem_cons, List.not_mem_nil, or_false] at hi
  rcases hi with rfl | rfl | rfl
  ·refine ⟨_, rfl, rfl, ?_⟩
   refine kV (jP rfl rfl lQ (jR.EH hbi) (mM (by exact hx2))) rfl rfl ?_
   refine ⟨⟨(Le.trans (Le.trans (Le.trans (Le.trans (Le.refl _) hle13) hle18) hle48) hle72), (HSub.c 1 rfl HSub.n), CSub.n⟩, ?_⟩
   refine JA.all [9, 12] (by kernel_rfl) (by simp) ?_
   intro i hi
   simp only [List.mem_cons, List.not_mem_nil, or_false] at hi
   rcases hi with rfl | rfl
   ·refine ⟨_, rfl, rfl, ?_⟩
    refine kV (jP rfl rfl lQ (jR.EH hbr) (mM (by exact hx3))) rfl rfl ?_
    refine ⟨⟨(Le.trans (Le.trans (Le.trans (Le.trans (Le.refl _) hle13) hle18) hle48) hle72), (HSub.c 1 rfl HSub.n), CSub.n⟩, ?_⟩
    refine JA.pull Pull.z ?_
    refine q0 12 rfl (kT (H1 := [_]) rfl rfl rfl rfl rfl (pK m (Cq.next l (Cq.next l (Cq.next l k 5).2 6).2 6).2 9 v l _ hl hll hk3 (by omega) (by omega)) ?_ (fun _ _ _ _ h => by cases h.1) (fun _ _ h => by cases h.1))
    intro v75 I76 H77 hle78 hp79
    have hl := hl.mono hle78
    have hbi := hle78 _ _ hbi
    have hbr := hle78 _ _ hbr
    obtain ⟨hv75, rfl⟩ := hp79; cases hv75
    refine ⟨⟨(Le.trans (Le.trans (Le.trans (Le.trans (Le.trans (Le.refl _) hle13) hle18) hle48) hle72) hle78), (HSub.c 1 rfl HSub.n), CSub.n⟩, ?_⟩
    refine JA.fix lI (fun fx80 => ?_)
    refine JA.tk 13 rfl fx80 (q6 (off' := (Cq.next l (Cq.next l (Cq.next l (Cq.next l k 5).2 6).2 6).2 9).1) lJ kU) ?_
    refine JA.tk 14 rfl fx80 (jP rfl rfl lQ (jR.atC 0 rfl) (mM (l := Cq.texts) (sp := []) (by exact hx4))) ?_
    refine JA.tk 15 rfl fx80 (jX (pl := #[(0, 1), (1, 1), (2, 1), (3, 1), (4, 1)]) rfl rfl rJ rfl tU32 (fun w => by simp [oJ, qQ, kU]) (pR.part rfl rfl rfl (oD.c oD.z) (pR.part rfl rfl rfl (oD.s (oD.c oD.z)) (pR.part rfl rfl rfl (oD.s (oD.s (oD.c oD.z))) (pR.part rfl rfl rfl (oD.s (oD.s (oD.s (oD.c oD.z)))) pR.none))))) ?_
    refine q0 16 rfl (q5 2 kE (oD.c (oD.c (oD.c (oD.c (oD.c oD.z))))) (lS.s (lS.s lS.z)) ?_)
    refine ⟨⟨(Le.trans (Le.trans (Le.trans (Le.trans (Le.trans (Le.refl _) hle13) hle18) hle48) hle72) hle78), (HSub.c 1 rfl HSub.n), CSub.n⟩, ?_⟩
    refine JA.done (by kernel_rfl) ?_
    refine Ej.seq (Cj.rs ?_)
    refine Ej.a4V (Keeps.k (Keeps.d (Keeps.d Keeps.n))) rfl rfl rfl (jR.at 2 rfl) lT kE rfl ?_
    rw [hmd]
    exact ⟨⟨_, rfl, none, 0, rfl, .inl rfl⟩, rfl⟩
   refine ⟨_, rfl, rfl, ?_⟩
   refine mF.pull Pull.z ?_
   refine kT (H1 := [_]) rfl rfl rfl rfl rfl (pK m (Cq.next l (Cq.next l (Cq.next l k 5).2 6).2 6).2 9 v l _ hl hll hk3 (by omega) (by omega)) ?_ (fun _ _ _ _ h => by cases h.1) (fun _ _ h => by cases h.1)
   intro v81 I82 H83 hle84 hp85
   have hl := hl.mono hle84
   have hbi := hle84 _ _ hbi
   have hbr := hle84 _ _ hbr
   obtain ⟨hv81, rfl⟩ := hp85; cases hv81
   refine ⟨⟨(Le.trans (Le.trans (Le.trans (Le.trans (Le.trans (Le.refl _) hle13) hle18) hle48) hle72) hle84), (HSub.c 1 rfl HSub.n), CSub.n⟩, ?_⟩
   refine JA.fix lI (fun fx86 => ?_)
   refine JA.tk 13 rfl fx86 (q6 (off' := (Cq.next l (Cq.next l (Cq.next l (Cq.next l k 5).2 6).2 6).2 9).1) lJ kU) ?_
   refine JA.tk 14 rfl fx86 (jP rfl rfl lQ (jR.atC 0 rfl) (mM (l := Cq.texts) (sp := []) (by exact hx4))) ?_
   refine q0 9 rfl (kV (jP rfl rfl lQ (jR.EH hbr) (mM (by exact hx3))) rfl rfl ?_)
   refine ⟨⟨(Le.trans (Le.trans (Le.trans (Le.trans (Le.trans (Le.refl _) hle13) hle18) hle48) hle72) hle84), (HSub.c 1 rfl HSub.n), CSub.n⟩, ?_⟩
   refine JA.fix lI (fun fx87 => ?_)
   refine JA.tk 15 rfl fx87 (jX (pl := #[(0, 1), (1, 1), (2, 1), (3, 1), (4, 1)]) rfl rfl rJ rfl tU32 (fun w => by simp [oJ, qQ, kU]) (pR.part rfl rfl rfl (oD.c oD.z) (pR.part rfl rfl rfl (oD.s (oD.c oD.z)) (pR.part rfl rfl rfl (oD.s (oD.s (oD.c oD.z))) (pR.part rfl rfl rfl (oD.s (oD.s (oD.s (oD.c oD.z)))) pR.none))))) ?_
   refine q0 16 rfl (q5 2 kE (oD.c (oD.c (oD.c (oD.c (oD.c oD.z))))) (lS.s (lS.s lS.z)) ?_)
   refine ⟨⟨(Le.trans (Le.trans (Le.trans (Le.trans (Le.trans (Le.refl _) hle13) hle18) hle48) hle72) hle84), (HSub.c 1 rfl HSub.n), CSub.n⟩, ?_⟩
   refine JA.done (by kernel_rfl) ?_
   refine Ej.seq (Cj.rs ?_)
   refine Ej.a4V (Keeps.k (Keeps.d (Keeps.d Keeps.n))) rfl rfl rfl (jR.at 2 rfl) lT kE rfl ?_
   rw [hmd]
   exact ⟨⟨_, rfl, none, 0, rfl, .inl rfl⟩, rfl⟩
  ·refine ⟨_, rfl, rfl, ?_⟩
   refine kV (jP rfl rfl lQ (jR.EH hbr) (mM (by exact hx3))) rfl rfl ?_
   refine ⟨⟨(Le.trans (Le.trans (Le.trans (Le.trans (Le.refl _) hle13) hle18) hle48) hle72), (HSub.c 1 rfl HSub.n), CSub.n⟩, ?_⟩
   refine JA.all [4, 12] (by kernel_rfl) (by simp) ?_
   intro i hi
   simp only [List.mem_cons, List.not_mem_nil, or_false] at hi
   rcases hi with rfl | rfl
   ·refine ⟨_, rfl, rfl, ?_⟩
    refine kV (jP rfl rfl lQ (jR.EH hbi) (mM (by exact hx2))) rfl rfl ?_
    refine ⟨⟨(Le.trans (Le.trans (Le.trans (Le.trans (Le.refl _) hle13) hle18) hle48) hle72), (HSub.c 1 rfl HSub.n), CSub.n⟩, ?_⟩
    refine JA.pull Pull.z ?_
    refine q0 12 rfl (kT (H1 := [_]) rfl rfl rfl rfl rfl (pK m (Cq.next l (Cq.next l (Cq.next l k 5).2 6).2 6).2 9 v l _ hl hll hk3 (by omega) (by omega)) ?_ (fun _ _ _ _ h => by cases h.1) (fun _ _ h => by cases h.1))
    intro v88 I89 H90 hle91 hp92
    have hl := hl.mono hle91
    have hbi := hle91 _ _ hbi
    have hbr := hle91 _ _ hbr
    obtain ⟨hv88, rfl⟩ := hp92; cases hv88
    refine ⟨⟨(Le.trans (Le.trans (Le.trans (Le.trans (Le.trans (Le.refl _) hle13) hle18) hle48) hle72) hle91), (HSub.c 1 rfl HSub.n), CSub.n⟩, ?_⟩
    refine JA.fix lI (fun fx93 => ?_)
    refine JA.tk 13 rfl fx93 (q6 (off' := (Cq.next l (Cq.next l (Cq.next l (Cq.next l k 5).2 6).2 6).2 9).1) lJ kU) ?_
    refine JA.tk 14 rfl fx93 (jP rfl rfl lQ (jR.atC 0 rfl) (mM (l := Cq.texts) (sp := []) (by exact hx4))) ?_
    refine JA.tk 15 rfl fx93 (jX (pl := #[(0, 1), (1, 1), (2, 1), (3, 1), (4, 1)]) rfl rfl rJ rfl tU32 (fun w => by simp [oJ, qQ, kU]) (pR.part rfl rfl rfl (oD.c oD.z) (pR.part rfl rfl rfl (oD.s (oD.c oD.z)) (pR.part rfl rfl rfl (oD.s (oD.s (oD.c oD.z))) (pR.part rfl rfl rfl (oD.s (oD.s (oD.s (oD.c oD.z)))) pR.none))))) ?_
    refine q0 16 rfl (q5 2 kE (oD.c (oD.c (oD.c (oD.c (oD.c oD.z))))) (lS.s (lS.s lS.z)) ?_)
    refine ⟨⟨(Le.trans (Le.trans (Le.trans (Le.trans (Le.trans (Le.refl _) hle13) hle18) hle48) hle72) hle91), (HSub.c 1 rfl HSub.n), CSub.n⟩, ?_⟩
    refine JA.done (by kernel_rfl) ?_
    refine Ej.seq (Cj.rs ?_)
    refine Ej.a4V (Keeps.k (Keeps.d (Keeps.d Keeps.n))) rfl rfl rfl (jR.at 2 rfl) lT kE rfl ?_
    rw [hmd]
    exact ⟨⟨_, rfl, none, 0, rfl, .inl rfl⟩, rfl⟩
   refine ⟨_, rfl, rfl, ?_⟩
   refine mF.pull Pull.z ?_
   refine kT (H1 := [_]) rfl rfl rfl rfl rfl (pK m (Cq.next l (Cq.next l (Cq.next l k 5).2 6).2 6).2 9 v l _ hl hll hk3 (by omega) (by omega)) ?_ (fun _ _ _ _ h => by cases h.1) (fun _ _ h => by cases h.1)
   intro v94 I95 H96 hle97 hp98
   have hl := hl.mono hle97
   have hbi := hle97 _ _ hbi
   have hbr := hle97 _ _ hbr
   obtain ⟨hv94, rfl⟩ := hp98; cases hv94
   refine ⟨⟨(Le.trans (Le.trans (Le.trans (Le.trans (Le.trans (Le.refl _) hle13) hle18) hle48) hle72) hle97), (HSub.c 1 rfl HSub.n), CSub.n⟩, ?_⟩
   refine JA.fix lI (fun fx99 => ?_)
   refine JA.tk 13 rfl fx99 (q6 (off' := (Cq.next l (Cq.next l (Cq.next l (Cq.next l k 5).2 6).2 6).2 9).1) lJ kU) ?_
   refine JA.tk 14 rfl fx99 (jP rfl rfl lQ (jR.atC 0 rfl) (mM (l := Cq.texts) (sp := []) (by exact hx4))) ?_
   refine q0 4 rfl (kV (jP rfl rfl lQ (jR.EH hbi) (mM (by exact hx2))) rfl rfl ?_)
   refine ⟨⟨(Le.trans (Le.trans (Le.trans (Le.trans (Le.trans (Le.refl _) hle13) hle18) hle48) hle72) hle97), (HSub.c 1 rfl HSub.n), CSub.n⟩, ?_⟩
   refine JA.fix lI (fun fx100 => ?_)
   refine JA.tk 15 rfl fx100 (jX (pl := #[(0, 1), (1, 1), (2, 1), (3, 1), (4, 1)]) rfl rfl rJ rfl tU32 (fun w => by simp [oJ, qQ, kU]) (pR.part rfl rfl rfl (oD.c oD.z) (pR.part rfl rfl rfl (oD.s (oD.c oD.z)) (pR.part rfl rfl rfl (oD.s (oD.s (oD.c oD.z))) (pR.part rfl rfl rfl (oD.s (oD.s (oD.s (oD.c oD.z)))) pR.none))))) ?_
   refine q0 16 rfl (q5 2 kE (oD.c (oD.c (oD.c (oD.c (oD.c oD.z))))) (lS.s (lS.s lS.z)) ?_)
   refine ⟨⟨(Le.trans (Le.trans (Le.trans (Le.trans (Le.trans (Le.refl _) hle13) hle18) hle48) hle72) hle97), (HSub.c 1 rfl HSub.n), CSub.n⟩, ?_⟩
   refine JA.done (by kernel_rfl) ?_
   refine Ej.seq (Cj.rs ?_)
   refine Ej.a4V (Keeps.k (Keeps.d (Keeps.d Keeps.n))) rfl rfl rfl (jR.at 2 rfl) lT kE rfl ?_
   rw [hmd]
   exact ⟨⟨_, rfl, none, 0, rfl, .inl rfl⟩, rfl⟩
  refine ⟨_, rfl, rfl, ?_⟩
  refine mF.pull Pull.z ?_
  refine kT (H1 := [_]) rfl rfl rfl rfl rfl (pK m (Cq.next l (Cq.next l (Cq.next l k 5).2 6).2 6).2 9 v l _ hl hll hk3 (by omega) (by omega)) ?_ (fun _ _ _ _ h => by cases h.1) (fun _ _ h => by cases h.1)
  intro v101 I102 H103 hle104 hp105
  have hl := hl.mono hle104
  have hbi := hle104 _ _ hbi
  have hbr := hle104 _ _ hbr
  obtain ⟨hv101, rfl⟩ := hp105; cases hv101
  refine ⟨⟨(Le.trans (Le.trans (Le.trans (Le.trans (Le.trans (Le.refl _) hle13) hle18) hle48) hle72) hle104), (HSub.c 1 rfl HSub.n), CSub.n⟩, ?_⟩
  refine JA.fix lI (fun fx106 => ?_)
  refine JA.tk 13 rfl fx106 (q6 (off' := (Cq.next l (Cq.next l (Cq.next l (Cq.next l k 5).2 6).2 6).2 9).1) lJ kU) ?_
  refine JA.tk 14 rfl fx106 (jP rfl rfl lQ (jR.atC 0 rfl) (mM (l := Cq.texts) (sp := []) (by exact hx4))) ?_
  refine JA.all [4, 9] (by kernel_rfl) (by simp) ?_
  intro i hi
  simp only [List.mem_cons, List.not_mem_nil, or_false] at hi
  rcases hi with rfl | rfl
  ·refine ⟨_, rfl, rfl, ?_⟩
   refine kV (jP rfl rfl lQ (jR.EH hbi) (mM (by exact hx2))) rfl rfl ?_
   refine ⟨⟨(Le.trans (Le.trans (Le.trans (Le.trans (Le.trans (Le.refl _) hle13) hle18) hle48) hle72) hle104), (HSub.c 1 rfl HSub.n), CSub.n⟩, ?_⟩
   refine q0 9 rfl (kV (jP rfl rfl lQ (jR.EH hbr) (mM (by exact hx3))) rfl rfl ?_)
   refine ⟨⟨(Le.trans (Le.trans (Le.trans (Le.trans (Le.trans (Le.refl _) hle13) hle18) hle48) hle72) hle104), (HSub.c 1 rfl HSub.n), CSub.n⟩, ?_⟩
   refine JA.fix lI (fun fx107 => ?_)
   refine JA.tk 15 rfl fx107 (jX (pl := #[(0, 1), (1, 1), (2, 1), (3, 1), (4, 1)]) rfl rfl rJ rfl tU32 (fun w => by simp [oJ, qQ, kU]) (pR.part rfl rfl rfl (oD.c oD.z) (pR.part rfl rfl rfl (oD.s (oD.c oD.z)) (pR.part rfl rfl rfl (oD.s (oD.s (oD.c oD.z))) (pR.part rfl rfl rfl (oD.s (oD.s (oD.s (oD.c oD.z)))) pR.none))))) ?_
   refine q0 16 rfl (q5 2 kE (oD.c (oD.c (oD.c (oD.c (oD.c oD.z))))) (lS.s (lS.s lS.z)) ?_)
   refine ⟨⟨(Le.trans (Le.trans (Le.trans (Le.trans (Le.trans (Le.refl _) hle13) hle18) hle48) hle72) hle104), (HSub.c 1 rfl HSub.n), CSub.n⟩, ?_⟩
   refine JA.done (by kernel_rfl) ?_
   refine Ej.seq (Cj.rs ?_)
   refine Ej.a4V (Keeps.k (Keeps.d (Keeps.d Keeps.n))) rfl rfl rfl (jR.at 2 rfl) lT kE rfl ?_
   rw [hmd]
   exact ⟨⟨_, rfl, none, 0, rfl, .inl rfl⟩, rfl⟩
  refine ⟨_, rfl, rfl, ?_⟩
  refine kV (jP rfl rfl lQ (jR.EH hbr) (mM (by exact hx3))) rfl rfl ?_
  refine jL 1 ?_
  refine q0 4 rfl (kV (jP rfl rfl lQ (jR.EH hbi) (mM (by exact hx2))) rfl rfl ?_)
  refine ⟨⟨(Le.trans (Le.trans (Le.trans (Le.trans (Le.trans (Le.refl _) hle13) hle18) hle48) hle72) hle104), (HSub.c 1 rfl HSub.n), CSub.n⟩, ?_⟩
  refine JA.fix lI (fun fx108 => ?_)
  refine JA.tk 15 rfl fx108 (jX (pl := #[(0, 1), (1, 1), (2, 1), (3, 1), (4, 1)]) rfl rfl rJ rfl tU32 (fun w => by simp [oJ, qQ, kU]) (pR.part rfl rfl rfl (oD.c oD.z) (pR.part rfl rfl rfl (oD.s (oD.c oD.z)) (pR.part rfl rfl rfl (oD.s (oD.s (oD.c oD.z))) (pR.part rfl rfl rfl (oD.s (oD.s (oD.s (oD.c oD.z)))) pR.none))))) ?_
  refine q0 16 rfl (q5 2 kE (oD.c (oD.c (oD.c (oD.c (oD.c oD.z))))) (lS.s (lS.s lS.z)) ?_)
  refine ⟨⟨(Le.trans (Le.trans (Le.trans (Le.trans (Le.trans (Le.refl _) hle13) hle18) hle48) hle72) hle104), (HSub.c 1 rfl HSub.n), CSub.n⟩, ?_⟩
  refine JA.done (by kernel_rfl) ?_
  refine Ej.seq (Cj.rs ?_)
  refine Ej.a4V (Keeps.k (Keeps.d (Keeps.d Keeps.n))) rfl rfl rfl (jR.at 2 rfl) lT kE rfl ?_
  rw [hmd]
  exact ⟨⟨_, rfl, none, 0, rfl, .inl rfl⟩, rfl⟩
 refine oW (fun hg125 => ?_) (fun hg125 => ?_)
 ·have hd0 : deep = 0 := by have h := hg125; simp at h; omega
  refine jL 4 ?_
  exact hcut (true, _) _ _ _ ⟨fun _ => by rw [hd0]; rfl, fun h => (by cases h), hl⟩ ⟨rfl, rfl, rfl, rfl, by first | rfl | exact congrArg some (congrArg Value.bool (by simp_all)), trivial⟩ rfl rfl
 have hd0 : deep ≠ 0 := by have h := hg125; simp at h; omega
 refine jL 4 ?_
 exact hcut (decide (((Cq.next l k 5).1 : Int) < 2), _) _ _ _ ⟨fun h => by obtain ⟨d, rfl⟩ : ∃ d, deep = d + 1 := ⟨deep - 1, by omega⟩; have h := mO h; simp only [Cq.made]; rw [if_pos (by omega)], fun h => ⟨deep - 1, by omega, nM h⟩, hl⟩ ⟨rfl, rfl, rfl, rfl, rfl, trivial⟩ rfl rfl
theorem a2g : ∀ deep, a8j deep
 | 0 => UK 0 fun d h => by omega
 | deep + 1 => UK (deep + 1) fun d h => by
  have : d = deep := by omega
  subst this; exact a2g d
theorem b0Q v l (hll : l.length ≤ 1000000000000) I (hl : a0c I l v) : jO Tryz.prog 53 [v] I [] (fun e I' H' => (∃ u, e = .returned u ∧ QV I' (Cq.EK l) u) ∧ H' = []) := by
 have hx1 := Cq.next_lt l 0 (n := 7) (by omega)
 obtain ⟨pl, cl, hve⟩ := lC hl
 subst hve
 refine jU func53 fun w0 hw0 => ?_
 refine jL 3 ?_
 intro b1 hb1
 refine J.yC (J.z q3 ?_)
 refine J.z (jX (pl := #[(0, 1), (1, 1)]) rfl rfl zeroValue180 rfl underlying180 (fun w => by simp [sizeOf23, oJ]) (pR.part rfl rfl rfl (oD.c oD.z) pR.none)) ?_
 refine J.op rfl (rV rfl rfl rfl rfl rfl ?_)
 intro b2 hb2
 refine J.as ?_
 refine J.yC (J.z q3 ?_)
 refine J.z q3 ?_
 refine J.pull Pull.z ?_
 refine J.op rfl (kT (H1 := [_]) rfl rfl rfl rfl rfl (pK b2 0 7 _ l _ hl hll (Nat.zero_le _) (by omega) (by omega)) ?_ (fun _ _ _ _ h => by cases h.1) (fun _ _ h => by cases h.1))
 intro v3 I4 H5 hle6 hp7
 have hl := hl.mono hle6
 obtain ⟨hv3, rfl⟩ := hp7; cases hv3
 refine J.pull Pull.z ?_
 refine kL (a2g (Cq.next l 0 7).1 b2 (Cq.next l 0 7).2 _ l _ hl hll (Cq.b4h l 7 (Nat.zero_le _)) (by omega)) ?_
 intro v8 I9 H10 hle11 hp12
 have hl := hl.mono hle11
 obtain ⟨⟨v8x, hv8, pq, cq, rfl, hpq⟩, rfl⟩ := hp12; cases hv8
 refine jL 4 ?_
 refine Ej.a4V (Keeps.d (Keeps.d Keeps.n)) rfl rfl rfl (jR.at 1 rfl) lT kE rfl ?_
 exact ⟨⟨_, rfl, pq, cq, rfl, hpq⟩, rfl⟩
def srW : List (List UInt8) := [[115, 101, 97], [69, 109, 109, 97], [116, 104, 101, 32, 115, 101, 97], [49, 57, 56, 52], [119, 97, 114, 32, 112, 101, 97, 99, 101], [49, 57, 57, 57], [65, 117, 115, 116, 101, 110], [97], [104, 105, 115, 116, 111, 114, 121], [122, 122]]
theorem b4X n : (srW.getD (n % 10) []).length ≤ 9 := by
  have h : n % 10 < srW.length := Nat.mod_lt _ (by decide)
  rw [List.getD_eq_getElem?_getD, kW h]
  exact (by decide : ∀ w ∈ srW, w.length ≤ 9) _ (List.getElem_mem h)
theorem b6v n : (srW.map str)[n % 10]? = some (str (srW.getD (n % 10) [])) := by
  have h := mM (l := srW) (sp := []) (a := n % 10) (Nat.mod_lt _ (by decide))
  rwa [List.append_nil] at h
structure Tx (q q' : Cq.Qn) : Prop where
  form : Cq.form q' = true
  depth : Cq.depth q' = Cq.depth q
  k : q'.k = q.k
  size : q'.size = q.size
  wide : q'.wide ≤ q.wide + 9 * (q.size + 1)
theorem Tx.leaf {q} (hk : q.k = 1) (hf : Cq.form q = true) w (hw : w.length ≤ 9) : Tx q ⟨q.k, q.i, q.r, w, q.ps⟩ :=
  ⟨by rw [Cq.wJ hk] at hf; rw [Cq.wJ (by exact hk)]; exact hf, by rw [Cq.xG hk, Cq.xG (by exact hk)], rfl, rfl, by simp only [Cq.Qn.wide, Cq.Qn.size]; omega⟩
theorem Tx.same {q} (hf : Cq.form q = true) : Tx q q := ⟨hf, rfl, rfl, rfl, by omega⟩
theorem Tx.two {q a b a' b'} (hk : q.k ≠ 1) (h2 : 2 ≤ q.k) (h4 : q.k ≤ 4) (ht : q.Two a b) (ha : Tx a a') (hb : Tx b b') : Tx q (Ix.zM q.k a' b') := by
  have hs := ht.sizes
  refine ⟨Ix.YO h2 h4 ha.form hb.form, ?_, rfl, by rw [Ix.a8E, ha.size, hb.size, hs.1], ?_⟩
  · rw [Cq.yR hk ht, Cq.yR (q := Ix.zM q.k a' b') (a := a') (b := b') hk rfl, ha.depth, hb.depth, hb.k]
  have h1 := ha.wide
  have h3 := hb.wide
  rw [Ix.a8A]
  have h5 : q.wide = q.i.length + q.r.length + q.t.length + q.ps.wide := rfl
  omega
def a2K (q : Cq.Qn) : Prop := ∀ (p : Option Addr) (c n : Nat) (I : Heap), PS I q.ps p → Cq.form q = true → q.wide ≤ 1000000000 → n + q.size ≤ 2000000000000 →
  jO Tryz.prog 52 [.agg (kD q p c).toArray, i64 (n : Int)] I [] (fun e I' H' => (∃ q' u, e = .returned u ∧ QV I' q' u ∧ Tx q q') ∧ H' = [])
theorem a7i q (ih : ∀ q', Cq.Qn.size q' < q.size → a2K q') : a2K q := by
 intro p c n I hps hform hwd hn
 have hwi : q.i.length + q.r.length + q.t.length ≤ 1000000000 := by unfold Cq.Qn.wide at hwd; omega
 refine jU func52 fun w0 hw0 => ?_
 refine jL 3 ?_
 intro b1 hb1
 refine jL 1 ?_
 intro b2 hb2
 refine jS (fun hc3 hc3p => ?_) (fun hc3 hc3p => ?_)
 ·have hk : q.k ≠ 1 := bne_iff_ne.1 hc3
  obtain ⟨_, hk2, hk4, qa, qb, htw, hfa, hfb⟩ := (Cq.vZ hform).resolve_left hk
  have hln := htw.len
  have hsz2 := htw.sizes
  have hwd2 := htw.wide
  obtain ⟨bl, off, cs', T, fr, pa, ca, pb, cb, rfl, hbl, hca, hcb, hkb, hpa, hpb⟩ := hps.GY htw
  refine jL 1 ?_
  refine Cj.qC [1] [] 18 (by kernel_rfl) ?_
  have hbl_2 := hbl
  refine jL 4 ?_
  refine JA.fix lI (fun fx4 => ?_)
  refine JA.tk 4 rfl fx4 (q6 (off' := off) rZ kE) ?_
  refine JA.tk 5 rfl fx4 (q2 lT kE (jR.zL hbl_2) hca) ?_
  refine JA.tk 6 rfl fx4 q3 ?_
  refine JA.tk 8 rfl fx4 (q1 (off' := 4) tU32 qQ) ?_
  refine JA.tk 9 rfl fx4 (q4 isAgg30 (jR.atC 0 rfl)) ?_
  refine JA.tk 10 rfl fx4 (q6 (off' := off + 5) rZ kE) ?_
  refine JA.tk 11 rfl fx4 (q2 lT kE (jR.zL hbl_2) hcb) ?_
  refine JA.tk 12 rfl fx4 q3 ?_
  refine JA.tk 13 rfl fx4 (zT rfl rfl rfl (qW (by omega))) ?_
  refine JA.eqv 22 rfl (show _ = i64 ((n + 1 : Nat) : Int) from (congrArg i64 (by omega))) ?_
  refine q0 7 rfl (kT (H1 := []) rfl rfl rfl rfl rfl (ih qa (by omega) pa ca n _ hpa hfa (by omega) (by omega)) ?_ (fun _ _ _ _ h => by obtain ⟨⟨_, _, h, _⟩, _⟩ := h; cases h) (fun _ _ h => by obtain ⟨⟨_, _, h, _⟩, _⟩ := h; cases h))
  intro v5 I6 H7 hle8 hp9
  have hbl := hle8 _ _ hbl
  have hpa := hpa.mono hle8
  have hpb := hpb.mono hle8
  obtain ⟨⟨q1, v5x, hv5, ⟨p1, c1, rfl, hp1⟩, ht1⟩, rfl⟩ := hp9; cases hv5
  refine ⟨⟨(Le.trans (Le.refl _) hle8), (HSub.c 1 rfl HSub.n), CSub.n⟩, ?_⟩
  refine q0 14 rfl (kT (H1 := []) rfl rfl rfl rfl rfl (ih qb (by omega) pb cb (n + 1) _ hpb hfb (by omega) (by omega)) ?_ (fun _ _ _ _ h => by obtain ⟨⟨_, _, h, _⟩, _⟩ := h; cases h) (fun _ _ h => by obtain ⟨⟨_, _, h, _⟩, _⟩ := h; cases h))
  intro v10 I11 H12 hle13 hp14
  have hbl := hle13 _ _ hbl
  have hpa := hpa.mono hle13
  have hpb := hpb.mono hle13
  have hp1 := hp1.mono hle13
  obtain ⟨⟨q2, v10x, hv10, ⟨p2, c2, rfl, hp2⟩, ht2⟩, rfl⟩ := hp14; cases hv10
  refine ⟨⟨(Le.trans (Le.trans (Le.refl _) hle8) hle13), (HSub.c 1 rfl HSub.n), CSub.n⟩, ?_⟩
  refine q0 15 rfl (jY rfl rfl rfl rZ kE rJ rfl rfl rfl rfl (xM.agg rfl (xM.agg rfl xM.none)) ?_)
  intro b15 hb15
  refine ⟨⟨(Le.trans (Le.trans (Le.refl _) hle8) hle13), (HSub.c 2 rfl HSub.n), CSub.n⟩, ?_⟩
  refine JA.persist hb15 (fun I17 hle16 hb15i => ?_)
  have hbl := hle16 _ _ hbl
  have hpa := hpa.mono hle16
  have hpb := hpb.mono hle16
  have hp1 := hp1.mono hle16
  have hp2 := hp2.mono hle16
  refine JA.fix lI (fun fx18 => ?_)
  refine JA.tk 16 rfl fx18 (jX (pl := #[(0, 1), (1, 1), (2, 1), (3, 1), (4, 1)]) rfl rfl rJ rfl tU32 (fun w => by simp [oJ, qQ, kU]) (pR.part rfl rfl rfl (oD.c oD.z) (pR.part rfl rfl rfl (oD.s (oD.s (oD.s (oD.s (oD.c oD.z))))) pR.none))) ?_
  refine q0 17 rfl (q5 0 kE (oD.c (oD.c (oD.c (oD.c (oD.c oD.z))))) lS.z ?_)
  refine ⟨⟨(Le.trans (Le.trans (Le.trans (Le.refl _) hle8) hle13) hle16), (HSub.c 1 rfl HSub.n), CSub.n⟩, ?_⟩
  refine JA.done (by kernel_rfl) ?_
  refine Ej.seq (Cj.rs ?_)
  refine Ej.a4V (Keeps.d (Keeps.d Keeps.n)) rfl rfl rfl (jR.at 0 rfl) lT kE rfl ?_
  exact ⟨⟨Ix.zM q.k q1 q2, _, rfl, ⟨some ⟨b15, 0, none⟩, 2, rfl, PS.two hp1 hp2 hb15i⟩, Tx.two hk hk2 hk4 htw ht1 ht2⟩, rfl⟩
 have hk : q.k = 1 := sJ hc3
 refine jL 5 ?_
 intro b19 hb19
 refine jS (fun hc20 hc20p => ?_) (fun hc20 hc20p => ?_)
 ·refine jL 16 ?_
  refine J.ev 46 (i64 (((q.t.length + n + q.r.length + q.i.length) % 10 : Nat) : Int)) rfl (congrArg i64 (by rw [Int.tmod_eq_emod_of_nonneg (by omega)]; omega)) ?_
  refine kJ (((q.t.length + n + q.r.length + q.i.length) % 10)) ?_
  refine J.z (jP rfl rfl lQ (jR.at 0 rfl) (b6v (q.t.length + n + q.r.length + q.i.length))) ?_
  refine J.z (q1 (off' := 3) tU32 kU) ?_
  refine J.op rfl (q5 2 kU (oD.s (oD.s (oD.s (oD.c oD.z)))) (lS.s (lS.s lS.z)) ?_)
  refine J.yC (J.z (lF rfl rfl lT kE (jR.at 2 rfl) rfl rfl) ?_)
  refine J.op rfl (q5 1 kE (oD.c (oD.c (oD.c (oD.c (oD.c oD.z))))) (lS.s lS.z) ?_)
  refine J.ns (Cj.ret ?_)
  refine Ej.a4V (Keeps.d (Keeps.d (Keeps.d Keeps.n))) rfl rfl rfl (jR.at 1 rfl) lT kE rfl ?_
  exact ⟨⟨⟨q.k, q.i, q.r, srW.getD ((q.t.length + n + q.r.length + q.i.length) % 10) [], q.ps⟩, _, rfl, ⟨p, c, rfl, hps⟩, Tx.leaf hk hform _ (b4X _)⟩, rfl⟩
 refine Cj.ks (Cj.sr (J.z (lF rfl rfl lT kE (jR.at 2 rfl) rfl rfl) ?_))
 refine J.op rfl (q5 1 kE (oD.c (oD.c (oD.c (oD.c (oD.c oD.z))))) (lS.s lS.z) ?_)
 refine J.ns (Cj.ret ?_)
 refine Ej.a4V (Keeps.d (Keeps.d (Keeps.d Keeps.n))) rfl rfl rfl (jR.at 1 rfl) lT kE rfl ?_
 exact ⟨⟨q, _, rfl, ⟨p, c, rfl, hps⟩, Tx.same hform⟩, rfl⟩
theorem b3h q : a2K q := by
  suffices ∀ n (q : Cq.Qn), q.size < n → a2K q from this _ q (Nat.lt_succ_self _)
  intro n
  induction n with
  | zero => intro q h; omega
  | succ n ih => intro q h; exact a7i q fun q' h' => ih q' (by omega)
structure b0T (q : Cq.Qn) : Prop where
  form : Cq.form q = true
  depth : Cq.depth q ≤ 6
  size : q.size ≤ 200
  wide : q.wide ≤ 12000
theorem CW v l (hll : l.length ≤ 1000000000000) I (hl : a0c I l v) : jO Tryz.prog 16 [v] I [] (fun e I' H' => (∃ q u, e = .returned u ∧ QV I' q u ∧ b0T q) ∧ H' = []) := by
 obtain ⟨hf, hd, hw, hz⟩ := Cq.a8B l
 have hwd := Cq.a7N hf
 obtain ⟨pl, cl, hve⟩ := lC hl
 subst hve
 refine jU func16 fun w0 hw0 => ?_
 refine jL 3 ?_
 intro b1 hb1
 refine kL (b0Q _ l hll _ hl) ?_
 intro v2 I3 H4 hle5 hp6
 have hl := hl.mono hle5
 obtain ⟨⟨v2x, hv2, pq, cq, rfl, hpq⟩, rfl⟩ := hp6; cases hv2
 refine kL (b3h (Cq.EK l) pq cq l.length _ hpq hf (by omega) (by omega)) ?_
 intro v7 I8 H9 hle10 hp11
 have hl := hl.mono hle10
 have hpq := hpq.mono hle10
 obtain ⟨⟨q2, v7x, hv7, ⟨p2, c2, rfl, hp2⟩, ht2⟩, rfl⟩ := hp11; cases hv7
 refine jL 4 ?_
 refine Ej.a4V (Keeps.d Keeps.n) rfl rfl rfl (jR.at 0 rfl) lT kE rfl ?_
 exact ⟨⟨q2, _, rfl, ⟨p2, c2, rfl, hp2⟩, ⟨ht2.form, by rw [ht2.depth]; exact hd, by rw [ht2.size]; exact hz, by have := ht2.wide; omega⟩⟩, rfl⟩
end Go.Proofs.YtekmeaoblpfnpaaGreatDoor
end
section
namespace Go.Proofs.YtekmeaoblpfnpaaGreatDoor
open _root_.Go.Proofs.Tryz
open Go Go.Sx
theorem nb0 (a : Nat) : ((a : Int) == 0) = (a == 0) := nb a 0
def OV (q : Cq.Qn) : Prop := ∀ (p : Option Addr) (c : Nat) (I : Heap), PS I q.ps p → Pure Tryz.prog 111 [.agg (kD q p c).toArray] I (.bool (Cq.form q))
def JE (q : Cq.Qn) : Prop := ∀ (p : Option Addr) (c : Nat) (I : Heap), PS I q.ps p → Cq.form q = true → Cq.depth q ≤ 1000000000 → Pure Tryz.prog 112 [.agg (kD q p c).toArray] I (i64 (Cq.depth q : Nat))
theorem a2N l x v (hl : l.length ≤ 1000000) I (hv : qR 9 I l v) : Pure Tryz.prog 173 [v, str x] I (.bool (l.contains x)) := by
 obtain ⟨bb, cc, sp, rfl, hbb⟩ := hv
 refine jU func173 fun w0 hw0 => ?_
 refine jL 12 ?_
 refine Cj.loop (ι := Nat) (fun k => k ≤ l.length ∧ ∀ j y, j < k → l[j]? = some y → y ≠ x) (fun k => l.length - k) (fun k => [(0, .slice (some ⟨bb, 0, none⟩) l.length cc), (1, str x), (5, i64 (k : Int))]) (fun k => I) (fun k => []) 0 ⟨by omega, fun j y h => absurd h (by omega)⟩ ⟨rfl, rfl, rfl, trivial⟩ rfl rfl ?_
 rintro k ⟨hk, hall⟩
 refine jS (fun hc1 hc1p => ?_) (fun hc1 hc1p => ?_)
 ·have hlt : k < l.length := by omega
  obtain ⟨y, hget⟩ : ∃ y, l[k]? = some y := ⟨_, kW hlt⟩
  refine kJ k ?_
  refine J.z (jP rfl rfl lQ (jR.EH hbb) (nN hget)) ?_
  refine jS (fun hc2 hc2p => ?_) (fun hc2 hc2p => ?_)
  ·refine jV ?_
   have : l.contains x = true := by rw [List.contains_iff_mem]; exact lX (hc2p ▸ hget)
   rw [this]; exact ⟨rfl, rfl, rfl⟩
  refine jL 8 ?_
  refine Ej.round (k + 1) ⟨by omega, fun j y hj hy => by rcases Nat.lt_succ_iff_lt_or_eq.1 hj with h | rfl; exact hall j y h hy; rw [hget] at hy; cases hy; exact hc2p⟩ (by omega) ⟨rfl, rfl, rfl, trivial⟩ rfl rfl
 refine jV ?_
 have : l.contains x = false := by
   rw [Bool.eq_false_iff]; intro h; rw [List.contains_iff_mem] at h
   obtain ⟨j, hj⟩ := List.mem_iff_getElem?.1 h
   obtain ⟨hjl, _⟩ := List.getElem?_eq_some_iff.1 hj
   exact hall j x (by omega) hj rfl
 rw [this]; exact ⟨rfl, rfl, rfl⟩
theorem a9T q (ih : ∀ q', Cq.Qn.size q' < q.size → OV q') : OV q := by
 intro p c I hps
 refine jO.toPure ?_
 refine jU func111 fun w0 hw0 => ?_
 refine jL 3 ?_
 intro b1 hb1
 refine jS (fun hc2 hc2p => ?_) (fun hc2 hc2p => ?_)
 ·have hk : q.k = 1 := by omega
  refine jL 1 ?_
  refine Cj.qC [0] [] 5 (by kernel_rfl) ?_
  refine kL (UQ _) ?_
  intro v4 I5 H6 hle7 hp8
  have hps := hps.mono hle7
  obtain ⟨⟨v4x, hv4, hsv4⟩, rfl⟩ := hp8; cases hv4
  refine kC (a2N Cq.indexes _ _ (by decide) _ hsv4) ?_
  refine jL 5 ?_
  refine Cj.qC [0] [] 5 (by kernel_rfl) ?_
  refine kL (EF _) ?_
  intro v11 I12 H13 hle14 hp15
  have hps := hps.mono hle14
  have hsv4 := hsv4.mono hle14
  obtain ⟨⟨v11x, hv11, hsv11⟩, rfl⟩ := hp15; cases hv11
  refine kC (a2N Cq.relations _ _ (by decide) _ hsv11) ?_
  refine oW (fun hg17 => ?_) (fun hg17 => ?_)
  ·refine oW (fun hg18 => ?_) (fun hg18 => ?_)
   ·refine kM ?_
    refine ⟨?_, rfl⟩
    rw [Cq.wJ hk]
    simp_all [nb0]
   refine kM ?_
   refine ⟨?_, rfl⟩
   rw [Cq.wJ hk]
   simp_all [nb0]
  refine kM ?_
  refine ⟨?_, rfl⟩
  rw [Cq.wJ hk]
  simp_all [nb0]
 have hk : q.k ≠ 1 := by omega
 refine oW (fun hg19 => ?_) (fun hg19 => ?_)
 ·refine kM ?_
  rw [Cq.LY hk (.inl (by have h := hg19; simp at h; omega))]; exact ⟨rfl, rfl⟩
 refine oW (fun hg21 => ?_) (fun hg21 => ?_)
 ·refine kM ?_
  rw [Cq.LY hk (.inr (.inl (by have h := hg21; simp at h; omega)))]; exact ⟨rfl, rfl⟩
 refine oW (fun hg23 => ?_) (fun hg23 => ?_)
 ·refine kM ?_
  rw [Cq.LY hk (.inr (.inr (.inl (by have h := hg23; simp at h; exact h))))]; exact ⟨rfl, rfl⟩
 refine oW (fun hg25 => ?_) (fun hg25 => ?_)
 ·refine kM ?_
  rw [Cq.LY hk (.inr (.inr (.inr (.inl (by have h := hg25; simp at h; exact h)))))]; exact ⟨rfl, rfl⟩
 refine oW (fun hg27 => ?_) (fun hg27 => ?_)
 ·refine kM ?_
  rw [Cq.LY hk (.inr (.inr (.inr (.inr (.inl (by have h := hg27; simp at h; exact h))))))]; exact ⟨rfl, rfl⟩
 refine jS (fun hc29 hc29p => ?_) (fun hc29 hc29p => ?_)
 ·refine kM ?_
  rw [Cq.LY hk (.inr (.inr (.inr (.inr (.inr (by have h := hc29; simp at h; omega))))))]; exact ⟨rfl, rfl⟩
 have hg31 := hg19
 have hg36 := hg21
 have hg41 := hg23
 have hg46 := hg25
 have hg51 := hg27
 have hg56 := hc29
 have hgood : ¬ (q.k < 2 ∨ q.k > 4 ∨ q.i ≠ [] ∨ q.r ≠ [] ∨ q.t ≠ [] ∨ q.ps.len ≠ 2) := by
   simp at hg31 hg36 hg41 hg46 hg51 hg56
   simp [hg41, hg46, hg51]; omega
 obtain ⟨qa, qb, htw⟩ := Cq.Qs.XV (ps := q.ps) (by omega)
 change q.Two qa qb at htw
 have hln := htw.len
 obtain ⟨bl, off, cs', T, fr, pa, ca, pb, cb, rfl, hbl, hca, hcb, hkb, hpa, hpb⟩ := hps.GY htw
 refine kJ off ?_
 refine J.z (q2 lT kE (jR.EH hbl) hca) ?_
 refine kC (ih qa htw.size.1 pa ca _ hpa) ?_
 refine kJ (off + 5) ?_
 refine J.z (q2 lT kE (jR.EH hbl) hcb) ?_
 refine kC (ih qb htw.size.2 pb cb _ hpb) ?_
 refine oW (fun hg30 => ?_) (fun hg30 => ?_)
 ·refine kM ?_
  refine ⟨?_, rfl⟩
  rw [Cq.BM hk hgood htw]
  simp_all
 refine kM ?_
 refine ⟨?_, rfl⟩
 rw [Cq.BM hk hgood htw]
 simp_all
theorem b4m q : OV q := by
  suffices ∀ n (q : Cq.Qn), q.size < n → OV q from this _ q (Nat.lt_succ_self _)
  intro n
  induction n with
  | zero => intro q h; omega
  | succ n ih => intro q h; exact a9T q fun q' h' => ih q' (by omega)
theorem a8a q (ih : ∀ q', Cq.Qn.size q' < q.size → JE q') : JE q := by
 intro p c I hps hform hdep
 refine jU func112 fun w0 hw0 => ?_
 refine jL 3 ?_
 intro b1 hb1
 refine jS (fun hc2 hc2p => ?_) (fun hc2 hc2p => ?_)
 ·have hk : q.k = 1 := by omega
  refine kM ?_
  rw [Cq.xG hk]; exact ⟨rfl, rfl, rfl⟩
 have hk : q.k ≠ 1 := by omega
 obtain ⟨_, _, _, qa, qb, htw, hfa, hfb⟩ := (Cq.vZ hform).resolve_left hk
 have hdd := Cq.yR hk htw
 have hup : Cq.up qb.k ≤ 1 := by unfold Cq.up; split <;> omega
 have hln := htw.len
 obtain ⟨bl, off, cs', T, fr, pa, ca, pb, cb, rfl, hbl, hca, hcb, hkb, hpa, hpb⟩ := hps.GY htw
 refine kJ (off + 5) ?_
 refine J.z (q2 lT kE (jR.EH hbl) hcb) ?_
 refine kC (ih qb htw.size.2 pb cb _ hpb hfb (by omega)) ?_
 refine kJ (off + 5) ?_
 refine jL 1 ?_
 refine J.z (jP rfl rfl JF (jR.EH hbl) hkb) ?_
 refine jS (fun hc3 hc3p => ?_) (fun hc3 hc3p => ?_)
 ·have hku : Cq.up qb.k = 1 := by have h := hc3; simp at h; simp [Cq.up, h]
  refine kJ off ?_
  refine J.z (q2 lT kE (jR.EH hbl) hca) ?_
  refine kC (ih qa htw.size.1 pa ca _ hpa hfa (by omega)) ?_
  refine J.z (yS rfl rfl rfl) ?_
  refine kM ?_
  refine ⟨?_, rfl, rfl⟩
  rw [hdd, hku]
  congr 1; congr 1; omega
 have hku : Cq.up qb.k = 0 := by have h := hc3; simp at h; simp [Cq.up, h]
 refine kJ off ?_
 refine J.z (q2 lT kE (jR.EH hbl) hca) ?_
 refine kC (ih qa htw.size.1 pa ca _ hpa hfa (by omega)) ?_
 refine J.z (yS rfl rfl rfl) ?_
 refine kM ?_
 refine ⟨?_, rfl, rfl⟩
 rw [hdd, hku]
 congr 1; congr 1; omega
theorem b2c q : JE q := by
  suffices ∀ n (q : Cq.Qn), q.size < n → JE q from this _ q (Nat.lt_succ_self _)
  intro n
  induction n with
  | zero => intro q h; omega
  | succ n ih => intro q h; exact a8a q fun q' h' => ih q' (by omega)
theorem a3g q p c (hdep : Cq.depth q ≤ 1000000000) I (hps : PS I q.ps p) : Pure Tryz.prog 60 [.agg (kD q p c).toArray] I (.bool (Cq.right q)) := by
 refine jO.toPure ?_
 refine jU func60 fun w0 hw0 => ?_
 refine jL 3 ?_
 intro b1 hb1
 refine kC (b4m q p c _ hps) ?_
 refine mW (fun hc2 => ?_) (fun hc2 => ?_)
 ·have hform : Cq.form q = false := by have h := hc2; simpa using h
  refine kM ?_
  refine ⟨?_, rfl⟩
  simp [Cq.right, hform] <;> omega
 have hform : Cq.form q = true := by have h := hc2; simpa using h
 refine kC (b2c q p c _ hps hform hdep) ?_
 refine kM ?_
 refine ⟨?_, rfl⟩
 simp [Cq.right, hform] <;> omega
end Go.Proofs.YtekmeaoblpfnpaaGreatDoor
end
namespace Ix
open Ke
def SQ (L : Ix) (a b : Rec) : Bool := if oI L a = oI L b then oN a b else decide (oI L a < oI L b)
theorem a2l {L a b} : SQ L a b = true ↔ oL L a b := by unfold SQ oL; grind
theorem a7T {L} {l : List Rec} {t x k} (h : ∀ y ∈ l.take k, oL L y t) (hg : l[k]? = some x) (hx : SQ L x t = true) : ∀ y ∈ l.take (k + 1), oL L y t := by
  obtain ⟨hlt, hg⟩ := List.getElem?_eq_some_iff.1 hg
  rw [List.take_succ_eq_append_getElem hlt, hg]
  intro y hy
  rcases List.mem_append.1 hy with g | g
  · exact h y g
  rw [List.mem_singleton.1 g]; exact a2l.1 hx
theorem b5M {L} {l : List Rec} {t k} (hp : l.Pairwise (oL L)) (hn : t ∉ l) (h1 : ∀ y ∈ l.take k, oL L y t) (h2 : ∀ x, l[k]? = some x → SQ L x t = false) (hk : k ≤ l.length) : (l.take k ++ [t] ++ l.drop k).Pairwise (oL L) := by
  have h3 : ∀ y ∈ l.drop k, oL L t y := by
    intro y hy
    have hlt : k < l.length := by
      rcases Nat.lt_or_ge k l.length with g | g
      · exact g
      rw [List.drop_eq_nil_of_le g] at hy; cases hy
    have hd : l.drop k = l[k] :: l.drop (k + 1) := (List.getElem_cons_drop hlt).symm
    have hb := h2 l[k] (List.getElem?_eq_getElem hlt)
    have hx : oL L t l[k] := by
      rcases a9m L t l[k] with g | g | g
      · exact g
      · exact absurd (g ▸ List.getElem_mem hlt) hn
      rw [a2l.2 g] at hb; cases hb
    rw [hd] at hy
    rcases List.mem_cons.1 hy with g | g
    · rw [g]; exact hx
    have hq : (l[k] :: l.drop (k + 1)).Pairwise (oL L) := hd ▸ hp.sublist (List.drop_sublist _ _)
    exact KF hx ((List.pairwise_cons.1 hq).1 y g)
  rw [List.append_assoc, List.pairwise_append]
  refine ⟨hp.sublist (List.take_sublist _ _), ?_, fun a ha b hb => ?_⟩
  · exact List.pairwise_cons.2 ⟨fun y hy => h3 y hy, hp.sublist (List.drop_sublist _ _)⟩
  rcases List.mem_cons.1 hb with g | g
  · rw [g]; exact h1 a ha
  exact KF (h1 a ha) (h3 b g)
theorem b5j {l : List Rec} {t x k} : x ∈ l.take k ++ [t] ++ l.drop k ↔ x = t ∨ x ∈ l := by grind [List.mem_singleton, List.mem_of_mem_take, List.mem_of_mem_drop, List.take_append_drop, List.mem_append.1]
theorem b5F {l : List Rec} {t k} (hk : k ≤ l.length) : (l.take k ++ [t] ++ l.drop k).length = l.length + 1 := by grind
def PY (L : Ix) (q : Cq.Qn) : List Rec := (L.map (·.1)).filter fun t => sat L q t
theorem b1R L q : (PY L q).length ≤ L.length := by grind [PY]
theorem YB {L} (h : nO L) q : (PY L q).Nodup := (a1C h).sublist List.filter_sublist
theorem a3y {L q t} : t ∈ PY L q ↔ t ∈ L.map (·.1) ∧ sat L q t = true := by unfold PY; rw [List.mem_filter]
structure ER (L : Ix) (l out : List Rec) (i : Nat) : Prop where
  ord : out.Pairwise (oL L)
  mem : ∀ t, t ∈ out ↔ t ∈ l.take i
  len : out.length = i
theorem ER.nil L l : ER L l [] 0 := ⟨List.Pairwise.nil, fun t => by simp, rfl⟩
theorem ER.next {L l out i k t} (h : ER L l out i) (hn : l.Nodup) (ht : l[i]? = some t) (h1 : ∀ y ∈ out.take k, oL L y t) (h2 : ∀ x, out[k]? = some x → SQ L x t = false) (hk : k ≤ out.length) : ER L l (out.take k ++ [t] ++ out.drop k) (i + 1) := by
  obtain ⟨hlt, hg⟩ := List.getElem?_eq_some_iff.1 ht
  have hno : t ∉ out := fun g => by
    have g1 := (h.mem t).1 g
    have h9 : (l.take (i + 1)).Nodup := hn.sublist (List.take_sublist _ _)
    rw [List.take_succ_eq_append_getElem hlt, hg, List.nodup_append] at h9
    exact h9.2.2 t g1 t (List.mem_singleton.2 rfl) rfl
  refine ⟨b5M h.ord hno h1 h2 hk, fun x => ?_, by rw [b5F hk, h.len]⟩
  rw [b5j, List.take_succ_eq_append_getElem hlt, hg, List.mem_append, List.mem_singleton, h.mem x]
  exact Or.comm
theorem ER.run {L q out i} (h : ER L (PY L q) out i) (hi : (PY L q).length ≤ i) : CJ L q out :=
  ⟨h.ord, fun t => by rw [h.mem t, List.take_of_length_le hi]; exact a3y⟩
end Ix
section
namespace Go.Proofs.YtekmeaoblpfnpaaGreatDoor
open _root_.Go.Proofs.Tryz
open Go Go.Sx
def b3n (k : List UInt8) : Prop := ∀ w ∈ Ke.words k, Ke.digits w = true → 2 ≤ w.length
theorem b4Y s skip : b3n (Ke.nT s skip) := fun w hw hd => by
  rw [Ke.QT] at hw
  obtain ⟨w0, _, rfl⟩ := List.mem_map.1 hw
  unfold Ke.pO at hd ⊢
  split
  · show 2 ≤ (Ke.number w0).length
    unfold Ke.number
    simp
  rename_i h
  rw [if_neg h] at hd
  exact absurd hd h
theorem b1n {L} (hs : Ix.nO L) {n b k} (hk : k ∈ Ix.mP L n b) : b3n k := by
  obtain ⟨e, _, v, _, _, rfl⟩ := Ix.UL hs hk
  exact b4Y _ _
theorem KH {x : List UInt8} {j c} (h : x[j]? = some c) : Ke.digits (x.take (j + 1)) = (Ke.digits (x.take j) && Ke.digit c) := by
  obtain ⟨hlt, hg⟩ := List.getElem?_eq_some_iff.1 h
  unfold Ke.digits
  rw [List.take_succ_eq_append_getElem hlt, hg, List.all_append]
  simp
theorem b5L {c} (h : ¬ (48 ≤ c.toNat ∧ c.toNat ≤ 57)) : false = Ke.digit c := (Bool.eq_false_iff.2 fun g => h (Ke.DK.1 g)).symm
theorem IK L n : ∀ ks : Ke.Row, (Ix.keyed L n ks).length ≤ ks.length * L.length
  | [] => by simp [Ix.keyed]
  | k :: r => by
    have h := IK L n r
    have h2 := Ix.BU L n (Ix.keyOf n (Ke.QY k))
    unfold Ix.keyed at h ⊢
    rw [List.flatMap_cons, List.length_append, List.length_cons, Nat.add_mul, Nat.one_mul]
    omega
theorem MC {L n} {ks : List (List UInt8 × Int)} {i x} (h : ks[i]? = some x) : Ix.keyed L n ((ks.take (i + 1)).map (·.1)) = Ix.keyed L n ((ks.take i).map (·.1)) ++ Ix.oG L n (Ix.keyOf n (Ke.QY x.1)) := by
  obtain ⟨hlt, hg⟩ := List.getElem?_eq_some_iff.1 h
  unfold Ix.keyed
  rw [List.take_succ_eq_append_getElem hlt, hg, List.map_append, List.flatMap_append]
  simp
abbrev sS : Int := 1073741824
theorem JD {L} (hf : Ix.Few L) n s : ((Ix.scan L n s sS).map lZ).map (·.1) = Ix.mP L n (Ix.keyOf n s) := by
  have h := Ix.a5J hf n (Ix.keyOf n s)
  rw [List.map_map]
  exact Ix.a2c (by show _ ≤ 1073741824; omega)
theorem a1S {L} (hf : Ix.Few L) n s : ((Ix.scan L n s sS).map lZ).length = (Ix.mP L n (Ix.keyOf n s)).length ∧ (Ix.mP L n (Ix.keyOf n s)).length ≤ 480 := by
  have h1 := congrArg List.length (JD hf n s)
  rw [List.length_map] at h1
  exact ⟨h1, Ix.a5J hf n _⟩
def a7l (k : List UInt8) : Prop := Ke.a0C k ∧ b3n k
theorem a1F {L} (ht : Ix.TOK L) (hf : Ix.Few L) (hs : Ix.nO L) n s : ∀ x ∈ (Ix.scan L n s sS).map lZ, a7l x.1 := fun x hx => by
  have h : x.1 ∈ ((Ix.scan L n s sS).map lZ).map (·.1) := List.mem_map_of_mem hx
  rw [JD hf] at h
  exact ⟨ht.key hs h, b1n hs h⟩
theorem b2J {L} (hs : Ix.nO L) n b : (Ix.mP L n b).length ≤ (Ix.mP L n []).length := by
  rw [Ix.QE hs n b]; exact List.length_filter_le _ _
theorem kP {α : Type} P {l : List α} {k x} (h : l[k]? = some x) : (l.take (k + 1)).filter P = (l.take k).filter P ++ if P x = true then [x] else [] := by
  obtain ⟨hlt, hg⟩ := List.getElem?_eq_some_iff.1 h
  rw [List.take_succ_eq_append_getElem hlt, hg, List.filter_append]
  by_cases hc : P x = true
  · rw [List.filter_cons_of_pos hc, if_pos hc]; rfl
  rw [List.filter_cons_of_neg hc, if_neg hc]; rfl
theorem ZE {α : Type} P (l : List α) k : ((l.take k).filter P).length ≤ l.length := nP (List.length_filter_le _ _) (List.length_take_le' _ _)
theorem a0i (es : List nI) : (es.map jQ).map (·.1) = es.map (·.t) := by rw [List.map_map]; rfl
theorem yI x : (recC x).all Value.oneCell' = true := rfl
theorem a0W l t v (hl : l.length ≤ 1000000000) I (hr : jW recC I l v) : Pure Tryz.prog 114 [v, jZ t] I (.bool (decide (t ∈ l))) := by
 refine jO.toPure ?_
 obtain ⟨p, c, rfl, hc, hp⟩ := hr
 refine jU func114 fun w0 hw0 => ?_
 refine jL 3 ?_
 intro b1 hb1
 refine jL 10 ?_
 refine Cj.loop (ι := Nat) (fun j => j ≤ l.length ∧ t ∉ l.take j) (fun j => l.length - j) (fun j => [(0, .slice p l.length c), (3, ptr b1 0), (5, i64 (j : Int))]) (fun j => I) (fun j => [(b1, jM 54 [i64 t.1, i64 t.2])]) 0 ⟨Nat.zero_le _, by simp⟩ ⟨rfl, rfl, rfl, trivial⟩ rfl rfl ?_
 rintro j ⟨hj, hno⟩
 refine jS (fun hc2 hc2p => ?_) (fun hc2 hc2p => ?_)
 ·refine jL 5 ?_
  have hlt : j < l.length := by omega
  obtain ⟨x, hget⟩ : ∃ x, l[j]? = some x := ⟨_, kW hlt⟩
  obtain ⟨fb, fo, fcs, fty, ffr, fsp, rfl, hfb, hfd⟩ := hp (jT hlt)
  refine Cj.qC [0] [] 6 (by kernel_rfl) ?_
  refine kJ (fo + j * 2) ?_
  refine JA.zt 3 rfl (q2 oC lG (jR.zL hfb) (kY kF hfd hget)) ?_
  refine jL 1 ?_
  refine JA.zt 5 rfl (a6W (kv := a7A) (a := x) (b := t) rfl rfl rfl rfl rfl a8q (by kernel_rfl)) ?_
  refine jS (fun hc4 hc4p => ?_) (fun hc4 hc4p => ?_)
  ·have heq : x = t := lU hc4
   refine kM ?_
   rw [decide_eq_true (heq ▸ lX hget)]
   exact ⟨rfl, rfl⟩
  have hne : x ≠ t := lY hc4
  refine jL 8 ?_
  refine Ej.round (j + 1) ⟨by omega, by rw [List.take_add_one, hget]; intro g; rcases List.mem_append.1 g with g | g; exact hno g; exact hne (List.mem_singleton.1 (show t ∈ [x] from g)).symm⟩ (by omega) ⟨rfl, rfl, rfl, trivial⟩ rfl rfl
 refine kM ?_
 rw [List.take_of_length_le (by omega : l.length ≤ j)] at hno
 rw [decide_eq_false hno]
 exact ⟨rfl, rfl⟩
theorem b0f k (hk : a7l k) I : Pure Tryz.prog 230 [str k] I (str (Ke.QY k)) := by
 refine jO.toPure ?_
 have hkl := hk.1.1
 have hwl := Ke.qX k
 have hpl := hk.1.2.2.1
 refine jU func230 fun w0 hw0 => ?_
 refine sV (yO k (by omega) _) ?_
 intro v2 I3 H4 hle5 hn1 hp6
 obtain ⟨g, hg, h, rfl⟩ := hp6; cases h
 replace hg := hg.base hn1
 refine jL 10 ?_
 refine Cj.loop (ι := Nat) (fun j => j ≤ (Ke.words k).length) (fun j => (Ke.words k).length - j) (fun j => [(3, gV (Ke.words k).length g), (4, i64 (j : Int))]) (fun j => _) (fun j => gH 9 ((sN (Ke.words k) j).map str) g) 0 (Nat.zero_le _) ⟨rfl, rfl, trivial⟩ rfl (by rw [List.append_nil, show sN (Ke.words k) 0 = (Ke.words k) by simp [sN]]) ?_
 intro j hj
 have hml := WY (Ke.words k) j
 refine jL 5 ?_
 refine J.z (a6J hg rfl rfl lJ) ?_
 refine jS (fun hc7 hc7p => ?_) (fun hc7 hc7p => ?_)
 ·refine jL 5 ?_
  have hlt : j < (Ke.words k).length := by omega
  obtain ⟨x, hget⟩ : ∃ x, (Ke.words k)[j]? = some x := ⟨_, kW hlt⟩
  have hxm := lX hget
  have hxl := Ke.xB _ x hxm
  have hma := a4u hget
  obtain ⟨bg8, cg9, sp10, rfl, hbg8⟩ := hg.some (by omega)
  refine jL 11 ?_
  refine Cj.loop (ι := Nat) (fun i => i ≤ x.length) (fun i => x.length - i) (fun i => [(3, .slice (some ⟨bg8, 0, none⟩) (Ke.words k).length cg9), (4, i64 (j : Int)), (5, .bool (Ke.digits (x.take i))), (6, i64 (i : Int))]) (fun i => _) (fun i => [(bg8, jM 9 ((sN (Ke.words k) j).map str ++ sp10))]) 0 (Nat.zero_le _) ⟨rfl, rfl, rfl, rfl, trivial⟩ rfl rfl ?_
  intro i hi
  refine kJ j ?_
  refine J.z (jP rfl rfl lQ (jR.at 0 rfl) (nN hma)) ?_
  refine jS (fun hc11 hc11p => ?_) (fun hc11 hc11p => ?_)
  ·have hil : i < x.length := by omega
   obtain ⟨c, hgc⟩ : ∃ c, x[i]? = some c := ⟨_, kW hil⟩
   have hcl := c.toNat_lt
   refine oW (fun hg12 => ?_) (fun hg12 => ?_)
   ·refine jL 2 ?_
    refine J.zg (q6 (off' := j) lJ kU) ?_
    refine J.zg (jP rfl rfl lQ (jR.at 0 rfl) (nN hma)) ?_
    refine jL 1 ?_
    refine J.zg (lH rfl rfl rfl lM (by omega) hgc) ?_
    refine mX (fun hg13 hg13p => ?_) (fun hg13 hg13p => ?_)
    ·refine jL 2 ?_
     refine J.zg (q6 (off' := j) lJ kU) ?_
     refine J.zg (jP rfl rfl lQ (jR.at 0 rfl) (nN hma)) ?_
     refine jL 1 ?_
     refine J.zg (lH rfl rfl rfl lM (by omega) hgc) ?_
     refine jL 2 ?_
     refine J.ev 42 (.bool (Ke.digits (x.take (i + 1)))) rfl (congrArg Value.bool (by rw [KH hgc, hg12, Bool.true_and, Bool.eq_iff_iff, Ke.DK, decide_eq_true_eq]; have h2 := mO hg13; omega)) ?_
     refine jL 9 ?_
     refine Ej.round (i + 1) (by omega) (by omega) ⟨rfl, rfl, rfl, rfl, trivial⟩ rfl rfl
    refine jL 8 ?_
    refine J.ev 42 (.bool (Ke.digits (x.take (i + 1)))) rfl (congrArg Value.bool (by rw [KH hgc, hg12, Bool.true_and]; exact b5L (by have h2 := nM hg13; omega))) ?_
    refine jL 9 ?_
    refine Ej.round (i + 1) (by omega) (by omega) ⟨rfl, rfl, rfl, rfl, trivial⟩ rfl rfl
   refine jL 17 ?_
   refine J.ev 42 (.bool (Ke.digits (x.take (i + 1)))) rfl (congrArg Value.bool (by rw [KH hgc, hg12]; rfl)) ?_
   refine jL 9 ?_
   refine Ej.round (i + 1) (by omega) (by omega) ⟨rfl, rfl, rfl, rfl, trivial⟩ rfl rfl
  refine jL 6 ?_
  have hfx : x.take i = x := List.take_of_length_le (by omega)
  rw [hfx]
  refine mW (fun hc14 => ?_) (fun hc14 => ?_)
  ·have hdx : Ke.digits x = true := hc14
   have hx2 : 2 ≤ x.length := hk.2 x hxm hdx
   refine kJ j ?_
   refine J.z (jP rfl rfl lQ (jR.at 0 rfl) (nN hma)) ?_
   refine J.z (lN (p := 2) (q := x.length) rfl rfl lM ⟨_, rfl⟩ rfl (by omega) (by omega)) ?_
   refine J.ev 50 (str (Ke.plainW x)) rfl (by rw [List.take_length]; unfold Ke.plainW; rw [if_pos hdx]) ?_
   refine kJ j ?_
   refine J.op rfl (tH 0 rfl rfl rfl rfl rfl rfl kU rfl (.inl rfl) (by rw [List.length_append, List.length_map, hml]; omega) lS.z ?_)
   refine jL 8 ?_
   refine Ej.round (j + 1) (by omega) (by omega) ⟨rfl, rfl, trivial⟩ rfl (by rw [a5l hget]; rfl)
  have hdx : Ke.digits x = false := hc14
  have hpw : Ke.plainW x = x := by unfold Ke.plainW; rw [hdx]; rfl
  refine jL 8 ?_
  refine Ej.round (j + 1) (by omega) (by omega) ⟨rfl, rfl, trivial⟩ rfl (by rw [a6X hget hpw]; rfl)
 refine jL 6 ?_
 have hfull : sN (Ke.words k) j = (Ke.words k).map Ke.plainW := by rw [show j = (Ke.words k).length by omega]; unfold sN; rw [List.take_length, List.drop_length, List.append_nil]
 rw [hfull]
 refine Cj.perm (H' := gH _ _ _ ++ []) (by rw [List.append_nil]) ?_
 have hg2 : kZ w0.heap.size 1 (Ke.words k).length (((Ke.words k).map Ke.plainW).map str) g := LU hg (by simp)
 refine Cj.xY hg2 (fun I8 hle8 hv => ?_)
 rw [show (Ke.words k).length = ((Ke.words k).map Ke.plainW).length from (List.length_map _).symm] at hv ⊢
 refine kC (WJ ((Ke.words k).map Ke.plainW) _ (by rw [List.length_map]; omega) (by show (Ke.QY k).length ≤ _; omega) _ (mZ.of hv)) ?_
 refine jV ?_
 exact ⟨rfl, rfl⟩
theorem a1j rb es L (hL : L = (es.map jQ)) n ks v (hk : ∀ x ∈ ks, a7l x.1) (hkl : ks.length ≤ 1000) I (hx : zQ I rb es) (hr : jW oU I ks v) : jO Tryz.prog 176 [ptr rb 0, str n, v] I [] (fun e _ H' => ∃ w, e = .returned w ∧ KL (Ix.keyed L n (ks.map (·.1))) w H') := by
 obtain ⟨p, c, rfl⟩ := lC hr
 have hLl : L.length ≤ 1000 := by rw [hL, List.length_map]; exact hx.len
 refine jU func176 fun w0 hw0 => ?_
 refine jL 17 ?_
 refine Cj.loop (ι := Nat × Heap × Gs) (fun y => y.1 ≤ ks.length ∧ Le I y.2.1 ∧ kZ w0.heap.size 2 (Ix.keyed L n ((ks.take y.1).map (·.1))).length ((Ix.keyed L n ((ks.take y.1).map (·.1))).flatMap recC) y.2.2) (fun y => ks.length - y.1) (fun y => [(7, gV (Ix.keyed L n ((ks.take y.1).map (·.1))).length y.2.2), (0, ptr rb 0), (1, str n), (2, .slice p ks.length c), (8, i64 (y.1 : Int))]) (fun y => y.2.1) (fun y => gH 54 ((Ix.keyed L n ((ks.take y.1).map (·.1))).flatMap recC) y.2.2) (0, _, none) ⟨Nat.zero_le _, Le.refl _, rfl, rfl⟩ ⟨rfl, rfl, rfl, rfl, rfl, trivial⟩ rfl rfl ?_
 rintro ⟨i, J1, g⟩ ⟨hi, hIJ, hg⟩
 dsimp only at hi hIJ hg ⊢
 have hx := hx.mono hIJ
 have hr := hr.mono hIJ
 have hkd := IK L n ((ks.take i).map (·.1))
 rw [List.length_map, List.length_take] at hkd
 have hkd2 : Ix.keyed L n ((ks.take i).map (·.1)) = Ix.keyed L n ((ks.take i).map (·.1)) := rfl
 have hkb : (Ix.keyed L n ((ks.take i).map (·.1))).length ≤ 1000000 := nP hkd (nP (Nat.mul_le_mul (nP (Nat.min_le_right _ _) hkl) hLl) (by decide))
 refine jS (fun hc1 hc1p => ?_) (fun hc1 hc1p => ?_)
 ·have hlt : i < ks.length := by omega
  obtain ⟨x, hget⟩ : ∃ x, ks[i]? = some x := ⟨_, kW hlt⟩
  have hkx := hk x (lX hget)
  have hkx2 := hkx.1.2.2.1
  have hwl9 := Ix.BU L n (Ix.keyOf n (Ke.QY x.1))
  obtain ⟨p1, c1, hpe, hc1, hp⟩ := id hr
  cases hpe
  obtain ⟨fb, fo, fcs, fty, ffr, fsp, rfl, hfb, hfd⟩ := hp (jT hlt)
  refine kJ (fo + i * 2) ?_
  refine jL 1 ?_
  refine J.z (jP rfl rfl lQ (jR.EH hfb) (lW pJ hfd hget 0 (by decide))) ?_
  refine kC (b0f x.1 hkx _) ?_
  refine kL (hL ▸ a0Q rb es n (Ke.QY x.1) (by omega) _ hx) ?_
  intro v2 I3 H4 hle5 hp6
  have hx := hx.mono hle5
  have hr := hr.mono hle5
  have hIJ := hIJ.mono hle5
  have hfb := hle5 _ _ hfb
  obtain ⟨vk, h, hrk, rfl⟩ := hp6; cases h
  obtain ⟨pk, ck, rfl⟩ := lC hrk
  refine J.op rfl (kK (by' := 15) [] rfl rfl rfl rfl rfl nV (.inr ⟨_, nV⟩) (by kernel_rfl) lG vF rfl hg rfl (Src.row kF hrk (fun x _ => yI x)) (by omega) ?_)
  intro g7 hg7
  refine jL 9 ?_
  refine Ej.round (i + 1, _, g7) ⟨by dsimp only; omega, hIJ, by dsimp only; rw [MC hget, List.length_append, List.flatMap_append]; exact hg7⟩ (by dsimp only; omega) ⟨by dsimp only; rw [MC hget, List.length_append]; rfl, rfl, rfl, rfl, rfl, trivial⟩ rfl (by dsimp only; rw [MC hget, List.flatMap_append]; rfl)
 refine jL 12 ?_
 rw [List.take_of_length_le (by omega : ks.length ≤ i)] at hg ⊢
 refine jV ?_
 exact ⟨_, rfl, YI rfl (MI hg)⟩
