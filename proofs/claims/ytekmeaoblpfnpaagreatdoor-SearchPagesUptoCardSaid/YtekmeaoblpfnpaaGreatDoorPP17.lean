/-
  Own texts on the laws of the seat, joined: the logic, and contracts of functions. Conditions: none.
-/
import Derived.Test.YtekmeaoblpfnpaaGreatDoorNmP
import Derived.Test.YtekmeaoblpfnpaaGreatDoorPP16
import Derived.Lib.LaidU8
set_option maxRecDepth 100000
set_option maxHeartbeats 40000000
set_option maxRecDepth 100000
set_option maxHeartbeats 40000000
namespace Go.Proofs.YtekmeaoblpfnpaaGreatDoor
open _root_.Go.Proofs.Tryz
open Go Go.Sx
def keptN (most : Int) (fs : List (List Ix.Rec)) (n : Int) : Option (List Ix.Rec) := if (fs.length : Int) - max most 1 < n ∧ 0 < n then fs[(n - 1).toNat]? else none
theorem kept_next (most : Int) (fs : List (List Ix.Rec)) (r : List Ix.Rec) (n : Int) : keptN most (fs ++ [r]) n = if n = (fs.length : Int) + 1 then some r else if n = (fs.length : Int) + 1 - max most 1 then none else keptN most fs n := by
  unfold keptN
  have hl : (fs ++ [r]).length = fs.length + 1 := by rw [List.length_append]; rfl
  rw [hl]
  by_cases h1 : n = (fs.length : Int) + 1
  · rw [if_pos h1, if_pos ⟨by omega, by omega⟩, List.getElem?_append_right (by omega)]
    have : (n - 1).toNat - fs.length = 0 := by omega
    rw [this]; rfl
  rw [if_neg h1]
  by_cases h2 : n = (fs.length : Int) + 1 - max most 1
  · rw [if_pos h2, if_neg (by omega)]
  rw [if_neg h2]
  by_cases h3 : (fs.length : Int) - max most 1 < n ∧ 0 < n
  · rw [if_pos h3, if_pos ⟨by omega, h3.2⟩]
    by_cases h4 : (n - 1).toNat < fs.length
    · rw [List.getElem?_append_left h4]
    rw [List.getElem?_eq_none (by rw [hl]; omega), List.getElem?_eq_none (by omega)]
  rw [if_neg h3, if_neg (by omega)]
theorem kept_nil (most n : Int) : keptN most [] n = none := by
  unfold keptN; split
  · rfl
  rfl
abbrev kvI (a : Int) : Value := i64 a
def SetsM (I : Heap) (m : ML Int) (k : Nat) (most : Int) (fs : List (List Ix.Rec)) : Prop := MS m k ∧ (∀ n, keptN most fs n = none → mget m n = none) ∧ ∀ n r, keptN most fs n = some r → ∃ w, mget m n = some w ∧ RowT 54 recC I r w
theorem SetsM.mono {I I' : Heap} {m : ML Int} {k : Nat} {most : Int} {fs : List (List Ix.Rec)} (h : SetsM I m k most fs) (hle : Le I I') : SetsM I' m k most fs := ⟨h.1, h.2.1, fun n r hn => let ⟨w, h1, h2⟩ := h.2.2 n r hn; ⟨w, h1, h2.mono hle⟩⟩
theorem SetsM.nil (I : Heap) (most : Int) : SetsM I [] 0 most [] := ⟨MS.nil, fun _ _ => rfl, fun n r h => by rw [kept_nil] at h; cases h⟩
theorem SetsM.next {I : Heap} {m : ML Int} {k : Nat} {most : Int} {fs : List (List Ix.Rec)} (h : SetsM I m k most fs) {r : List Ix.Rec} {w : Value} (hr : RowT 54 recC I r w) :
    SetsM I (mdel (mset m ((fs.length : Int) + 1) w k) ((fs.length : Int) + 1 - max most 1)) (mclk m ((fs.length : Int) + 1) k) most (fs ++ [r]) := by
  have h1 := h.1.set ((fs.length : Int) + 1) w
  refine ⟨h1.del _, fun n hn => ?_, fun n r2 hn => ?_⟩
  · rw [kept_next] at hn
    rw [mget_mdel h1.1, mget_mset]
    split at hn
    · cases hn
    rename_i g
    split at hn
    · rename_i g2; rw [if_pos (by simpa using g2)]
    rename_i g2; rw [if_neg (by simpa using g2), if_neg (by simpa using g)]; exact h.2.1 n hn
  rw [kept_next] at hn
  rw [mget_mdel h1.1, mget_mset]
  split at hn
  · rename_i g
    cases hn
    exact ⟨w, by rw [if_neg (by simp only [beq_iff_eq]; omega), if_pos (by simpa using g)], hr⟩
  rename_i g
  split at hn
  · cases hn
  rename_i g2
  obtain ⟨w2, g3, g4⟩ := h.2.2 n r2 hn
  exact ⟨w2, by rw [if_neg (by simpa using g2), if_neg (by simpa using g)]; exact g3, g4⟩
abbrev So := Option (Nat × ML Int × Nat)
def mapO : So → Value
  | none => .map none
  | some (b, _, _) => .map (some b)
def setO : So → HL
  | none => []
  | some (b, m, k) => [(b, mobj kvI m k)]
def SetsOk (I : Heap) (most : Int) (fs : List (List Ix.Rec)) : So → Prop
  | none => fs = []
  | some (_, m, k) => SetsM I m k most fs
theorem SetsOk.mono {I I' : Heap} {most : Int} {fs : List (List Ix.Rec)} : ∀ {o : So}, SetsOk I most fs o → Le I I' → SetsOk I' most fs o
  | none, h, _ => h
  | some (_, _, _), h, hle => SetsM.mono h hle
def setsH (sb : Nat) (most : Int) (fs : List (List Ix.Rec)) (o : So) : HL := (sb, cel 82 [i64 most, i64 (fs.length : Int), mapO o]) :: setO o
def pageOf (most : Int) (fs : List (List Ix.Rec)) (n fr many : Int) : List Ix.Rec × Int := match keptN most fs n with
  | none => ([], 32)
  | some r => if fr < 0 ∨ many < 0 then ([], 1) else ((r.drop fr.toNat).take many.toNat, 0)
theorem page_none {most : Int} {fs : List (List Ix.Rec)} {n : Int} (h : keptN most fs n = none) (fr many : Int) : pageOf most fs n fr many = ([], 32) := by unfold pageOf; rw [h]
theorem page_arg {most : Int} {fs : List (List Ix.Rec)} {n fr many : Int} {r : List Ix.Rec} (h : keptN most fs n = some r) (hb : fr < 0 ∨ many < 0) : pageOf most fs n fr many = ([], 1) := by unfold pageOf; rw [h]; exact if_pos hb
theorem page_ok {most : Int} {fs : List (List Ix.Rec)} {n fr many : Int} {r : List Ix.Rec} (h : keptN most fs n = some r) (hb : ¬ (fr < 0 ∨ many < 0)) : pageOf most fs n fr many = ((r.drop fr.toNat).take many.toNat, 0) := by unfold pageOf; rw [h]; exact if_neg hb
theorem dropMin {α : Type} (l : List α) (a : Nat) : l.drop (min a l.length) = l.drop a := by
  rcases Nat.le_total a l.length with h | h
  · rw [Nat.min_eq_left h]
  rw [Nat.min_eq_right h, List.drop_length, List.drop_eq_nil_of_le h]
theorem takeMin {α : Type} (l : List α) (a : Nat) : l.take (min a l.length) = l.take a := by
  rcases Nat.le_total a l.length with h | h
  · rw [Nat.min_eq_left h]
  rw [Nat.min_eq_right h, List.take_length, List.take_of_length_le h]
theorem recC_one (x : Ix.Rec) : (recC x).all Value.oneCell' = true := rfl
theorem CloneR_ok (l : List Ix.Rec) (a : Option Addr) (c : Nat) (hl : l.length ≤ 1000000000) (I : Heap) (hr : RowS recC I l (.slice a l.length c)) : Ctr Tryz.prog 86 [.slice a l.length c] I [] (fun e _ H' => ∃ w, e = .returned w ∧ OwnT l w H') := by
 refine Ctr.ob func86 ?_
 intro w0 hw0
 refine Cj.sr (J.z q1 ?_)
 refine J.nsss (Cj.region (J.z q0 ?_))
 rcases a with _ | a
 ·have hz : l = [] := by
    obtain ⟨p9, c9, he9, _, hp9⟩ := hr
    cases he9
    refine Classical.byContradiction fun hn => ?_
    obtain ⟨b9, o9, cs9, T9, fr9, sp9, h9, _⟩ := hp9 hn
    cases h9
  refine J.z (yl_eqlSlice _ rfl rfl rfl tU36) ?_
  refine J.c1 (fun hc1 => ?_)
  refine Cj.sr (J.z q1 ?_)
  refine J.ns (Cj.rs (Ej.bare ?_))
  refine q5 ?_
  exact ⟨_, rfl, by rw [hz]; exact own_nil⟩
 skip
 refine J.z (yl_eqlSlice _ rfl rfl rfl tU36) ?_
 refine J.c0 (fun hc2 => ?_)
 refine Cj.ks (Cj.sr (J.op rfl (op_buildSlice0 rfl rfl rfl tU36 tS54 ?_)))
 intro b3 hb3
 refine J.z q0 ?_
 refine J.op rfl (op_append (by' := 15) (n := 0) (g := some (b3, 0, [])) (xs := []) [] rfl rfl rfl rfl rfl tU36 (.inr ⟨_, tU36⟩) (by kernel_rfl) tS54 tZ54 rfl ⟨hb3, rfl, rfl⟩ rfl (Src.row recC_len hr (fun x _ => recC_one x)) (by omega) ?_)
 intro g4 hg4
 refine J.z q1 ?_
 refine J.ns (Cj.ret (Ej.keep Keeps.r ?_))
 refine q5 ?_
 exact ⟨_, rfl, own_g (Nat.zero_add _) (gOk_zero hg4)⟩
theorem sNew_ok (most : Int) (I : Heap) : Ctr Tryz.prog 40 [i64 most] I [] (fun e _ H' => ∃ sb, e = .returned (ptr sb 0) ∧ H' = setsH sb most [] none) := by
 refine Ctr.ob func40 ?_
 intro w0 hw0
 refine Cj.sr (J.z q1 ?_)
 refine J.nssr (J.z q0 ?_)
 refine J.z (yl_buildS (pl := #[(0, 1), (1, 1), (2, 1)]) rfl rfl zeroValue82 rfl tU82 (fun w => by simp []) (LBld.part rfl rfl rfl (LSpl.c LSpl.z) LBld.none)) ?_
 refine J.op rfl (q15 ?_)
 intro b1 hb1
 refine J.z q1 ?_
 refine J.ns (Cj.ret (q5 ?_))
 exact ⟨b1, rfl, rfl⟩
theorem Find_none (sb : Nat) (xv : Value) (L : Ix.Ix) (q : Cq.Qn) (p : Option Addr) (c : Nat) (most : Int) (fs : List (List Ix.Rec)) (hsz : q.size ≤ 1000000000) (hwd : q.wide ≤ 10000000) (hmost : most ≤ 9223372036854775807) (hfl : fs.length ≤ 1000000) (hfs : fs = []) (hR : Cq.right q = true) (htk : Ix.TOK L) (I : Heap) (hps : PS I q.ps p) (hx : IxV I xv L) (hT : STab I)  :
    Ctr Tryz.prog 36 [ptr sb 0, xv, .agg (qCells q p c).toArray] I (setsH sb most fs none) (fun e I' H' => ∃ r o', e = .returned (.tuple #[i64 ((fs.length : Int) + 1), i64 (r.length : Int), i64 0]) ∧ Ix.IsRun L q r ∧ SetsOk I' most (fs ++ [r]) o' ∧ H' = setsH sb most (fs ++ [r]) o') := by
 have hbig := hx.big
 have hok : SetsM I [] 0 most fs := by rw [hfs]; exact SetsM.nil I most
 unfold setsH setO mapO
 refine Ctr.ob func36 ?_
 intro w0 hw0
 refine Cj.sr (J.op rfl (q15 ?_))
 intro b1 hb1
 refine J.z q1 ?_
 refine J.z q1 ?_
 refine J.z q1 ?_
 refine J.nsss (Cj.region (J.z q0 ?_))
 refine J.z (yl_eqlNil _ rfl rfl rfl tU76 (by kernel_rfl)) ?_
 refine J.c0 (fun hc2 => ?_)
 refine Cj.ks (Cj.sr (J.z q0 ?_))
 refine J.z (q10 tA32 tS32 (Blk.at 0 rfl)) ?_
 refine J.op rfl (op_callN rfl rfl rfl rfl rfl (Run_ok xv L (q) p c hsz hwd hR htk _ hps hx hT) ?_ (fun _ _ _ _ ⟨_, _, h, _⟩ => by cases h) (fun _ _ ⟨_, _, h, _⟩ => by cases h))
 intro v4 I5 H6 hle7 hn3 hp8
 have hok := hok.mono hle7
 obtain ⟨wa, ra, h, hruna, hoa⟩ := hp8; cases h
 refine J.keepO hoa hn3 (fun Ia hlea hra => ?_)
 have hok := hok.mono hlea
 have hrt := hra
 replace hra := hra.row
 obtain ⟨pa, ca, rfl⟩ := rowS_len hra
 refine J.z q0 ?_
 refine J.z q11 ?_
 refine J.z q11 ?_
 refine J.z q1 ?_
 refine J.z q1 ?_
 refine J.nsss (Cj.region (J.z q0 ?_))
 refine J.z (yl_neq rfl rfl rfl) ?_
 refine J.c0 (fun hc9 => ?_)
 refine Cj.ks (Cj.seq (Cj.sr (J.z q0 ?_)))
 refine J.z q6 ?_
 refine J.z (q2 (off' := 2) tU82 tS80) ?_
 refine J.z (q3 isAgg80 (Blk.at 1 rfl)) ?_
 refine J.z (yl_eqlMap _ rfl rfl rfl tU80) ?_
 refine J.c1 (fun hc10 => ?_)
 refine Cj.region (J.z q0 ?_)
 refine J.op rfl (op_makeMap rfl rfl rfl ?_)
 intro b11 hb11
 refine J.z q6 ?_
 refine J.z (q2 (off' := 2) tU82 tS80) ?_
 refine J.op rfl (q9 2 tS80 (LSpl.s (LSpl.s (LSpl.c LSpl.z))) (LSet.s (LSet.s LSet.z)) ?_)
 refine J.nssr (J.z q0 ?_)
 refine J.z q6 ?_
 refine J.z (q2 (off' := 1) tU82 tS3) ?_
 refine J.z (q3 tA3 (Blk.at 2 rfl)) ?_
 refine J.z (yl_add rfl rfl rfl (w64 (by omega))) ?_
 refine J.z q6 ?_
 refine J.z (q2 (off' := 1) tU82 tS3) ?_
 refine J.op rfl (q9 2 tS3 (LSpl.s (LSpl.c LSpl.z)) (LSet.s (LSet.s LSet.z)) ?_)
 refine J.nss ?_
 have hral : ra.length ≤ L.length := hruna.len
 refine Cj.drawSel [1, 2] [] 10 (by kernel_rfl) ?_
 refine JA.fix ⟨(HSub.c 1 rfl (HSub.c 2 rfl HSub.n)), CSub.n, (Le.refl _)⟩ (fun fx12 => ?_)
 refine JA.tk 0 rfl fx12 q0 ?_
 refine JA.tk 1 rfl fx12 q6 ?_
 refine JA.tk 2 rfl fx12 (q2 (off' := 2) tU82 tS80) ?_
 refine JA.tk 3 rfl fx12 (q3 isAgg80 (Blk.atC 1 rfl)) ?_
 refine JA.tk 4 rfl fx12 q0 ?_
 refine JA.tk 5 rfl fx12 q6 ?_
 refine JA.tk 6 rfl fx12 (q2 (off' := 1) tU82 tS3) ?_
 refine JA.tk 7 rfl fx12 (q3 tA3 (Blk.atC 1 rfl)) ?_
 refine JA.tk 8 rfl fx12 q0 ?_
 refine q4 9 rfl (op_insert (kv := kvI) (l := []) (c := 0) (a := ((fs.length : Int) + 1)) 0 (.inr rfl) rfl rfl rfl rfl rfl tU80 (KeyK.int tU3) rfl LSet.z ?_)
 refine ⟨⟨(Le.refl _), (HSub.c 1 rfl (HSub.c 2 rfl HSub.n)), CSub.n⟩, ?_⟩
 refine q8 ?_
 refine Ej.seq (Cj.seq (Cj.drawSel [1, 2] [] 15 (by kernel_rfl) ?_))
 refine JA.fix ⟨(HSub.c 1 rfl (HSub.c 2 rfl HSub.n)), CSub.n, (Le.refl _)⟩ (fun fx13 => ?_)
 refine JA.tk 0 rfl fx13 q0 ?_
 refine JA.tk 1 rfl fx13 q6 ?_
 refine JA.tk 2 rfl fx13 (q2 (off' := 2) tU82 tS80) ?_
 refine JA.tk 3 rfl fx13 (q3 isAgg80 (Blk.atC 1 rfl)) ?_
 refine JA.tk 4 rfl fx13 q0 ?_
 refine JA.tk 5 rfl fx13 q6 ?_
 refine JA.tk 6 rfl fx13 (q2 (off' := 1) tU82 tS3) ?_
 refine JA.tk 7 rfl fx13 (q3 tA3 (Blk.atC 1 rfl)) ?_
 refine JA.tk 8 rfl fx13 q0 ?_
 refine JA.tk 9 rfl fx13 q6 ?_
 refine JA.tk 10 rfl fx13 (q2 (off' := 0) tU82 tS3) ?_
 refine JA.tk 11 rfl fx13 (q3 tA3 (Blk.atC 1 rfl)) ?_
 refine JA.tk 12 rfl fx13 (yl_max2 rfl rfl rfl) ?_
 refine JA.tk 13 rfl fx13 (yl_sub rfl rfl rfl (w64 (by omega))) ?_
 refine q4 14 rfl (op_delete0 (kv := kvI) (a := (((fs.length : Int) + 1) - max most 1)) 0 rfl rfl rfl rfl (congrArg i64 (by omega)) tU80 (KeyK.int tU3) rfl LSet.z ?_)
 refine ⟨⟨(Le.refl _), (HSub.c 1 rfl (HSub.c 2 rfl HSub.n)), CSub.n⟩, ?_⟩
 refine q8 ?_
 refine Ej.seq (Cj.sr (J.z q0 ?_))
 refine J.z q6 ?_
 refine J.z (q2 (off' := 1) tU82 tS3) ?_
 refine J.z (q3 tA3 (Blk.at 2 rfl)) ?_
 refine J.z q0 ?_
 refine J.z (q14 tU36) ?_
 refine J.z q1 ?_
 refine J.z q1 ?_
 refine J.z q1 ?_
 refine J.ns (Cj.ret (Ej.keep (Keeps.k (Keeps.d (Keeps.k Keeps.n))) ?_))
 refine Ej.pull Pull.z ?_
 refine Ej.pull (Pull.s Pull.z) ?_
 refine Ej.ret3 rfl rfl rfl rfl rfl ?_
 exact ⟨ra, some (b11, _, _), rfl, hruna, SetsM.next hok hrt, by rw [List.length_append]; rfl⟩
theorem Find_some (sb : Nat) (xv : Value) (L : Ix.Ix) (q : Cq.Qn) (p : Option Addr) (c : Nat) (most : Int) (fs : List (List Ix.Rec)) (hsz : q.size ≤ 1000000000) (hwd : q.wide ≤ 10000000) (mb : Nat) (m : ML Int) (k : Nat) (hmost : most ≤ 9223372036854775807) (hfl : fs.length ≤ 1000000)  (hR : Cq.right q = true) (htk : Ix.TOK L) (I : Heap) (hps : PS I q.ps p) (hx : IxV I xv L) (hT : STab I) (hok : SetsM I m k most fs) :
    Ctr Tryz.prog 36 [ptr sb 0, xv, .agg (qCells q p c).toArray] I (setsH sb most fs (some (mb, m, k))) (fun e I' H' => ∃ r o', e = .returned (.tuple #[i64 ((fs.length : Int) + 1), i64 (r.length : Int), i64 0]) ∧ Ix.IsRun L q r ∧ SetsOk I' most (fs ++ [r]) o' ∧ H' = setsH sb most (fs ++ [r]) o') := by
 have hbig := hx.big
 unfold setsH setO mapO
 refine Ctr.ob func36 ?_
 intro w0 hw0
 refine Cj.sr (J.op rfl (q15 ?_))
 intro b1 hb1
 refine J.z q1 ?_
 refine J.z q1 ?_
 refine J.z q1 ?_
 refine J.nsss (Cj.region (J.z q0 ?_))
 refine J.z (yl_eqlNil _ rfl rfl rfl tU76 (by kernel_rfl)) ?_
 refine J.c0 (fun hc2 => ?_)
 refine Cj.ks (Cj.sr (J.z q0 ?_))
 refine J.z (q10 tA32 tS32 (Blk.at 0 rfl)) ?_
 refine J.op rfl (op_callN rfl rfl rfl rfl rfl (Run_ok xv L (q) p c hsz hwd hR htk _ hps hx hT) ?_ (fun _ _ _ _ ⟨_, _, h, _⟩ => by cases h) (fun _ _ ⟨_, _, h, _⟩ => by cases h))
 intro v4 I5 H6 hle7 hn3 hp8
 have hok := hok.mono hle7
 obtain ⟨wa, ra, h, hruna, hoa⟩ := hp8; cases h
 refine J.keepO hoa hn3 (fun Ia hlea hra => ?_)
 have hok := hok.mono hlea
 have hrt := hra
 replace hra := hra.row
 obtain ⟨pa, ca, rfl⟩ := rowS_len hra
 refine J.z q0 ?_
 refine J.z q11 ?_
 refine J.z q11 ?_
 refine J.z q1 ?_
 refine J.z q1 ?_
 refine J.nsss (Cj.region (J.z q0 ?_))
 refine J.z (yl_neq rfl rfl rfl) ?_
 refine J.c0 (fun hc9 => ?_)
 refine Cj.ks (Cj.seq (Cj.sr (J.z q0 ?_)))
 refine J.z q6 ?_
 refine J.z (q2 (off' := 2) tU82 tS80) ?_
 refine J.z (q3 isAgg80 (Blk.at 1 rfl)) ?_
 refine J.z (yl_eqlMap _ rfl rfl rfl tU80) ?_
 refine J.c0 (fun hc10 => ?_)
 refine Cj.ks (Cj.sr (J.z q0 ?_))
 refine J.z q6 ?_
 refine J.z (q2 (off' := 1) tU82 tS3) ?_
 refine J.z (q3 tA3 (Blk.at 1 rfl)) ?_
 refine J.z (yl_add rfl rfl rfl (w64 (by omega))) ?_
 refine J.z q6 ?_
 refine J.z (q2 (off' := 1) tU82 tS3) ?_
 refine J.op rfl (q9 1 tS3 (LSpl.s (LSpl.c LSpl.z)) (LSet.s LSet.z) ?_)
 refine J.nss ?_
 have hral : ra.length ≤ L.length := hruna.len
 refine Cj.drawSel [0, 1] [] 10 (by kernel_rfl) ?_
 refine JA.fix ⟨(HSub.c 0 rfl (HSub.c 1 rfl HSub.n)), CSub.n, (Le.refl _)⟩ (fun fx11 => ?_)
 refine JA.tk 0 rfl fx11 q0 ?_
 refine JA.tk 1 rfl fx11 q6 ?_
 refine JA.tk 2 rfl fx11 (q2 (off' := 2) tU82 tS80) ?_
 refine JA.tk 3 rfl fx11 (q3 isAgg80 (Blk.atC 1 rfl)) ?_
 refine JA.tk 4 rfl fx11 q0 ?_
 refine JA.tk 5 rfl fx11 q6 ?_
 refine JA.tk 6 rfl fx11 (q2 (off' := 1) tU82 tS3) ?_
 refine JA.tk 7 rfl fx11 (q3 tA3 (Blk.atC 1 rfl)) ?_
 refine JA.tk 8 rfl fx11 q0 ?_
 refine q4 9 rfl (op_insert (kv := kvI) (a := ((fs.length : Int) + 1)) 2 (.inr rfl) rfl rfl rfl rfl rfl tU80 (KeyK.int tU3) rfl (LSet.s (LSet.s LSet.z)) ?_)
 refine ⟨⟨(Le.refl _), (HSub.c 0 rfl (HSub.c 1 rfl HSub.n)), CSub.n⟩, ?_⟩
 refine q8 ?_
 refine Ej.seq (Cj.seq (Cj.drawSel [0, 1] [] 15 (by kernel_rfl) ?_))
 refine JA.fix ⟨(HSub.c 0 rfl (HSub.c 1 rfl HSub.n)), CSub.n, (Le.refl _)⟩ (fun fx12 => ?_)
 refine JA.tk 0 rfl fx12 q0 ?_
 refine JA.tk 1 rfl fx12 q6 ?_
 refine JA.tk 2 rfl fx12 (q2 (off' := 2) tU82 tS80) ?_
 refine JA.tk 3 rfl fx12 (q3 isAgg80 (Blk.atC 1 rfl)) ?_
 refine JA.tk 4 rfl fx12 q0 ?_
 refine JA.tk 5 rfl fx12 q6 ?_
 refine JA.tk 6 rfl fx12 (q2 (off' := 1) tU82 tS3) ?_
 refine JA.tk 7 rfl fx12 (q3 tA3 (Blk.atC 1 rfl)) ?_
 refine JA.tk 8 rfl fx12 q0 ?_
 refine JA.tk 9 rfl fx12 q6 ?_
 refine JA.tk 10 rfl fx12 (q2 (off' := 0) tU82 tS3) ?_
 refine JA.tk 11 rfl fx12 (q3 tA3 (Blk.atC 1 rfl)) ?_
 refine JA.tk 12 rfl fx12 (yl_max2 rfl rfl rfl) ?_
 refine JA.tk 13 rfl fx12 (yl_sub rfl rfl rfl (w64 (by omega))) ?_
 refine q4 14 rfl (op_delete0 (kv := kvI) (a := (((fs.length : Int) + 1) - max most 1)) 2 rfl rfl rfl rfl (congrArg i64 (by omega)) tU80 (KeyK.int tU3) rfl (LSet.s (LSet.s LSet.z)) ?_)
 refine ⟨⟨(Le.refl _), (HSub.c 0 rfl (HSub.c 1 rfl HSub.n)), CSub.n⟩, ?_⟩
 refine q8 ?_
 refine Ej.seq (Cj.sr (J.z q0 ?_))
 refine J.z q6 ?_
 refine J.z (q2 (off' := 1) tU82 tS3) ?_
 refine J.z (q3 tA3 (Blk.at 1 rfl)) ?_
 refine J.z q0 ?_
 refine J.z (q14 tU36) ?_
 refine J.z q1 ?_
 refine J.z q1 ?_
 refine J.z q1 ?_
 refine J.ns (Cj.ret (Ej.keep (Keeps.d (Keeps.k (Keeps.k Keeps.n))) ?_))
 refine Ej.ret3 rfl rfl rfl rfl rfl ?_
 exact ⟨ra, some (mb, _, _), rfl, hruna, SetsM.next hok hrt, by rw [List.length_append]; rfl⟩
theorem Find_ok (sb : Nat) (xv : Value) (L : Ix.Ix) (q : Cq.Qn) (p : Option Addr) (c : Nat) (most : Int) (fs : List (List Ix.Rec)) (hsz : q.size ≤ 1000000000) (hwd : q.wide ≤ 10000000) (o : So) (hmost : most ≤ 9223372036854775807) (hfl : fs.length ≤ 1000000) (hR : Cq.right q = true) (htk : Ix.TOK L) (I : Heap) (hps : PS I q.ps p) (hx : IxV I xv L) (hT : STab I) (hok : SetsOk I most fs o) :
    Ctr Tryz.prog 36 [ptr sb 0, xv, .agg (qCells q p c).toArray] I (setsH sb most fs o) (fun e I' H' => ∃ r o', e = .returned (.tuple #[i64 ((fs.length : Int) + 1), i64 (r.length : Int), i64 0]) ∧ Ix.IsRun L q r ∧ SetsOk I' most (fs ++ [r]) o' ∧ H' = setsH sb most (fs ++ [r]) o') := by
  rcases o with _ | ⟨mb, m, k⟩
  · exact Find_none sb xv L q p c most fs hsz hwd hmost hfl hok hR htk I hps hx hT
  exact Find_some sb xv L q p c most fs hsz hwd mb m k hmost hfl hR htk I hps hx hT hok
theorem Page_none (sb : Nat) (most : Int) (fs : List (List Ix.Rec)) (n fr many : Int) (_hfl : ∀ r, keptN most fs n = some r → r.length ≤ 1000000) (hfs : fs = []) (I : Heap) (hsb : I sb = some (cel 82 [i64 most, i64 (fs.length : Int), .map none]))  :
    Ctr Tryz.prog 37 [ptr sb 0, i64 n, i64 fr, i64 many] I [] (fun e _ H' => ∃ w, e = .returned (.tuple #[w, i64 (pageOf most fs n fr many).2]) ∧ OwnT (pageOf most fs n fr many).1 w H') := by
 have hkn : keptN most fs n = none := by rw [hfs]; exact kept_nil _ _
 refine Ctr.ob func37 ?_
 intro w0 hw0
 refine Cj.sr (J.z q1 ?_)
 refine J.z q1 ?_
 refine J.nsss (Cj.region (J.z q0 ?_))
 refine J.z (yl_eqlNil _ rfl rfl rfl tU76 (by kernel_rfl)) ?_
 refine J.c0 (fun hc1 => ?_)
 refine Cj.ks (Cj.sr (J.z q0 ?_))
 refine J.z q6 ?_
 refine J.z (q2 (off' := 2) tU82 tS80) ?_
 refine J.z (q3 isAgg80 (Blk.imm hsb)) ?_
 refine J.z q0 ?_
 refine J.z (yl_lookupNil2 (kv := kvI) (a := n) rfl rfl rfl rfl tU80 (KeyK.int tU3) tZ36) ?_
 refine J.z q0 ?_
 refine J.z q11 ?_
 refine J.z q11 ?_
 refine J.z q1 ?_
 refine J.z q1 ?_
 refine J.nss (Cj.block (Cj.sr (J.z q0 ?_)))
 refine J.z (yl_not rfl rfl) ?_
 refine J.z q1 ?_
 refine J.ns (Cj.cond rfl (fun hc2 => ?_) (fun hc2 => Bool.noConfusion (Eq.trans (Eq.symm (congrArg not rfl)) hc2)))
 refine Cj.sr (J.z q1 ?_)
 refine J.z q1 ?_
 refine J.ns (Cj.ret (Ej.blkRet (Ej.seqRet (Ej.bare ?_))))
 refine q20 ?_
 rw [page_none hkn]
 exact ⟨_, rfl, own_nil⟩
theorem Page_some (sb : Nat) (most : Int) (fs : List (List Ix.Rec)) (n fr many : Int) (mb : Nat) (m : ML Int) (k : Nat) (hfl : ∀ r, keptN most fs n = some r → r.length ≤ 1000000)  (I : Heap) (hsb : I sb = some (cel 82 [i64 most, i64 (fs.length : Int), .map (some mb)])) (hmb : I mb = some (mobj kvI m k)) (hok : SetsM I m k most fs) :
    Ctr Tryz.prog 37 [ptr sb 0, i64 n, i64 fr, i64 many] I [] (fun e _ H' => ∃ w, e = .returned (.tuple #[w, i64 (pageOf most fs n fr many).2]) ∧ OwnT (pageOf most fs n fr many).1 w H') := by

 refine Ctr.ob func37 ?_
 intro w0 hw0
 refine Cj.sr (J.z q1 ?_)
 refine J.z q1 ?_
 refine J.nsss (Cj.region (J.z q0 ?_))
 refine J.z (yl_eqlNil _ rfl rfl rfl tU76 (by kernel_rfl)) ?_
 refine J.c0 (fun hc1 => ?_)
 refine Cj.ks (Cj.sr (J.z q0 ?_))
 refine J.z q6 ?_
 refine J.z (q2 (off' := 2) tU82 tS80) ?_
 refine J.z (q3 isAgg80 (Blk.imm hsb)) ?_
 refine J.z q0 ?_
 rcases hkn : keptN most fs n with _ | r
 ·have hg : mget m n = none := hok.2.1 n hkn
  refine J.z (yl_lookup2 (kv := kvI) (l := m) (a := n) rfl rfl rfl rfl tU80 (KeyK.int tU3) tZ36 (Blk.imm hmb)) ?_
  refine J.z q0 ?_
  refine J.z q11 ?_
  refine J.z q11 ?_
  refine J.eqv 22 rfl (show _ = .bool false from (by rw [hg]; rfl)) ?_
  refine J.z q1 ?_
  refine J.z q1 ?_
  refine J.nss (Cj.block (Cj.sr (J.z q0 ?_)))
  refine J.z (yl_not rfl rfl) ?_
  refine J.z q1 ?_
  refine J.ns (Cj.cond rfl (fun hc2 => ?_) (fun hc2 => Bool.noConfusion (Eq.trans (Eq.symm (congrArg not rfl)) hc2)))
  refine Cj.sr (J.z q1 ?_)
  refine J.z q1 ?_
  refine J.ns (Cj.ret (Ej.blkRet (Ej.seqRet (Ej.bare ?_))))
  refine q20 ?_
  rw [page_none hkn]
  exact ⟨_, rfl, own_nil⟩
 obtain ⟨wr, hg, hrowt⟩ := hok.2.2 n r hkn
 have hrow := hrowt.row
 obtain ⟨pw, cw, rfl⟩ := rowS_len hrow
 have hrl := hfl r hkn
 have hcw : r.length ≤ cw := by obtain ⟨p9, c9, he9, hc9, _⟩ := hrow; cases he9; exact hc9
 refine J.z (yl_lookup2 (kv := kvI) (l := m) (a := n) rfl rfl rfl rfl tU80 (KeyK.int tU3) tZ36 (Blk.imm hmb)) ?_
 refine J.z q0 ?_
 refine J.z q11 ?_
 refine J.eqv 21 rfl (show _ = .slice pw r.length cw from (by rw [hg]; rfl)) ?_
 refine J.z q11 ?_
 refine J.eqv 22 rfl (show _ = .bool true from (by rw [hg]; rfl)) ?_
 refine J.z q1 ?_
 refine J.z q1 ?_
 refine J.nss (Cj.block (Cj.sr (J.z q0 ?_)))
 refine J.z (yl_not rfl rfl) ?_
 refine J.z q1 ?_
 refine J.ns (Cj.cond rfl (fun hc3 => Bool.noConfusion (Eq.trans (Eq.symm (congrArg not rfl)) hc3)) (fun hc3 => ?_))
 refine Cj.sr (J.z q0 ?_)
 refine J.z q18 ?_
 refine J.z q0 ?_
 refine J.split 29 rfl (fun hg4 => ?_) (fun hg4 => ?_)
 ·have hg4p := odt hg4
  refine q12 2 29 30 false hg4 ?_
  refine q12 2 29 31 false hg4 ?_
  refine J.z (q22 hg4) ?_
  refine J.z q1 ?_
  refine J.c1 (fun hc5 => ?_)
  refine Cj.sr (J.z q1 ?_)
  refine J.z q1 ?_
  refine J.ns (Cj.ret (Ej.blkRet (Ej.seqRet (Ej.bare ?_))))
  refine q20 ?_
  rw [page_arg hkn (.inl (odt hg4))]
  exact ⟨_, rfl, own_nil⟩
 have hg4p := odf hg4
 refine q13 2 29 false hg4 (q7 q0 ?_)
 refine q13 2 29 false hg4 (q7 q18 ?_)
 refine J.z (q23 hg4) ?_
 refine J.z q1 ?_
 refine J.cd (fun hc6 => ?_) (fun hc6 => ?_)
 ·have hc6p := odt hc6
  refine Cj.sr (J.z q1 ?_)
  refine J.z q1 ?_
  refine J.ns (Cj.ret (Ej.blkRet (Ej.seqRet (Ej.bare ?_))))
  refine q20 ?_
  rw [page_arg hkn (.inr (by have h := hc6; exact odt h))]
  exact ⟨_, rfl, own_nil⟩
 have hc6p := odf hc6
 refine Cj.kb (Cj.seq ?_)
 skip
 refine Cj.region (J.z q0 ?_)
 refine J.z q0 ?_
 refine J.z q0 ?_
 refine J.z (q14 tU36) ?_
 refine J.z (yl_min2 rfl rfl rfl) ?_
 refine J.eqv 37 rfl (show _ = i64 ((min fr.toNat r.length) : Nat) from (congrArg i64 (by omega))) ?_
 refine J.z (yl_slice1 (j := (min fr.toNat r.length)) rfl rfl rfl tU36 tS54 rfl (Nat.min_le_right _ _) hcw) ?_
 refine J.eqv 38 rfl (show _ = .slice (cutA pw cw (min fr.toNat r.length) 2) (r.drop (min fr.toNat r.length)).length (cw - (min fr.toNat r.length)) from (by rw [List.length_drop])) ?_
 refine J.z q1 ?_
 refine J.nss ?_
 have hrw1 : RowS recC I (r.drop (min fr.toNat r.length)) (.slice (cutA pw cw (min fr.toNat r.length) 2) (r.drop (min fr.toNat r.length)).length (cw - (min fr.toNat r.length))) := by rw [List.length_drop]; exact RowS.from recC_len hrow (Nat.min_le_right _ _)
 have hrw2 : RowS recC I ((r.drop (min fr.toNat r.length)).take (min many.toNat (r.drop (min fr.toNat r.length)).length)) (.slice (cutA pw cw (min fr.toNat r.length) 2) ((r.drop (min fr.toNat r.length)).take (min many.toNat (r.drop (min fr.toNat r.length)).length)).length (cw - (min fr.toNat r.length))) := by rw [List.length_take, Nat.min_eq_left (Nat.min_le_right _ _)]; exact RowS.take hrw1 (Nat.min_le_right _ _)
 have hfin : (r.drop (min fr.toNat r.length)).take (min many.toNat (r.drop (min fr.toNat r.length)).length) = (r.drop fr.toNat).take many.toNat := by rw [takeMin, dropMin]
 have hdl : (r.drop (min fr.toNat r.length)).length = r.length - (min fr.toNat r.length) := List.length_drop
 refine Cj.region (J.z q0 ?_)
 refine J.z q0 ?_
 refine J.z q0 ?_
 refine J.z (q14 tU36) ?_
 refine J.z (yl_min2 rfl rfl rfl) ?_
 refine J.eqv 43 rfl (show _ = i64 ((min many.toNat (r.drop (min fr.toNat r.length)).length) : Nat) from (congrArg i64 (by rw [List.length_drop]; omega))) ?_
 refine J.z (yl_slice0 (k := (min many.toNat (r.drop (min fr.toNat r.length)).length)) rfl rfl rfl tU36 tS54 rfl (by rw [List.length_drop]; omega)) ?_
 refine J.eqv 44 rfl (show _ = .slice (cutA pw cw (min fr.toNat r.length) 2) ((r.drop (min fr.toNat r.length)).take (min many.toNat (r.drop (min fr.toNat r.length)).length)).length (cw - (min fr.toNat r.length)) from (by rw [List.length_take, Nat.min_eq_left (Nat.min_le_right _ _)])) ?_
 refine J.op rfl (op_call (H1 := []) rfl rfl rfl rfl rfl (CloneR_ok ((r.drop (min fr.toNat r.length)).take (min many.toNat (r.drop (min fr.toNat r.length)).length)) _ _ (by rw [List.length_take, List.length_drop]; omega) _ hrw2) ?_ (fun _ _ _ _ ⟨_, h, _⟩ => by cases h) (fun _ _ ⟨_, h, _⟩ => by cases h))
 intro v7 I8 H9 hle10 hp11
 obtain ⟨wa, h, hoa⟩ := hp11; cases h
 refine J.z q1 ?_
 refine J.z q1 ?_
 refine J.ns (Cj.ret (q20 ?_))
 rw [page_ok hkn (by omega), ← hfin, List.append_nil]
 exact ⟨_, rfl, hoa⟩
def SetsP (I : Heap) (sb : Nat) (most : Int) (fs : List (List Ix.Rec)) : Prop := ∃ o, SetsOk I most fs o ∧ ∀ p ∈ setsH sb most fs o, I p.1 = some p.2
theorem SetsP.mono {I I' : Heap} {sb : Nat} {most : Int} {fs : List (List Ix.Rec)} (h : SetsP I sb most fs) (hle : Le I I') : SetsP I' sb most fs := let ⟨o, h1, h2⟩ := h; ⟨o, h1.mono hle, fun p hp => hle _ _ (h2 p hp)⟩
theorem kept_mem {most : Int} {fs : List (List Ix.Rec)} {n : Int} {r : List Ix.Rec} (h : keptN most fs n = some r) : r ∈ fs := by
  unfold keptN at h
  split at h
  · exact lmg h
  cases h
theorem Page_ok (sb : Nat) (most : Int) (fs : List (List Ix.Rec)) (n fr many : Int) (hfl : ∀ r ∈ fs, r.length ≤ 1000000) (I : Heap) (h : SetsP I sb most fs) : Ctr Tryz.prog 37 [ptr sb 0, i64 n, i64 fr, i64 many] I [] (fun e _ H' => ∃ w, e = .returned (.tuple #[w, i64 (pageOf most fs n fr many).2]) ∧ OwnT (pageOf most fs n fr many).1 w H') := by
  obtain ⟨o, h1, h2⟩ := h
  rcases o with _ | ⟨mb, m, k⟩
  · exact Page_none sb most fs n fr many (fun r hr => hfl r (kept_mem hr)) h1 I (h2 _ (.head _))
  exact Page_some sb most fs n fr many mb m k (fun r hr => hfl r (kept_mem hr)) I (h2 _ (.head _)) (h2 _ (.tail _ (.head _))) h1
theorem kept_first (most : Int) (r : List Ix.Rec) : keptN most [r] 1 = some r := by
  rw [show [r] = [] ++ [r] from rfl, kept_next, if_pos (by rfl)]
theorem kept_second (most : Int) (r : List Ix.Rec) : keptN most [r] 2 = none := by
  rw [show [r] = [] ++ [r] from rfl, kept_next, if_neg (by decide), kept_nil]
  split <;> rfl
theorem page_1 (most : Int) (r : List Ix.Rec) (i z : Nat) : pageOf most [r] 1 ((i * z : Nat) : Int) (z : Int) = ((r.drop (i * z)).take z, 0) := by
  rw [page_ok (kept_first most r) (by omega)]; rfl
theorem page_cat (r : List Ix.Rec) (i z : Nat) : r.take (i * z) ++ (r.drop (i * z)).take z = r.take ((i + 1) * z) := by
  rw [Nat.add_mul, Nat.one_mul, List.take_add]
theorem SearchPages_ok (xs : List Act) (v : Value) (hao : ActsOk xs) (l : List Int) (w : Value) (hll : l.length ≤ 1000000000000) (k : UInt8) (I : Heap) (hT : STab I) (hA : ActsS I xs v) (hl : IntP' I l w) : Pure Tryz.prog 10 [v, w, u8 k] I (.bool true) := by
 refine Ctr.toPure ?_
 have hp20 := play_len xs
 have hkl := k.toNat_lt
 refine Ctr.ob func10 ?_
 intro w0 hw0
 refine Cj.sr (J.z q1 ?_)
 refine J.nssr (J.op rfl (op_pure rfl rfl rfl rfl rfl (sanity_ok _ hT) ?_))
 refine J.z q1 ?_
 refine J.nssr (J.z q0 ?_)
 refine J.op rfl (op_callN rfl rfl rfl rfl rfl (built_ok xs _ hao _ hA) ?_ (fun _ _ _ _ ⟨_, _, _, _, _, h, _⟩ => by cases h) (fun _ _ ⟨_, _, _, _, _, h, _⟩ => by cases h))
 intro v2 I3 H4 hle5 hn1 hp6
 have hT := hT.mono hle5
 have hl := hl.mono hle5
 obtain ⟨ib, o, rb, es, w, h, hok, hE, hL, hek, hel, rfl⟩ := hp6; cases h
 refine J.persists ((rb, _) :: ixH ib o) hn1 (fun Ip hlep hK => ?_)
 have hT := hT.mono hlep
 have hl := hl.mono hlep
 have hx : IxP Ip ib (Ix.play (acts xs)) := ⟨o, hok.mono hlep, fun p hp => hK p (.tail _ hp)⟩
 clear hok hE hK
 refine J.z q0 ?_
 refine J.z q11 ?_
 refine J.z q11 ?_
 refine J.z q1 ?_
 refine J.z q1 ?_
 refine J.nssr (J.z q0 ?_)
 refine J.op rfl (op_call (H1 := []) rfl rfl rfl rfl rfl (Made12_ok _ l hll _ hl) ?_ (fun _ _ _ _ h => by obtain ⟨⟨_, _, h, _⟩, _⟩ := h; cases h) (fun _ _ h => by obtain ⟨⟨_, _, h, _⟩, _⟩ := h; cases h))
 intro v7 I8 H9 hle10 hp11
 have hT := hT.mono hle10
 have hx := hx.mono hle10
 obtain ⟨⟨q, v7x, hv7, ⟨pq, cq, rfl, hq⟩, hm⟩, rfl⟩ := hp11; cases hv7
 have hmd := hm.depth
 have hms := hm.size
 have hmw := hm.wide
 refine J.op rfl (q21 tZ32 ?_)
 intro b12 hb12
 refine J.op rfl (q9 0 tS32 (LSpl.c (LSpl.c (LSpl.c (LSpl.c (LSpl.c LSpl.z))))) LSet.z ?_)
 refine J.nssr (J.z q0 ?_)
 refine J.z (q10 tA32 tS32 (Blk.at 0 rfl)) ?_
 refine J.op rfl (op_callN rfl rfl rfl rfl rfl (Run_ok (ptr ib 0) (Ix.play (acts xs)) (q) pq cq (by omega) (by omega) hm.right (tok_few (Ix.play_few _)) _ hq (.inr ⟨ib, rfl, hx⟩) hT) ?_ (fun _ _ _ _ ⟨_, _, h, _⟩ => by cases h) (fun _ _ ⟨_, _, h, _⟩ => by cases h))
 intro v14 I15 H16 hle17 hn13 hp18
 have hT := hT.mono hle17
 have hx := hx.mono hle17
 have hq := hq.mono hle17
 obtain ⟨wa, ra, h, hruna, hoa⟩ := hp18; cases h
 refine J.keepO hoa hn13 (fun Ia hlea hra => ?_)
 have hT := hT.mono hlea
 have hx := hx.mono hlea
 have hq := hq.mono hlea
 replace hra := hra.row
 obtain ⟨pa, ca, rfl⟩ := rowS_len hra
 refine J.z q0 ?_
 refine J.z q11 ?_
 refine J.z q11 ?_
 refine J.z q1 ?_
 refine J.z q1 ?_
 refine J.nssr (J.op rfl (op_call (H1 := []) rfl rfl rfl rfl rfl (sNew_ok 3 _) ?_ (fun _ _ _ _ ⟨_, h, _⟩ => by cases h) (fun _ _ ⟨_, h, _⟩ => by cases h)))
 intro v19 I20 H21 hle22 hp23
 have hT := hT.mono hle22
 have hx := hx.mono hle22
 have hq := hq.mono hle22
 have hra := hra.mono hle22
 obtain ⟨sb, h, rfl⟩ := hp23; cases h
 refine J.perm (H' := [_] ++ setsH sb 3 [] none) List.perm_append_comm ?_
 refine J.z q1 ?_
 refine J.nsss (Cj.region (J.z q0 ?_))
 refine J.z (yl_eqlNil _ rfl rfl rfl tU76 (by kernel_rfl)) ?_
 refine J.c0 (fun hc24 => ?_)
 refine Cj.ks (Cj.sr (J.z q0 ?_))
 refine J.z q0 ?_
 refine J.z (q10 tA32 tS32 (Blk.at 0 rfl)) ?_
 refine J.op rfl (op_callR (H1 := setsH sb 3 [] none) [_] rfl rfl rfl rfl rfl rfl (Find_ok sb (ptr ib 0) (Ix.play (acts xs)) q pq cq 3 [] (by omega) (by omega) none (by decide) (by decide) hm.right (tok_few (Ix.play_few _)) _ hq (.inr ⟨ib, rfl, hx⟩) hT rfl) ?_ (fun _ _ _ _ ⟨_, _, h, _⟩ => by cases h) (fun _ _ ⟨_, _, h, _⟩ => by cases h))
 intro v25 I26 H27 hle28 hp29
 have hra := hra.mono hle28
 obtain ⟨r2, o2, h, hrun2, hok2, rfl⟩ := hp29; cases h
 obtain rfl : ra = r2 := hruna.eq hrun2
 refine J.z q0 ?_
 refine J.z q11 ?_
 refine J.z q11 ?_
 refine J.z q11 ?_
 refine J.z q1 ?_
 refine J.z q1 ?_
 refine J.z q1 ?_
 refine J.nss (Cj.isNew rfl (fun hnew => ?_))
 refine Cj.perm (H' := setsH sb 3 [ra] o2 ++ [_]) List.perm_append_comm ?_
 refine Cj.persists (setsH sb 3 [ra] o2) (fun p hp => hnew p (List.mem_append_right _ hp)) (fun I7 hle7 hK7 => ?_)
 have hra := hra.mono hle7
 have hok2 := hok2.mono hle7
 have hsp : SetsP I7 sb 3 [ra] := ⟨o2, hok2, hK7⟩
 clear hok2 hK7
 obtain ⟨z, hz⟩ : ∃ z : Nat, z = 1 + k.toNat % 5 := ⟨_, rfl⟩
 have hzl : z ≤ 5 := by omega
 have hral : ra.length ≤ (Ix.play (acts xs)).length := hruna.len
 have hfl : ∀ r ∈ [ra], r.length ≤ 1000000 := fun r hr => by rw [List.mem_singleton.1 hr]; omega
 refine Cj.region (J.z q0 ?_)
 refine J.z (yl_rem rfl rfl rfl (by decide)) ?_
 refine J.eqv 52 rfl (show _ = .int .u8 ((k.toNat % 5 : Nat) : Int) from (congrArg (Value.int .u8) (by rw [Int.tmod_eq_emod_of_nonneg (by omega)]; omega))) ?_
 refine J.z (yl_convInt rfl rfl tU5 tU3) ?_
 refine J.eqv 53 rfl (show _ = i64 ((k.toNat % 5 : Nat) : Int) from (congrArg i64 (w64 (by omega)))) ?_
 refine J.z (yl_add rfl rfl rfl (w64 (by omega))) ?_
 refine J.eqv 54 rfl (show _ = i64 (z : Int) from (congrArg i64 (by omega))) ?_
 refine J.z q1 ?_
 refine J.nssr (J.z q1 ?_)
 refine J.nsss (Cj.region (J.z q1 ?_))
 refine J.ns (Cj.block (Cj.keep (Keeps.d Keeps.n) ?_))
 refine Cj.loop (ι := Nat × Nat × Heap × Gs) (fun y => y.2.1 = y.1 * z ∧ y.2.1 ≤ ra.length + z + z ∧ Le I7 y.2.2.1 ∧ gOk w0.heap.size 2 (ra.take y.2.1).length ((ra.take y.2.1).flatMap recC) y.2.2.2) (fun y => ra.length + z + z + z - y.2.1) (fun y => [(7, .bool true), (11, .slice pa ra.length ca), (13, ptr sb 0), (14, i64 1), (15, i64 (ra.length : Int)), (16, i64 0), (17, i64 (z : Int)), (18, gV (ra.take y.2.1).length y.2.2.2), (19, i64 (y.1 : Int))]) (fun y => y.2.2.1) (fun y => gH 54 ((ra.take y.2.1).flatMap recC) y.2.2.2) (0, 0, _, none) ⟨by dsimp only; omega, by dsimp only; omega, Le.refl _, rfl, rfl⟩ ⟨rfl, rfl, rfl, rfl, rfl, rfl, rfl, rfl, rfl, trivial⟩ rfl rfl ?_
 rintro ⟨i, m, J1, g⟩ ⟨hm, hmb, hIJ, hg⟩
 dsimp only at hm hmb hIJ hg ⊢
 have hsp := hsp.mono hIJ
 have hra := hra.mono hIJ
 have hil : i ≤ m := by rw [hm]; exact Nat.le_mul_of_pos_right i (by omega)
 have hmi : (i : Int) * (z : Int) = (m : Int) := by rw [hm]; exact (Int.natCast_mul i z).symm
 refine Cj.seq (Cj.sr (J.z q0 ?_))
 refine J.z q0 ?_
 refine J.z (yl_mul rfl rfl rfl (by rw [hmi]; exact w64 (by omega))) ?_
 refine J.eqv 57 rfl (show _ = i64 (m : Int) from (congrArg i64 hmi)) ?_
 refine J.z q0 ?_
 refine J.z q0 ?_
 refine J.z (yl_add rfl rfl rfl (w64 (by omega))) ?_
 refine J.z q18 ?_
 refine J.cd (fun hc30 => ?_) (fun hc30 => ?_)
 ·have hc30p := odt hc30
  refine Cj.ks (Cj.seq (Cj.block (Cj.sr (J.z q0 ?_))))
  refine J.z q0 ?_
  refine J.z q0 ?_
  refine J.z q0 ?_
  refine J.z (yl_mul rfl rfl rfl (by rw [hmi]; exact w64 (by omega))) ?_
  refine J.eqv 69 rfl (show _ = i64 (m : Int) from (congrArg i64 hmi)) ?_
  refine J.z q0 ?_
  refine J.op rfl (op_callN rfl rfl rfl rfl rfl (Page_ok sb 3 [ra] 1 (m : Int) (z : Int) hfl _ hsp) ?_ (fun _ _ _ _ ⟨_, h, _⟩ => by cases h) (fun _ _ ⟨_, h, _⟩ => by cases h))
  intro v32 I33 H34 hle35 hn31 hp36
  have hIJ := hIJ.mono hle35
  obtain ⟨wb, h, hob⟩ := hp36; cases h
  rw [show pageOf 3 [ra] 1 (m : Int) (z : Int) = ((ra.drop m).take z, 0) from by rw [hm]; exact page_1 3 ra i z] at hob ⊢
  refine J.keepO hob hn31 (fun Ib hleb hrb => ?_)
  have hIJ := hIJ.mono hleb
  replace hrb := hrb.row
  obtain ⟨pb, cb, rfl⟩ := rowS_len hrb
  refine J.z q0 ?_
  refine J.z q11 ?_
  refine J.z q11 ?_
  refine J.z q1 ?_
  refine J.z q1 ?_
  refine J.nsss (Cj.region (J.z q0 ?_))
  refine J.z (yl_neq rfl rfl rfl) ?_
  refine J.z q0 ?_
  refine J.opG 2 76 false _ rfl rfl rfl (by first | rfl | decide) (q7 q0 ?_)
  refine J.opG 2 76 false _ rfl rfl rfl (by first | rfl | decide) (q7 (q14 tU36) ?_)
  refine J.opG 2 76 false _ rfl rfl rfl (by first | rfl | decide) (q7 q0 ?_)
  refine J.opG 2 76 false _ rfl rfl rfl (by first | rfl | decide) (q7 (yl_gtr rfl rfl rfl) ?_)
  refine J.z (yl_pick0 rfl rfl (by first | rfl | decide) rfl) ?_
  refine J.ns (Cj.cond rfl (fun hc37 => Bool.noConfusion (Eq.trans (Eq.symm (decide_eq_false (by rw [List.length_take]; omega))) hc37)) (fun hc37 => ?_))
  refine Cj.ks (Cj.region (J.z q0 ?_))
  refine J.z q0 ?_
  refine J.op rfl (op_append (by' := 15) [] rfl rfl rfl rfl rfl tU36 (.inr ⟨_, tU36⟩) (by kernel_rfl) tS54 tZ54 rfl hg rfl (Src.row recC_len hrb (fun x _ => recC_one x)) (by rw [List.length_take, List.length_take]; omega) ?_)
  intro g38 hg38
  refine J.z q1 ?_
  refine J.nb (Cj.region (J.z q0 ?_))
  refine J.z (yl_add rfl rfl rfl (w64 (by omega))) ?_
  refine J.z q1 ?_
  refine J.nil (Ej.round (i + 1, (i + 1) * z, _, g38) ⟨rfl, by dsimp only; rw [Nat.add_mul, Nat.one_mul, ← hm]; omega, hIJ, by dsimp only; rw [← page_cat, ← hm, List.length_append, List.flatMap_append]; exact hg38⟩ (by dsimp only; rw [Nat.add_mul, Nat.one_mul, ← hm]; omega) ⟨rfl, rfl, rfl, rfl, rfl, rfl, rfl, by dsimp only; rw [← page_cat, ← hm, List.length_append]; rfl, rfl, trivial⟩ rfl (by dsimp only; rw [← page_cat, ← hm, List.flatMap_append]; rfl))
 have hc30p := odf hc30
 refine Cj.xl (Cj.seq ?_)
 have hfull : (ra.take m) = ra := List.take_of_length_le (by omega)
 rw [hfull] at hg ⊢
 refine Cj.perm (H' := gH 54 (ra.flatMap recC) g ++ []) (.of_eq (List.append_nil _)) ?_
 refine Cj.keepR recC_len (by decide) hg rfl (fun I8 hle8 hv => ?_)
 have hsp := hsp.mono hle8
 have hra := hra.mono hle8
 obtain ⟨pv, cv, hve⟩ := rowS_len hv
 refine Cj.eqv 18 rfl (show _ = .slice pv ra.length cv from hve) ?_
 rw [hve] at hv
 refine Cj.region (J.z q0 ?_)
 refine J.z q0 ?_
 refine J.z (yl_add rfl rfl rfl (w64 (by omega))) ?_
 refine J.op rfl (op_callN rfl rfl rfl rfl rfl (Page_ok sb 3 [ra] 2 0 1 hfl _ hsp) ?_ (fun _ _ _ _ ⟨_, h, _⟩ => by cases h) (fun _ _ ⟨_, h, _⟩ => by cases h))
 intro v40 I41 H42 hle43 hn39 hp44
 have hsp := hsp.mono hle43
 have hra := hra.mono hle43
 have hv := hv.mono hle43
 obtain ⟨wc, h, hoc⟩ := hp44; cases h
 rw [page_none (kept_second 3 ra)] at hoc ⊢
 refine J.keepO hoc hn39 (fun Ic hlec hrc => ?_)
 have hsp := hsp.mono hlec
 have hra := hra.mono hlec
 have hv := hv.mono hlec
 replace hrc := hrc.row
 obtain ⟨pc, cc, rfl⟩ := rowS_len hrc
 refine J.z q0 ?_
 refine J.z q11 ?_
 refine J.z q11 ?_
 refine J.z q1 ?_
 refine J.z q1 ?_
 refine J.nssr (J.z q0 ?_)
 refine J.z q0 ?_
 refine J.op rfl (op_callN rfl rfl rfl rfl rfl (Page_ok sb 3 [ra] 1 (-1) 1 hfl _ hsp) ?_ (fun _ _ _ _ ⟨_, h, _⟩ => by cases h) (fun _ _ ⟨_, h, _⟩ => by cases h))
 intro v46 I47 H48 hle49 hn45 hp50
 have hra := hra.mono hle49
 have hv := hv.mono hle49
 obtain ⟨wd, h, hod⟩ := hp50; cases h
 rw [page_arg (kept_first 3 ra) (.inl (by decide))] at hod ⊢
 refine J.keepO hod hn45 (fun Id hled hrd => ?_)
 have hra := hra.mono hled
 have hv := hv.mono hled
 replace hrd := hrd.row
 obtain ⟨pd, cd, rfl⟩ := rowS_len hrd
 refine J.z q0 ?_
 refine J.z q11 ?_
 refine J.z q11 ?_
 refine J.z q1 ?_
 refine J.z q1 ?_
 refine J.nssr (J.z q0 ?_)
 refine J.z q0 ?_
 refine J.opG 1 99 true _ rfl rfl rfl rfl (q7 q0 ?_)
 refine J.opG 1 99 true _ rfl rfl rfl rfl (q7 q19 ?_)
 refine J.z (yl_pick1 rfl rfl rfl rfl) ?_
 refine J.z q0 ?_
 refine J.opG 5 103 true _ rfl rfl rfl (by first | rfl | decide) (q7 q0 ?_)
 refine J.opG 5 103 true _ rfl rfl rfl (by first | rfl | decide) (q7 q19 ?_)
 refine J.z (yl_pick1 rfl rfl (by first | rfl | decide) rfl) ?_
 refine J.z q0 ?_
 refine J.opG 9 107 true _ rfl rfl rfl (by first | rfl | decide) (q7 q0 ?_)
 refine J.opG 9 107 true _ rfl rfl rfl (by first | rfl | decide) (q7 q0 ?_)
 refine J.opG 9 107 true _ rfl rfl rfl (by first | rfl | decide) (q7 (q14 tU36) ?_)
 refine J.opG 9 107 true _ rfl rfl rfl (by first | rfl | decide) (q7 q19 ?_)
 refine J.z (yl_pick1 rfl rfl (by first | rfl | decide) rfl) ?_
 refine J.z q0 ?_
 refine q13 15 113 true (beq_self_eq_true _) (q7 q0 ?_)
 refine q13 15 113 true (beq_self_eq_true _) (q7 q0 ?_)
 refine J.opG 15 113 true _ rfl rfl rfl (beq_self_eq_true _) (op_pure rfl rfl rfl rfl rfl (rRecs_ok ra ra _ _ (by omega) _ hv hra) ?_)
 refine J.eqv 116 rfl (show _ = .bool true from (congrArg Value.bool (decide_eq_true rfl))) ?_
 refine J.z (q22 (beq_self_eq_true _)) ?_
 refine J.z q0 ?_
 refine J.opG 20 118 true _ rfl rfl rfl rfl (q7 q0 ?_)
 refine J.opG 20 118 true _ rfl rfl rfl rfl (q7 q19 ?_)
 refine J.z (yl_pick1 rfl rfl rfl rfl) ?_
 refine J.z q0 ?_
 refine J.opG 24 122 true _ rfl rfl rfl (by first | rfl | decide) (q7 q0 ?_)
 refine J.opG 24 122 true _ rfl rfl rfl (by first | rfl | decide) (q7 q19 ?_)
 refine J.z (yl_pick1 rfl rfl (by first | rfl | decide) rfl) ?_
 refine J.z q1 ?_
 refine J.ns (Cj.ret (Ej.bare ?_))
 refine q5 ?_
 exact ⟨rfl, rfl⟩
end Go.Proofs.YtekmeaoblpfnpaaGreatDoor
namespace Go.Proofs.YtekmeaoblpfnpaaGreatDoor
open Go.ChangeShapes Go.WideShapes Go.ChangeAt Go.RowKit Go.Sx Go.Lib Go.ChangeMaps
theorem tab_of_reads {P : Program} {W : World} {name : String} {k : IntKind} {zs : List Int} {g : Nat} {t e : TypeId} {n : Nat}
    (hg : P.globalNamed name = some g) (hty : (P.globals[g]?).map (·.type) = some t) (ht : P.underlying t = some (.array n e)) (he : P.underlying e = some (.int k)) (hce : P.cellsOf e = 1) (hct : P.cellsOf t = n)
    (h : VarReads P W name (tabData k zs)) : TabIs P W name k zs := by
  obtain ⟨g', t', cs, fuel, p, hg', ht', hvar, hd⟩ := h
  obtain rfl := Option.some.inj (hg.symm.trans hg')
  obtain rfl := Option.some.inj (hty.symm.trans ht')
  unfold TabIs
  rw [hvar, ← cells_of_tab ht he hce hct hd]
theorem stab_of {W : World} {L : List (String × DataW Unit)} (hL : laidMet Tryz.prog L W) (hw : ("unicode.White_Space", Rows.laid_unicode_White_Space) ∈ L) (ha : ("strings.asciiSpace", Rows.laid_strings_asciiSpace) ∈ L) : STab (HW W) := by
  have e1 : (Rows.laid_unicode_White_Space : DataW Unit) = whiteData := by kernel_rfl
  have e2 : (Rows.laid_strings_asciiSpace : DataW Unit) = tabData .u8 asciiSpaceTab := by kernel_rfl
  have hT : TabIs Tryz.prog W "strings.asciiSpace" .u8 asciiSpaceTab := tab_of_reads (g := 1) (t := Tryz.lays157_ren.t 119) (e := Tryz.lays157_ren.t 5) (n := 256) (by kernel_rfl) (by kernel_rfl) Tryz.lays157.t119 Tryz.lays157.t5 (by kernel_rfl) (by kernel_rfl) (e2 ▸ laidMet.reads hL ha)
  have hS : WhiteTab 3 W := whiteTab_of_reads (ρ := Tryz.lays157_ren) { Tryz.lays157 with } ⟨by kernel_rfl, by kernel_rfl, by kernel_rfl, by kernel_rfl, by kernel_rfl, by kernel_rfl, by kernel_rfl, by kernel_rfl⟩ (e1 ▸ laidMet.reads hL hw)
  intro w hwW
  have key : ∀ (a : Addr) (v : Value), W.cell? a = some v → w.cell? a = some v := fun a v h => by
    have h0 := h
    unfold World.cell? at h
    cases hb : W.heap[a.block]? with
    | none => rw [hb] at h; cases h
    | some o =>
      have := World.cell?_of_block (w := w) (w' := W) (a := a) (by rw [hwW _ _ hb, hb])
      rw [← this]; exact h0
  refine ⟨?_, ?_⟩
  · unfold TabIs World.var? at hT ⊢
    have hg : Tryz.prog.globalNamed "strings.asciiSpace" = some 1 := by kernel_rfl
    rw [hg] at hT ⊢
    simp only [Option.bind_some] at hT ⊢
    cases hb : W.heap[(1 : Nat)]? with
    | none => rw [hb] at hT; cases hT
    | some o => rw [hwW _ _ hb]; rw [hb] at hT; exact hT
  obtain ⟨T, oT, R, oR, h1, h2, h3, h4, h5⟩ := hS
  exact ⟨T, oT, R, oR, key _ _ h1, key _ _ h2, key _ _ h3, key _ _ h4, fun i hi => key _ _ (h5 i hi)⟩
end Go.Proofs.YtekmeaoblpfnpaaGreatDoor
namespace Go.Proofs.YtekmeaoblpfnpaaGreatDoor
open Go.ChangeShapes Go.WideShapes Go.ChangeAt Go.RowKit Go.Sx Go.Lib Go.ChangeMaps Go.WideMaps
section
variable {H : Type} {enc : TypeId × Value → H} {W : World} {base : Nat}
theorem Arg.field {fs : Array Field} {cs : List Value} {ms : List Nat} (h : ∀ (i : Nat) f m', fs[i]? = some f → ms[i]? = some m' → Arg enc W f.type ((cs.drop f.offset).take (Tryz.prog.cellsOf f.type)) m') (i : Nat) {f : Field} {m t o k : Nat}
    (hf : fs[i]? = some f) (hm : ms[i]? = some m) (ht : f.type = t) (ho : f.offset = o) (hc : Tryz.prog.cellsOf t = k) : Arg enc W t ((cs.drop o).take k) m := by
  subst ht ho hc
  exact h i f m hf hm
theorem list4 {α : Type} {l : List α} (h : l.length = 4) : ∃ a b c d, l = [a, b, c, d] := by
  match l, h with
  | [a, b, c, d], _ => exact ⟨a, b, c, d, rfl⟩
theorem wf_in64 {n : Int} (h : (Lit.int .i64 n).wf = true) : In64 n := by
  have h1 : (decide (-9223372036854775808 ≤ n) && decide (n ≤ 9223372036854775807)) = true := h
  rw [Bool.and_eq_true, decide_eq_true_eq, decide_eq_true_eq] at h1
  exact h1
theorem Arg.elem {e k : Nat} {cs : List Value} {ms : List Nat} (h : ∀ (i m' : Nat), ms[i]? = some m' → Arg enc W e ((cs.drop (i * 1)).take 1) m') (he : Tryz.prog.underlying e = some (.int .i64)) (hml : ms.length = k) (i : Nat) (hi : i < k) : ∃ z : Int, cs[i]? = some (i64 z) ∧ In64 z := by
  have hm : ms[i]? = some (ms[i]'(by omega)) := List.getElem?_eq_getElem _
  obtain ⟨z, hz, hw, _⟩ := (h i _ hm).int he
  refine ⟨z, ?_, wf_in64 hw⟩
  have := congrArg (fun l => l[0]?) hz
  simpa [List.getElem?_drop] using this
theorem list_four {cs : List Value} (hl : cs.length = 4) (h : ∀ i, i < 4 → ∃ z : Int, cs[i]? = some (i64 z) ∧ In64 z) : ∃ q : Ix.Four, cs = fourC q ∧ FourOk q := by
  match cs, hl with
  | [a, b, c, d], _ =>
    obtain ⟨z0, e0, w0⟩ := h 0 (by decide)
    obtain ⟨z1, e1, w1⟩ := h 1 (by decide)
    obtain ⟨z2, e2, w2⟩ := h 2 (by decide)
    obtain ⟨z3, e3, w3⟩ := h 3 (by decide)
    cases e0; cases e1; cases e2; cases e3
    exact ⟨⟨z0, z1, z2, z3⟩, rfl, ⟨w0, w1, w2, w3⟩⟩
theorem Arg.four {cs : List Value} {m : Nat} (h : Arg enc W 215 cs m) : ∃ q : Ix.Four, cs = fourC q ∧ FourOk q := by
  obtain ⟨hl, ms, hml, _, hf⟩ := h.array Tryz.underlying215
  rw [show Tryz.prog.cellsOf 215 = 4 by kernel_rfl] at hl
  rw [show Tryz.prog.cellsOf 3 = 1 by kernel_rfl] at hf
  exact list_four hl fun i hi => Arg.elem hf Tryz.underlying3 hml i hi
theorem Arg.act {cs : List Value} {m : Nat} (h : Arg enc W 93 cs m) : ∃ x : Act, cs = actC x ∧ RowS fourC (HW W) x.a.fs x.v ∧ ∀ q ∈ x.a.fs, FourOk q := by
  obtain ⟨hl, ms, hml, hms, hf⟩ := h.struct Tryz.underlying93
  rw [show Tryz.prog.cellsOf 93 = 4 by kernel_rfl] at hl
  obtain ⟨a, b, c, d, rfl⟩ := list4 hl
  obtain ⟨m0, m1, m2, m3, rfl⟩ := list4 hml
  have cI : Tryz.prog.cellsOf 3 = 1 := by kernel_rfl
  obtain ⟨b0, h0⟩ := (Arg.field hf (o := 0) 0 rfl rfl rfl rfl (show Tryz.prog.cellsOf 4 = 1 by kernel_rfl)).bool Tryz.underlying4
  obtain ⟨z1, h1, _, _⟩ := (Arg.field hf (o := 1) 1 rfl rfl rfl rfl cI).int Tryz.underlying3
  obtain ⟨z2, h2, _, _⟩ := (Arg.field hf (o := 2) 2 rfl rfl rfl rfl cI).int Tryz.underlying3
  obtain ⟨l, v, h3, hr, _, _, hq⟩ := (Arg.field hf (o := 3) 3 rfl rfl rfl rfl (show Tryz.prog.cellsOf 91 = 1 by kernel_rfl)).row (f := fourC) (size := fun _ => 0) Tryz.underlying91 (show Tryz.prog.cellsOf 215 = 4 by kernel_rfl) (by decide) FourOk fun cs m' _ h => by
    obtain ⟨q, h1, h2⟩ := h.four
    exact ⟨q, h1, Nat.zero_le _, h2⟩
  simp only [List.drop_zero, List.drop_succ_cons, List.take_succ_cons, List.take_zero, List.cons.injEq, and_true] at h0 h1 h2 h3
  subst h0 h1 h2 h3
  exact ⟨⟨⟨b0, z1, z2, l⟩, d⟩, rfl, hr, hq⟩
theorem arg_acts {v : Value} {d : DataW H} {p : List MemPlace} (hval : Value.okWide Tryz.prog W .any base 22 v) (h : DataW.Trod enc Tryz.prog W 0 (fun _ => true) true 22 v d p) (hlt : ∀ x ∈ p, x.block < W.heap.size) :
    ∃ xs : List Act, ActsS (HW W) xs v ∧ ActsOk xs ∧ Again enc W 22 v d p := by
  have hag := again (by kernel_rfl) (of_decide_eq_true (by kernel_rfl)) h hlt
  obtain ⟨a, len, cap, rfl⟩ := okWide_slice Tryz.underlying22 hval
  obtain ⟨xs, v', h1, h2, _, _, h4⟩ := (Arg.of h).row (f := actC) (size := fun _ => 0) Tryz.underlying22 (show Tryz.prog.cellsOf 93 = 4 by kernel_rfl) (by decide) (fun x => RowS fourC (HW W) x.a.fs x.v ∧ ∀ q ∈ x.a.fs, FourOk q) fun cs m' _ h => by
    obtain ⟨x, h1, h2, h3⟩ := h.act
    exact ⟨x, h1, Nat.zero_le _, h2, h3⟩
  obtain rfl : Value.slice a len cap = v' := by simpa [Value.cells] using h1
  exact ⟨xs, ⟨h2, fun x hx => (h4 x hx).1⟩, fun x hx => (h4 x hx).2, hag⟩
