/-
  Own texts on the laws of the seat, joined: the logic, and contracts of functions. Conditions: none.
-/
import Derived.Test.YtekmeaoblpfnpaaGreatDoorNmQ
import Derived.Test.YtekmeaoblpfnpaaGreatDoorPQ14
import Derived.Lib.LaidU8
set_option linter.all false
set_option maxRecDepth 100000
set_option maxHeartbeats 40000000
namespace Go.Proofs.YtekmeaoblpfnpaaGreatDoor
open _root_.Go.Proofs.Tryz
open Go Go.Sx Go.Stab
theorem a7e xv L (htk : Ix.RS L) (hL : Ix.AO L) pb mb : ∀ n, a3m xv L pb mb n
  | 0 => fun _ _ _ _ _ _ h => absurd h (Nat.not_lt_zero _)
  | n + 1 => b2O xv L htk hL pb mb n (a7e xv L htk hL pb mb n)
theorem b7K xv L (htk : Ix.RS L) (hL : Ix.AO L) q p c (hwd : q.wide ≤ 10000000) (hsz : q.size ≤ 10000000) I (hps : PS I q.ps p) (hx : JO I xv L) (hT : JV I) :
    yZ Tryz.prog 46 [xv, .agg (AV q p c).toArray] I [] (fun e I' H' => ∃ (p' : Option Addr) (c' : Nat), e = .returned (.agg (AV (Ix.EX (EM L) q) p' c').toArray) ∧ PS I' (Ix.EX (EM L) q).ps p' ∧ H' = []) := by
 obtain ⟨pa, rfl⟩ : ∃ pa, xv = .pointer pa := by
   rcases hx with ⟨rfl, _⟩ | ⟨b, rfl, _⟩ <;> exact ⟨_, rfl⟩
 refine yZ.ob Tryz.func46 ?_
 intro w0 hw0
 refine Cj.sr (J.op rfl (IJ rfl rfl rfl rfl rfl ?_))
 intro b1 hb1
 refine J.op rfl (GV BX ?_)
 intro b2 hb2
 refine J.YU (Cj.region (J.z (AU rfl rfl AA zK (yY.at 1 rfl) rfl rfl) ?_))
 refine J.op rfl (NV rfl rfl rfl rfl rfl (UG q p c (by omega) (by omega) _ hps) ?_)
 refine J.z (b4l rfl rfl) ?_
 refine J.cd (fun hc3 => ?_) (fun hc3 => ?_)
 ·refine Cj.sr (J.z (zS (pl := #[(0, 1), (1, 1), (2, 1), (3, 1), (4, 1)]) rfl rfl BX rfl tU32 (fun w => by simp [IC, FQ, CG]) zL.none) ?_)
  refine J.op rfl (qq2 0 zK (yV.c (yV.c (yV.c (yV.c (yV.c yV.z))))) yX.z ?_)
  refine J.ns (Cj.rs ?_)
  have hR : Cq.right q = false := by have h := hc3; simpa using h
  have he : Ix.EX (EM L) q = Cq.zero := by unfold Ix.EX; rw [hR]; rfl
  refine Ej.CP (Keeps.d (Keeps.d Keeps.n)) rfl rfl rfl (yY.at 0 rfl) AA zK rfl ?_
  rw [he]
  exact ⟨none, 0, rfl, .inl rfl, rfl⟩
 have hR : Cq.right q = true := by have h := hc3; simpa using h
 have hform : Cq.form q = true := by unfold Cq.right at hR; rw [Bool.and_eq_true] at hR; exact hR.1
 obtain ⟨hF1, hF2, hF3⟩ := Ix.OD Ix.GI Ix.DZ (EM L) (q.size + 1) q (Nat.lt_succ_self _) hform
 refine Cj.ks (Cj.sr (J.z BR ?_))
 refine J.op rfl (AZ rfl rfl rfl ?_)
 intro b4 hb4
 refine J.z (zS (pl := #[(0, 1), (1, 1)]) rfl rfl Tryz.zeroValue173 rfl YB (fun w => by simp [Tryz.sizeOf171, Tryz.sizeOf26]) (zL.part rfl rfl rfl (yV.c yV.z) (zL.part rfl rfl rfl (yV.s (yV.c yV.z)) zL.none))) ?_
 refine J.op rfl (IJ rfl rfl rfl rfl rfl ?_)
 intro b5 hb5
 refine J.z FN ?_
 refine J.YU (Cj.persist hb5 (fun I7 hle6 hb5i => ?_))
 have hps := hps.mono hle6
 have hx := hx.mono hle6
 have hT := hT.mono hle6
 refine Cj.region (J.z BR ?_)
 refine J.z (AU rfl rfl AA zK (yY.at 2 rfl) rfl rfl) ?_
 refine J.pull Pull.z ?_
 refine J.op rfl (zM (H1 := [_]) rfl rfl rfl rfl rfl (a7e _ L htk hL b5 b4 (q.size + 1) q p c [] 0 _ (Nat.lt_succ_self _) hform hwd hsz hps ⟨hb5i, hx, hT⟩ (WM.nil L)) ?_ (fun _ _ _ _ ⟨_, _, _, h, _⟩ => by cases h) (fun _ _ ⟨_, _, _, h, _⟩ => by cases h))
 intro v8 I9 H10 hle11 hp12
 have hps := hps.mono hle11
 have hx := hx.mono hle11
 have hT := hT.mono hle11
 have hb5i := hle11 _ _ hb5i
 obtain ⟨p2, c2, ⟨m2, k2⟩, h, hp2, hm2, rfl⟩ := hp12; cases h
 refine J.op rfl (GV BX ?_)
 intro b13 hb13
 refine J.op rfl (qq2 0 zK (yV.c (yV.c (yV.c (yV.c (yV.c yV.z))))) yX.z ?_)
 refine J.MX (J.z (AU rfl rfl AA zK (yY.at 0 rfl) rfl rfl) ?_)
 refine J.op rfl (NV rfl rfl rfl rfl rfl (UG (Ix.BI (EM L) (q.size + 1) q) p2 c2 (by omega) (by omega) _ hp2) ?_)
 refine J.cd (fun hc14 => ?_) (fun hc14 => ?_)
 ·refine Cj.sr (J.z (AU rfl rfl AA zK (yY.at 0 rfl) rfl rfl) ?_)
  refine J.op rfl (qq2 2 zK (yV.c (yV.c (yV.c (yV.c (yV.c yV.z))))) (yX.s (yX.s yX.z)) ?_)
  refine J.ns (Cj.rs ?_)
  have hR2 : Cq.right (Ix.BI (EM L) (q.size + 1) q) = true := hc14
  have he : Ix.EX (EM L) q = Ix.BI (EM L) (q.size + 1) q := by unfold Ix.EX Ix.a6T; rw [if_pos hR, if_pos hR2]
  refine Ej.CP (Keeps.d (Keeps.d (Keeps.d (Keeps.d Keeps.n)))) rfl rfl rfl (yY.at 2 rfl) AA zK rfl ?_
  rw [he]
  exact ⟨p2, c2, rfl, hp2, rfl⟩
 refine Cj.ks (Cj.sr (J.z (AU rfl rfl AA zK (yY.at 3 rfl) rfl rfl) ?_))
 refine J.op rfl (qq2 2 zK (yV.c (yV.c (yV.c (yV.c (yV.c yV.z))))) (yX.s (yX.s yX.z)) ?_)
 refine J.ns (Cj.ret ?_)
 have hR2 : Cq.right (Ix.BI (EM L) (q.size + 1) q) = false := hc14
 have he : Ix.EX (EM L) q = q := by unfold Ix.EX Ix.a6T; rw [if_pos hR, if_neg (by rw [hR2]; decide)]
 refine Ej.CP (Keeps.d (Keeps.d (Keeps.d (Keeps.d Keeps.n)))) rfl rfl rfl (yY.at 2 rfl) AA zK rfl ?_
 rw [he]
 exact ⟨p, c, rfl, hps, rfl⟩
end Go.Proofs.YtekmeaoblpfnpaaGreatDoor
namespace Ix
open Ke Go.Stab Cq
def agg (k : Int) (p : Qn → Bool) (l : List Qn) : Bool := if k = 2 then l.all p else l.any p
theorem b7Q {k p l m} (h : ∀ x, x ∈ l ↔ x ∈ m) : agg k p l = agg k p m := by
  unfold agg
  split
  · rw [Bool.eq_iff_iff, List.all_eq_true, List.all_eq_true]
    exact ⟨fun g x hx => g x ((h x).2 hx), fun g x hx => g x ((h x).1 hx)⟩
  rw [Bool.eq_iff_iff, List.any_eq_true, List.any_eq_true]
  exact ⟨fun ⟨x, hx, g⟩ => ⟨x, (h x).1 hx, g⟩, fun ⟨x, hx, g⟩ => ⟨x, (h x).2 hx, g⟩⟩
theorem ZQ {k} (hk : k = 2 ∨ k = 3) p l m : agg k p (l ++ m) = comb k (agg k p l) (agg k p m) := by
  unfold agg comb
  rcases hk with rfl | rfl
  · simp
  simp
theorem ZE {k} p x : agg k p [x] = p x := by unfold agg; split <;> simp
theorem a7I L t {k} (hk : k = 2 ∨ k = 3) : ∀ (r : List Qn) (x : Qn), sat L (r.foldl (AB k) x) t = agg k (fun y => sat L y t) (x :: r)
  | [], x => (ZE (k := k) (fun y => sat L y t) x).symm
  | y :: r, x => by
    have h1 : k ≠ 1 := by omega
    have e1 := ZQ hk (fun y => sat L y t) [AB k x y] r
    have e2 := ZQ hk (fun y => sat L y t) [x, y] r
    have e3 := ZQ hk (fun y => sat L y t) [x] [y]
    rw [List.foldl_cons, a7I L t hk r (AB k x y)]
    simp only [List.cons_append, List.nil_append] at e1 e2 e3
    rw [e1, e2, e3, ZE, ZE, ZE, XJ L h1]
theorem b7q L t sz {k} (hk : k = 2 ∨ k = 3) {l} (hne : l ≠ []) : sat L (PE sz k l) t = agg k (fun y => sat L y t) l := by
  have hp := ZA (a1S sz k) l
  have hm : ∀ y, y ∈ WO (ord sz k) l ↔ y ∈ l := fun y => hp.mem_iff.trans a1W
  unfold PE
  cases hi : WO (ord sz k) l with
  | nil =>
    obtain ⟨y, hy⟩ := List.exists_mem_of_ne_nil l hne
    have := (hm y).2 hy
    rw [hi] at this; cases this
  | cons x r =>
    rw [hi] at hm
    show sat L (r.foldl (AB k) x) t = _
    rw [a7I L t hk, b7Q hm]
theorem a2A L t {k} (hk : k = 2 ∨ k = 3) : ∀ (n : Nat) (q : Qn), q.size < n → form q = true → agg k (fun y => sat L y t) (lst k q) = sat L q t
  | 0, _, h, _ => absurd h (Nat.not_lt_zero _)
  | n + 1, q, h, hq => by
    by_cases hqk : q.k = k
    · rcases DU hq with h1 | ⟨h1, _, _, a, b, hab, ha, hb⟩
      · omega
      have hs := hab.size
      rw [a4B hqk hab, ZQ hk, a2A L t hk n a (by omega) ha, a2A L t hk n b (by omega) hb, SV h1 hab, hqk]
    rw [a7H hqk, ZE]
theorem a0d L t sz : ∀ (n : Nat) (q : Qn), q.size < n → form q = true → sat L (BI sz n q) t = sat L q t
  | 0, _, h, _ => absurd h (Nat.not_lt_zero _)
  | n + 1, q, h, hq => by
    rcases DU hq with h1 | ⟨h1, h2, h4, a, b, hab, ha, hb⟩
    · rw [a1N sz h1]
    have hs := hab.size
    obtain ⟨a1, _, a3⟩ := OD GI DZ sz n a (by omega) ha
    obtain ⟨b1, _, b3⟩ := OD GI DZ sz n b (by omega) hb
    have ea := a0d L t sz n a (by omega) ha
    have eb := a0d L t sz n b (by omega) hb
    have hwq := DZ.two hab h1 hq
    by_cases hk : q.k ≠ 4
    · have hk2 : q.k = 2 ∨ q.k = 3 := by omega
      obtain ⟨_, la2, _⟩ := OT DZ h1 _ _ (Nat.lt_succ_self _) a1
      have hne : lst q.k (BI sz n a) ++ lst q.k (BI sz n b) ≠ [] := fun e => la2 (List.append_eq_nil_iff.1 e).1
      rw [a1A sz h1 hk hab, b7q L t sz hk2 hne, ZQ hk2, a2A L t hk2 _ _ (Nat.lt_succ_self _) a1, a2A L t hk2 _ _ (Nat.lt_succ_self _) b1, ea, eb, SV h1 hab]
    have hk4 : q.k = 4 := by omega
    have e4 : sat L q t = (sat L a t && !sat L b t) := by rw [SV h1 hab, hk4]; rfl
    by_cases hak : (BI sz n a).k = 4
    · rcases DU a1 with g | ⟨g1, _, _, c, d, hcd, hc, hd⟩
      · omega
      have hwc := DZ.two hcd g1 a1
      have hwb := DZ.both 3 d (BI sz n b)
      have hbd : form (AB 3 d (BI sz n b)) = true := (NU DZ (k := 3) (by decide) (by decide) [BI sz n b] d hd (fun y hy => by rw [List.mem_singleton.1 hy]; exact b1)).1
      have eA : sat L (BI sz n a) t = (sat L c t && !sat L d t) := by rw [SV g1 hcd, hak]; rfl
      rw [a3A sz hk4 hab hak hcd, XJ L (by decide), a0d L t sz n _ (by omega) hbd, XJ L (by decide), eb, e4, ← ea, eA]
      show (sat L c t && !(sat L d t || sat L b t)) = ((sat L c t && !sat L d t) && !sat L b t)
      cases sat L c t <;> cases sat L d t <;> cases sat L b t <;> rfl
    rw [a1B sz hk4 hab hak, XJ L (by decide), ea, eb, e4]; rfl
theorem a0X {sz q} (h : right q = true) : right (EX sz q) = true := by
  unfold EX
  rw [if_pos h]
  split
  · assumption
  exact h
theorem a9V L t sz {q} (h : right q = true) : sat L (EX sz q) t = sat L q t := by
  have hf : form q = true := by unfold right at h; rw [Bool.and_eq_true] at h; exact h.1
  unfold EX
  rw [if_pos h]
  split
  · exact a0d L t sz _ q (Nat.lt_succ_self _) hf
  rfl
theorem a6D {sz q} (h : right q = true) : (EX sz q).wide ≤ q.wide ∧ (EX sz q).size ≤ q.size := by
  have hf : form q = true := by unfold right at h; rw [Bool.and_eq_true] at h; exact h.1
  obtain ⟨_, h2, h3⟩ := OD GI DZ sz (q.size + 1) q (Nat.lt_succ_self _) hf
  unfold EX
  rw [if_pos h]
  split
  · exact ⟨h2, h3⟩
  exact ⟨Nat.le_refl _, Nat.le_refl _⟩
theorem IU.plan {L sz q} (h : right q = true) {l m} (hl : IU L q l) (hm : IU L (EX sz q) m) : l = m :=
  hl.eq ⟨hm.1, fun t => by rw [hm.2 t, a9V L t sz h]⟩
end Ix
section
namespace Go.Proofs.YtekmeaoblpfnpaaGreatDoor
open _root_.Go.Proofs.Tryz
open Go Go.Sx
structure SmS where
  J : Heap
  b : Nat
  q : Cq.Qn
  p : Option Addr
  c : Nat
theorem b5I {i : Nat} (h : i < 3) : [i64 2, i64 3, i64 4][i]? = some (i64 ((i : Int) + 2)) := by
  rcases (by omega : i = 0 ∨ i = 1 ∨ i = 2) with rfl | rfl | rfl <;> rfl
theorem a6w xs v (hao : a4w xs) la lb va vb (hna : la.length ≤ 1000000000000) (hnb : lb.length ≤ 1000000000000) I (hT : JV I) (hA : a0n I xs v) (hla : RQ I la va) (hlb : RQ I lb vb) : Pure Tryz.prog 12 [v, va, vb] I (.bool true) := by
 refine yZ.toPure ?_
 have hp20 := b6y xs
 refine zT Tryz.func12 fun w0 hw0 => ?_
 refine BF (b3K _ hT) ?_
 refine PY (b5o xs _ hao _ hA) ?_
 intro v2 I3 H4 hle5 hn1 hp6
 have hA := hA.mono hle5
 have hT := hT.mono hle5
 have hla := hla.mono hle5
 have hlb := hlb.mono hle5
 obtain ⟨ib, o, rb, es, w, h, hok, hE, hL, hek, hel, rfl⟩ := hp6; cases h
 refine J.persists ((rb, _) :: ixH ib o) hn1 (fun Ip hlep hK => ?_)
 have hA := hA.mono hlep
 have hT := hT.mono hlep
 have hla := hla.mono hlep
 have hlb := hlb.mono hlep
 have hx : OV Ip ib (Ix.play (acts xs)) := ⟨o, hok.mono hlep, fun p hp => hK p (.tail _ hp)⟩
 clear hok hE hK
 refine J.z BR ?_
 refine J.z (a0O rfl rfl rfl) ?_
 refine J.z (a0O rfl rfl rfl) ?_
 refine J.z FN ?_
 refine J.z FN ?_
 refine J.MX (J.z (a6j (zs := [(.int .i64 0), (.int .i64 0), (.int .i64 0)]) rfl rfl Tryz.zeroValue101 rfl Tryz.underlying101 IC rfl) ?_)
 refine J.op rfl (GV Tryz.zeroValue101 ?_)
 intro b7 hb7
 refine J.op rfl (qq2 0 Tryz.sizeOf101 (yV.c (yV.c (yV.c yV.z))) yX.z ?_)
 refine J.YU (Cj.region (J.z FN ?_))
 refine J.ns (Cj.block ?_)
 refine Cj.loop (ι := Nat × Heap) (fun y => y.1 ≤ 3 ∧ OV y.2 ib (Ix.play (acts xs)) ∧ JV y.2 ∧ RQ y.2 la va ∧ RQ y.2 lb vb) (fun y => 3 - y.1) (fun y => [(1, va), (2, vb), (7, .bool true), (8, ptr ib 0), (10, ptr b7 0), (11, i64 (y.1 : Int))]) (fun y => y.2) (fun y => [(b7, zJ 101 [i64 2, i64 3, i64 4])]) (0, _) ⟨Nat.zero_le _, hx, hT, hla, hlb⟩ ⟨rfl, rfl, rfl, rfl, rfl, rfl, trivial⟩ rfl rfl ?_
 rintro ⟨i, J1⟩ ⟨hi, hx, hT, hla, hlb⟩
 dsimp only at hi hx hT hla hlb ⊢
 refine AP (fun hc8 hc8p => ?_) (fun hc8 hc8p => ?_)
 ·have hlt : i < 3 := by omega
  refine yU 4 ?_
  refine Cj.join (ι := SmS) (fun y => OV y.J ib (Ix.play (acts xs)) ∧ JV y.J ∧ RQ y.J la va ∧ RQ y.J lb vb ∧ PS y.J y.q.ps y.p ∧ Cq.right y.q = true ∧ y.q.size ≤ 1000 ∧ y.q.wide ≤ 100000) (fun y => [(1, va), (2, vb), (7, .bool true), (8, ptr ib 0), (10, ptr b7 0), (11, i64 (i : Int)), (12, ptr y.b 0)]) (fun y => y.J) (fun y => [(y.b, zJ 32 (AV y.q y.p y.c)), (b7, zJ 101 [i64 2, i64 3, i64 4])]) ?_ (fun hcut => ?_)
  ·rintro ⟨J3, b12, qc, pqc, cqc⟩ ⟨hx, hT, hla, hlb, hqc, hRc, hzc, hwc⟩
   dsimp only at hx hT hla hlb hqc hRc hzc hwc ⊢
   obtain ⟨hwd, hzd⟩ := Ix.a6D (sz := EM (Ix.play (acts xs))) hRc
   refine Cj.sr (J.z BR ?_)
   refine J.z (AU rfl rfl AA zK (yY.at 0 rfl) rfl rfl) ?_
   refine J.op rfl (zM (H1 := []) rfl rfl rfl rfl rfl (b7K (ptr ib 0) (Ix.play (acts xs)) (a4O (Ix.a3n _)) (Ix.b5m _) qc pqc cqc (by omega) (by omega) _ hqc (.inr ⟨ib, rfl, hx⟩) hT) ?_ (fun _ _ _ _ ⟨_, _, h, _⟩ => by cases h) (fun _ _ ⟨_, _, h, _⟩ => by cases h))
   intro v9 I10 H11 hle12 hp13
   have hx := hx.mono hle12
   have hT := hT.mono hle12
   have hla := hla.mono hle12
   have hlb := hlb.mono hle12
   have hqc := hqc.mono hle12
   obtain ⟨pqd, cqd, h, hqd, rfl⟩ := hp13; cases h
   refine J.op rfl (GV BX ?_)
   intro b14 hb14
   refine PY (WH (ptr ib 0) (Ix.play (acts xs)) (qc) pqc cqc (by omega) (by omega) hRc (a4O (Ix.a3n _)) _ hqc (.inr ⟨ib, rfl, hx⟩) hT) ?_
   intro v16 I17 H18 hle19 hn15 hp20
   have hx := hx.mono hle19
   have hT := hT.mono hle19
   have hla := hla.mono hle19
   have hlb := hlb.mono hle19
   have hqc := hqc.mono hle19
   have hqd := hqd.mono hle19
   obtain ⟨ws, rs, h, hruns, hos⟩ := hp20; cases h
   refine J.LV hos hn15 (fun Is hles hrs => ?_)
   have hx := hx.mono hles
   have hT := hT.mono hles
   have hla := hla.mono hles
   have hlb := hlb.mono hles
   have hqc := hqc.mono hles
   have hqd := hqd.mono hles
   replace hrs := hrs.row
   obtain ⟨ps, cs, rfl⟩ := EJ hrs
   refine PY (WH (ptr ib 0) (Ix.play (acts xs)) ((Ix.EX (EM (Ix.play (acts xs))) qc)) pqd cqd (by omega) (by omega) (Ix.a0X hRc) (a4O (Ix.a3n _)) _ hqd (.inr ⟨ib, rfl, hx⟩) hT) ?_
   intro v22 I23 H24 hle25 hn21 hp26
   have hx := hx.mono hle25
   have hT := hT.mono hle25
   have hla := hla.mono hle25
   have hlb := hlb.mono hle25
   have hqc := hqc.mono hle25
   have hqd := hqd.mono hle25
   have hrs := hrs.mono hle25
   obtain ⟨wt, rt, h, hrunt, hot⟩ := hp26; cases h
   refine J.LV hot hn21 (fun It hlet hrt => ?_)
   have hx := hx.mono hlet
   have hT := hT.mono hlet
   have hla := hla.mono hlet
   have hlb := hlb.mono hlet
   have hqc := hqc.mono hlet
   have hqd := hqd.mono hlet
   have hrs := hrs.mono hlet
   replace hrt := hrt.row
   obtain ⟨pt, ct, rfl⟩ := EJ hrt
   refine BF (UG (Ix.EX (EM (Ix.play (acts xs))) qc) pqd cqd (by omega) (by omega) _ hqd) ?_
   refine J.ev 53 (.bool true) rfl (congrArg Value.bool (Ix.a0X hRc)) ?_
   refine yU 2 ?_
   refine J.XQ 3 55 false _ rfl rfl rfl (congrArg not rfl) (AX BR rfl rfl ?_)
   refine J.XQ 3 55 false _ rfl rfl rfl (congrArg not rfl) (AX (a8V rfl rfl rfl) rfl rfl ?_)
   refine J.z (a3c rfl rfl (congrArg not rfl) rfl) ?_
   refine BF (a0F rs rt _ _ (JK hruns.len (by omega)) _ hrs hrt) ?_
   refine J.ev 66 (.bool true) rfl (congrArg Value.bool (decide_eq_true (hruns.plan hRc hrunt))) ?_
   refine yU 13 ?_
   refine Ej.keep (Keeps.d (Keeps.d (Keeps.k Keeps.n))) ?_
   refine Ej.round (i + 1, _) ⟨by dsimp only; omega, hx, hT, hla, hlb⟩ (by dsimp only; omega) ⟨rfl, rfl, rfl, rfl, rfl, rfl, trivial⟩ rfl rfl
  refine Cj.AL [0] [] 10 (by kernel_rfl) ?_
  refine JA.fix BM (fun fx28 => ?_)
  refine JA.tk 0 rfl fx28 BR ?_
  refine JA.tk 1 rfl fx28 (II (off' := i) rfl rfl rfl Tryz.underlying101 IC (by omega) (by omega) (by simp)) ?_
  refine JA.tk 2 rfl fx28 (zN rfl rfl XG (yY.EG 0 rfl) (b5I hlt)) ?_
  refine yU 2 ?_
  refine JA.all [4, 8] (by kernel_rfl) (by simp) ?_
  intro i hi
  simp only [List.mem_cons, List.not_mem_nil, or_false] at hi
  rcases hi with rfl | rfl
  ·refine ⟨_, rfl, rfl, ?_⟩
   refine BH (UH _ la hna _ hla) ?_
   intro v29 I30 H31 hle32 hp33
   have hx := hx.mono hle32
   have hT := hT.mono hle32
   have hla := hla.mono hle32
   have hlb := hlb.mono hle32
   obtain ⟨⟨qa, v29x, hv29, ⟨pqa, cqa, rfl, hqa⟩, hma⟩, rfl⟩ := hp33; cases hv29
   have hmda := hma.depth
   have hmsa := hma.size
   have hmwa := hma.wide
   refine yU 1 ?_
   refine JA.all [6, 8] (by kernel_rfl) (by simp) ?_
   intro i hi
   simp only [List.mem_cons, List.not_mem_nil, or_false] at hi
   rcases hi with rfl | rfl
   ·refine ⟨_, rfl, rfl, ?_⟩
    refine BH (UH _ lb hnb _ hlb) ?_
    intro v34 I35 H36 hle37 hp38
    have hx := hx.mono hle37
    have hT := hT.mono hle37
    have hla := hla.mono hle37
    have hlb := hlb.mono hle37
    have hqa := hqa.mono hle37
    obtain ⟨⟨qb, v34x, hv34, ⟨pqb, cqb, rfl, hqb⟩, hmb⟩, rfl⟩ := hp38; cases hv34
    have hmdb := hmb.depth
    have hmsb := hmb.size
    have hmwb := hmb.wide
    refine yU 1 ?_
    refine JA.all [7, 8] (by kernel_rfl) (by simp) ?_
    intro i hi
    simp only [List.mem_cons, List.not_mem_nil, or_false] at hi
    rcases hi with rfl | rfl
    ·refine ⟨_, rfl, rfl, ?_⟩
     refine BH (both_ok ((i : Int) + 2) qa qb pqa pqb cqa cqb _ hqa hqb) ?_
     intro v39 I40 H41 hle42 hp43
     have hx := hx.mono hle42
     have hT := hT.mono hle42
     have hla := hla.mono hle42
     have hlb := hlb.mono hle42
     have hqa := hqa.mono hle42
     have hqb := hqb.mono hle42
     obtain ⟨⟨pqc, cqc, h, hqc⟩, rfl⟩ := hp43; cases h
     have hRc : Cq.right (Ix.AB ((i : Int) + 2) qa qb) = true := Ix.OG (by omega) (by omega) hma.form hmb.form (by omega) (by omega)
     have hwc := Ix.QE ((i : Int) + 2) qa qb
     have hzc := Ix.QM ((i : Int) + 2) qa qb
     refine yU 2 ?_
     intro b44 hb44
     refine yU 4 ?_
     exact hcut ⟨_, b44, (Ix.AB ((i : Int) + 2) qa qb), pqc, cqc⟩ _ _ _ ⟨hx, hT, hla, hlb, hqc, hRc, by dsimp only; omega, by dsimp only; omega⟩ ⟨rfl, rfl, rfl, rfl, rfl, rfl, rfl, trivial⟩ rfl rfl
    refine ⟨_, rfl, rfl, ?_⟩
    refine GV BX ?_
    intro b45 hb45
    refine BH (both_ok ((i : Int) + 2) qa qb pqa pqb cqa cqb _ hqa hqb) ?_
    intro v46 I47 H48 hle49 hp50
    have hx := hx.mono hle49
    have hT := hT.mono hle49
    have hla := hla.mono hle49
    have hlb := hlb.mono hle49
    have hqa := hqa.mono hle49
    have hqb := hqb.mono hle49
    obtain ⟨⟨pqc, cqc, h, hqc⟩, rfl⟩ := hp50; cases h
    have hRc : Cq.right (Ix.AB ((i : Int) + 2) qa qb) = true := Ix.OG (by omega) (by omega) hma.form hmb.form (by omega) (by omega)
    have hwc := Ix.QE ((i : Int) + 2) qa qb
    have hzc := Ix.QM ((i : Int) + 2) qa qb
    refine yU 4 ?_
    exact hcut ⟨_, b45, (Ix.AB ((i : Int) + 2) qa qb), pqc, cqc⟩ _ _ _ ⟨hx, hT, hla, hlb, hqc, hRc, by dsimp only; omega, by dsimp only; omega⟩ ⟨rfl, rfl, rfl, rfl, rfl, rfl, rfl, trivial⟩ rfl rfl
   refine ⟨_, rfl, rfl, ?_⟩
   refine GV BX ?_
   intro b51 hb51
   refine BH (UH _ lb hnb _ hlb) ?_
   intro v52 I53 H54 hle55 hp56
   have hx := hx.mono hle55
   have hT := hT.mono hle55
   have hla := hla.mono hle55
   have hlb := hlb.mono hle55
   have hqa := hqa.mono hle55
   obtain ⟨⟨qb, v52x, hv52, ⟨pqb, cqb, rfl, hqb⟩, hmb⟩, rfl⟩ := hp56; cases hv52
   have hmdb := hmb.depth
   have hmsb := hmb.size
   have hmwb := hmb.wide
   refine BH (both_ok ((i : Int) + 2) qa qb pqa pqb cqa cqb _ hqa hqb) ?_
   intro v57 I58 H59 hle60 hp61
   have hx := hx.mono hle60
   have hT := hT.mono hle60
   have hla := hla.mono hle60
   have hlb := hlb.mono hle60
   have hqa := hqa.mono hle60
   have hqb := hqb.mono hle60
   obtain ⟨⟨pqc, cqc, h, hqc⟩, rfl⟩ := hp61; cases h
   have hRc : Cq.right (Ix.AB ((i : Int) + 2) qa qb) = true := Ix.OG (by omega) (by omega) hma.form hmb.form (by omega) (by omega)
   have hwc := Ix.QE ((i : Int) + 2) qa qb
   have hzc := Ix.QM ((i : Int) + 2) qa qb
   refine yU 4 ?_
   exact hcut ⟨_, b51, (Ix.AB ((i : Int) + 2) qa qb), pqc, cqc⟩ _ _ _ ⟨hx, hT, hla, hlb, hqc, hRc, by dsimp only; omega, by dsimp only; omega⟩ ⟨rfl, rfl, rfl, rfl, rfl, rfl, rfl, trivial⟩ rfl rfl
  refine ⟨_, rfl, rfl, ?_⟩
  refine GV BX ?_
  intro b62 hb62
  refine BH (UH _ la hna _ hla) ?_
  intro v63 I64 H65 hle66 hp67
  have hx := hx.mono hle66
  have hT := hT.mono hle66
  have hla := hla.mono hle66
  have hlb := hlb.mono hle66
  obtain ⟨⟨qa, v63x, hv63, ⟨pqa, cqa, rfl, hqa⟩, hma⟩, rfl⟩ := hp67; cases hv63
  have hmda := hma.depth
  have hmsa := hma.size
  have hmwa := hma.wide
  refine BH (UH _ lb hnb _ hlb) ?_
  intro v68 I69 H70 hle71 hp72
  have hx := hx.mono hle71
  have hT := hT.mono hle71
  have hla := hla.mono hle71
  have hlb := hlb.mono hle71
  have hqa := hqa.mono hle71
  obtain ⟨⟨qb, v68x, hv68, ⟨pqb, cqb, rfl, hqb⟩, hmb⟩, rfl⟩ := hp72; cases hv68
  have hmdb := hmb.depth
  have hmsb := hmb.size
  have hmwb := hmb.wide
  refine BH (both_ok ((i : Int) + 2) qa qb pqa pqb cqa cqb _ hqa hqb) ?_
  intro v73 I74 H75 hle76 hp77
  have hx := hx.mono hle76
  have hT := hT.mono hle76
  have hla := hla.mono hle76
  have hlb := hlb.mono hle76
  have hqa := hqa.mono hle76
  have hqb := hqb.mono hle76
  obtain ⟨⟨pqc, cqc, h, hqc⟩, rfl⟩ := hp77; cases h
  have hRc : Cq.right (Ix.AB ((i : Int) + 2) qa qb) = true := Ix.OG (by omega) (by omega) hma.form hmb.form (by omega) (by omega)
  have hwc := Ix.QE ((i : Int) + 2) qa qb
  have hzc := Ix.QM ((i : Int) + 2) qa qb
  refine yU 4 ?_
  exact hcut ⟨_, b62, (Ix.AB ((i : Int) + 2) qa qb), pqc, cqc⟩ _ _ _ ⟨hx, hT, hla, hlb, hqc, hRc, by dsimp only; omega, by dsimp only; omega⟩ ⟨rfl, rfl, rfl, rfl, rfl, rfl, rfl, trivial⟩ rfl rfl
 refine BP ?_
 exact ⟨rfl, rfl⟩
end Go.Proofs.YtekmeaoblpfnpaaGreatDoor
end
namespace Go.Proofs.YtekmeaoblpfnpaaGreatDoor
open Go.ChangeShapes Go.WideShapes Go.ChangeAt Go.RowKit Go.Sx Go.Lib Go.ChangeMaps
theorem a9q {P W name k zs g t e n}
    (hg : P.globalNamed name = some g) (hty : (P.globals[g]?).map (·.type) = some t) (ht : P.underlying t = some (.array n e)) (he : P.underlying e = some (.int k)) (hce : P.cellsOf e = 1) (hct : P.cellsOf t = n)
    (h : VarReads P W name (tabData k zs)) : TabIs P W name k zs := by
  obtain ⟨g', t', cs, fuel, p, hg', ht', hvar, hd⟩ := h
  obtain rfl := Option.some.inj (hg.symm.trans hg')
  obtain rfl := Option.some.inj (hty.symm.trans ht')
  unfold TabIs
  rw [hvar, ← cells_of_tab ht he hce hct hd]
theorem b9D {W L} (hL : laidMet Tryz.prog L W) (hw : ("unicode.White_Space", Rows.laid_unicode_White_Space) ∈ L) (ha : ("strings.asciiSpace", Rows.laid_strings_asciiSpace) ∈ L) : JV (HW W) := by
  have e1 : (Rows.laid_unicode_White_Space : DataW Unit) = whiteData := by kernel_rfl
  have e2 : (Rows.laid_strings_asciiSpace : DataW Unit) = tabData .u8 asciiSpaceTab := by kernel_rfl
  have hT : TabIs Tryz.prog W "strings.asciiSpace" .u8 asciiSpaceTab := a9q (g := 1) (t := Tryz.lays157_ren.t 119) (e := Tryz.lays157_ren.t 5) (n := 256) (by kernel_rfl) (by kernel_rfl) Tryz.lays157.t119 Tryz.lays157.t5 (by kernel_rfl) (by kernel_rfl) (e2 ▸ laidMet.reads hL ha)
  have hS : WhiteTab 3 W := whiteTab_of_reads (ρ := Tryz.lays157_ren) { Tryz.lays157 with } ⟨by kernel_rfl, by kernel_rfl, by kernel_rfl, by kernel_rfl, by kernel_rfl, by kernel_rfl, by kernel_rfl, by kernel_rfl⟩ (e1 ▸ laidMet.reads hL hw)
  intro w hwW
  have key : ∀ (a : Addr) (v : Value), W.cell? a = some v → w.cell? a = some v := fun a v h => by
    have h0 := h
    unfold World.cell? at h
    cases hb : W.heap[a.block]? with
    | none => rw [hb] at h; cases h
    | some o =>
      have := World.cell?_of_block (w := w) (w' := W) (a := a) (by rw [hwW _ _ hb, hb])
      rw [← this]; exact h0
  refine ⟨?_, ?_⟩
  · unfold TabIs World.var? at hT ⊢
    have hg : Tryz.prog.globalNamed "strings.asciiSpace" = some 1 := by kernel_rfl
    rw [hg] at hT ⊢
    simp only [Option.bind_some] at hT ⊢
    cases hb : W.heap[(1 : Nat)]? with
    | none => rw [hb] at hT; cases hT
    | some o => rw [hwW _ _ hb]; rw [hb] at hT; exact hT
  obtain ⟨T, oT, R, oR, h1, h2, h3, h4, h5⟩ := hS
  exact ⟨T, oT, R, oR, key _ _ h1, key _ _ h2, key _ _ h3, key _ _ h4, fun i hi => key _ _ (h5 i hi)⟩
end Go.Proofs.YtekmeaoblpfnpaaGreatDoor
namespace Go.Proofs.YtekmeaoblpfnpaaGreatDoor
open Go.ChangeShapes Go.WideShapes Go.ChangeAt Go.RowKit Go.Sx Go.Lib Go.ChangeMaps Go.WideMaps
section
variable {H:Type} {enc:TypeId×Value→H} {W:World} {base:Nat}
theorem Arg.field {fs : Array Field} {cs : List Value} {ms : List Nat} (h : ∀ (i : Nat) f m', fs[i]? = some f → ms[i]? = some m' → Arg enc W f.type ((cs.drop f.offset).take (Tryz.prog.cellsOf f.type)) m') (i : Nat) {f m t o k}
    (hf : fs[i]? = some f) (hm : ms[i]? = some m) (ht : f.type = t) (ho : f.offset = o) (hc : Tryz.prog.cellsOf t = k) : Arg enc W t ((cs.drop o).take k) m := by
  subst ht ho hc
  exact h i f m hf hm
theorem list4 {α : Type} {l : List α} (h : l.length = 4) : ∃ a b c d, l = [a, b, c, d] := by
  match l, h with
  | [a, b, c, d], _ => exact ⟨a, b, c, d, rfl⟩
theorem b8h {n} (h : (Lit.int .i64 n).wf = true) : In64 n := by
  have h1 : (decide (-9223372036854775808 ≤ n) && decide (n ≤ 9223372036854775807)) = true := h
  rw [Bool.and_eq_true, decide_eq_true_eq, decide_eq_true_eq] at h1
  exact h1
theorem Arg.elem {e k} {cs : List Value} {ms : List Nat} (h : ∀ (i m' : Nat), ms[i]? = some m' → Arg enc W e ((cs.drop (i * 1)).take 1) m') (he : Tryz.prog.underlying e = some (.int .i64)) (hml : ms.length = k) i (hi : i < k) : ∃ z : Int, cs[i]? = some (i64 z) ∧ In64 z := by
  have hm : ms[i]? = some (ms[i]'(by omega)) := List.getElem?_eq_getElem _
  obtain ⟨z, hz, hw, _⟩ := (h i _ hm).int he
  refine ⟨z, ?_, b8h hw⟩
  have := congrArg (fun l => l[0]?) hz
  simpa [List.getElem?_drop] using this
theorem b4W {cs} (hl : cs.length = 4) (h : ∀ i, i < 4 → ∃ z : Int, cs[i]? = some (i64 z) ∧ In64 z) : ∃ q : Ix.Four, cs = NT q ∧ RP q := by
  match cs, hl with
  | [a, b, c, d], _ =>
    obtain ⟨z0, e0, w0⟩ := h 0 (by decide)
    obtain ⟨z1, e1, w1⟩ := h 1 (by decide)
    obtain ⟨z2, e2, w2⟩ := h 2 (by decide)
    obtain ⟨z3, e3, w3⟩ := h 3 (by decide)
    cases e0; cases e1; cases e2; cases e3
    exact ⟨⟨z0, z1, z2, z3⟩, rfl, ⟨w0, w1, w2, w3⟩⟩
theorem Arg.four {cs m} (h : Arg enc W 215 cs m) : ∃ q : Ix.Four, cs = NT q ∧ RP q := by
  obtain ⟨hl, ms, hml, _, hf⟩ := h.array Tryz.underlying215
  rw [show Tryz.prog.cellsOf 215 = 4 by kernel_rfl] at hl
  rw [show Tryz.prog.cellsOf 3 = 1 by kernel_rfl] at hf
  exact b4W hl fun i hi => Arg.elem hf Tryz.underlying3 hml i hi
theorem Arg.act {cs m} (h : Arg enc W 93 cs m) : ∃ x : Act, cs = a5b x ∧ zU NT (HW W) x.a.fs x.v ∧ ∀ q ∈ x.a.fs, RP q := by
  obtain ⟨hl, ms, hml, hms, hf⟩ := h.struct Tryz.underlying93
  rw [show Tryz.prog.cellsOf 93 = 4 by kernel_rfl] at hl
  obtain ⟨a, b, c, d, rfl⟩ := list4 hl
  obtain ⟨m0, m1, m2, m3, rfl⟩ := list4 hml
  have cI : Tryz.prog.cellsOf 3 = 1 := by kernel_rfl
  obtain ⟨b0, h0⟩ := (Arg.field hf (o := 0) 0 rfl rfl rfl rfl (show Tryz.prog.cellsOf 4 = 1 by kernel_rfl)).bool Tryz.underlying4
  obtain ⟨z1, h1, _, _⟩ := (Arg.field hf (o := 1) 1 rfl rfl rfl rfl cI).int Tryz.underlying3
  obtain ⟨z2, h2, _, _⟩ := (Arg.field hf (o := 2) 2 rfl rfl rfl rfl cI).int Tryz.underlying3
  obtain ⟨l, v, h3, hr, _, _, hq⟩ := (Arg.field hf (o := 3) 3 rfl rfl rfl rfl (show Tryz.prog.cellsOf 91 = 1 by kernel_rfl)).row (f := NT) (size := fun _ => 0) Tryz.underlying91 (show Tryz.prog.cellsOf 215 = 4 by kernel_rfl) (by decide) RP fun cs m' _ h => by
    obtain ⟨q, h1, h2⟩ := h.four
    exact ⟨q, h1, Nat.zero_le _, h2⟩
  simp only [List.drop_zero, List.drop_succ_cons, List.take_succ_cons, List.take_zero, List.cons.injEq, and_true] at h0 h1 h2 h3
  subst h0 h1 h2 h3
  exact ⟨⟨⟨b0, z1, z2, l⟩, d⟩, rfl, hr, hq⟩
theorem b5L {v d p} (hval : Value.okWide Tryz.prog W .any base 22 v) (h : DataW.Trod enc Tryz.prog W 0 (fun _ => true) true 22 v d p) (hlt : ∀ x ∈ p, x.block < W.heap.size) :
    ∃ xs : List Act, a0n (HW W) xs v ∧ a4w xs ∧ Again enc W 22 v d p := by
  have hag := again (by kernel_rfl) (of_decide_eq_true (by kernel_rfl)) h hlt
  obtain ⟨a, len, cap, rfl⟩ := okWide_slice Tryz.underlying22 hval
  obtain ⟨xs, v', h1, h2, _, _, h4⟩ := (Arg.of h).row (f := a5b) (size := fun _ => 0) Tryz.underlying22 (show Tryz.prog.cellsOf 93 = 4 by kernel_rfl) (by decide) (fun x => zU NT (HW W) x.a.fs x.v ∧ ∀ q ∈ x.a.fs, RP q) fun cs m' _ h => by
    obtain ⟨x, h1, h2, h3⟩ := h.act
    exact ⟨x, h1, Nat.zero_le _, h2, h3⟩
  obtain rfl : Value.slice a len cap = v' := by simpa [Value.cells] using h1
  exact ⟨xs, ⟨h2, fun x hx => (h4 x hx).1⟩, fun x hx => (h4 x hx).2, hag⟩
