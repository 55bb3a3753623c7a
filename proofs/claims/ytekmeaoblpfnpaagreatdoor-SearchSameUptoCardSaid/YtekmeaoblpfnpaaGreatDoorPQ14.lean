/-
  Own texts on the laws of the seat, joined: the logic, and contracts of functions. Conditions: none.
-/
import Derived.Test.YtekmeaoblpfnpaaGreatDoorNmQ
import Derived.Test.YtekmeaoblpfnpaaGreatDoorPQ13
set_option linter.all false
set_option maxRecDepth 100000
set_option maxHeartbeats 40000000
section
namespace Cq
open _root_.Go.Proofs.Tryz
theorem b4Z {q} (h : form q = true) : write q ≠ [] := by
  rcases DU h with hk | ⟨hk, _, _, a, b, htw, _, _⟩
  · rw [JE hk]; simp
  rw [NJ hk htw]; simp
end Cq
namespace Go.Proofs.YtekmeaoblpfnpaaGreatDoor
open Go Go.Sx
theorem JM {α : Type} {x : α} {R G : List α} : ((x :: G) ++ R).Perm (x :: (R ++ G)) := List.Perm.cons _ List.perm_append_comm
theorem JG {α : Type} {x : α} {R G : List α} : (x :: (R ++ G)).Perm ((x :: G) ++ R) := List.Perm.cons _ List.perm_append_comm
def opers : List (List UInt8) := [[97, 110, 100], [111, 114], [110, 111, 116]]
def a6N (q : Cq.Qn) : Prop := ∀ (p : Option Addr) (c : Nat) (b : Nat) (l : List UInt8) (pp : Bool) (g : Gs) (I : Heap), PS I q.ps p → Cq.form q = true → BO 0 1 l.length (CY l) g → l.length + (Cq.write q).length ≤ 1000000000 →
  yZ Tryz.prog 254 [ptr b 0, .agg (AV q p c).toArray] I (EP b l pp g) (fun e I' H' => e = .returned (.tuple #[]) ∧ ∃ g', BO 0 1 (l ++ Cq.write q).length (CY (l ++ Cq.write q)) g' ∧ H' = EP b (l ++ Cq.write q) true g')
theorem b9e {k} (h2 : 2 ≤ k) (h4 : k ≤ 4) sp : (opers.map str ++ sp)[(k - 2).toNat]? = some (str (Cq.word k)) := by
  rw [List.getElem?_append_left (by simp [opers]; omega)]
  exact b8O h2 h4
theorem a6C I : yZ Tryz.prog 286 [] I [] (fun e I' H' => (∃ v, e = .returned v ∧ IQ 9 I' opers v) ∧ H' = []) := by
 refine zT Tryz.func286 fun w0 hw0 => ?_
 refine yU 8 ?_
 intro b1 hb1
 refine yU 4 ?_
 refine Ej.persist hb1 (fun I3 hle2 hb1i => ?_)
 refine zZ ?_
 exact ⟨⟨_, rfl, b1, 3, [], rfl, hb1i⟩, rfl⟩
theorem b1G q (ih : ∀ q', Cq.Qn.size q' < q.size → a6N q') : a6N q := by
 intro p c b l pp g I hps hform hg hlen
 refine zT Tryz.func254 fun w0 hw0 => ?_
 refine yU 3 ?_
 intro b1 hb1
 refine AP (fun hc2 hc2p => ?_) (fun hc2 hc2p => ?_)
 ·have hk : q.k = 1 := by omega
  have hw := Cq.JE hk
  have hwl := congrArg List.length hw
  have htl := (Cq.RJ q.t).1
  have htx : (Cq.text q.t).length = (Cq.escape q.t).length + 2 := by simp [Cq.text]
  simp at hwl
  refine yU 5 ?_
  refine J.z (LZ rfl rfl rfl (by first | omega | (simp only [List.length_append]; omega) | (simp; omega))) ?_
  refine yU 2 ?_
  refine J.z (LZ rfl rfl rfl (by first | omega | (simp only [List.length_append]; omega) | (simp; omega))) ?_
  refine J.z (LZ rfl rfl rfl (by first | omega | (simp only [List.length_append]; omega) | (simp; omega))) ?_
  refine J.ev 14 (str (q.i ++ [32] ++ q.r ++ [32, 34])) rfl (by simp [str]) ?_
  refine J.pull (Pull.s Pull.z) ?_
  refine J.perm (JM (R := [_])) ?_
  refine J.op rfl (zM (H1 := EP _ _ _ _) rfl rfl rfl rfl rfl (yZ.still (IB b l (q.i ++ [32] ++ q.r ++ [32, 34]) pp _ hg (by first | omega | (simp; omega) | simp) (by first | omega | (simp; omega) | simp) _)) ?_ (fun _ _ _ _ h => by cases h.2.1) (fun _ _ h => by cases h.2.1))
  intro v3 I4 H5 hle6 hp7
  obtain ⟨rfl, h, g8, hg8, rfl⟩ := hp7; cases h
  refine J.perm (JG (R := [_])) ?_
  refine yU 3 ?_
  refine Cj.AL [1] [] 6 (by kernel_rfl) ?_
  refine yU 4 ?_
  intro b10 hb10
  refine yU 1 ?_
  refine JA.pull Pull.z ?_
  refine BH (ZR _ _ _ _ b10 _ _) ?_
  intro v11 I12 H13 hle14 hp15
  have hps := hps.mono hle14
  obtain ⟨rb, osl, h, rfl, ho⟩ := hp15; cases h
  refine yU 1 ?_
  refine JA.pull Pull.z ?_
  refine BH (a9C rb osl q.t (by omega) _ ho) ?_
  intro v16 I17 H18 hle19 hp20
  have hps := hps.mono hle19
  have ho := ho.mono hle19
  obtain ⟨h, rfl⟩ := hp20; cases h
  refine yU 1 ?_
  refine JA.perm (JM (R := [_])) ?_
  refine JA.last 6 (by kernel_rfl) rfl rfl rfl (zM (H1 := EP _ _ _ _) rfl rfl rfl rfl rfl (yZ.still (IB b (l ++ (q.i ++ [32] ++ q.r ++ [32, 34])) (Cq.escape q.t) true _ hg8 (by first | omega | (simp; omega) | simp) (by first | omega | (simp; omega) | simp) _)) ?_ (fun _ _ _ _ h => by cases h.2.1) (fun _ _ h => by cases h.2.1))
  intro v21 I22 H23 hle24 hp25
  obtain ⟨rfl, h, g26, hg26, rfl⟩ := hp25; cases h
  refine JA.perm (JG (R := [_])) ?_
  refine yU 5 ?_
  refine J.perm (JM (R := [_])) ?_
  refine J.op rfl (zM (H1 := EP _ _ _ _) rfl rfl rfl rfl rfl (yZ.still (IB b ((l ++ (q.i ++ [32] ++ q.r ++ [32, 34])) ++ (Cq.escape q.t)) [34] true _ hg26 (by first | omega | (simp; omega) | simp) (by first | omega | (simp; omega) | simp) _)) ?_ (fun _ _ _ _ h => by cases h.2.1) (fun _ _ h => by cases h.2.1))
  intro v27 I28 H29 hle30 hp31
  obtain ⟨rfl, h, g32, hg32, rfl⟩ := hp31; cases h
  refine J.perm (JG (R := [_])) ?_
  refine yU 4 ?_
  refine Ej.keep (Keeps.k (Keeps.d Keeps.r)) ?_
  refine Ej.a3e rfl rfl ?_
  have hfin : l ++ Cq.write q = (((l ++ (q.i ++ [32] ++ q.r ++ [32, 34])) ++ (Cq.escape q.t)) ++ [34]) := by rw [hw]; simp [Cq.text]
  rw [hfin]
  exact ⟨rfl, _, hg32, rfl⟩
 have hk : q.k ≠ 1 := by omega
 obtain ⟨_, hk2, hk4, qa, qb, htw, hfa, hfb⟩ := (Cq.DU hform).resolve_left hk
 have hw := Cq.NJ hk htw
 have hwl := congrArg List.length hw
 have hpl := Cq.a6o qb.k (Cq.write qb)
 simp at hwl
 have hln := htw.len
 obtain ⟨bl, off, cs', T, fr, pa, ca, pb, cb, rfl, hbl, hca, hcb, hkb, hpa, hpb⟩ := hps.WT htw
 refine BD off ?_
 refine J.z (CO AA zK (yY.BQ hbl) hca) ?_
 refine J.pull (Pull.s Pull.z) ?_
 refine J.perm (JM (R := [_])) ?_
 refine J.op rfl (zM (H1 := EP _ _ _ _) rfl rfl rfl rfl rfl (yZ.still (ih qa htw.size.1 pa ca b l pp _ _ hpa hfa hg (by first | omega | (simp; omega) | simp))) ?_ (fun _ _ _ _ h => by cases h.2.1) (fun _ _ h => by cases h.2.1))
 intro v33 I34 H35 hle36 hp37
 obtain ⟨rfl, h, g38, hg38, rfl⟩ := hp37; cases h
 refine J.perm (JG (R := [_])) ?_
 refine yU 3 ?_
 refine Cj.AL [1] [] 9 (by kernel_rfl) ?_
 have hbl_6 := hbl
 refine BH (a6C _) ?_
 intro v40 I41 H42 hle43 hp44
 have hbl := hle43 _ _ hbl
 have hpa := hpa.mono hle43
 have hpb := hpb.mono hle43
 obtain ⟨⟨vx, h, ob, oc, osp, rfl, hob⟩, rfl⟩ := hp44; cases h
 rw [show opers.length = 3 from rfl]
 refine BD ((q.k - 2).toNat) ?_
 refine zO 6 rfl (AX (zN rfl rfl EK (yY.BQ hob) (b9e hk2 hk4 _)) rfl rfl ?_)
 refine yU 1 ?_
 refine JA.zt 7 rfl (LZ rfl rfl rfl (by first | omega | (simp only [List.length_append]; omega) | (simp; omega))) ?_
 refine JA.zt 8 rfl (LZ rfl rfl rfl (by first | omega | (simp only [List.length_append]; omega) | (simp; omega))) ?_
 refine JA.perm (JM (R := [_])) ?_
 refine JA.last 9 (by kernel_rfl) rfl rfl rfl (zM (H1 := EP _ _ _ _) rfl rfl rfl rfl rfl (yZ.still (IB b (l ++ Cq.write qa) ([32] ++ Cq.word q.k ++ [32]) true _ hg38 (by first | omega | (simp; omega) | simp) (by first | omega | (simp; omega) | simp) _)) ?_ (fun _ _ _ _ h => by cases h.2.1) (fun _ _ h => by cases h.2.1))
 intro v47 I48 H49 hle50 hp51
 obtain ⟨rfl, h, g52, hg52, rfl⟩ := hp51; cases h
 refine JA.perm (JG (R := [_])) ?_
 refine BD (off + 5) ?_
 refine yU 1 ?_
 refine J.z (zN rfl rfl XG (yY.BQ hbl) hkb) ?_
 refine AP (fun hc53 hc53p => ?_) (fun hc53 hc53p => ?_)
 ·have hku : Cq.paren qb.k (Cq.write qb) = Cq.write qb := by have h := hc53; simp at h; simp [Cq.paren, h]
  refine BD (off + 5) ?_
  refine J.z (CO AA zK (yY.BQ hbl) hcb) ?_
  refine J.perm (JM (R := [_])) ?_
  refine J.op rfl (zM (H1 := EP _ _ _ _) rfl rfl rfl rfl rfl (yZ.still (ih qb htw.size.2 pb cb b ((l ++ Cq.write qa) ++ ([32] ++ Cq.word q.k ++ [32])) true _ _ hpb hfb hg52 (by first | omega | (simp; omega) | simp))) ?_ (fun _ _ _ _ h => by cases h.2.1) (fun _ _ h => by cases h.2.1))
  intro v54 I55 H56 hle57 hp58
  obtain ⟨rfl, h, g59, hg59, rfl⟩ := hp58; cases h
  refine J.perm (JG (R := [_])) ?_
  refine yU 4 ?_
  refine Ej.keep (Keeps.k (Keeps.d Keeps.r)) ?_
  refine Ej.a3e rfl rfl ?_
  have hfin : l ++ Cq.write q = (((l ++ Cq.write qa) ++ ([32] ++ Cq.word q.k ++ [32])) ++ Cq.write qb) := by rw [hw, hku]; simp [Cq.text]
  rw [hfin]
  exact ⟨rfl, _, hg59, rfl⟩
 have hku : Cq.paren qb.k (Cq.write qb) = 40 :: Cq.write qb ++ [41] := by have h := hc53; simp at h; simp [Cq.paren, h]
 have hpl2 := congrArg List.length hku
 simp at hpl2
 refine yU 5 ?_
 refine J.perm (JM (R := [_])) ?_
 refine J.op rfl (zM (H1 := EP _ _ _ _) rfl rfl rfl rfl rfl (yZ.still (IB b ((l ++ Cq.write qa) ++ ([32] ++ Cq.word q.k ++ [32])) [40] true _ hg52 (by first | omega | (simp; omega) | simp) (by first | omega | (simp; omega) | simp) _)) ?_ (fun _ _ _ _ h => by cases h.2.1) (fun _ _ h => by cases h.2.1))
 intro v60 I61 H62 hle63 hp64
 obtain ⟨rfl, h, g65, hg65, rfl⟩ := hp64; cases h
 refine J.perm (JG (R := [_])) ?_
 refine BD (off + 5) ?_
 refine J.z (CO AA zK (yY.BQ hbl) hcb) ?_
 refine J.perm (JM (R := [_])) ?_
 refine J.op rfl (zM (H1 := EP _ _ _ _) rfl rfl rfl rfl rfl (yZ.still (ih qb htw.size.2 pb cb b (((l ++ Cq.write qa) ++ ([32] ++ Cq.word q.k ++ [32])) ++ [40]) true _ _ hpb hfb hg65 (by first | omega | (simp; omega) | simp))) ?_ (fun _ _ _ _ h => by cases h.2.1) (fun _ _ h => by cases h.2.1))
 intro v66 I67 H68 hle69 hp70
 obtain ⟨rfl, h, g71, hg71, rfl⟩ := hp70; cases h
 refine J.perm (JG (R := [_])) ?_
 refine yU 4 ?_
 refine J.perm (JM (R := [_])) ?_
 refine J.op rfl (zM (H1 := EP _ _ _ _) rfl rfl rfl rfl rfl (yZ.still (IB b ((((l ++ Cq.write qa) ++ ([32] ++ Cq.word q.k ++ [32])) ++ [40]) ++ Cq.write qb) [41] true _ hg71 (by first | omega | (simp; omega) | simp) (by first | omega | (simp; omega) | simp) _)) ?_ (fun _ _ _ _ h => by cases h.2.1) (fun _ _ h => by cases h.2.1))
 intro v72 I73 H74 hle75 hp76
 obtain ⟨rfl, h, g77, hg77, rfl⟩ := hp76; cases h
 refine J.perm (JG (R := [_])) ?_
 refine yU 1 ?_
 refine Ej.keep (Keeps.k (Keeps.d Keeps.r)) ?_
 refine Ej.GY rfl rfl ?_
 have hfin : l ++ Cq.write q = (((((l ++ Cq.write qa) ++ ([32] ++ Cq.word q.k ++ [32])) ++ [40]) ++ Cq.write qb) ++ [41]) := by rw [hw, hku]; simp [Cq.text]
 rw [hfin]
 exact ⟨rfl, _, hg77, rfl⟩
theorem b4g q : a6N q := by
  suffices ∀ n (q : Cq.Qn), q.size < n → a6N q from this _ q (Nat.lt_succ_self _)
  intro n
  induction n with
  | zero => intro q h; omega
  | succ n ih => intro q h; exact b1G q fun q' h' => ih q' (by omega)
theorem a1w q p c (hsz : q.size ≤ 1000000000) (hwd : q.wide ≤ 1000000000) (hlen : Cq.form q = true → (Cq.write q).length ≤ 1000000000) I (hps : PS I q.ps p) : Pure Tryz.prog 210 [.agg (AV q p c).toArray] I (str (Cq.print q)) := by
 refine yZ.toPure ?_
 refine zT Tryz.func210 fun w0 hw0 => ?_
 refine yU 3 ?_
 intro b1 hb1
 refine BF (UG q p c hsz hwd _ hps) ?_
 refine FV (fun hc2 => ?_) (fun hc2 => ?_)
 ·have hr : Cq.right q = false := by have h := hc2; simpa using h
  refine BP ?_
  refine ⟨?_, rfl⟩
  simp [Cq.print, hr] <;> rfl
 have hr : Cq.right q = true := by have h := hc2; simpa using h
 have hform : Cq.form q = true := by unfold Cq.right at hr; rw [Bool.and_eq_true] at hr; exact hr.1
 refine yU 5 ?_
 intro b3 hb3
 refine yU 5 ?_
 refine J.perm (JM (R := [_]) (G := [])) ?_
 refine J.op rfl (zM (H1 := EP _ [] false none) rfl rfl rfl rfl rfl (yZ.still (b4g q p c b3 [] false none _ hps hform ⟨rfl, rfl⟩ (by have := hlen hform; simp; omega))) ?_ (fun _ _ _ _ h => by cases h.2.1) (fun _ _ h => by cases h.2.1))
 intro v4 I5 H6 hle7 hp8
 obtain ⟨rfl, h, g9, hg9, rfl⟩ := hp8; cases h
 refine J.perm (JG (R := [_])) ?_
 refine yU 4 ?_
 refine J.perm (JM (R := [_])) ?_
 refine J.op rfl (zM (H1 := EP _ _ _ _) rfl rfl rfl rfl rfl (yZ.still (a1Q b3 ([] ++ Cq.write q) true _ hg9 (fun h => absurd h (by simpa using Cq.b4Z hform)) (by have := hlen hform; simp; omega) _)) ?_ (fun _ _ _ _ h => by cases h.2.1) (fun _ _ h => by cases h.2.1))
 intro v10 I11 H12 hle13 hp14
 obtain ⟨rfl, h, -, -, -⟩ := hp14; cases h
 refine BP ?_
 refine ⟨?_, rfl⟩
 simp [Cq.print, hr] <;> rfl
end Go.Proofs.YtekmeaoblpfnpaaGreatDoor
end
namespace Ix
open Ke
def a5a (L : Ix) (q : Cq.Qn) : List Rec := (L.map (·.1)).filter fun t => sat L q t
theorem b2v {L} (h : AO L) q : (a5a L q).Nodup := (a5F h).sublist List.filter_sublist
theorem b6u {L q t} : t ∈ a5a L q ↔ t ∈ L.map (·.1) ∧ sat L q t = true := by unfold a5a; rw [List.mem_filter]
end Ix
section
namespace Go.Proofs.YtekmeaoblpfnpaaGreatDoor
open _root_.Go.Proofs.Tryz
open Go Go.Sx
def EM (L : Ix.Ix) (q : Cq.Qn) : Nat := (Ix.a5a L q).length
def WM (L : Ix.Ix) (m : ML (List UInt8)) : Prop := ∀ (s : List UInt8) (v : Value), s ≠ [] → zY m s = some v → ∀ q, Cq.right q = true → Cq.print q = s → v = i64 (EM L q : Nat)
theorem WM.nil L : WM L [] := fun s v _ h => by cases h
theorem a5L {α : Type} [BEq α] [LawfulBEq α] {a b v c} : ∀ {l : ML α}, zY (AQ l a v c) b = if b == a then some v else zY l b
  | [] => by unfold AQ zY; rfl
  | (d, u, n) :: r => by
    unfold AQ
    by_cases h : a == d
    · rw [if_pos h]
      rw [IW h]
      unfold zY
      split <;> rfl
    rw [if_neg h]
    have ih := a5L (a := a) (b := b) (v := v) (c := c) (l := r)
    unfold zY
    by_cases hb : b == d
    · have : ¬ (b == a) = true := fun e => h (by rw [← IW e]; exact hb)
      rw [if_pos hb, if_neg this, if_pos hb]
    rw [if_neg hb, if_neg hb, ih]
theorem WM.push {L m q k} (h : WM L m) : WM L (AQ m (Cq.print q) (i64 (EM L q : Nat)) k) := fun s v hs hg r hr hp => by
  rw [a5L] at hg
  by_cases hb : s == Cq.print q
  · rw [if_pos hb] at hg
    cases hg
    have e := IW hb
    have hq : Cq.right q = true := by
      cases hc : Cq.right q with
      | true => rfl
      | false => exact absurd (e.trans (by unfold Cq.print; rw [hc]; rfl)) hs
    rw [Cq.b4x hq hr (e.symm.trans hp.symm)]
  rw [if_neg hb] at hg
  exact h s v hs hg r hr hp
theorem a8M {L} (hL : Ix.AO L) {q} (hf : Cq.form q = true) {m k} (hm : EI m k (Ix.sat L q)) : m.length = EM L q := by
  have hn : (m.map (·.1)).Nodup := hm.1.1
  have hp : (m.map (·.1)).Perm (Ix.a5a L q) := (List.perm_ext_iff_of_nodup hn (Ix.b2v hL q)).2 fun t => by
    rw [hm.mem, Ix.b6u]
    exact ⟨fun h => ⟨Ix.WG L _ q (Nat.lt_succ_self _) hf h, h⟩, fun h => h.2⟩
  rw [← List.length_map (f := (·.1)), hp.length_eq]; rfl
theorem a5J {L q} (h : ∀ t, Ix.sat L q t = false) : EM L q = 0 := by
  unfold EM Ix.a5a
  rw [List.filter_eq_nil_iff.2 fun t _ => by rw [h t]; exact Bool.false_ne_true]; rfl
theorem OU {q : Cq.Qn} : ∀ (n : Nat) (q : Cq.Qn), q.size < n → Cq.form q = true → (Cq.write q).length + 7 ≤ 2 * q.wide + 6 * (q.size + 2)
  | 0, _, h, _ => absurd h (Nat.not_lt_zero _)
  | n + 1, q, h, hq => by
    rcases Cq.DU hq with h1 | ⟨h1, h2, h4, a, b, hab, ha, hb⟩
    · rw [Cq.JE h1]
      have := (Cq.RJ q.t).2
      unfold Cq.Qn.wide
      simp only [Cq.text, List.length_append, List.length_cons, List.length_nil]
      omega
    have hs := hab.size
    have g1 := OU (q := q) n a (by omega) ha
    have g2 := OU (q := q) n b (by omega) hb
    have hw := Ix.GI.two hab h1 hq
    have hz := Ix.DZ.two hab h1 hq
    have hp : (Cq.paren b.k (Cq.write b)).length ≤ (Cq.write b).length + 2 := by unfold Cq.paren; split <;> simp
    have hk : (Cq.word q.k).length ≤ 3 := by unfold Cq.word; split <;> (try split) <;> simp
    rw [Cq.NJ h1 hab]
    simp only [List.length_append, List.length_cons, List.length_nil]
    omega
theorem b0F xv L (htk : Ix.RS L) (hL : Ix.AO L) pb mb q p c m k (hm : WM L m) (hform : Cq.form q = true) (hwd : q.wide ≤ 10000000) (hsz : q.size ≤ 10000000) I (hpb : I pb = some (zJ 173 [xv, .map (some mb)])) (hps : PS I q.ps p) (hx : JO I xv L) (hT : JV I) :
    yZ Tryz.prog 209 [ptr pb 0, .agg (AV q p c).toArray] I [(mb, zV (fun a : List UInt8 => str a) m k)] (fun e I' H' => ∃ m' k', e = .returned (i64 (EM L q : Nat)) ∧ WM L m' ∧ H' = [(mb, zV (fun a : List UInt8 => str a) m' k')]) := by
 have hlw := OU (q := q) _ q (Nat.lt_succ_self _) hform
 refine zT Tryz.func209 fun w0 hw0 => ?_
 refine yU 3 ?_
 intro b1 hb1
 refine BF (a1w q p c (by omega) (by omega) (fun _ => by omega) _ hps) ?_
 refine J.z FN ?_
 refine J.YU (Cj.region (J.z BR ?_))
 refine J.z (DK rfl rfl) ?_
 refine J.z (DN (off' := 1) YB Tryz.sizeOf171) ?_
 refine J.z (DV Tryz.isAgg171 (yY.BQ hpb)) ?_
 refine J.z BR ?_
 refine J.z (a4t (kv := (fun a : List UInt8 => str a)) (l := m) (a := Cq.print q) rfl rfl rfl rfl a3I (CZ.text DC) XC (yY.at 1 rfl)) ?_
 refine TV (fun hg2 => ?_) (fun hg2 => ?_)
 ·refine AP (fun hc3 hc3p => ?_) (fun hc3 hc3p => ?_)
  ·refine yU 8 ?_
   refine Ej.keep (Keeps.d (Keeps.k Keeps.n)) ?_
   have hne : Cq.print q ≠ [] := bne_iff_ne.1 hc3
   have hqr : Cq.right q = true := by
     cases hc : Cq.right q with
     | true => rfl
     | false => exact absurd (by unfold Cq.print; rw [hc]; rfl) hne
   obtain ⟨v, hv⟩ := Option.isSome_iff_exists.1 hg2
   have he := hm _ v hne hv q hqr rfl
   refine zZ ?_
   refine ⟨m, k, ?_, hm, rfl⟩
   show Ending.returned ((zY m (Cq.print q)).getD _) = _
   rw [hv]
   exact congrArg Ending.returned he
  refine yU 3 ?_
  refine Cj.AL [0, 1] [] 8 (by kernel_rfl) ?_
  have hpb_5 := hpb
  refine JA.fix BM (fun fx4 => ?_)
  refine JA.tk 0 rfl fx4 BR ?_
  refine JA.tk 1 rfl fx4 (DK rfl rfl) ?_
  refine JA.tk 2 rfl fx4 (DN (off' := 0) YB Tryz.sizeOf26) ?_
  refine JA.tk 3 rfl fx4 (DV Tryz.isAgg26 (yY.IY hpb_5)) ?_
  refine JA.tk 4 rfl fx4 (AU rfl rfl AA zK (yY.EG 0 rfl) rfl rfl) ?_
  refine BH (a0j xv L htk q p c _ hps hx hT hwd hform) ?_
  intro v5 I6 H7 hle8 hp9
  have hps := hps.mono hle8
  have hx := hx.mono hle8
  have hT := hT.mono hle8
  have hpb := hle8 _ _ hpb
  obtain ⟨wa, h, hsa, rfl⟩ := hp9; cases h
  rcases id hsa with ⟨rfl, hSa⟩ | ⟨ab, am, ak, rfl, hma, hab⟩
  ·have hz : EM L q = 0 := a5J hSa
   refine yU 1 ?_
   refine JA.zt 6 rfl (WL rfl rfl FH) ?_
   refine JA.ev 32 (i64 (EM L q : Nat)) rfl (congrArg (fun n : Nat => i64 (n : Int)) hz.symm) ?_
   refine JA.fix BM (fun fx10 => ?_)
   refine JA.tk 7 rfl fx10 FN ?_
   refine EZ ?_
   refine Ej.seq (Cj.sr (J.z BR ?_))
   refine J.z (DK rfl rfl) ?_
   refine J.z (DN (off' := 1) YB Tryz.sizeOf171) ?_
   refine J.z (DV Tryz.isAgg171 (yY.BQ hpb)) ?_
   refine J.z BR ?_
   refine J.z BR ?_
   refine J.op rfl (DW (kv := (fun a : List UInt8 => str a)) (a := (Cq.print q)) 1 (.inr rfl) rfl rfl rfl rfl rfl a3I (CZ.text DC) rfl (yX.s yX.z) ?_)
   refine yU 9 ?_
   refine Ej.keep (Keeps.d (Keeps.k Keeps.n)) ?_
   refine zZ ?_
   exact ⟨_, _, rfl, hm.push, rfl⟩
  have hz : am.length = EM L q := a8M hL hform hma
  refine yU 1 ?_
  refine zO 6 rfl (AX (KX (kv := zW) (l := am) rfl rfl FH (yY.BQ hab)) rfl rfl ?_)
  refine yU 1 ?_
  refine JA.ev 32 (i64 (EM L q : Nat)) rfl (congrArg (fun n : Nat => i64 (n : Int)) hz) ?_
  refine JA.fix BM (fun fx11 => ?_)
  refine JA.tk 7 rfl fx11 FN ?_
  refine EZ ?_
  refine Ej.seq (Cj.sr (J.z BR ?_))
  refine J.z (DK rfl rfl) ?_
  refine J.z (DN (off' := 1) YB Tryz.sizeOf171) ?_
  refine J.z (DV Tryz.isAgg171 (yY.BQ hpb)) ?_
  refine J.z BR ?_
  refine J.z BR ?_
  refine J.op rfl (DW (kv := (fun a : List UInt8 => str a)) (a := (Cq.print q)) 1 (.inr rfl) rfl rfl rfl rfl rfl a3I (CZ.text DC) rfl (yX.s yX.z) ?_)
  refine yU 9 ?_
  refine Ej.keep (Keeps.d (Keeps.k Keeps.n)) ?_
  refine zZ ?_
  exact ⟨_, _, rfl, hm.push, rfl⟩
 refine yU 9 ?_
 refine Cj.AL [0, 1] [] 8 (by kernel_rfl) ?_
 have hpb_5 := hpb
 refine JA.fix BM (fun fx13 => ?_)
 refine JA.tk 0 rfl fx13 BR ?_
 refine JA.tk 1 rfl fx13 (DK rfl rfl) ?_
 refine JA.tk 2 rfl fx13 (DN (off' := 0) YB Tryz.sizeOf26) ?_
 refine JA.tk 3 rfl fx13 (DV Tryz.isAgg26 (yY.IY hpb_5)) ?_
 refine JA.tk 4 rfl fx13 (AU rfl rfl AA zK (yY.EG 0 rfl) rfl rfl) ?_
 refine BH (a0j xv L htk q p c _ hps hx hT hwd hform) ?_
 intro v14 I15 H16 hle17 hp18
 have hps := hps.mono hle17
 have hx := hx.mono hle17
 have hT := hT.mono hle17
 have hpb := hle17 _ _ hpb
 obtain ⟨wa, h, hsa, rfl⟩ := hp18; cases h
 rcases id hsa with ⟨rfl, hSa⟩ | ⟨ab, am, ak, rfl, hma, hab⟩
 ·have hz : EM L q = 0 := a5J hSa
  refine yU 1 ?_
  refine JA.zt 6 rfl (WL rfl rfl FH) ?_
  refine JA.ev 32 (i64 (EM L q : Nat)) rfl (congrArg (fun n : Nat => i64 (n : Int)) hz.symm) ?_
  refine JA.fix BM (fun fx19 => ?_)
  refine JA.tk 7 rfl fx19 FN ?_
  refine EZ ?_
  refine Ej.seq (Cj.sr (J.z BR ?_))
  refine J.z (DK rfl rfl) ?_
  refine J.z (DN (off' := 1) YB Tryz.sizeOf171) ?_
  refine J.z (DV Tryz.isAgg171 (yY.BQ hpb)) ?_
  refine J.z BR ?_
  refine J.z BR ?_
  refine J.op rfl (DW (kv := (fun a : List UInt8 => str a)) (a := (Cq.print q)) 1 (.inr rfl) rfl rfl rfl rfl rfl a3I (CZ.text DC) rfl (yX.s yX.z) ?_)
  refine yU 9 ?_
  refine Ej.keep (Keeps.d (Keeps.k Keeps.n)) ?_
  refine zZ ?_
  exact ⟨_, _, rfl, hm.push, rfl⟩
 have hz : am.length = EM L q := a8M hL hform hma
 refine yU 1 ?_
 refine zO 6 rfl (AX (KX (kv := zW) (l := am) rfl rfl FH (yY.BQ hab)) rfl rfl ?_)
 refine yU 1 ?_
 refine JA.ev 32 (i64 (EM L q : Nat)) rfl (congrArg (fun n : Nat => i64 (n : Int)) hz) ?_
 refine JA.fix BM (fun fx20 => ?_)
 refine JA.tk 7 rfl fx20 FN ?_
 refine EZ ?_
 refine Ej.seq (Cj.sr (J.z BR ?_))
 refine J.z (DK rfl rfl) ?_
 refine J.z (DN (off' := 1) YB Tryz.sizeOf171) ?_
 refine J.z (DV Tryz.isAgg171 (yY.BQ hpb)) ?_
 refine J.z BR ?_
 refine J.z BR ?_
 refine J.op rfl (DW (kv := (fun a : List UInt8 => str a)) (a := (Cq.print q)) 1 (.inr rfl) rfl rfl rfl rfl rfl a3I (CZ.text DC) rfl (yX.s yX.z) ?_)
 refine yU 9 ?_
 refine Ej.keep (Keeps.d (Keeps.k Keeps.n)) ?_
 refine zZ ?_
 exact ⟨_, _, rfl, hm.push, rfl⟩
end Go.Proofs.YtekmeaoblpfnpaaGreatDoor
end
section
namespace Go.Proofs.YtekmeaoblpfnpaaGreatDoor
open _root_.Go.Proofs.Tryz
open Go Go.Sx Go.Stab
theorem b7R x y I : Pure Tryz.prog 59 [i64 x, i64 y] I (i64 (Lib.compareInt x y)) :=
  Pure.of_same (Enters.of Tryz.func59 (by decide) rfl) fun w _ => Tryz.cmp_Compare_int x y w
theorem b9C a b I : Pure Tryz.prog 58 [str a, str b] I (i64 (KP a b)) :=
  Pure.of_same (Enters.of Tryz.func58 (by decide) rfl) fun w _ => by
    have h := Tryz.strings_Compare ⟨a.toArray⟩ ⟨b.toArray⟩ w
    rw [show (⟨a.toArray⟩ : ByteArray).data.toList = a by simp, show (⟨b.toArray⟩ : ByteArray).data.toList = b by simp, YO] at h
    exact h
theorem b6x x y : decide (Lib.compareInt x y < 0) = decide (x < y) := by
  unfold Lib.compareInt
  by_cases h : x < y
  · simp [h]
  rw [if_neg h, decide_eq_false h]
  split <;> rfl
theorem b6r a b : decide (KP a b < 0) = decide (a < b) := by
  unfold KP
  by_cases h : a < b
  · simp [h]
  rw [if_neg h, decide_eq_false h]
  split <;> rfl
structure QOk (I : Heap) (x : QI) : Prop where
  ps : PS I x.q.ps x.p
  form : Cq.form x.q = true
  wide : x.q.wide ≤ 10000000
  size : x.q.size ≤ 10000000
theorem QOk.mono {I I' x} (h : QOk I x) (hle : Le I I') : QOk I' x := ⟨h.ps.mono hle, h.form, h.wide, h.size⟩
structure Pnr (I : Heap) (xv : Value) (L : Ix.Ix) (pb mb : Nat) : Prop where
  pb : I pb = some (zJ 173 [xv, .map (some mb)])
  ix : JO I xv L
  tab : JV I
theorem Pnr.mono {I I' xv L pb mb} (h : Pnr I xv L pb mb) (hle : Le I I') : Pnr I' xv L pb mb := ⟨hle _ _ h.pb, h.ix.mono hle, h.tab.mono hle⟩
abbrev MpS := ML (List UInt8) × Nat
abbrev mpH (mb : Nat) (s : MpS) : HL := [(mb, zV (fun a : List UInt8 => str a) s.1 s.2)]
theorem a6K l v pq g cap (hl : l.length ≤ 100000000000000) I (hr : zU KW I l v) (hcl : ∀ x ∈ l, Pure Tryz.prog g (.agg (KW x).toArray :: cap) I (.bool (pq x))) : Pure Tryz.prog 251 [v, .func (.func g) #[] cap.toArray] I (i64 (QO pq l)) := by
 refine yZ.toPure ?_
 obtain ⟨p, c, rfl, hc, hp⟩ := hr
 refine zT Tryz.func251 fun w0 hw0 => ?_
 refine yU 14 ?_
 refine Cj.loop (ι := Nat) (fun j => j ≤ l.length ∧ ∀ x ∈ l.take j, pq x = false) (fun j => l.length - j) (fun j => [(0, .slice p l.length c), (1, .func (.func g) #[] cap.toArray), (7, i64 (l.length : Int)), (8, i64 (j : Int))]) (fun j => I) (fun j => []) 0 ⟨Nat.zero_le _, fun g hg => by simp at hg⟩ ⟨rfl, rfl, rfl, rfl, trivial⟩ rfl rfl ?_
 rintro j ⟨hj, hall⟩
 refine AP (fun hc1 hc1p => ?_) (fun hc1 hc1p => ?_)
 ·have hlt : j < l.length := by omega
  obtain ⟨x, hget⟩ : ∃ x, l[j]? = some x := ⟨_, CX hlt⟩
  obtain ⟨fb, fo, fcs, fty, ffr, sp, rfl, hfb, hfd⟩ := hp (BG hlt)
  refine BD (fo + j * 5) ?_
  refine J.z (CO AA zK (yY.BQ hfb) (CU SI hfd hget)) ?_
  refine BF (hcl x (ET hget)) ?_
  refine FV (fun hc2 => ?_) (fun hc2 => ?_)
  ·have ht : pq x = true := hc2
   refine zZ ?_
   rw [ZP hall hget ht]
   exact ⟨rfl, rfl⟩
  have hnt : pq x = false := hc2
  refine yU 7 ?_
  refine Ej.round (j + 1) ⟨by omega, QU hall hget hnt⟩ (by omega) ⟨rfl, rfl, rfl, rfl, trivial⟩ rfl rfl
 have hfull : l.take j = l := List.take_of_length_le (by omega)
 rw [hfull] at hall
 refine zZ ?_
 rw [UJ hall]
 exact ⟨rfl, rfl⟩
theorem a3z l v pq g cap (hl : l.length ≤ 100000000000000) I (hr : zU KW I l v) (hcl : ∀ x ∈ l, Pure Tryz.prog g (.agg (KW x).toArray :: cap) I (.bool (pq x))) : Pure Tryz.prog 204 [v, .func (.func g) #[] cap.toArray] I (.bool (l.any pq)) := by
 refine yZ.toPure ?_
 refine zT Tryz.func204 fun w0 hw0 => ?_
 refine BF (a6K l v pq g cap hl _ hr hcl) ?_
 refine zZ ?_
 rw [← b0r]
 exact ⟨rfl, rfl⟩
theorem b5W x y cb I (hx : QOk I x) (hy : QOk I y) (hcb : I cb = some (zJ 32 (KW y))) : Pure Tryz.prog 205 [.agg (KW x).toArray, ptr cb 0] I (.bool (decide (x.q = y.q))) := by
 refine yZ.toPure ?_
 have hxp := hx.ps
 have hyp := hy.ps
 have hxs := hx.size
 refine zT Tryz.func205 fun w0 hw0 => ?_
 refine yU 3 ?_
 intro b1 hb1
 refine BF (b7m x.q y.q x.p y.p x.c y.c _ hxp hyp (by omega)) ?_
 refine BP ?_
 exact ⟨rfl, rfl⟩
structure JInv (xv : Value) (L : Ix.Ix) (pb mb kb qb : Nat) (kind : Int) (I : Heap) (s : MpS) : Prop where
  m : WM L s.1
  P : Pnr I xv L pb mb
  k : I kb = some (zJ 3 [i64 kind])
  q : I qb = some (zJ 170 [ptr pb 0])
theorem b6C xv L (htk : Ix.RS L) (hL : Ix.AO L) pb mb kb qb kind x y I s (hx : QOk I x) (hy : QOk I y) (hI : JInv xv L pb mb kb qb kind I s) :
    yZ Tryz.prog 208 ([.agg (KW x).toArray, .agg (KW y).toArray] ++ [ptr kb 0, ptr qb 0]) I (mpH mb s) (fun e I' H' => ∃ (z : Int) (s' : MpS), e = .returned (i64 z) ∧ decide (z < 0) = Ix.ord (EM L) kind x.q y.q ∧ JInv xv L pb mb kb qb kind I' s' ∧ H' = mpH mb s') := by
 obtain ⟨m0, k0⟩ := s
 obtain ⟨hm0, hP, hkb, hqb⟩ := hI
 have hlx := OU (q := x.q) _ x.q (Nat.lt_succ_self _) hx.form
 have hly := OU (q := y.q) _ y.q (Nat.lt_succ_self _) hy.form
 have hxw := hx.wide
 have hyw := hy.wide
 have hxs := hx.size
 have hys := hy.size
 refine zT Tryz.func208 fun w0 hw0 => ?_
 refine yU 3 ?_
 intro b1 hb1
 refine yU 1 ?_
 intro b2 hb2
 refine AP (fun hc3 hc3p => ?_) (fun hc3 hc3p => ?_)
 ·refine yU 1 ?_
  refine Cj.AL [0, 1] [] 8 (by kernel_rfl) ?_
  have hkb_2 := hkb
  have hqb_2 := hqb
  refine JA.fix BM (fun fx4 => ?_)
  refine JA.tk 0 rfl fx4 (DV Tryz.isAgg170 (yY.IY hqb_2)) ?_
  refine JA.tk 1 rfl fx4 (AU rfl rfl AA zK (yY.EG 1 rfl) rfl rfl) ?_
  refine JA.tk 3 rfl fx4 (DV Tryz.isAgg170 (yY.IY hqb_2)) ?_
  refine JA.tk 4 rfl fx4 (AU rfl rfl AA zK (yY.EG 0 rfl) rfl rfl) ?_
  refine JA.pull (Pull.s (Pull.s Pull.z)) ?_
  refine zO 2 rfl (zM (H1 := [_]) rfl rfl rfl rfl rfl (b0F xv L htk hL pb mb x.q x.p x.c _ _ hm0 hx.form hx.wide hx.size _ hP.pb hx.ps hP.ix hP.tab) ?_ (fun _ _ _ _ ⟨_, _, h, _⟩ => by cases h) (fun _ _ ⟨_, _, h, _⟩ => by cases h))
  intro v5 I6 H7 hle8 hp9
  have hx := hx.mono hle8
  have hy := hy.mono hle8
  have hP := hP.mono hle8
  have hkb := hle8 _ _ hkb
  have hqb := hle8 _ _ hqb
  obtain ⟨m1, k1, h, hm1, rfl⟩ := hp9; cases h
  refine yU 1 ?_
  refine JA.pull Pull.z ?_
  refine zO 5 rfl (zM (H1 := [_]) rfl rfl rfl rfl rfl (b0F xv L htk hL pb mb y.q y.p y.c _ _ hm1 hy.form hy.wide hy.size _ hP.pb hy.ps hP.ix hP.tab) ?_ (fun _ _ _ _ ⟨_, _, h, _⟩ => by cases h) (fun _ _ ⟨_, _, h, _⟩ => by cases h))
  intro v10 I11 H12 hle13 hp14
  have hx := hx.mono hle13
  have hy := hy.mono hle13
  have hP := hP.mono hle13
  have hkb := hle13 _ _ hkb
  have hqb := hle13 _ _ hqb
  obtain ⟨m2, k2, h, hm2, rfl⟩ := hp14; cases h
  refine BF (b7R _ _ _) ?_
  refine yU 6 ?_
  refine Ej.keep (Keeps.k (Keeps.d (Keeps.d Keeps.n))) ?_
  have hk2 : kind = 2 := IW hc3
  refine zZ ?_
  exact ⟨_, (m2, k2), rfl, (b6x _ _).trans (by unfold Ix.ord; rw [if_pos hk2]; exact decide_eq_decide.2 (by omega)), ⟨hm2, hP, hkb, hqb⟩, rfl⟩
 refine yU 3 ?_
 refine Cj.AL [0, 1, 2] [] 6 (by kernel_rfl) ?_
 have hkb_3 := hkb
 have hqb_3 := hqb
 refine BF (a1w x.q x.p x.c (by omega) (by omega) (fun _ => by omega) _ hx.ps) ?_
 refine BF (a1w y.q y.p y.c (by omega) (by omega) (fun _ => by omega) _ hy.ps) ?_
 refine BF (b9C _ _ _) ?_
 refine yU 5 ?_
 refine Ej.keep (Keeps.d (Keeps.d (Keeps.k Keeps.n))) ?_
 have hk2 : kind ≠ 2 := KL hc3
 refine zZ ?_
 exact ⟨_, (m0, k0), rfl, (b6r _ _).trans (by unfold Ix.ord; rw [if_neg hk2]), ⟨hm0, hP, hkb, hqb⟩, rfl⟩
theorem b5q xv L (htk : Ix.RS L) (hL : Ix.AO L) pb mb kb qb kind : XK 208 [ptr kb 0, ptr qb 0] (mpH mb) (JInv xv L pb mb kb qb kind) (fun x y => Ix.ord (EM L) kind x.q y.q) QOk :=
  ⟨fun x y I s hx hy hI => b6C xv L htk hL pb mb kb qb kind x y I s hx hy hI, fun h hle => ⟨h.m, h.P.mono hle, hle _ _ h.k, hle _ _ h.q⟩, fun h hle => h.mono hle, RH.by QI.q (Ix.a1S (EM L) kind)⟩
end Go.Proofs.YtekmeaoblpfnpaaGreatDoor
end
section
namespace Go.Stab
open _root_.Go.Proofs.Tryz
theorem Stab.key {α β : Type} (key : α → β) {lb : β → β → Bool} {l r} (h : Stab (fun x y => lb (key x) (key y)) l r) : Stab lb (l.map key) (r.map key) := by
  obtain ⟨t, ht, hp, hs⟩ := h
  refine ⟨t.map fun p => (key p.1, p.2), by rw [List.map_map, ← ht, List.map_map]; rfl, ?_, (List.pairwise_map (f := fun p : α × Nat => (key p.1, p.2))).2 hs⟩
  rw [List.zipIdx_map]
  exact hp.map _
end Go.Stab
namespace Go.Proofs.YtekmeaoblpfnpaaGreatDoor
open Go Go.Sx Go.Stab
def dd (l : List QI) : List QI := l.foldl (fun out x => if x.q ∈ out.map QI.q then out else out ++ [x]) []
theorem a5e {l : List QI} {i x} (h : l[i]? = some x) : dd (l.take (i + 1)) = if x.q ∈ (dd (l.take i)).map QI.q then dd (l.take i) else dd (l.take i) ++ [x] := by
  rw [List.take_add_one, h]
  unfold dd
  rw [List.foldl_append]; rfl
theorem a5h : ∀ (l out : List QI), (l.foldl (fun out x => if x.q ∈ out.map QI.q then out else out ++ [x]) out).map QI.q = (l.map QI.q).foldl UN (out.map QI.q) ∧ (∀ x, x ∈ l.foldl (fun out x => if x.q ∈ out.map QI.q then out else out ++ [x]) out → x ∈ out ∨ x ∈ l)
  | [], out => ⟨rfl, fun x h => .inl h⟩
  | y :: l, out => by
    have h := a5h l (if y.q ∈ out.map QI.q then out else out ++ [y])
    refine ⟨h.1.trans ?_, fun x hx => ?_⟩
    · rw [List.map_cons, List.foldl_cons]
      congr 1
      unfold UN
      split <;> simp
    rcases h.2 x hx with g | g
    · split at g
      · exact .inl g
      rcases List.mem_append.1 g with g | g
      · exact .inl g
      rw [List.mem_singleton.1 g]; exact .inr (.head _)
    exact .inr (.tail _ g)
theorem b4c l : (dd l).map QI.q = dedup (l.map QI.q) := (a5h l []).1
theorem a8n l x (h : x ∈ dd l) : x ∈ l := ((a5h l []).2 x h).resolve_left (by simp)
theorem a8F : ∀ (l : List QI) (i : Nat), (dd (l.take i)).length ≤ i
  | l, 0 => by simp [dd]
  | l, i + 1 => by
    have ih := a8F l i
    cases h : l[i]? with
    | none => rw [List.take_of_length_le (by have := List.getElem?_eq_none_iff.1 h; omega)]; rw [List.take_of_length_le (List.getElem?_eq_none_iff.1 h)] at ih; omega
    | some x =>
      rw [a5e h]
      split
      · omega
      rw [List.length_append, List.length_singleton]; omega
theorem b9M {l} (h : l ≠ []) : 0 < (dd l).length := by
  have h1 := Ix.ZA (Ix.a1S (fun _ => 0) 2) (l.map QI.q)
  rw [← List.length_map (f := QI.q), b4c]
  obtain ⟨x, hx⟩ := List.exists_mem_of_ne_nil l h
  exact List.length_pos_of_mem (Ix.a1W.2 (List.mem_map_of_mem hx))
theorem a8B : ∀ (l : List QI) (k : Nat), (l.zipIdx k).flatMap tqC = l.flatMap KW
  | [], _ => rfl
  | x :: l, k => by rw [List.zipIdx_cons, List.flatMap_cons, List.flatMap_cons, a8B l]; rfl
theorem b8D (D : List QI) y : D.any (fun z => decide (z.q = y)) = decide (y ∈ D.map QI.q) := by
  rw [Bool.eq_iff_iff, List.any_eq_true, decide_eq_true_eq, List.mem_map]
  simp only [decide_eq_true_eq]
theorem gRow {α : Type} {f : α → List Value} {b n sz : Nat} {T} {l : List α} {g} {K : Heap} (hpos : 0 < sz) (hf : ∀ x, (f x).length = sz) (hg : BO b sz n (l.flatMap f) g) (hn : n = l.length) (hK : ∀ p ∈ gH T (l.flatMap f) g, K p.1 = some p.2) : zU f K l (gV n g) := by
  subst hn
  cases g with
  | none =>
    have h : l = [] := List.length_eq_zero_iff.1 hg.1
    subst h; exact zU.nil
  | some q =>
    obtain ⟨bb, c, sp⟩ := q
    have h2 := hg.2.1
    have h3 : (l.flatMap f).length + sp.length = c * sz := hg.2.2
    have h4 : l.length ≤ c := by
      rw [h2] at h3
      exact Nat.le_of_mul_le_mul_right (by omega) hpos
    exact zU.of h4 (hK _ (.head _))
theorem a5n kind x0 {rest : List TQ} {k x} (h : rest[k]? = some x) : ((rest.take (k + 1)).map fun x => x.1.q).foldl (Ix.AB kind) x0 = Ix.AB kind (((rest.take k).map fun x => x.1.q).foldl (Ix.AB kind) x0) x.1.q := by
  rw [List.take_add_one, h, List.map_append, List.foldl_append]; rfl
structure JoS where
  k : Nat
  J : Heap
  p : Option Addr
  c : Nat
theorem b0Z {l : List QI} {x} (h : x ∈ l.zipIdx 0) : x.1 ∈ l := List.fst_mem_of_mem_zipIdx h
theorem a2y (xv : Value) (L : Ix.Ix) (htk : Ix.RS L) (hL : Ix.AO L) (pb mb : Nat) (kind : Int) (l : List QI) (v : Value) (hne : l ≠ []) (hll : l.length ≤ 1000000000) (m0 : ML (List UInt8)) (k0 : Nat) (hm : WM L m0) (I : Heap) (hP : Pnr I xv L pb mb) (hr : zU KW I l v) (hq : ∀ x ∈ l, QOk I x) :
    yZ Tryz.prog 142 [ptr pb 0, v, i64 kind] I (mpH mb (m0, k0)) (fun e I' H' => ∃ (p : Option Addr) (c : Nat) (s' : MpS), e = .returned (.agg (AV (Ix.PE (EM L) kind (l.map QI.q)) p c).toArray) ∧ PS I' (Ix.PE (EM L) kind (l.map QI.q)).ps p ∧ WM L s'.1 ∧ H' = mpH mb s') := by
 obtain ⟨p, c, rfl, hc, -⟩ := id hr
 refine zT Tryz.func142 fun w0 hw0 => ?_
 refine yU 3 ?_
 intro b1 hb1
 refine yU 1 ?_
 intro b2 hb2
 refine yU 1 ?_
 intro b3 hb3
 refine yU 3 ?_
 refine Cj.pull (Pull.s (Pull.s Pull.z)) ?_
 refine Cj.persist hb1 (fun I5 hle4 hb1i => ?_)
 have hP := hP.mono hle4
 have hr := hr.mono hle4
 have hq := fun x9 hx9 => (hq x9 hx9).mono hle4
 refine Cj.pull (Pull.s Pull.z) ?_
 refine Cj.persist hb2 (fun I7 hle6 hb2i => ?_)
 have hP := hP.mono hle6
 have hr := hr.mono hle6
 have hq := fun x9 hx9 => (hq x9 hx9).mono hle6
 have hb1i := hle6 _ _ hb1i
 refine yU 13 ?_
 refine Cj.loop (ι := Nat × Heap × Gs) (fun y => y.1 ≤ l.length ∧ BO w0.heap.size 5 (dd (l.take y.1)).length ((dd (l.take y.1)).flatMap KW) y.2.2 ∧ Pnr y.2.1 xv L pb mb ∧ zU KW y.2.1 l (.slice p l.length c) ∧ (∀ x ∈ l, QOk y.2.1 x) ∧ y.2.1 b2 = some (zJ 3 [i64 kind]) ∧ y.2.1 b1 = some (zJ 170 [ptr pb 0])) (fun y => l.length - y.1) (fun y => [(3, ptr b1 0), (5, ptr b2 0), (6, ptr b3 0), (7, gV (dd (l.take y.1)).length y.2.2), (13, .slice p l.length c), (14, i64 (l.length : Int)), (15, i64 (y.1 : Int))]) (fun y => y.2.1) (fun y => [(b3, zJ 32 (AV Cq.zero none 0)), (mb, zV (fun a : List UInt8 => str a) m0 k0)] ++ gH 32 ((dd (l.take y.1)).flatMap KW) y.2.2) (0, _, none) ⟨Nat.zero_le _, ⟨rfl, rfl⟩, hP, hr, hq, hb2i, hb1i⟩ ⟨rfl, rfl, rfl, rfl, rfl, rfl, rfl, trivial⟩ rfl rfl ?_
 rintro ⟨i, J1, g⟩ ⟨hi, hg, hP, hr, hq, hb2i, hb1i⟩
 dsimp only at hi hg hP hr hq hb2i hb1i ⊢
 obtain ⟨p9, c9, hpe, hc9, hp⟩ := id hr
 cases hpe
 refine AP (fun hc8 hc8p => ?_) (fun hc8 hc8p => ?_)
 ·have hlt : i < l.length := by omega
  obtain ⟨x, hget⟩ : ∃ x, l[i]? = some x := ⟨_, CX hlt⟩
  obtain ⟨fb, fo, fcs, fty, ffr, fsp, rfl, hfb, hfd⟩ := hp (BG hlt)
  have hqx := hq x (ET hget)
  have hdl := a8F l i
  refine BD (fo + i * 5) ?_
  refine J.z (CO AA zK (yY.BQ hfb) (CU SI hfd hget)) ?_
  refine yU 1 ?_
  intro b9 hb9
  refine yU 4 ?_
  refine Cj.persist hb9 (fun I11 hle10 hb9i => ?_)
  have hP := hP.mono hle10
  have hr := hr.mono hle10
  have hq := fun x9 hx9 => (hq x9 hx9).mono hle10
  have hb2i := hle10 _ _ hb2i
  have hb1i := hle10 _ _ hb1i
  have hfb := hle10 _ _ hfb
  have hqx := hqx.mono hle10
  refine LC [_, _] (Pure.borrow (Enters.of Tryz.func204 (by decide) rfl) fun K hle hK => a3z (dd (l.take i)) _ (fun z => decide (z.q = x.q)) 205 [ptr b9 0] (by omega) K (gRow (by decide) SI hg rfl hK) (fun z hz => b5W z x b9 K ((hq z (List.mem_of_mem_take (a8n _ z hz))).mono hle) (hqx.mono hle) (hle _ _ hb9i))) ?_
  intro v12 I13 H14 hle15 hp16
  have hP := hP.mono hle15
  have hr := hr.mono hle15
  have hq := fun x9 hx9 => (hq x9 hx9).mono hle15
  have hb2i := hle15 _ _ hb2i
  have hb1i := hle15 _ _ hb1i
  have hfb := hle15 _ _ hfb
  have hqx := hqx.mono hle15
  have hb9i := hle15 _ _ hb9i
  obtain ⟨h, hK9⟩ := hp16; cases h
  rw [hK9, b8D]
  refine FV (fun hc17 => ?_) (fun hc17 => ?_)
  ·have hmm : ¬ x.q ∈ (dd (l.take i)).map QI.q := by have h := hc17; simpa using h
   have hnx := (a5e hget).trans (if_neg hmm)
   refine yU 4 ?_
   intro b18 hb18
   refine J.op rfl (CV (by' := 79) [_, _, _] rfl rfl rfl rfl rfl GL (.inr ⟨_, GL⟩) (by kernel_rfl) zK BX rfl hg rfl (Src.slice (yY.at 0 rfl) rfl rfl (a5d x)) (by omega) ?_)
   intro g19 hg19
   refine yU 8 ?_
   refine Ej.keep (Keeps.d (Keeps.k (Keeps.k Keeps.r))) ?_
   refine Ej.round (i + 1, _, g19) ⟨by dsimp only; omega, by dsimp only; rw [hnx, List.length_append, List.flatMap_append]; exact hg19, hP, hr, hq, hb2i, hb1i⟩ (by dsimp only; omega) ⟨rfl, rfl, rfl, by dsimp only; rw [hnx, List.length_append]; rfl, rfl, rfl, rfl, trivial⟩ rfl (by dsimp only; rw [hnx, List.flatMap_append]; rfl)
  have hmm : x.q ∈ (dd (l.take i)).map QI.q := by have h := hc17; simpa using h
  have hnx := (a5e hget).trans (if_pos hmm)
  refine yU 7 ?_
  refine Ej.round (i + 1, _, g) ⟨by dsimp only; omega, by dsimp only; rw [hnx]; exact hg, hP, hr, hq, hb2i, hb1i⟩ (by dsimp only; omega) ⟨rfl, rfl, rfl, by dsimp only; rw [hnx]; rfl, rfl, rfl, rfl, trivial⟩ rfl (by dsimp only; rw [hnx])
 refine yU 6 ?_
 have hfull : l.take i = l := List.take_of_length_le (by omega)
 rw [hfull] at hg ⊢
 have hdl := a8F l l.length
 rw [List.take_length] at hdl
 have hd0 := b9M hne
 obtain ⟨bg20, cg21, sp22, rfl, hbg20⟩ := hg.some hd0
 have hcap : ((dd l).flatMap KW).length + sp22.length = cg21 * 5 := hg.2.2
 rw [CQ SI] at hcap
 refine yU 3 ?_
 refine J.perm (H' := [(b3, zJ 32 (AV Cq.zero none 0))] ++ ([DI bg20 ((dd l).zipIdx 0) sp22] ++ mpH mb (m0, k0))) (by simp only [DI, a8B]; exact List.Perm.cons _ (List.Perm.swap _ _ _)) ?_
 refine LC [_] (a6H (b5q xv L htk hL pb mb b2 b1 kind) bg20 ((dd l).zipIdx 0) cg21 (dd l).length sp22 (by simp) (by omega) (b6w _ 0) _ (m0, k0) ⟨hm, hP, hb2i, hb1i⟩ (fun x hx => hq x.1 (a8n _ _ (b0Z hx)))) ?_
 intro v23 I24 H25 hle26 hp27
 have hP := hP.mono hle26
 have hr := hr.mono hle26
 have hq := fun x9 hx9 => (hq x9 hx9).mono hle26
 have hb2i := hle26 _ _ hb2i
 have hb1i := hle26 _ _ hb1i
 obtain ⟨M', ⟨m1, k1⟩, h, hbk, hI1, rfl⟩ := hp27; cases h
 have hm1 := hI1.m
 refine yU 3 ?_
 refine Cj.pull (Pull.s Pull.z) ?_
 refine Cj.persist hbg20 (fun I29 hle28 hbg20i => ?_)
 have hP := hP.mono hle28
 have hr := hr.mono hle28
 have hq := fun x9 hx9 => (hq x9 hx9).mono hle28
 have hb2i := hle28 _ _ hb2i
 have hb1i := hle28 _ _ hb1i
 have hMl : M'.length = (dd l).length := by rw [hbk.len]; simp
 obtain ⟨x0, rest, rfl⟩ : ∃ x0 rest, M' = x0 :: rest := by
   cases M' with
   | nil => rw [List.length_nil] at hMl; omega
   | cons a r => exact ⟨a, r, rfl⟩
 rw [List.length_cons] at hMl
 have hst := b4a (Ix.a1S (EM L) kind) (l := l.map QI.q) (r := ((x0 :: rest).map (·.1)).map QI.q) (by rw [← b4c]; exact hbk.c0T.key QI.q)
 have hjq : Ix.PE (EM L) kind (l.map QI.q) = (rest.map fun x => x.1.q).foldl (Ix.AB kind) x0.1.q := by unfold Ix.PE; rw [hst, List.map_map]; rfl
 have hgd : ∀ x ∈ x0 :: rest, x.1 ∈ l := fun x hx => a8n _ _ (b0Z (hbk.perm.mem_iff.1 hx))
 refine BD 0 ?_
 refine yU 2 ?_
 intro b30 hb30
 refine J.op rfl (qq2 0 zK (yV.c (yV.c (yV.c (yV.c (yV.c yV.z))))) yX.z ?_)
 refine J.YU (Cj.region (J.z BR ?_))
 refine J.z (XP (j := 1) rfl rfl rfl GL zK (by omega) (by omega)) ?_
 obtain ⟨o1, ho1⟩ : ∃ o1, o1 = if cg21 = 1 then 0 else 0 + 1 * 5 := ⟨_, rfl⟩
 have hrl : (dd l).length - 1 = rest.length := by omega
 refine J.ev 35 (.slice (some ⟨bg20, o1, none⟩) rest.length (cg21 - 1)) rfl (by rw [ho1, ← hrl]) ?_
 refine yU 5 ?_
 refine Cj.loop (ι := JoS) (fun y => y.k ≤ rest.length ∧ PS y.J (((rest.take y.k).map fun x => x.1.q).foldl (Ix.AB kind) x0.1.q).ps y.p ∧ (∀ x ∈ l, QOk y.J x) ∧ y.J b2 = some (zJ 3 [i64 kind]) ∧ y.J bg20 = some (zJ 32 ((x0 :: rest).flatMap tqC ++ sp22))) (fun y => rest.length - y.k) (fun y => [(5, ptr b2 0), (6, ptr b3 0), (10, ptr b30 0), (35, .slice (some ⟨bg20, o1, none⟩) rest.length (cg21 - 1)), (36, i64 (rest.length : Int)), (37, i64 (y.k : Int))]) (fun y => y.J) (fun y => [(b30, zJ 32 (AV (((rest.take y.k).map fun x => x.1.q).foldl (Ix.AB kind) x0.1.q) y.p y.c)), (b3, zJ 32 (AV Cq.zero none 0)), (mb, zV (fun a : List UInt8 => str a) m1 k1)]) ⟨0, _, x0.1.p, x0.1.c⟩ ⟨Nat.zero_le _, (hq _ (hgd _ (.head _))).ps, hq, hb2i, hbg20i⟩ ⟨rfl, rfl, rfl, rfl, rfl, rfl, trivial⟩ rfl rfl ?_
 rintro ⟨k, J2, pk, ck⟩ ⟨hk, hpk, hq, hb2i, hbg20i⟩
 dsimp only at hk hpk hq hb2i hbg20i ⊢
 refine AP (fun hc31 hc31p => ?_) (fun hc31 hc31p => ?_)
 ·have hlt : k < rest.length := by omega
  obtain ⟨x, hgx⟩ : ∃ x, rest[k]? = some x := ⟨_, CX hlt⟩
  have hxo := hq _ (hgd x (.tail _ (ET hgx)))
  have ho5 : o1 = 5 := by rw [ho1, if_neg (by omega)]
  have hrow := DT BK (sp := sp22) (l := x0 :: rest) (k := k + 1) (x := x) hgx
  rw [show (k + 1) * 5 = o1 + k * 5 by omega] at hrow
  refine BD (o1 + k * 5) ?_
  refine J.z (CO AA zK (yY.BQ hbg20i) hrow) ?_
  refine yU 1 ?_
  intro b32 hb32
  refine yU 8 ?_
  intro b33 hb33
  refine J.persist hb33 (fun I35 hle34 hb33i => ?_)
  have hpk := hpk.mono hle34
  have hq := fun x9 hx9 => (hq x9 hx9).mono hle34
  have hb2i := hle34 _ _ hb2i
  have hbg20i := hle34 _ _ hbg20i
  have hxo := hxo.mono hle34
  refine J.z (zS (pl := #[(0, 1), (1, 1), (2, 1), (3, 1), (4, 1)]) rfl rfl BX rfl tU32 (fun w => by simp [IC, FQ, CG]) (zL.part rfl rfl rfl (yV.c yV.z) (zL.part rfl rfl rfl (yV.s (yV.s (yV.s (yV.s (yV.c yV.z))))) zL.none))) ?_
  refine J.op rfl (qq2 1 zK (yV.c (yV.c (yV.c (yV.c (yV.c yV.z))))) (yX.s yX.z) ?_)
  refine J.nb (Cj.region (J.z (NC rfl rfl rfl (ND (by omega))) ?_))
  refine J.z BR ?_
  refine J.nil ?_
  refine Ej.keep (Keeps.d (Keeps.k (Keeps.k (Keeps.k Keeps.n)))) ?_
  refine Ej.round ⟨k + 1, _, some ⟨b33, 0, none⟩, 2⟩ ⟨by dsimp only; omega, by dsimp only; rw [a5n kind _ hgx]; exact PS.two hpk hxo.ps hb33i, hq, hb2i, hbg20i⟩ (by dsimp only; omega) ⟨rfl, rfl, rfl, rfl, rfl, rfl, trivial⟩ rfl (by dsimp only; rw [a5n kind _ hgx]; rfl)
 refine Cj.xl (Cj.sr (J.z (AU rfl rfl AA zK (yY.at 0 rfl) rfl rfl) ?_))
 refine J.op rfl (qq2 1 zK (yV.c (yV.c (yV.c (yV.c (yV.c yV.z))))) (yX.s yX.z) ?_)
 refine J.ns (Cj.ret ?_)
 have hfl : rest.take k = rest := List.take_of_length_le (by omega)
 rw [hfl, ← hjq] at hpk
 refine Ej.CP (Keeps.d (Keeps.d (Keeps.k Keeps.n))) rfl rfl rfl (yY.at 1 rfl) AA zK rfl ?_
 rw [hfl, ← hjq]
 exact ⟨pk, ck, (m1, k1), rfl, hpk, hm1, rfl⟩
end Go.Proofs.YtekmeaoblpfnpaaGreatDoor
end
section
namespace Ix
open _root_.Go.Proofs.Tryz
open Cq
theorem a9u {α : Type} (f : α → Nat) : ∀ {l : List α} {x : α}, x ∈ l → f x ≤ (l.map f).sum
  | y :: l, x, h => by
    rw [List.map_cons, List.sum_cons]
    rcases List.mem_cons.1 h with g | g
    · rw [g]; omega
    have := a9u f g; omega
theorem b3X {kind q x} (hk : kind ≠ 1) (hq : form q = true) (h : x ∈ lst kind q) : form x = true ∧ x.wide ≤ q.wide ∧ x.size ≤ q.size := by
  obtain ⟨h1, _, h3⟩ := OT GI hk _ q (Nat.lt_succ_self _) hq
  obtain ⟨h4, _, _⟩ := OT DZ hk _ q (Nat.lt_succ_self _) hq
  have h5 := a9u Qn.wide h
  have h6 := a9u (fun q : Qn => q.size + 2) h
  exact ⟨h3 x h, by omega, by omega⟩
end Ix
namespace Go.Proofs.YtekmeaoblpfnpaaGreatDoor
open Go Go.Sx Go.Stab
structure PlA where
  J : Heap
  pA : Option Addr
  cA : Nat
  pB : Option Addr
  cB : Nat
  b5 : Nat
  b6 : Nat
  m : ML (List UInt8)
  k : Nat
structure PlC where
  J : Heap
  pC : Option Addr
  cC : Nat
  b7 : Nat
  m : ML (List UInt8)
  k : Nat
def a3m (xv : Value) (L : Ix.Ix) (pb mb n : Nat) : Prop := ∀ (q : Cq.Qn) (p : Option Addr) (c : Nat) (m0 : ML (List UInt8)) (k0 : Nat) (I : Heap), q.size < n → Cq.form q = true → q.wide ≤ 10000000 → q.size ≤ 10000000 → PS I q.ps p → Pnr I xv L pb mb → WM L m0 →
  yZ Tryz.prog 93 [ptr pb 0, .agg (AV q p c).toArray] I (mpH mb (m0, k0)) (fun e I' H' => ∃ (p' : Option Addr) (c' : Nat) (s' : MpS), e = .returned (.agg (AV (Ix.BI (EM L) n q) p' c').toArray) ∧ PS I' (Ix.BI (EM L) n q).ps p' ∧ WM L s'.1 ∧ H' = mpH mb s')
theorem QL.ok {I l v kind q} (h : QL I l v) (he : l.map QI.q = Ix.lst kind q) (hk : kind ≠ 1) (hq : Cq.form q = true) (hw : q.wide ≤ 10000000) (hs : q.size ≤ 10000000) : ∀ x ∈ l, QOk I x := fun x hx => by
  obtain ⟨h1, h2, h3⟩ := Ix.b3X hk hq (he ▸ List.mem_map_of_mem hx : x.q ∈ Ix.lst kind q)
  exact ⟨h.2 x hx, h1, by omega, by omega⟩
theorem b2O xv L (htk : Ix.RS L) (hL : Ix.AO L) pb mb n (ih : a3m xv L pb mb n) : a3m xv L pb mb (n + 1) := by
 intro q p c m0 k0 I hn hform hwd hsz hps hP hm0
 refine yZ.ob Tryz.func93 ?_
 intro w0 hw0
 refine Cj.sr (J.op rfl (IJ rfl rfl rfl rfl rfl ?_))
 intro b1 hb1
 refine J.op rfl (GV BX ?_)
 intro b2 hb2
 refine J.YU (Cj.region (J.z (DN (off' := 0) tU32 IC) ?_))
 refine J.z (DV XG (yY.at 1 rfl)) ?_
 refine J.z (a8r rfl rfl rfl) ?_
 refine J.cd (fun hc3 => ?_) (fun hc3 => ?_)
 ·have hc3p := IW hc3
  refine Cj.sr (J.z (AU rfl rfl AA zK (yY.at 1 rfl) rfl rfl) ?_)
  refine J.op rfl (qq2 0 zK (yV.c (yV.c (yV.c (yV.c (yV.c yV.z))))) yX.z ?_)
  refine J.ns (Cj.rs ?_)
  have hk : q.k = 1 := IW hc3
  refine Ej.CP (Keeps.d (Keeps.d (Keeps.k Keeps.n))) rfl rfl rfl (yY.at 0 rfl) AA zK rfl ?_
  rw [Ix.a1N _ hk]
  exact ⟨p, c, (m0, k0), rfl, hps, hm0, rfl⟩
 have hc3p := KL hc3
 have hk1 : q.k ≠ 1 := KL hc3
 obtain ⟨_, hk2, hk4, qa, qb, htw, hfa, hfb⟩ := (Cq.DU hform).resolve_left hk1
 obtain ⟨bl, off, cs', T, fr, pa, ca, pb2, cb, rfl, hbl, hca, hcb, hkb, hpa, hpb⟩ := hps.WT htw
 have hsz2 := htw.size
 have hwd2 := htw.wide
 have hln := htw.len
 obtain ⟨hA1, hA2, hA3⟩ := Ix.OD Ix.GI Ix.DZ (EM L) n qa (by omega) hfa
 obtain ⟨hB1, hB2, hB3⟩ := Ix.OD Ix.GI Ix.DZ (EM L) n qb (by omega) hfb
 have hfq := Ix.GI.two htw hk1 hform
 have hzq := Ix.DZ.two htw hk1 hform
 obtain ⟨A, hAe⟩ : ∃ A, A = Ix.BI (EM L) n qa := ⟨_, rfl⟩
 obtain ⟨Bq, hBe⟩ : ∃ B, B = Ix.BI (EM L) n qb := ⟨_, rfl⟩
 rw [← hAe] at hA1 hA2 hA3
 rw [← hBe] at hB1 hB2 hB3
 refine Cj.ks (Cj.join (ι := PlA) (fun y => PS y.J A.ps y.pA ∧ PS y.J Bq.ps y.pB ∧ WM L y.m ∧ Pnr y.J xv L pb mb) (fun y => [(0, ptr pb 0), (3, ptr b1 0), (4, ptr b2 0), (5, ptr y.b5 0), (6, ptr y.b6 0)]) (fun y => y.J) (fun y => [(y.b5, zJ 32 (AV A y.pA y.cA)), (y.b6, zJ 32 (AV Bq y.pB y.cB)), (b2, zJ 32 (AV Cq.zero none 0)), (b1, zJ 32 (AV q (some ⟨bl, off, none⟩) c)), (mb, zV (fun a : List UInt8 => str a) y.m y.k)]) ?_ (fun hcut => ?_))
 ·rintro ⟨J1, pA, cA, pB, cB, b5, b6, m2, k2⟩ ⟨hpA, hpB, hm2, hP⟩
  dsimp only at hpA hpB hm2 hP ⊢
  refine Cj.seq (Cj.block (Cj.sr (J.z (DN (off' := 0) tU32 IC) ?_)))
  refine J.z (DV XG (yY.at 3 rfl)) ?_
  refine J.z (a8V rfl rfl rfl) ?_
  refine J.z FN ?_
  refine J.cd (fun hc4 => ?_) (fun hc4 => ?_)
  ·have hc4p := bne_iff_ne.1 hc4
   have hk4 : q.k ≠ 4 := bne_iff_ne.1 hc4
   refine Cj.seq (Cj.AL [0, 1, 3] [] 15 (by kernel_rfl) ?_)
   have hbl_5 := hbl
   refine JA.fix ⟨(HSub.c 0 rfl (HSub.c 1 rfl (HSub.c 3 rfl HSub.n))), CSub.n, (Le.refl _)⟩ (fun fx5 => ?_)
   refine JA.tk 0 rfl fx5 BR ?_
   refine JA.tk 1 rfl fx5 (AU rfl rfl AA zK (yY.EG 0 rfl) rfl rfl) ?_
   refine JA.tk 2 rfl fx5 (DN (off' := 0) tU32 IC) ?_
   refine JA.tk 3 rfl fx5 (DV XG (yY.EG 2 rfl)) ?_
   refine JA.tk 5 rfl fx5 (AU rfl rfl AA zK (yY.EG 1 rfl) rfl rfl) ?_
   refine JA.tk 6 rfl fx5 (DN (off' := 0) tU32 IC) ?_
   refine JA.tk 7 rfl fx5 (DV XG (yY.EG 2 rfl)) ?_
   refine JA.tk 11 rfl fx5 (DN (off' := 0) tU32 IC) ?_
   refine JA.tk 12 rfl fx5 (DV XG (yY.EG 2 rfl)) ?_
   refine zO 4 rfl (zM (H1 := []) rfl rfl rfl rfl rfl (b0J A q.k pA cA _ hpA hA1 hk1 (by omega)) ?_ (fun _ _ _ _ h => by obtain ⟨⟨_, _, h, _⟩, _⟩ := h; cases h) (fun _ _ h => by obtain ⟨⟨_, _, h, _⟩, _⟩ := h; cases h))
   intro v6 I7 H8 hle9 hp10
   have hpA := hpA.mono hle9
   have hpB := hpB.mono hle9
   have hP := hP.mono hle9
   obtain ⟨⟨lA, vA, h, hlA, heA⟩, rfl⟩ := hp10; cases h
   have hzA := Ix.a2B hk1 hA1
   rw [← heA, List.length_map] at hzA
   obtain ⟨pA', cA', hvA, -, -⟩ := id hlA.1
   subst hvA
   refine ⟨⟨(Le.trans (Le.refl _) hle9), (HSub.c 0 rfl (HSub.c 1 rfl (HSub.c 3 rfl HSub.n))), CSub.n⟩, ?_⟩
   refine zO 8 rfl (zM (H1 := []) rfl rfl rfl rfl rfl (b0J Bq q.k pB cB _ hpB hB1 hk1 (by omega)) ?_ (fun _ _ _ _ h => by obtain ⟨⟨_, _, h, _⟩, _⟩ := h; cases h) (fun _ _ h => by obtain ⟨⟨_, _, h, _⟩, _⟩ := h; cases h))
   intro v11 I12 H13 hle14 hp15
   have hpA := hpA.mono hle14
   have hpB := hpB.mono hle14
   have hP := hP.mono hle14
   have hlA := hlA.mono hle14
   obtain ⟨⟨lB, vB, h, hlB, heB⟩, rfl⟩ := hp15; cases h
   have hzB := Ix.a2B hk1 hB1
   rw [← heB, List.length_map] at hzB
   obtain ⟨pB', cB', hvB, -, -⟩ := id hlB.1
   subst hvB
   refine ⟨⟨(Le.trans (Le.trans (Le.refl _) hle9) hle14), (HSub.c 0 rfl (HSub.c 1 rfl (HSub.c 3 rfl HSub.n))), CSub.n⟩, ?_⟩
   refine zO 9 rfl (zX rfl rfl rfl Tryz.underlying262 FQ Tryz.zeroValue30 rfl rfl rfl rfl (zQ.one rfl (zQ.one rfl zQ.none)) ?_)
   intro b16 hb16
   refine ⟨⟨(Le.trans (Le.trans (Le.refl _) hle9) hle14), (HSub.c 1 rfl (HSub.c 2 rfl (HSub.c 4 rfl HSub.n))), CSub.n⟩, ?_⟩
   refine JA.pull Pull.z ?_
   refine zO 10 rfl (zM (H1 := [_]) rfl rfl rfl rfl rfl (a6a lA lB _ _ _ (by omega) (by omega) _ hlA.1 hlB.1) ?_ (fun _ _ _ _ ⟨_, h, _⟩ => by cases h) (fun _ _ ⟨_, h, _⟩ => by cases h))
   intro v17 I18 H19 hle20 hp21
   have hpA := hpA.mono hle20
   have hpB := hpB.mono hle20
   have hP := hP.mono hle20
   have hlA := hlA.mono hle20
   have hlB := hlB.mono hle20
   obtain ⟨w, h, hw, rfl⟩ := hp21; cases h
   refine ⟨⟨(Le.trans (Le.trans (Le.trans (Le.refl _) hle9) hle14) hle20), (HSub.c 0 rfl (HSub.c 1 rfl (HSub.c 3 rfl HSub.n))), CSub.n⟩, ?_⟩
   refine JA.pull (Pull.s (Pull.s (Pull.s (Pull.s Pull.z)))) ?_
   refine zO 13 rfl (zM (H1 := [_]) rfl rfl rfl rfl rfl (a2y xv L htk hL pb mb q.k (lA ++ lB) _ (List.ne_nil_of_length_pos (by rw [List.length_append]; omega)) (by rw [List.length_append]; omega) m2 k2 hm2 _ hP hw (fun x hx => (List.mem_append.1 hx).elim (hlA.ok heA hk1 hA1 (by omega) (by omega) x) (hlB.ok heB hk1 hB1 (by omega) (by omega) x))) ?_ (fun _ _ _ _ ⟨_, _, _, h, _⟩ => by cases h) (fun _ _ ⟨_, _, _, h, _⟩ => by cases h))
   intro v22 I23 H24 hle25 hp26
   have hpA := hpA.mono hle25
   have hpB := hpB.mono hle25
   have hP := hP.mono hle25
   have hlA := hlA.mono hle25
   have hlB := hlB.mono hle25
   have hw := hw.mono hle25
   obtain ⟨pj, cj, ⟨m3, k3⟩, h, hpj, hm3, rfl⟩ := hp26; cases h
   have hjn : Ix.BI (EM L) (n + 1) q = Ix.PE (EM L) q.k ((lA ++ lB).map QI.q) := by rw [Ix.a1A _ hk1 hk4 htw, ← hAe, ← hBe, List.map_append, heA, heB]
   refine ⟨⟨(Le.trans (Le.trans (Le.trans (Le.trans (Le.refl _) hle9) hle14) hle20) hle25), (HSub.c 1 rfl (HSub.c 2 rfl (HSub.c 4 rfl HSub.n))), CSub.n⟩, ?_⟩
   refine zO 14 rfl (qq2 3 zK (yV.c (yV.c (yV.c (yV.c (yV.c yV.z))))) (yX.s (yX.s (yX.s yX.z))) ?_)
   refine ⟨⟨(Le.trans (Le.trans (Le.trans (Le.trans (Le.refl _) hle9) hle14) hle20) hle25), (HSub.c 1 rfl (HSub.c 2 rfl (HSub.c 4 rfl HSub.n))), CSub.n⟩, ?_⟩
   refine EZ ?_
   refine Ej.seq (Cj.ret (Ej.a7s (Ej.IK (Ej.CP (Keeps.k (Keeps.d (Keeps.d (Keeps.d (Keeps.d Keeps.n))))) rfl rfl rfl (yY.at 3 rfl) AA zK rfl ?_))))
   rw [hjn]
   exact ⟨pj, cj, (m3, k3), rfl, hpj, hm3, rfl⟩
  have hc4p := QS hc4
  have hq4 : q.k = 4 := QS hc4
  refine Cj.sr (J.z (DN (off' := 0) tU32 IC) ?_)
  refine J.z (DV XG (yY.at 0 rfl)) ?_
  refine J.z (a8r rfl rfl rfl) ?_
  refine J.z FN ?_
  refine J.cd (fun hc27 => ?_) (fun hc27 => ?_)
  ·have hc27p := IW hc27
   have hak : A.k = 4 := IW hc27
   obtain ⟨hAk1, _, _, qc, qd, htA, hfc, hfd⟩ := (Cq.DU hA1).resolve_left (by omega)
   obtain ⟨bk, of2, cs2, T2, fr2, pc, cc, pd, cd, rfl, hbk, hcc, hcd, hkd, hpc, hpd⟩ := hpA.WT htA
   have hlA := htA.len
   have hfA := Ix.GI.two htA hAk1 hA1
   have hzA := Ix.DZ.two htA hAk1 hA1
   have hwb := Ix.GI.both 3 qd Bq
   have hzb := Ix.DZ.both 3 qd Bq
   have hfb3 : Cq.form (Ix.AB 3 qd Bq) = true := (Ix.NU Ix.GI (k := 3) (by decide) (by decide) [Bq] qd hfd (fun y hy => by rw [List.mem_singleton.1 hy]; exact hB1)).1
   have hjn : Ix.BI (EM L) (n + 1) q = Ix.AB 4 qc (Ix.BI (EM L) n (Ix.AB 3 qd Bq)) := by rw [Ix.a3A _ hq4 htw (hAe ▸ hak) (hAe ▸ htA), ← hBe]
   refine Cj.join (ι := PlC) (fun y => PS y.J (Ix.BI (EM L) n (Ix.AB 3 qd Bq)).ps y.pC ∧ WM L y.m ∧ PS y.J qc.ps pc ∧ y.J bk = some (.cells (List.toArray cs2) T2 fr2)) (fun y => [(4, ptr b2 0), (5, ptr b5 0), (7, ptr y.b7 0)]) (fun y => y.J) (fun y => [(y.b7, zJ 32 (AV (Ix.BI (EM L) n (Ix.AB 3 qd Bq)) y.pC y.cC)), (b5, zJ 32 (AV A (some ⟨bk, of2, none⟩) cA)), (b2, zJ 32 (AV Cq.zero none 0)), (mb, zV (fun a : List UInt8 => str a) y.m y.k)]) ?_ (fun hcut => ?_)
   ·rintro ⟨J3, pC, cC, b7, m3, k3⟩ ⟨hpC, hm3, hpc, hbk⟩
    dsimp only at hpC hm3 hpc hbk ⊢
    refine Cj.seq (Cj.AL [0, 1] [] 8 (by kernel_rfl) ?_)
    refine JA.fix ⟨(HSub.c 0 rfl (HSub.c 1 rfl HSub.n)), CSub.n, (Le.refl _)⟩ (fun fx28 => ?_)
    refine JA.tk 0 rfl fx28 (DN (off' := 4) tU32 FQ) ?_
    refine JA.tk 1 rfl fx28 (DV Tryz.isAgg30 (yY.EG 1 rfl)) ?_
    refine JA.tk 2 rfl fx28 (OQ (off' := of2) GL zK) ?_
    refine JA.tk 3 rfl fx28 (CO AA zK (yY.IY hbk) hcc) ?_
    refine JA.tk 4 rfl fx28 (AU rfl rfl AA zK (yY.EG 0 rfl) rfl rfl) ?_
    refine zO 5 rfl (zX rfl rfl rfl GL zK BX rfl rfl rfl rfl (zQ.agg rfl (zQ.agg rfl zQ.none)) ?_)
    intro b29 hb29
    refine ⟨⟨(Le.refl _), (HSub.c 1 rfl (HSub.c 2 rfl HSub.n)), CSub.n⟩, ?_⟩
    refine JA.persist hb29 (fun I31 hle30 hb29i => ?_)
    have hpC := hpC.mono hle30
    have hpc := hpc.mono hle30
    have hbk := hle30 _ _ hbk
    refine JA.fix ⟨(HSub.c 0 rfl (HSub.c 1 rfl HSub.n)), CSub.n, (Le.trans (Le.refl _) hle30)⟩ (fun fx32 => ?_)
    refine JA.tk 6 rfl fx32 (zS (pl := #[(0, 1), (1, 1), (2, 1), (3, 1), (4, 1)]) rfl rfl BX rfl tU32 (fun w => by simp [IC, FQ, CG]) (zL.part rfl rfl rfl (yV.c yV.z) (zL.part rfl rfl rfl (yV.s (yV.s (yV.s (yV.s (yV.c yV.z))))) zL.none))) ?_
    refine zO 7 rfl (qq2 2 zK (yV.c (yV.c (yV.c (yV.c (yV.c yV.z))))) (yX.s (yX.s yX.z)) ?_)
    refine ⟨⟨(Le.trans (Le.refl _) hle30), (HSub.c 0 rfl (HSub.c 1 rfl HSub.n)), CSub.n⟩, ?_⟩
    refine EZ ?_
    refine Ej.seq (Cj.ret (Ej.a7s (Ej.IK (Ej.CP (Keeps.d (Keeps.d (Keeps.d (Keeps.k Keeps.n)))) rfl rfl rfl (yY.at 2 rfl) AA zK rfl ?_))))
    rw [hjn]
    exact ⟨some ⟨b29, 0, none⟩, 2, (m3, k3), rfl, PS.two hpc hpC hb29i, hm3, rfl⟩
   refine Cj.AL [0, 1, 3] [] 11 (by kernel_rfl) ?_
   have hbl_7 := hbl
   have hbk_7 := hbk
   refine JA.fix ⟨(HSub.c 0 rfl (HSub.c 1 rfl (HSub.c 3 rfl HSub.n))), CSub.n, (Le.refl _)⟩ (fun fx33 => ?_)
   refine JA.tk 0 rfl fx33 BR ?_
   refine JA.tk 1 rfl fx33 (DN (off' := 4) tU32 FQ) ?_
   refine JA.tk 2 rfl fx33 (DV Tryz.isAgg30 (yY.EG 0 rfl)) ?_
   refine JA.tk 3 rfl fx33 (OQ (off' := of2 + 5) GL zK) ?_
   refine JA.tk 4 rfl fx33 (CO AA zK (yY.IY hbk_7) hcd) ?_
   refine JA.tk 5 rfl fx33 (AU rfl rfl AA zK (yY.EG 1 rfl) rfl rfl) ?_
   refine JA.all [6, 9] (by kernel_rfl) (by simp) ?_
   intro i hi
   simp only [List.mem_cons, List.not_mem_nil, or_false] at hi
   rcases hi with rfl | rfl
   ·refine ⟨_, rfl, rfl, ?_⟩
    refine zX rfl rfl rfl GL zK BX rfl rfl rfl rfl (zQ.agg rfl (zQ.agg rfl zQ.none)) ?_
    intro b34 hb34
    refine ⟨⟨(Le.refl _), (HSub.c 1 rfl (HSub.c 2 rfl (HSub.c 4 rfl HSub.n))), CSub.n⟩, ?_⟩
    refine JA.persist hb34 (fun I36 hle35 hb34i => ?_)
    have hpB := hpB.mono hle35
    have hP := hP.mono hle35
    have hbk := hle35 _ _ hbk
    have hpc := hpc.mono hle35
    have hpd := hpd.mono hle35
    refine JA.fix ⟨(HSub.c 0 rfl (HSub.c 1 rfl (HSub.c 3 rfl HSub.n))), CSub.n, (Le.trans (Le.refl _) hle35)⟩ (fun fx37 => ?_)
    refine JA.tk 7 rfl fx37 (zS (pl := #[(0, 1), (1, 1), (2, 1), (3, 1), (4, 1)]) rfl rfl BX rfl tU32 (fun w => by simp [IC, FQ, CG]) (zL.part rfl rfl rfl (yV.c yV.z) (zL.part rfl rfl rfl (yV.s (yV.s (yV.s (yV.s (yV.c yV.z))))) zL.none))) ?_
    refine JA.all [8, 9] (by kernel_rfl) (by simp) ?_
    intro i hi
    simp only [List.mem_cons, List.not_mem_nil, or_false] at hi
    rcases hi with rfl | rfl
    ·refine ⟨_, rfl, rfl, ?_⟩
     refine BU.pull (Pull.s (Pull.s (Pull.s (Pull.s Pull.z)))) ?_
     refine zM (H1 := [_]) rfl rfl rfl rfl rfl (ih (Ix.AB 3 qd Bq) (some ⟨b34, 0, none⟩) 2 m2 k2 _ (by omega) hfb3 (by omega) (by omega) (PS.two hpd hpB hb34i) hP hm2) ?_ (fun _ _ _ _ ⟨_, _, _, h, _⟩ => by cases h) (fun _ _ ⟨_, _, _, h, _⟩ => by cases h)
     intro v38 I39 H40 hle41 hp42
     have hpB := hpB.mono hle41
     have hP := hP.mono hle41
     have hbk := hle41 _ _ hbk
     have hpc := hpc.mono hle41
     have hpd := hpd.mono hle41
     have hb34i := hle41 _ _ hb34i
     obtain ⟨pC, cC, ⟨m3, k3⟩, h, hpC, hm3, rfl⟩ := hp42; cases h
     refine ⟨⟨(Le.trans (Le.trans (Le.refl _) hle35) hle41), (HSub.c 1 rfl (HSub.c 2 rfl (HSub.c 4 rfl HSub.n))), CSub.n⟩, ?_⟩
     refine zO 9 rfl (GV BX ?_)
     intro b43 hb43
     refine ⟨⟨(Le.trans (Le.trans (Le.refl _) hle35) hle41), (HSub.c 2 rfl (HSub.c 3 rfl (HSub.c 5 rfl HSub.n))), CSub.n⟩, ?_⟩
     refine zO 10 rfl (qq2 0 zK (yV.c (yV.c (yV.c (yV.c (yV.c yV.z))))) yX.z ?_)
     refine ⟨⟨(Le.trans (Le.trans (Le.refl _) hle35) hle41), (HSub.c 2 rfl (HSub.c 3 rfl (HSub.c 5 rfl HSub.n))), CSub.n⟩, ?_⟩
     refine EZ ?_
     refine Ej.keep (Keeps.k (Keeps.k (Keeps.k (Keeps.d (Keeps.k (Keeps.d Keeps.n)))))) ?_
     refine Ej.pull (Pull.s Pull.z) ?_
     refine Ej.pull (Pull.s (Pull.s (Pull.s Pull.z))) ?_
     refine Ej.pull (Pull.s (Pull.s (Pull.s Pull.z))) ?_
     refine Ej.pull (Pull.s (Pull.s (Pull.s Pull.z))) ?_
     exact hcut ⟨_, pC, cC, b43, m3, k3⟩ _ _ _ ⟨hpC, hm3, hpc, hbk⟩ ⟨rfl, rfl, rfl, trivial⟩ rfl rfl
    refine ⟨_, rfl, rfl, ?_⟩
    refine GV BX ?_
    intro b44 hb44
    refine ⟨⟨(Le.trans (Le.refl _) hle35), (HSub.c 1 rfl (HSub.c 2 rfl (HSub.c 4 rfl HSub.n))), CSub.n⟩, ?_⟩
    refine JA.pull (Pull.s (Pull.s (Pull.s (Pull.s (Pull.s Pull.z))))) ?_
    refine zO 8 rfl (zM (H1 := [_]) rfl rfl rfl rfl rfl (ih (Ix.AB 3 qd Bq) (some ⟨b34, 0, none⟩) 2 m2 k2 _ (by omega) hfb3 (by omega) (by omega) (PS.two hpd hpB hb34i) hP hm2) ?_ (fun _ _ _ _ ⟨_, _, _, h, _⟩ => by cases h) (fun _ _ ⟨_, _, _, h, _⟩ => by cases h))
    intro v45 I46 H47 hle48 hp49
    have hpB := hpB.mono hle48
    have hP := hP.mono hle48
    have hbk := hle48 _ _ hbk
    have hpc := hpc.mono hle48
    have hpd := hpd.mono hle48
    have hb34i := hle48 _ _ hb34i
    obtain ⟨pC, cC, ⟨m3, k3⟩, h, hpC, hm3, rfl⟩ := hp49; cases h
    refine ⟨⟨(Le.trans (Le.trans (Le.refl _) hle35) hle48), (HSub.c 2 rfl (HSub.c 3 rfl (HSub.c 5 rfl HSub.n))), CSub.n⟩, ?_⟩
    refine zO 10 rfl (qq2 1 zK (yV.c (yV.c (yV.c (yV.c (yV.c yV.z))))) (yX.s yX.z) ?_)
    refine ⟨⟨(Le.trans (Le.trans (Le.refl _) hle35) hle48), (HSub.c 2 rfl (HSub.c 3 rfl (HSub.c 5 rfl HSub.n))), CSub.n⟩, ?_⟩
    refine EZ ?_
    refine Ej.keep (Keeps.k (Keeps.k (Keeps.k (Keeps.d (Keeps.k (Keeps.d Keeps.n)))))) ?_
    refine Ej.pull Pull.z ?_
    refine Ej.pull (Pull.s (Pull.s (Pull.s Pull.z))) ?_
    refine Ej.pull (Pull.s (Pull.s (Pull.s Pull.z))) ?_
    refine Ej.pull (Pull.s (Pull.s (Pull.s Pull.z))) ?_
    exact hcut ⟨_, pC, cC, b44, m3, k3⟩ _ _ _ ⟨hpC, hm3, hpc, hbk⟩ ⟨rfl, rfl, rfl, trivial⟩ rfl rfl
   refine ⟨_, rfl, rfl, ?_⟩
   refine GV BX ?_
   intro b50 hb50
   refine ⟨⟨(Le.refl _), (HSub.c 1 rfl (HSub.c 2 rfl (HSub.c 4 rfl HSub.n))), CSub.n⟩, ?_⟩
   refine zO 6 rfl (zX rfl rfl rfl GL zK BX rfl rfl rfl rfl (zQ.agg rfl (zQ.agg rfl zQ.none)) ?_)
   intro b51 hb51
   refine ⟨⟨(Le.refl _), (HSub.c 2 rfl (HSub.c 3 rfl (HSub.c 5 rfl HSub.n))), CSub.n⟩, ?_⟩
   refine JA.persist hb51 (fun I53 hle52 hb51i => ?_)
   have hpB := hpB.mono hle52
   have hP := hP.mono hle52
   have hbk := hle52 _ _ hbk
   have hpc := hpc.mono hle52
   have hpd := hpd.mono hle52
   refine JA.fix ⟨(HSub.c 1 rfl (HSub.c 2 rfl (HSub.c 4 rfl HSub.n))), CSub.n, (Le.trans (Le.refl _) hle52)⟩ (fun fx54 => ?_)
   refine JA.tk 7 rfl fx54 (zS (pl := #[(0, 1), (1, 1), (2, 1), (3, 1), (4, 1)]) rfl rfl BX rfl tU32 (fun w => by simp [IC, FQ, CG]) (zL.part rfl rfl rfl (yV.c yV.z) (zL.part rfl rfl rfl (yV.s (yV.s (yV.s (yV.s (yV.c yV.z))))) zL.none))) ?_
   refine JA.pull (Pull.s (Pull.s (Pull.s (Pull.s (Pull.s Pull.z))))) ?_
   refine zO 8 rfl (zM (H1 := [_]) rfl rfl rfl rfl rfl (ih (Ix.AB 3 qd Bq) (some ⟨b51, 0, none⟩) 2 m2 k2 _ (by omega) hfb3 (by omega) (by omega) (PS.two hpd hpB hb51i) hP hm2) ?_ (fun _ _ _ _ ⟨_, _, _, h, _⟩ => by cases h) (fun _ _ ⟨_, _, _, h, _⟩ => by cases h))
   intro v55 I56 H57 hle58 hp59
   have hpB := hpB.mono hle58
   have hP := hP.mono hle58
   have hbk := hle58 _ _ hbk
   have hpc := hpc.mono hle58
   have hpd := hpd.mono hle58
   have hb51i := hle58 _ _ hb51i
   obtain ⟨pC, cC, ⟨m3, k3⟩, h, hpC, hm3, rfl⟩ := hp59; cases h
   refine ⟨⟨(Le.trans (Le.trans (Le.refl _) hle52) hle58), (HSub.c 2 rfl (HSub.c 3 rfl (HSub.c 5 rfl HSub.n))), CSub.n⟩, ?_⟩
   refine zO 10 rfl (qq2 1 zK (yV.c (yV.c (yV.c (yV.c (yV.c yV.z))))) (yX.s yX.z) ?_)
   refine ⟨⟨(Le.trans (Le.trans (Le.refl _) hle52) hle58), (HSub.c 2 rfl (HSub.c 3 rfl (HSub.c 5 rfl HSub.n))), CSub.n⟩, ?_⟩
   refine EZ ?_
   refine Ej.keep (Keeps.k (Keeps.k (Keeps.k (Keeps.d (Keeps.k (Keeps.d Keeps.n)))))) ?_
   refine Ej.pull Pull.z ?_
   refine Ej.pull (Pull.s (Pull.s (Pull.s Pull.z))) ?_
   refine Ej.pull (Pull.s (Pull.s (Pull.s Pull.z))) ?_
   refine Ej.pull (Pull.s (Pull.s (Pull.s Pull.z))) ?_
   exact hcut ⟨_, pC, cC, b50, m3, k3⟩ _ _ _ ⟨hpC, hm3, hpc, hbk⟩ ⟨rfl, rfl, rfl, trivial⟩ rfl rfl
  have hc27p := KL hc27
  refine Cj.kb (Cj.sr (J.z (AU rfl rfl AA zK (yY.at 0 rfl) rfl rfl) ?_))
  refine J.z (AU rfl rfl AA zK (yY.at 1 rfl) rfl rfl) ?_
  refine J.op rfl (zX rfl rfl rfl GL zK BX rfl rfl rfl rfl (zQ.agg rfl (zQ.agg rfl zQ.none)) ?_)
  intro b60 hb60
  refine J.persist hb60 (fun I62 hle61 hb60i => ?_)
  have hpA := hpA.mono hle61
  have hpB := hpB.mono hle61
  have hP := hP.mono hle61
  refine J.z (zS (pl := #[(0, 1), (1, 1), (2, 1), (3, 1), (4, 1)]) rfl rfl BX rfl tU32 (fun w => by simp [IC, FQ, CG]) (zL.part rfl rfl rfl (yV.c yV.z) (zL.part rfl rfl rfl (yV.s (yV.s (yV.s (yV.s (yV.c yV.z))))) zL.none))) ?_
  refine J.op rfl (qq2 2 zK (yV.c (yV.c (yV.c (yV.c (yV.c yV.z))))) (yX.s (yX.s yX.z)) ?_)
  refine J.ns (Cj.ret ?_)
  have hak : A.k ≠ 4 := KL hc27
  have hjn : Ix.BI (EM L) (n + 1) q = Ix.AB 4 A Bq := by rw [Ix.a1B _ hq4 htw (hAe ▸ hak), ← hAe, ← hBe]
  refine Ej.CP (Keeps.d (Keeps.d (Keeps.d (Keeps.d (Keeps.k Keeps.n))))) rfl rfl rfl (yY.at 2 rfl) AA zK rfl ?_
  rw [hjn]
  exact ⟨some ⟨b60, 0, none⟩, 2, (m2, k2), rfl, PS.two hpA hpB hb60i, hm2, rfl⟩
 refine Cj.AL [1] [] 16 (by kernel_rfl) ?_
 have hbl_3 := hbl
 refine JA.fix ⟨(HSub.c 1 rfl HSub.n), CSub.n, (Le.refl _)⟩ (fun fx63 => ?_)
 refine JA.tk 0 rfl fx63 BR ?_
 refine JA.tk 1 rfl fx63 (DN (off' := 4) tU32 FQ) ?_
 refine JA.tk 2 rfl fx63 (DV Tryz.isAgg30 (yY.EG 0 rfl)) ?_
 refine JA.tk 3 rfl fx63 (OQ (off' := off) GL zK) ?_
 refine JA.tk 4 rfl fx63 (CO AA zK (yY.IY hbl_3) hca) ?_
 refine JA.tk 6 rfl fx63 BR ?_
 refine JA.tk 7 rfl fx63 (DN (off' := 4) tU32 FQ) ?_
 refine JA.tk 8 rfl fx63 (DV Tryz.isAgg30 (yY.EG 0 rfl)) ?_
 refine JA.tk 9 rfl fx63 (OQ (off' := off + 5) GL zK) ?_
 refine JA.tk 10 rfl fx63 (CO AA zK (yY.IY hbl_3) hcb) ?_
 refine JA.all [5, 12, 13] (by kernel_rfl) (by simp) ?_
 intro i hi
 simp only [List.mem_cons, List.not_mem_nil, or_false] at hi
 rcases hi with rfl | rfl | rfl
 ·refine ⟨_, rfl, rfl, ?_⟩
  refine BU.pull (Pull.s (Pull.s Pull.z)) ?_
  refine zM (H1 := [_]) rfl rfl rfl rfl rfl (ih qa pa ca m0 k0 _ (by omega) hfa (by omega) (by omega) hpa hP hm0) ?_ (fun _ _ _ _ ⟨_, _, _, h, _⟩ => by cases h) (fun _ _ ⟨_, _, _, h, _⟩ => by cases h)
  intro v64 I65 H66 hle67 hp68
  have hP := hP.mono hle67
  have hbl := hle67 _ _ hbl
  have hpa := hpa.mono hle67
  have hpb := hpb.mono hle67
  obtain ⟨pA, cA, ⟨m1, k1⟩, h, hpA, hm1, rfl⟩ := hp68; cases h
  rw [← hAe] at *
  refine ⟨⟨(Le.trans (Le.refl _) hle67), (HSub.c 2 rfl HSub.n), CSub.n⟩, ?_⟩
  refine JA.all [11, 12, 13] (by kernel_rfl) (by simp) ?_
  intro i hi
  simp only [List.mem_cons, List.not_mem_nil, or_false] at hi
  rcases hi with rfl | rfl | rfl
  ·refine ⟨_, rfl, rfl, ?_⟩
   refine BU.pull Pull.z ?_
   refine zM (H1 := [_]) rfl rfl rfl rfl rfl (ih qb pb2 cb m1 k1 _ (by omega) hfb (by omega) (by omega) hpb hP hm1) ?_ (fun _ _ _ _ ⟨_, _, _, h, _⟩ => by cases h) (fun _ _ ⟨_, _, _, h, _⟩ => by cases h)
   intro v69 I70 H71 hle72 hp73
   have hP := hP.mono hle72
   have hbl := hle72 _ _ hbl
   have hpa := hpa.mono hle72
   have hpb := hpb.mono hle72
   have hpA := hpA.mono hle72
   obtain ⟨pB, cB, ⟨m2, k2⟩, h, hpB, hm2, rfl⟩ := hp73; cases h
   rw [← hBe] at *
   refine ⟨⟨(Le.trans (Le.trans (Le.refl _) hle67) hle72), (HSub.c 2 rfl HSub.n), CSub.n⟩, ?_⟩
   refine JA.all [12, 13] (by kernel_rfl) (by simp) ?_
   intro i hi
   simp only [List.mem_cons, List.not_mem_nil, or_false] at hi
   rcases hi with rfl | rfl
   ·refine ⟨_, rfl, rfl, ?_⟩
    refine GV BX ?_
    intro b74 hb74
    refine ⟨⟨(Le.trans (Le.trans (Le.refl _) hle67) hle72), (HSub.c 3 rfl HSub.n), CSub.n⟩, ?_⟩
    refine zO 13 rfl (GV BX ?_)
    intro b75 hb75
    refine ⟨⟨(Le.trans (Le.trans (Le.refl _) hle67) hle72), (HSub.c 4 rfl HSub.n), CSub.n⟩, ?_⟩
    refine zO 14 rfl (qq2 1 zK (yV.c (yV.c (yV.c (yV.c (yV.c yV.z))))) (yX.s yX.z) ?_)
    refine ⟨⟨(Le.trans (Le.trans (Le.refl _) hle67) hle72), (HSub.c 4 rfl HSub.n), CSub.n⟩, ?_⟩
    refine zO 15 rfl (qq2 0 zK (yV.c (yV.c (yV.c (yV.c (yV.c yV.z))))) yX.z ?_)
    refine ⟨⟨(Le.trans (Le.trans (Le.refl _) hle67) hle72), (HSub.c 4 rfl HSub.n), CSub.n⟩, ?_⟩
    refine EZ ?_
    refine Ej.keep (Keeps.k (Keeps.k (Keeps.k (Keeps.k (Keeps.k Keeps.n))))) ?_
    refine Ej.pull (Pull.s (Pull.s Pull.z)) ?_
    refine Ej.pull (Pull.s (Pull.s (Pull.s (Pull.s Pull.z)))) ?_
    refine Ej.pull (Pull.s (Pull.s (Pull.s (Pull.s Pull.z)))) ?_
    refine Ej.pull (Pull.s (Pull.s (Pull.s Pull.z))) ?_
    refine Ej.pull (Pull.s (Pull.s (Pull.s (Pull.s Pull.z)))) ?_
    exact hcut ⟨_, pA, cA, pB, cB, b74, b75, m2, k2⟩ _ _ _ ⟨hpA, hpB, hm2, hP⟩ ⟨rfl, rfl, rfl, rfl, rfl, trivial⟩ rfl rfl
   refine ⟨_, rfl, rfl, ?_⟩
   refine GV BX ?_
   intro b76 hb76
   refine ⟨⟨(Le.trans (Le.trans (Le.refl _) hle67) hle72), (HSub.c 3 rfl HSub.n), CSub.n⟩, ?_⟩
   refine zO 12 rfl (GV BX ?_)
   intro b77 hb77
   refine ⟨⟨(Le.trans (Le.trans (Le.refl _) hle67) hle72), (HSub.c 4 rfl HSub.n), CSub.n⟩, ?_⟩
   refine zO 14 rfl (qq2 0 zK (yV.c (yV.c (yV.c (yV.c (yV.c yV.z))))) yX.z ?_)
   refine ⟨⟨(Le.trans (Le.trans (Le.refl _) hle67) hle72), (HSub.c 4 rfl HSub.n), CSub.n⟩, ?_⟩
   refine zO 15 rfl (qq2 1 zK (yV.c (yV.c (yV.c (yV.c (yV.c yV.z))))) (yX.s yX.z) ?_)
   refine ⟨⟨(Le.trans (Le.trans (Le.refl _) hle67) hle72), (HSub.c 4 rfl HSub.n), CSub.n⟩, ?_⟩
   refine EZ ?_
   refine Ej.keep (Keeps.k (Keeps.k (Keeps.k (Keeps.k (Keeps.k Keeps.n))))) ?_
   refine Ej.pull (Pull.s (Pull.s Pull.z)) ?_
   refine Ej.pull (Pull.s (Pull.s (Pull.s (Pull.s Pull.z)))) ?_
   refine Ej.pull (Pull.s (Pull.s (Pull.s (Pull.s Pull.z)))) ?_
   refine Ej.pull (Pull.s (Pull.s (Pull.s (Pull.s Pull.z)))) ?_
   refine Ej.pull (Pull.s (Pull.s (Pull.s (Pull.s Pull.z)))) ?_
   exact hcut ⟨_, pA, cA, pB, cB, b77, b76, m2, k2⟩ _ _ _ ⟨hpA, hpB, hm2, hP⟩ ⟨rfl, rfl, rfl, rfl, rfl, trivial⟩ rfl rfl
  ·refine ⟨_, rfl, rfl, ?_⟩
   refine GV BX ?_
   intro b78 hb78
   refine ⟨⟨(Le.trans (Le.refl _) hle67), (HSub.c 3 rfl HSub.n), CSub.n⟩, ?_⟩
   refine JA.all [11, 13] (by kernel_rfl) (by simp) ?_
   intro i hi
   simp only [List.mem_cons, List.not_mem_nil, or_false] at hi
   rcases hi with rfl | rfl
   ·refine ⟨_, rfl, rfl, ?_⟩
    refine BU.pull (Pull.s Pull.z) ?_
    refine zM (H1 := [_]) rfl rfl rfl rfl rfl (ih qb pb2 cb m1 k1 _ (by omega) hfb (by omega) (by omega) hpb hP hm1) ?_ (fun _ _ _ _ ⟨_, _, _, h, _⟩ => by cases h) (fun _ _ ⟨_, _, _, h, _⟩ => by cases h)
    intro v79 I80 H81 hle82 hp83
    have hP := hP.mono hle82
    have hbl := hle82 _ _ hbl
    have hpa := hpa.mono hle82
    have hpb := hpb.mono hle82
    have hpA := hpA.mono hle82
    obtain ⟨pB, cB, ⟨m2, k2⟩, h, hpB, hm2, rfl⟩ := hp83; cases h
    rw [← hBe] at *
    refine ⟨⟨(Le.trans (Le.trans (Le.refl _) hle67) hle82), (HSub.c 3 rfl HSub.n), CSub.n⟩, ?_⟩
    refine zO 13 rfl (GV BX ?_)
    intro b84 hb84
    refine ⟨⟨(Le.trans (Le.trans (Le.refl _) hle67) hle82), (HSub.c 4 rfl HSub.n), CSub.n⟩, ?_⟩
    refine zO 14 rfl (qq2 2 zK (yV.c (yV.c (yV.c (yV.c (yV.c yV.z))))) (yX.s (yX.s yX.z)) ?_)
    refine ⟨⟨(Le.trans (Le.trans (Le.refl _) hle67) hle82), (HSub.c 4 rfl HSub.n), CSub.n⟩, ?_⟩
    refine zO 15 rfl (qq2 0 zK (yV.c (yV.c (yV.c (yV.c (yV.c yV.z))))) yX.z ?_)
    refine ⟨⟨(Le.trans (Le.trans (Le.refl _) hle67) hle82), (HSub.c 4 rfl HSub.n), CSub.n⟩, ?_⟩
    refine EZ ?_
    refine Ej.keep (Keeps.k (Keeps.k (Keeps.k (Keeps.k (Keeps.k Keeps.n))))) ?_
    refine Ej.pull (Pull.s Pull.z) ?_
    refine Ej.pull (Pull.s (Pull.s (Pull.s (Pull.s Pull.z)))) ?_
    refine Ej.pull (Pull.s (Pull.s (Pull.s (Pull.s Pull.z)))) ?_
    refine Ej.pull (Pull.s (Pull.s (Pull.s Pull.z))) ?_
    refine Ej.pull (Pull.s (Pull.s (Pull.s (Pull.s Pull.z)))) ?_
    exact hcut ⟨_, pA, cA, pB, cB, b78, b84, m2, k2⟩ _ _ _ ⟨hpA, hpB, hm2, hP⟩ ⟨rfl, rfl, rfl, rfl, rfl, trivial⟩ rfl rfl
   refine ⟨_, rfl, rfl, ?_⟩
   refine GV BX ?_
   intro b85 hb85
   refine ⟨⟨(Le.trans (Le.refl _) hle67), (HSub.c 4 rfl HSub.n), CSub.n⟩, ?_⟩
   refine JA.pull (Pull.s (Pull.s Pull.z)) ?_
   refine zO 11 rfl (zM (H1 := [_]) rfl rfl rfl rfl rfl (ih qb pb2 cb m1 k1 _ (by omega) hfb (by omega) (by omega) hpb hP hm1) ?_ (fun _ _ _ _ ⟨_, _, _, h, _⟩ => by cases h) (fun _ _ ⟨_, _, _, h, _⟩ => by cases h))
   intro v86 I87 H88 hle89 hp90
   have hP := hP.mono hle89
   have hbl := hle89 _ _ hbl
   have hpa := hpa.mono hle89
   have hpb := hpb.mono hle89
   have hpA := hpA.mono hle89
   obtain ⟨pB, cB, ⟨m2, k2⟩, h, hpB, hm2, rfl⟩ := hp90; cases h
   rw [← hBe] at *
   refine ⟨⟨(Le.trans (Le.trans (Le.refl _) hle67) hle89), (HSub.c 4 rfl HSub.n), CSub.n⟩, ?_⟩
   refine zO 14 rfl (qq2 2 zK (yV.c (yV.c (yV.c (yV.c (yV.c yV.z))))) (yX.s (yX.s yX.z)) ?_)
   refine ⟨⟨(Le.trans (Le.trans (Le.refl _) hle67) hle89), (HSub.c 4 rfl HSub.n), CSub.n⟩, ?_⟩
   refine zO 15 rfl (qq2 1 zK (yV.c (yV.c (yV.c (yV.c (yV.c yV.z))))) (yX.s yX.z) ?_)
   refine ⟨⟨(Le.trans (Le.trans (Le.refl _) hle67) hle89), (HSub.c 4 rfl HSub.n), CSub.n⟩, ?_⟩
   refine EZ ?_
   refine Ej.keep (Keeps.k (Keeps.k (Keeps.k (Keeps.k (Keeps.k Keeps.n))))) ?_
   refine Ej.pull Pull.z ?_
   refine Ej.pull (Pull.s (Pull.s (Pull.s (Pull.s Pull.z)))) ?_
   refine Ej.pull (Pull.s (Pull.s (Pull.s (Pull.s Pull.z)))) ?_
   refine Ej.pull (Pull.s (Pull.s (Pull.s Pull.z))) ?_
   refine Ej.pull (Pull.s (Pull.s (Pull.s (Pull.s Pull.z)))) ?_
   exact hcut ⟨_, pA, cA, pB, cB, b78, b85, m2, k2⟩ _ _ _ ⟨hpA, hpB, hm2, hP⟩ ⟨rfl, rfl, rfl, rfl, rfl, trivial⟩ rfl rfl
  refine ⟨_, rfl, rfl, ?_⟩
  refine GV BX ?_
  intro b91 hb91
  refine ⟨⟨(Le.trans (Le.refl _) hle67), (HSub.c 3 rfl HSub.n), CSub.n⟩, ?_⟩
  refine JA.all [11, 12] (by kernel_rfl) (by simp) ?_
  intro i hi
  simp only [List.mem_cons, List.not_mem_nil, or_false] at hi
  rcases hi with rfl | rfl
  ·refine ⟨_, rfl, rfl, ?_⟩
   refine BU.pull (Pull.s Pull.z) ?_
   refine zM (H1 := [_]) rfl rfl rfl rfl rfl (ih qb pb2 cb m1 k1 _ (by omega) hfb (by omega) (by omega) hpb hP hm1) ?_ (fun _ _ _ _ ⟨_, _, _, h, _⟩ => by cases h) (fun _ _ ⟨_, _, _, h, _⟩ => by cases h)
   intro v92 I93 H94 hle95 hp96
   have hP := hP.mono hle95
   have hbl := hle95 _ _ hbl
   have hpa := hpa.mono hle95
   have hpb := hpb.mono hle95
   have hpA := hpA.mono hle95
   obtain ⟨pB, cB, ⟨m2, k2⟩, h, hpB, hm2, rfl⟩ := hp96; cases h
   rw [← hBe] at *
   refine ⟨⟨(Le.trans (Le.trans (Le.refl _) hle67) hle95), (HSub.c 3 rfl HSub.n), CSub.n⟩, ?_⟩
   refine zO 12 rfl (GV BX ?_)
   intro b97 hb97
   refine ⟨⟨(Le.trans (Le.trans (Le.refl _) hle67) hle95), (HSub.c 4 rfl HSub.n), CSub.n⟩, ?_⟩
   refine zO 14 rfl (qq2 0 zK (yV.c (yV.c (yV.c (yV.c (yV.c yV.z))))) yX.z ?_)
   refine ⟨⟨(Le.trans (Le.trans (Le.refl _) hle67) hle95), (HSub.c 4 rfl HSub.n), CSub.n⟩, ?_⟩
   refine zO 15 rfl (qq2 2 zK (yV.c (yV.c (yV.c (yV.c (yV.c yV.z))))) (yX.s (yX.s yX.z)) ?_)
   refine ⟨⟨(Le.trans (Le.trans (Le.refl _) hle67) hle95), (HSub.c 4 rfl HSub.n), CSub.n⟩, ?_⟩
   refine EZ ?_
   refine Ej.keep (Keeps.k (Keeps.k (Keeps.k (Keeps.k (Keeps.k Keeps.n))))) ?_
   refine Ej.pull (Pull.s Pull.z) ?_
   refine Ej.pull (Pull.s (Pull.s (Pull.s (Pull.s Pull.z)))) ?_
   refine Ej.pull (Pull.s (Pull.s (Pull.s (Pull.s Pull.z)))) ?_
   refine Ej.pull (Pull.s (Pull.s (Pull.s (Pull.s Pull.z)))) ?_
   refine Ej.pull (Pull.s (Pull.s (Pull.s (Pull.s Pull.z)))) ?_
   exact hcut ⟨_, pA, cA, pB, cB, b97, b91, m2, k2⟩ _ _ _ ⟨hpA, hpB, hm2, hP⟩ ⟨rfl, rfl, rfl, rfl, rfl, trivial⟩ rfl rfl
  refine ⟨_, rfl, rfl, ?_⟩
  refine GV BX ?_
  intro b98 hb98
  refine ⟨⟨(Le.trans (Le.refl _) hle67), (HSub.c 4 rfl HSub.n), CSub.n⟩, ?_⟩
  refine JA.pull (Pull.s (Pull.s Pull.z)) ?_
  refine zO 11 rfl (zM (H1 := [_]) rfl rfl rfl rfl rfl (ih qb pb2 cb m1 k1 _ (by omega) hfb (by omega) (by omega) hpb hP hm1) ?_ (fun _ _ _ _ ⟨_, _, _, h, _⟩ => by cases h) (fun _ _ ⟨_, _, _, h, _⟩ => by cases h))
  intro v99 I100 H101 hle102 hp103
  have hP := hP.mono hle102
  have hbl := hle102 _ _ hbl
  have hpa := hpa.mono hle102
  have hpb := hpb.mono hle102
  have hpA := hpA.mono hle102
  obtain ⟨pB, cB, ⟨m2, k2⟩, h, hpB, hm2, rfl⟩ := hp103; cases h
  rw [← hBe] at *
  refine ⟨⟨(Le.trans (Le.trans (Le.refl _) hle67) hle102), (HSub.c 4 rfl HSub.n), CSub.n⟩, ?_⟩
  refine zO 14 rfl (qq2 1 zK (yV.c (yV.c (yV.c (yV.c (yV.c yV.z))))) (yX.s yX.z) ?_)
  refine ⟨⟨(Le.trans (Le.trans (Le.refl _) hle67) hle102), (HSub.c 4 rfl HSub.n), CSub.n⟩, ?_⟩
  refine zO 15 rfl (qq2 2 zK (yV.c (yV.c (yV.c (yV.c (yV.c yV.z))))) (yX.s (yX.s yX.z)) ?_)
  refine ⟨⟨(Le.trans (Le.trans (Le.refl _) hle67) hle102), (HSub.c 4 rfl HSub.n), CSub.n⟩, ?_⟩
  refine EZ ?_
  refine Ej.keep (Keeps.k (Keeps.k (Keeps.k (Keeps.k (Keeps.k Keeps.n))))) ?_
  refine Ej.pull Pull.z ?_
  refine Ej.pull (Pull.s (Pull.s (Pull.s (Pull.s Pull.z)))) ?_
  refine Ej.pull (Pull.s (Pull.s (Pull.s (Pull.s Pull.z)))) ?_
  refine Ej.pull (Pull.s (Pull.s (Pull.s (Pull.s Pull.z)))) ?_
  refine Ej.pull (Pull.s (Pull.s (Pull.s (Pull.s Pull.z)))) ?_
  exact hcut ⟨_, pA, cA, pB, cB, b98, b91, m2, k2⟩ _ _ _ ⟨hpA, hpB, hm2, hP⟩ ⟨rfl, rfl, rfl, rfl, rfl, trivial⟩ rfl rfl
 ·refine ⟨_, rfl, rfl, ?_⟩
  refine GV BX ?_
  intro b104 hb104
  refine ⟨⟨(Le.refl _), (HSub.c 2 rfl HSub.n), CSub.n⟩, ?_⟩
  refine JA.all [5, 13] (by kernel_rfl) (by simp) ?_
  intro i hi
  simp only [List.mem_cons, List.not_mem_nil, or_false] at hi
  rcases hi with rfl | rfl
  ·refine ⟨_, rfl, rfl, ?_⟩
   refine BU.pull (Pull.s (Pull.s (Pull.s Pull.z))) ?_
   refine zM (H1 := [_]) rfl rfl rfl rfl rfl (ih qa pa ca m0 k0 _ (by omega) hfa (by omega) (by omega) hpa hP hm0) ?_ (fun _ _ _ _ ⟨_, _, _, h, _⟩ => by cases h) (fun _ _ ⟨_, _, _, h, _⟩ => by cases h)
   intro v105 I106 H107 hle108 hp109
   have hP := hP.mono hle108
   have hbl := hle108 _ _ hbl
   have hpa := hpa.mono hle108
   have hpb := hpb.mono hle108
   obtain ⟨pA, cA, ⟨m1, k1⟩, h, hpA, hm1, rfl⟩ := hp109; cases h
   rw [← hAe] at *
   refine ⟨⟨(Le.trans (Le.refl _) hle108), (HSub.c 3 rfl HSub.n), CSub.n⟩, ?_⟩
   refine JA.all [11, 13] (by kernel_rfl) (by simp) ?_
   intro i hi
   simp only [List.mem_cons, List.not_mem_nil, or_false] at hi
   rcases hi with rfl | rfl
   ·refine ⟨_, rfl, rfl, ?_⟩
    refine BU.pull Pull.z ?_
    refine zM (H1 := [_]) rfl rfl rfl rfl rfl (ih qb pb2 cb m1 k1 _ (by omega) hfb (by omega) (by omega) hpb hP hm1) ?_ (fun _ _ _ _ ⟨_, _, _, h, _⟩ => by cases h) (fun _ _ ⟨_, _, _, h, _⟩ => by cases h)
    intro v110 I111 H112 hle113 hp114
    have hP := hP.mono hle113
    have hbl := hle113 _ _ hbl
    have hpa := hpa.mono hle113
    have hpb := hpb.mono hle113
    have hpA := hpA.mono hle113
    obtain ⟨pB, cB, ⟨m2, k2⟩, h, hpB, hm2, rfl⟩ := hp114; cases h
    rw [← hBe] at *
    refine ⟨⟨(Le.trans (Le.trans (Le.refl _) hle108) hle113), (HSub.c 3 rfl HSub.n), CSub.n⟩, ?_⟩
    refine zO 13 rfl (GV BX ?_)
    intro b115 hb115
    refine ⟨⟨(Le.trans (Le.trans (Le.refl _) hle108) hle113), (HSub.c 4 rfl HSub.n), CSub.n⟩, ?_⟩
    refine zO 14 rfl (qq2 2 zK (yV.c (yV.c (yV.c (yV.c (yV.c yV.z))))) (yX.s (yX.s yX.z)) ?_)
    refine ⟨⟨(Le.trans (Le.trans (Le.refl _) hle108) hle113), (HSub.c 4 rfl HSub.n), CSub.n⟩, ?_⟩
    refine zO 15 rfl (qq2 0 zK (yV.c (yV.c (yV.c (yV.c (yV.c yV.z))))) yX.z ?_)
    refine ⟨⟨(Le.trans (Le.trans (Le.refl _) hle108) hle113), (HSub.c 4 rfl HSub.n), CSub.n⟩, ?_⟩
    refine EZ ?_
    refine Ej.keep (Keeps.k (Keeps.k (Keeps.k (Keeps.k (Keeps.k Keeps.n))))) ?_
    refine Ej.pull (Pull.s Pull.z) ?_
    refine Ej.pull (Pull.s (Pull.s (Pull.s (Pull.s Pull.z)))) ?_
    refine Ej.pull (Pull.s (Pull.s (Pull.s (Pull.s Pull.z)))) ?_
    refine Ej.pull (Pull.s (Pull.s (Pull.s Pull.z))) ?_
    refine Ej.pull (Pull.s (Pull.s (Pull.s (Pull.s Pull.z)))) ?_
    exact hcut ⟨_, pA, cA, pB, cB, b104, b115, m2, k2⟩ _ _ _ ⟨hpA, hpB, hm2, hP⟩ ⟨rfl, rfl, rfl, rfl, rfl, trivial⟩ rfl rfl
   refine ⟨_, rfl, rfl, ?_⟩
   refine GV BX ?_
   intro b116 hb116
   refine ⟨⟨(Le.trans (Le.refl _) hle108), (HSub.c 4 rfl HSub.n), CSub.n⟩, ?_⟩
   refine JA.pull (Pull.s Pull.z) ?_
   refine zO 11 rfl (zM (H1 := [_]) rfl rfl rfl rfl rfl (ih qb pb2 cb m1 k1 _ (by omega) hfb (by omega) (by omega) hpb hP hm1) ?_ (fun _ _ _ _ ⟨_, _, _, h, _⟩ => by cases h) (fun _ _ ⟨_, _, _, h, _⟩ => by cases h))
   intro v117 I118 H119 hle120 hp121
   have hP := hP.mono hle120
   have hbl := hle120 _ _ hbl
   have hpa := hpa.mono hle120
   have hpb := hpb.mono hle120
   have hpA := hpA.mono hle120
   obtain ⟨pB, cB, ⟨m2, k2⟩, h, hpB, hm2, rfl⟩ := hp121; cases h
   rw [← hBe] at *
   refine ⟨⟨(Le.trans (Le.trans (Le.refl _) hle108) hle120), (HSub.c 4 rfl HSub.n), CSub.n⟩, ?_⟩
   refine zO 14 rfl (qq2 2 zK (yV.c (yV.c (yV.c (yV.c (yV.c yV.z))))) (yX.s (yX.s yX.z)) ?_)
   refine ⟨⟨(Le.trans (Le.trans (Le.refl _) hle108) hle120), (HSub.c 4 rfl HSub.n), CSub.n⟩, ?_⟩
   refine zO 15 rfl (qq2 1 zK (yV.c (yV.c (yV.c (yV.c (yV.c yV.z))))) (yX.s yX.z) ?_)
   refine ⟨⟨(Le.trans (Le.trans (Le.refl _) hle108) hle120), (HSub.c 4 rfl HSub.n), CSub.n⟩, ?_⟩
   refine EZ ?_
   refine Ej.keep (Keeps.k (Keeps.k (Keeps.k (Keeps.k (Keeps.k Keeps.n))))) ?_
   refine Ej.pull Pull.z ?_
   refine Ej.pull (Pull.s (Pull.s (Pull.s (Pull.s Pull.z)))) ?_
   refine Ej.pull (Pull.s (Pull.s (Pull.s (Pull.s Pull.z)))) ?_
   refine Ej.pull (Pull.s (Pull.s (Pull.s Pull.z))) ?_
   refine Ej.pull (Pull.s (Pull.s (Pull.s (Pull.s Pull.z)))) ?_
   exact hcut ⟨_, pA, cA, pB, cB, b104, b116, m2, k2⟩ _ _ _ ⟨hpA, hpB, hm2, hP⟩ ⟨rfl, rfl, rfl, rfl, rfl, trivial⟩ rfl rfl
  refine ⟨_, rfl, rfl, ?_⟩
  refine GV BX ?_
  intro b122 hb122
  refine ⟨⟨(Le.refl _), (HSub.c 3 rfl HSub.n), CSub.n⟩, ?_⟩
  refine JA.pull (Pull.s (Pull.s (Pull.s (Pull.s Pull.z)))) ?_
  refine zO 5 rfl (zM (H1 := [_]) rfl rfl rfl rfl rfl (ih qa pa ca m0 k0 _ (by omega) hfa (by omega) (by omega) hpa hP hm0) ?_ (fun _ _ _ _ ⟨_, _, _, h, _⟩ => by cases h) (fun _ _ ⟨_, _, _, h, _⟩ => by cases h))
  intro v123 I124 H125 hle126 hp127
  have hP := hP.mono hle126
  have hbl := hle126 _ _ hbl
  have hpa := hpa.mono hle126
  have hpb := hpb.mono hle126
  obtain ⟨pA, cA, ⟨m1, k1⟩, h, hpA, hm1, rfl⟩ := hp127; cases h
  rw [← hAe] at *
  refine ⟨⟨(Le.trans (Le.refl _) hle126), (HSub.c 4 rfl HSub.n), CSub.n⟩, ?_⟩
  refine JA.pull Pull.z ?_
  refine zO 11 rfl (zM (H1 := [_]) rfl rfl rfl rfl rfl (ih qb pb2 cb m1 k1 _ (by omega) hfb (by omega) (by omega) hpb hP hm1) ?_ (fun _ _ _ _ ⟨_, _, _, h, _⟩ => by cases h) (fun _ _ ⟨_, _, _, h, _⟩ => by cases h))
  intro v128 I129 H130 hle131 hp132
  have hP := hP.mono hle131
  have hbl := hle131 _ _ hbl
  have hpa := hpa.mono hle131
  have hpb := hpb.mono hle131
  have hpA := hpA.mono hle131
  obtain ⟨pB, cB, ⟨m2, k2⟩, h, hpB, hm2, rfl⟩ := hp132; cases h
  rw [← hBe] at *
  refine ⟨⟨(Le.trans (Le.trans (Le.refl _) hle126) hle131), (HSub.c 4 rfl HSub.n), CSub.n⟩, ?_⟩
  refine zO 14 rfl (qq2 2 zK (yV.c (yV.c (yV.c (yV.c (yV.c yV.z))))) (yX.s (yX.s yX.z)) ?_)
  refine ⟨⟨(Le.trans (Le.trans (Le.refl _) hle126) hle131), (HSub.c 4 rfl HSub.n), CSub.n⟩, ?_⟩
  refine zO 15 rfl (qq2 1 zK (yV.c (yV.c (yV.c (yV.c (yV.c yV.z))))) (yX.s yX.z) ?_)
  refine ⟨⟨(Le.trans (Le.trans (Le.refl _) hle126) hle131), (HSub.c 4 rfl HSub.n), CSub.n⟩, ?_⟩
  refine EZ ?_
  refine Ej.keep (Keeps.k (Keeps.k (Keeps.k (Keeps.k (Keeps.k Keeps.n))))) ?_
  refine Ej.pull Pull.z ?_
  refine Ej.pull (Pull.s (Pull.s (Pull.s (Pull.s Pull.z)))) ?_
  refine Ej.pull (Pull.s (Pull.s (Pull.s (Pull.s Pull.z)))) ?_
  refine Ej.pull (Pull.s (Pull.s (Pull.s Pull.z))) ?_
  refine Ej.pull (Pull.s (Pull.s (Pull.s (Pull.s Pull.z)))) ?_
  exact hcut ⟨_, pA, cA, pB, cB, b104, b122, m2, k2⟩ _ _ _ ⟨hpA, hpB, hm2, hP⟩ ⟨rfl, rfl, rfl, rfl, rfl, trivial⟩ rfl rfl
 refine ⟨_, rfl, rfl, ?_⟩
 refine GV BX ?_
 intro b133 hb133
 refine ⟨⟨(Le.refl _), (HSub.c 2 rfl HSub.n), CSub.n⟩, ?_⟩
 refine JA.all [5, 12] (by kernel_rfl) (by simp) ?_
 intro i hi
 simp only [List.mem_cons, List.not_mem_nil, or_false] at hi
 rcases hi with rfl | rfl
 ·refine ⟨_, rfl, rfl, ?_⟩
  refine BU.pull (Pull.s (Pull.s (Pull.s Pull.z))) ?_
  refine zM (H1 := [_]) rfl rfl rfl rfl rfl (ih qa pa ca m0 k0 _ (by omega) hfa (by omega) (by omega) hpa hP hm0) ?_ (fun _ _ _ _ ⟨_, _, _, h, _⟩ => by cases h) (fun _ _ ⟨_, _, _, h, _⟩ => by cases h)
  intro v134 I135 H136 hle137 hp138
  have hP := hP.mono hle137
  have hbl := hle137 _ _ hbl
  have hpa := hpa.mono hle137
  have hpb := hpb.mono hle137
  obtain ⟨pA, cA, ⟨m1, k1⟩, h, hpA, hm1, rfl⟩ := hp138; cases h
  rw [← hAe] at *
  refine ⟨⟨(Le.trans (Le.refl _) hle137), (HSub.c 3 rfl HSub.n), CSub.n⟩, ?_⟩
  refine JA.all [11, 12] (by kernel_rfl) (by simp) ?_
  intro i hi
  simp only [List.mem_cons, List.not_mem_nil, or_false] at hi
  rcases hi with rfl | rfl
  ·refine ⟨_, rfl, rfl, ?_⟩
   refine BU.pull Pull.z ?_
   refine zM (H1 := [_]) rfl rfl rfl rfl rfl (ih qb pb2 cb m1 k1 _ (by omega) hfb (by omega) (by omega) hpb hP hm1) ?_ (fun _ _ _ _ ⟨_, _, _, h, _⟩ => by cases h) (fun _ _ ⟨_, _, _, h, _⟩ => by cases h)
   intro v139 I140 H141 hle142 hp143
   have hP := hP.mono hle142
   have hbl := hle142 _ _ hbl
   have hpa := hpa.mono hle142
   have hpb := hpb.mono hle142
   have hpA := hpA.mono hle142
   obtain ⟨pB, cB, ⟨m2, k2⟩, h, hpB, hm2, rfl⟩ := hp143; cases h
   rw [← hBe] at *
   refine ⟨⟨(Le.trans (Le.trans (Le.refl _) hle137) hle142), (HSub.c 3 rfl HSub.n), CSub.n⟩, ?_⟩
   refine zO 12 rfl (GV BX ?_)
   intro b144 hb144
   refine ⟨⟨(Le.trans (Le.trans (Le.refl _) hle137) hle142), (HSub.c 4 rfl HSub.n), CSub.n⟩, ?_⟩
   refine zO 14 rfl (qq2 0 zK (yV.c (yV.c (yV.c (yV.c (yV.c yV.z))))) yX.z ?_)
   refine ⟨⟨(Le.trans (Le.trans (Le.refl _) hle137) hle142), (HSub.c 4 rfl HSub.n), CSub.n⟩, ?_⟩
   refine zO 15 rfl (qq2 2 zK (yV.c (yV.c (yV.c (yV.c (yV.c yV.z))))) (yX.s (yX.s yX.z)) ?_)
   refine ⟨⟨(Le.trans (Le.trans (Le.refl _) hle137) hle142), (HSub.c 4 rfl HSub.n), CSub.n⟩, ?_⟩
   refine EZ ?_
   refine Ej.keep (Keeps.k (Keeps.k (Keeps.k (Keeps.k (Keeps.k Keeps.n))))) ?_
   refine Ej.pull (Pull.s Pull.z) ?_
   refine Ej.pull (Pull.s (Pull.s (Pull.s (Pull.s Pull.z)))) ?_
   refine Ej.pull (Pull.s (Pull.s (Pull.s (Pull.s Pull.z)))) ?_
   refine Ej.pull (Pull.s (Pull.s (Pull.s (Pull.s Pull.z)))) ?_
   refine Ej.pull (Pull.s (Pull.s (Pull.s (Pull.s Pull.z)))) ?_
   exact hcut ⟨_, pA, cA, pB, cB, b144, b133, m2, k2⟩ _ _ _ ⟨hpA, hpB, hm2, hP⟩ ⟨rfl, rfl, rfl, rfl, rfl, trivial⟩ rfl rfl
  refine ⟨_, rfl, rfl, ?_⟩
  refine GV BX ?_
  intro b145 hb145
  refine ⟨⟨(Le.trans (Le.refl _) hle137), (HSub.c 4 rfl HSub.n), CSub.n⟩, ?_⟩
  refine JA.pull (Pull.s Pull.z) ?_
  refine zO 11 rfl (zM (H1 := [_]) rfl rfl rfl rfl rfl (ih qb pb2 cb m1 k1 _ (by omega) hfb (by omega) (by omega) hpb hP hm1) ?_ (fun _ _ _ _ ⟨_, _, _, h, _⟩ => by cases h) (fun _ _ ⟨_, _, _, h, _⟩ => by cases h))
  intro v146 I147 H148 hle149 hp150
  have hP := hP.mono hle149
  have hbl := hle149 _ _ hbl
  have hpa := hpa.mono hle149
  have hpb := hpb.mono hle149
  have hpA := hpA.mono hle149
  obtain ⟨pB, cB, ⟨m2, k2⟩, h, hpB, hm2, rfl⟩ := hp150; cases h
  rw [← hBe] at *
  refine ⟨⟨(Le.trans (Le.trans (Le.refl _) hle137) hle149), (HSub.c 4 rfl HSub.n), CSub.n⟩, ?_⟩
  refine zO 14 rfl (qq2 1 zK (yV.c (yV.c (yV.c (yV.c (yV.c yV.z))))) (yX.s yX.z) ?_)
  refine ⟨⟨(Le.trans (Le.trans (Le.refl _) hle137) hle149), (HSub.c 4 rfl HSub.n), CSub.n⟩, ?_⟩
  refine zO 15 rfl (qq2 2 zK (yV.c (yV.c (yV.c (yV.c (yV.c yV.z))))) (yX.s (yX.s yX.z)) ?_)
  refine ⟨⟨(Le.trans (Le.trans (Le.refl _) hle137) hle149), (HSub.c 4 rfl HSub.n), CSub.n⟩, ?_⟩
  refine EZ ?_
  refine Ej.keep (Keeps.k (Keeps.k (Keeps.k (Keeps.k (Keeps.k Keeps.n))))) ?_
  refine Ej.pull Pull.z ?_
  refine Ej.pull (Pull.s (Pull.s (Pull.s (Pull.s Pull.z)))) ?_
  refine Ej.pull (Pull.s (Pull.s (Pull.s (Pull.s Pull.z)))) ?_
  refine Ej.pull (Pull.s (Pull.s (Pull.s (Pull.s Pull.z)))) ?_
  refine Ej.pull (Pull.s (Pull.s (Pull.s (Pull.s Pull.z)))) ?_
  exact hcut ⟨_, pA, cA, pB, cB, b145, b133, m2, k2⟩ _ _ _ ⟨hpA, hpB, hm2, hP⟩ ⟨rfl, rfl, rfl, rfl, rfl, trivial⟩ rfl rfl
 refine ⟨_, rfl, rfl, ?_⟩
 refine GV BX ?_
 intro b151 hb151
 refine ⟨⟨(Le.refl _), (HSub.c 3 rfl HSub.n), CSub.n⟩, ?_⟩
 refine JA.pull (Pull.s (Pull.s (Pull.s (Pull.s Pull.z)))) ?_
 refine zO 5 rfl (zM (H1 := [_]) rfl rfl rfl rfl rfl (ih qa pa ca m0 k0 _ (by omega) hfa (by omega) (by omega) hpa hP hm0) ?_ (fun _ _ _ _ ⟨_, _, _, h, _⟩ => by cases h) (fun _ _ ⟨_, _, _, h, _⟩ => by cases h))
 intro v152 I153 H154 hle155 hp156
 have hP := hP.mono hle155
 have hbl := hle155 _ _ hbl
 have hpa := hpa.mono hle155
 have hpb := hpb.mono hle155
 obtain ⟨pA, cA, ⟨m1, k1⟩, h, hpA, hm1, rfl⟩ := hp156; cases h
 rw [← hAe] at *
 refine ⟨⟨(Le.trans (Le.refl _) hle155), (HSub.c 4 rfl HSub.n), CSub.n⟩, ?_⟩
 refine JA.pull Pull.z ?_
 refine zO 11 rfl (zM (H1 := [_]) rfl rfl rfl rfl rfl (ih qb pb2 cb m1 k1 _ (by omega) hfb (by omega) (by omega) hpb hP hm1) ?_ (fun _ _ _ _ ⟨_, _, _, h, _⟩ => by cases h) (fun _ _ ⟨_, _, _, h, _⟩ => by cases h))
 intro v157 I158 H159 hle160 hp161
 have hP := hP.mono hle160
 have hbl := hle160 _ _ hbl
 have hpa := hpa.mono hle160
 have hpb := hpb.mono hle160
 have hpA := hpA.mono hle160
 obtain ⟨pB, cB, ⟨m2, k2⟩, h, hpB, hm2, rfl⟩ := hp161; cases h
 rw [← hBe] at *
 refine ⟨⟨(Le.trans (Le.trans (Le.refl _) hle155) hle160), (HSub.c 4 rfl HSub.n), CSub.n⟩, ?_⟩
 refine zO 14 rfl (qq2 1 zK (yV.c (yV.c (yV.c (yV.c (yV.c yV.z))))) (yX.s yX.z) ?_)
 refine ⟨⟨(Le.trans (Le.trans (Le.refl _) hle155) hle160), (HSub.c 4 rfl HSub.n), CSub.n⟩, ?_⟩
 refine zO 15 rfl (qq2 2 zK (yV.c (yV.c (yV.c (yV.c (yV.c yV.z))))) (yX.s (yX.s yX.z)) ?_)
 refine ⟨⟨(Le.trans (Le.trans (Le.refl _) hle155) hle160), (HSub.c 4 rfl HSub.n), CSub.n⟩, ?_⟩
 refine EZ ?_
 refine Ej.keep (Keeps.k (Keeps.k (Keeps.k (Keeps.k (Keeps.k Keeps.n))))) ?_
 refine Ej.pull Pull.z ?_
 refine Ej.pull (Pull.s (Pull.s (Pull.s (Pull.s Pull.z)))) ?_
 refine Ej.pull (Pull.s (Pull.s (Pull.s (Pull.s Pull.z)))) ?_
 refine Ej.pull (Pull.s (Pull.s (Pull.s (Pull.s Pull.z)))) ?_
 refine Ej.pull (Pull.s (Pull.s (Pull.s (Pull.s Pull.z)))) ?_
 exact hcut ⟨_, pA, cA, pB, cB, b151, b133, m2, k2⟩ _ _ _ ⟨hpA, hpB, hm2, hP⟩ ⟨rfl, rfl, rfl, rfl, rfl, trivial⟩ rfl rfl
