/-
  Own texts on the laws of the seat, joined: the logic, and contracts of functions. Conditions: none.
-/
import Derived.Test.YtekmeaoblpfnpaaGreatDoorNmS
import Derived.Test.YtekmeaoblpfnpaaGreatDoorPS12
set_option linter.all false
set_option maxRecDepth 100000
set_option maxHeartbeats 40000000
namespace Go.Proofs.YtekmeaoblpfnpaaGreatDoor
open Go Go.Shelf Go.RowKit Go.Lib Go.Sort
abbrev FW := List UInt8 × Ix.Rec
abbrev vO (x : FW) : List Value := [Sx.str x.1, .int .i64 x.2.1, .int .i64 x.2.2]
theorem qY x : (vO x).length = 3 := rfl
def a5C (x y : FW) : Int := vM (xM x.1 y.1) (MQ x.2 y.2)
def yZ (x y : FW) : Prop := x.1 < y.1 ∨ (x.1 = y.1 ∧ Ix.oL x.2 y.2 = true)
theorem a9V x : ¬ yZ x x := by
  rintro (h | ⟨_, h⟩)
  · exact List.lt_irrefl _ h
  rw [Ix.nJ] at h; cases h
theorem WV {x y z} (h1 : yZ x y) (h2 : yZ y z) : yZ x z := by
  rcases h1 with h1 | ⟨h1, h1'⟩ <;> rcases h2 with h2 | ⟨h2, h2'⟩
  · exact .inl (List.lt_trans h1 h2)
  · exact .inl (h2 ▸ h1)
  · exact .inl (h1 ▸ h2)
  exact .inr ⟨h1.trans h2, Ix.vU h1' h2'⟩
theorem a2C x y : yZ x y ∨ x = y ∨ yZ y x := by
  by_cases h : x.1 < y.1
  · exact .inl (.inl h)
  by_cases h2 : y.1 < x.1
  · exact .inr (.inr (.inl h2))
  have he : x.1 = y.1 := List.le_antisymm (List.not_lt.1 h2) (List.not_lt.1 h)
  rcases Ix.ES x.2 y.2 with g | g | g
  · exact .inl (.inr ⟨he, g⟩)
  · exact .inr (.inl (Prod.ext he g))
  exact .inr (.inr (.inr ⟨he.symm, g⟩))
theorem IG x y : ltOf a5C x y = true ↔ yZ x y := by
  have hr := ER x.2 y.2
  unfold ltOf at hr ⊢
  unfold a5C yZ vM xM
  rw [decide_eq_true_eq]
  by_cases h : x.1 < y.1
  · rw [if_pos h]; simp [h]
  rw [if_neg h]
  by_cases h2 : y.1 < x.1
  · have hne : x.1 ≠ y.1 := fun e => h (e ▸ h2)
    rw [if_pos h2]; simp [h, hne]
  have he : x.1 = y.1 := List.le_antisymm (List.not_lt.1 h2) (List.not_lt.1 h)
  rw [if_neg h2, if_neg (by simp), ← hr, decide_eq_true_eq]
  exact ⟨fun g => .inr ⟨he, g⟩, fun g => g.elim (fun g => absurd g h) fun g => g.2⟩
theorem b3n : SWO (ltOf a5C) where
  irrefl x := Bool.eq_false_iff.2 fun h => a9V x ((IG x x).1 h)
  trans x y z h1 h2 := (IG x z).2 (WV ((IG x y).1 h1) ((IG y z).1 h2))
  ntrans x y z h1 h2 := by
    rw [Bool.eq_false_iff, Ne, IG] at *
    intro h
    rcases a2C x y with g | g | g
    · exact h1 g
    · subst g; exact h2 h
    exact h2 (WV g h)
theorem QS {base} l g (hg : Sx.kZ base 3 l.length (l.flatMap vO) g) (hl : l.length ≤ 100000000000000) I : Sx.jO Tryz.prog 55 [Sx.gV l.length g, .func (.func 56) #[] #[]] I (Sx.gH 123 (l.flatMap vO) g)
    (fun e _I' H' => ∃ l' : List FW, l'.Perm l ∧ l'.Pairwise (fun p q => ¬ yZ q p) ∧ e = .returned (.tuple #[]) ∧ H' = Sx.gH 123 (l'.flatMap vO) g) := by
  cases g with
  | none =>
    obtain ⟨h1, h2⟩ := hg
    have h0 : l = [] := List.length_eq_zero_iff.1 h1
    subst h0
    exact (Sx.Pure.of_same (Sx.Enters.of Tryz.func55 (by decide) rfl) (fun w _ => AnyF.slices_SortFunc_none Tryz.b4U none 0 (.func (.func 56) #[] #[]) w)).mono fun e I' H' _ ⟨h1, _, h3⟩ => ⟨[], List.Perm.refl _, List.Pairwise.nil, h1, h3⟩
  | some q =>
    obtain ⟨b, c, sp⟩ := q
    refine ⟨Sx.Enters.of Tryz.func55 (by decide) rfl, fun w hw => ?_⟩
    have hb := hw.2.1 _ (.head _)
    have hlt : b < w.heap.size := by
      rcases Nat.lt_or_ge b w.heap.size with h | h
      · exact h
      rw [Array.getElem?_eq_none h] at hb; cases hb
    have eg : ∀ args w, (callFunc 56 args).run Tryz.prog w = .ok (.enter 56 args) w := enters_of Tryz.func56 (by kernel_rfl) rfl
    have hH : HoldsK vO 3 w b 0 l.toArray := by
      unfold HoldsK
      rw [Sx.xQ qY]
      exact Sx.PV hb
    have hcmp : CmpLays Tryz.prog 56 #[] vO 3 a5C b 0 l.toArray.size w := fun m os dk _ x y => b7h x.1 y.1 x.2.1 x.2.2 y.2.1 y.2.2 _
    have hcon := AnyQ.slices_SortFunc Tryz.b4U 3 Tryz.isAgg123 Tryz.sizeOf123 vO qY (fun x v hv => by
      simp only [List.mem_cons, List.not_mem_nil, or_false] at hv
      rcases hv with rfl | rfl | rfl <;> rfl) a5C b3n 56 #[] b 0 c l.toArray w eg hcmp hH hlt (by simp; omega)
    refine hcon.mono fun e w' ⟨h1, d', n, os, h2, h3, h4⟩ => ?_
    rw [List.size_toArray] at h2 h3
    have hp := Sx.a1a h2
    have hds : d'.size = l.length := by have := hp.length_eq; simpa using this
    rw [← hds] at h3
    refine ⟨I, _, ?_, d'.toList, hp, (Sx.sorted_in h3).imp fun h => ?_, h1, rfl⟩
    · rw [h4]
      unfold sortWorldK putRowK
      rw [show d' = d'.toList.toArray from (Array.toArray_toList (xs := d')).symm, Sx.xQ qY]
      exact Sx.St.b3P n os hw (by rw [Sx.lS qY, Sx.lS qY, hp.length_eq])
    exact fun g => Bool.eq_false_iff.1 h ((IG _ _).2 g)
theorem b0X {L} {ts : List Ix.Rec} (hn : ts.Nodup) {l : List FW} (hp : l.Perm (ts.map fun t => (Ix.oK L t, t))) (ho : l.Pairwise fun p q => ¬ yZ q p) : (l.map (·.2)).Pairwise (Ix.oN L) ∧ ∀ t, t ∈ l.map (·.2) ↔ t ∈ ts := by
  have hk : ∀ x ∈ l, x.1 = Ix.oK L x.2 := fun x hx => by
    obtain ⟨t, _, rfl⟩ := List.mem_map.1 (hp.mem_iff.1 hx)
    rfl
  have hm : (l.map (·.2)).Perm ts := by
    have := hp.map (·.2)
    rw [List.map_map] at this
    exact this.trans (.of_eq (List.map_id _))
  refine ⟨?_, fun t => hm.mem_iff⟩
  have hnd := List.nodup_iff_pairwise_ne.1 (hm.nodup_iff.2 hn)
  rw [List.pairwise_map] at hnd ⊢
  refine (List.pairwise_iff_forall_sublist.2 fun {x y} hs => ?_)
  have h1 := List.pairwise_iff_forall_sublist.1 ho hs
  have h2 := List.pairwise_iff_forall_sublist.1 hnd hs
  have hx := hk x (hs.subset (.head _))
  have hy := hk y (hs.subset (.tail _ (.head _)))
  rcases a2C x y with g | g | g
  · unfold yZ at g; unfold Ix.oN; rwa [hx, hy] at g
  · subst g; exact absurd rfl h2
  exact absurd g h1
end Go.Proofs.YtekmeaoblpfnpaaGreatDoor
section
namespace Go.Proofs.YtekmeaoblpfnpaaGreatDoor
open _root_.Go.Proofs.Tryz
open Go Go.Sx
theorem VP l x v (hl : l.length ≤ 1000000) I (hv : qV 9 I l v) : Pure Tryz.prog 116 [v, str x] I (.bool (l.contains x)) := by
  obtain ⟨b, c, sp, rfl, hb⟩ := hv
  refine Pure.of_same (Enters.of func116 (by decide) rfl) fun w hw => ?_
  have h := Tryz.slices_Contains_string b 0 l.length c (l.map fun y => ⟨y.toArray⟩) ⟨x.toArray⟩ w (by simp) (by omega) (fun j hj => by
    rw [Nat.zero_add]
    simp at hj
    refine cell_of_heap (hw.1 _ _ hb) ?_
    rw [nR (x := l[j]) (kV hj)]
    simp [str, kV hj])
  rw [List.take_of_length_le (by simp)] at h
  have e : Lib.containsS (l.map fun y => (⟨y.toArray⟩ : ByteArray)) ⟨x.toArray⟩ = l.contains x := by
    rw [Bool.eq_iff_iff, Lib.containsS_iff, List.contains_iff_mem, List.mem_map]
    constructor
    · rintro ⟨y, hy, he⟩
      have e : y = x := by simpa using congrArg ByteArray.data he
      exact e ▸ hy
    exact fun h => ⟨x, h, rfl⟩
  rw [e] at h
  exact h
def OJ (q : Cq.Qn) : Prop := ∀ (p : Option Addr) (c : Nat) (I : Heap), PS I q.ps p → q.size ≤ 1000000000 → q.wide ≤ 1000000000 → Pure Tryz.prog 64 [.agg (kP q p c).toArray] I (i64 (Cq.deep q))
theorem a6y I : jO Tryz.prog 117 [] I [] (fun e I' H' => (∃ v, e = .returned v ∧ qV 9 I' Cq.indexes v) ∧ H' = []) := by
 refine jT func117 fun w0 hw0 => ?_
 refine jL 8 ?_
 intro b1 hb1
 refine jL 4 ?_
 refine Ej.persist hb1 (fun I3 hle2 hb1i => ?_)
 refine jW ?_
 exact ⟨⟨_, rfl, b1, 6, [], rfl, hb1i⟩, rfl⟩
theorem a3d I : jO Tryz.prog 118 [] I [] (fun e I' H' => (∃ v, e = .returned v ∧ qV 9 I' Cq.relations v) ∧ H' = []) := by
 refine jT func118 fun w0 hw0 => ?_
 refine jL 8 ?_
 intro b1 hb1
 refine jL 4 ?_
 refine Ej.persist hb1 (fun I3 hle2 hb1i => ?_)
 refine jW ?_
 exact ⟨⟨_, rfl, b1, 6, [], rfl, hb1i⟩, rfl⟩
theorem b0j q (ih : ∀ q', Cq.Qn.size q' < q.size → OJ q') : OJ q := by
 intro p c I hps hsz hwd
 have hwi : q.i.length + q.r.length + q.t.length ≤ 1000000000 := by unfold Cq.Qn.wide at hwd; omega
 refine jO.toPure ?_
 refine jT func64 fun w0 hw0 => ?_
 refine jL 3 ?_
 intro b1 hb1
 refine jR (fun hc2 hc2p => ?_) (fun hc2 hc2p => ?_)
 ·have hk : q.k = 1 := by omega
  refine jL 2 ?_
  refine Cj.qJ [0] [] 18 (by kernel_rfl) ?_
  refine kH (a6y _) ?_
  intro v4 I5 H6 hle7 hp8
  have hps := hps.mono hle7
  obtain ⟨⟨v4x, hv4, hsv4⟩, rfl⟩ := hp8; cases hv4
  refine kC (VP Cq.indexes _ _ (by decide) _ hsv4) ?_
  refine jL 3 ?_
  refine JA.split 13 rfl (fun hg10 => ?_) (fun hg10 => ?_)
  ·refine kF ?_
   refine ⟨?_, rfl⟩
   rw [Cq.b0W hk]
   simp_all <;> omega
  refine kH (a3d _) ?_
  intro v12 I13 H14 hle15 hp16
  have hps := hps.mono hle15
  have hsv4 := hsv4.mono hle15
  obtain ⟨⟨v12x, hv12, hsv12⟩, rfl⟩ := hp16; cases hv12
  refine kC (VP Cq.relations _ _ (by decide) _ hsv12) ?_
  refine jL 4 ?_
  refine JA.split 20 rfl (fun hg18 => ?_) (fun hg18 => ?_)
  ·refine kF ?_
   refine ⟨?_, rfl⟩
   rw [Cq.b0W hk]
   simp_all <;> omega
  refine jR (fun hc20 hc20p => ?_) (fun hc20 hc20p => ?_)
  ·refine kF ?_
   refine ⟨?_, rfl⟩
   rw [Cq.b0W hk]
   simp_all <;> omega
  refine kF ?_
  refine ⟨?_, rfl⟩
  rw [Cq.b0W hk]
  simp_all <;> omega
 have hk : q.k ≠ 1 := by omega
 refine pR (fun hg21 => ?_) (fun hg21 => ?_)
 ·refine kF ?_
  rw [Cq.b4q hk (.inl (by have h := hg21; simp at h; omega))]; exact ⟨rfl, rfl⟩
 refine pR (fun hg23 => ?_) (fun hg23 => ?_)
 ·refine kF ?_
  rw [Cq.b4q hk (.inr (.inl (by have h := hg23; simp at h; omega)))]; exact ⟨rfl, rfl⟩
 refine jL 4 ?_
 refine J.zg (oW rfl rfl rfl (by first | omega | (simp only [List.length_append]; omega) | (simp; omega))) ?_
 refine jL 2 ?_
 refine J.zg (oW rfl rfl rfl (by first | omega | (simp only [List.length_append]; omega) | (simp; omega))) ?_
 refine pR (fun hg25 => ?_) (fun hg25 => ?_)
 ·refine kF ?_
  rw [Cq.b4q hk (.inr (.inr (.inl (bne_iff_ne.1 hg25))))]; exact ⟨rfl, rfl⟩
 refine jR (fun hc27 hc27p => ?_) (fun hc27 hc27p => ?_)
 ·refine kF ?_
  rw [Cq.b4q hk (.inr (.inr (.inr (by have h := hc27; simp at h; omega))))]; exact ⟨rfl, rfl⟩
 have hg29 := hg21
 have hg34 := hg23
 have hg45 := hg25
 have hg50 := hc27
 have hgood : ¬ (q.k < 2 ∨ q.k > 4 ∨ q.i ≠ [] ∨ q.r ≠ [] ∨ q.t ≠ [] ∨ q.ps.len ≠ 2) := by
   simp at hg29 hg34 hg45 hg50
   simp [hg45]; omega
 obtain ⟨qa, qb, htw⟩ := Cq.Qs.a3x (ps := q.ps) (by omega)
 change q.Two qa qb at htw
 have hdt := Cq.b4P hk hgood htw
 have hsz2 := htw.size
 have hwd2 := htw.wide
 have hdb := Cq.a7z qb
 have hda := Cq.a7z qa
 have hga := Cq.a7w qa
 have hgb := Cq.a7w qb
 have hln := htw.len
 obtain ⟨bl, off, cs', T, fr, pa, ca, pb, cb, rfl, hbl, hca, hcb, hkb, hpa, hpb⟩ := hps.ND htw
 refine jL 3 ?_
 refine Cj.qJ [0] [] 12 (by kernel_rfl) ?_
 have hbl_7 := hbl
 refine jL 2 ?_
 refine JA.fix lG (fun fx28 => ?_)
 refine JA.tk 2 rfl fx28 (q7 (off' := off) a4I lU) ?_
 refine JA.tk 3 rfl fx28 (q3 nZ lU (jV.BN hbl_7) hca) ?_
 refine JA.tk 5 rfl fx28 (q2 (off' := 4) tU32 yO) ?_
 refine JA.tk 6 rfl fx28 (q4 isAgg30 (jV.atC 0 rfl)) ?_
 refine JA.tk 7 rfl fx28 (q7 (off' := off + 5) a4I lU) ?_
 refine JA.tk 8 rfl fx28 (q3 nZ lU (jV.BN hbl_7) hcb) ?_
 refine q0 4 rfl (DK rfl rfl rfl rfl rfl (ih qa hsz2.1 pa ca _ hpa (by omega) (by omega)) ?_)
 refine ⟨⟨(Le.refl _), (HSub.c 0 rfl HSub.n), CSub.n⟩, ?_⟩
 refine q0 9 rfl (DK rfl rfl rfl rfl rfl (ih qb hsz2.2 pb cb _ hpb (by omega) (by omega)) ?_)
 refine ⟨⟨(Le.refl _), (HSub.c 0 rfl HSub.n), CSub.n⟩, ?_⟩
 refine JA.fix lG (fun fx29 => ?_)
 refine JA.tk 10 rfl fx29 (uI rfl rfl) ?_
 refine JA.tk 11 rfl fx29 (uI rfl rfl) ?_
 refine JA.done (by kernel_rfl) ?_
 refine Ej.seq (Cj.seq (Cj.sr (J.z q1 ?_)))
 refine J.z q1 ?_
 refine J.z (rX rfl rfl rfl) ?_
 refine J.ev 63 (i64 (min (Cq.deep qa) (Cq.deep qb))) rfl (by congr 1; omega) ?_
 refine jR (fun hc30 hc30p => ?_) (fun hc30 hc30p => ?_)
 ·refine kF ?_
  rw [hdt, if_pos (by omega)]; exact ⟨rfl, rfl⟩
 refine kG (off + 5) ?_
 refine jL 1 ?_
 refine J.z (jP rfl rfl IY (jV.BU hbl) hkb) ?_
 refine jR (fun hc31 hc31p => ?_) (fun hc31 hc31p => ?_)
 ·have hku : Cq.up qb.k = 1 := by have h := hc31; simp at h; simp [Cq.up, h]
  refine jL 10 ?_
  refine J.z (rY rfl rfl rfl) ?_
  refine J.ev 75 (i64 (max (Cq.deep qa) (Cq.deep qb + 1))) rfl (by congr 1; omega) ?_
  refine kF ?_
  refine ⟨?_, rfl⟩
  rw [hdt, if_neg (by omega), hku]
  simp
 have hku : Cq.up qb.k = 0 := by have h := hc31; simp at h; simp [Cq.up, h]
 refine jL 6 ?_
 refine J.z (rY rfl rfl rfl) ?_
 refine J.ev 75 (i64 (max (Cq.deep qa) (Cq.deep qb))) rfl (by congr 1; omega) ?_
 refine kF ?_
 refine ⟨?_, rfl⟩
 rw [hdt, if_neg (by omega), hku]
 simp
theorem b5l q : OJ q := by
  suffices ∀ n (q : Cq.Qn), q.size < n → OJ q from this _ q (Nat.lt_succ_self _)
  intro n
  induction n with
  | zero => intro q h; omega
  | succ n ih => intro q h; exact b0j q fun q' h' => ih q' (by omega)
theorem a1W q p c (hsz : q.size ≤ 1000000000) (hwd : q.wide ≤ 1000000000) I (hps : PS I q.ps p) : Pure Tryz.prog 21 [.agg (kP q p c).toArray] I (.bool (Cq.right q)) := by
 refine jO.toPure ?_
 refine jT func21 fun w0 hw0 => ?_
 refine jL 3 ?_
 intro b1 hb1
 refine kC (b5l q p c _ hps hsz hwd) ?_
 refine pR (fun hg2 => ?_) (fun hg2 => ?_)
 ·refine kF ?_
  refine ⟨?_, rfl⟩
  rw [← Cq.ZL]
  simp_all <;> omega
 refine kF ?_
 refine ⟨?_, rfl⟩
 rw [← Cq.ZL]
 simp_all <;> omega
end Go.Proofs.YtekmeaoblpfnpaaGreatDoor
end
section
namespace Go.Proofs.YtekmeaoblpfnpaaGreatDoor
open _root_.Go.Proofs.Tryz
open Go Go.Sx
structure TF where
  vis : ML Ix.Rec
  rest : ML Ix.Rec
  g : Gs
def QI (L : Ix.Ix) (vis : ML Ix.Rec) : List FW := (vis.map (·.1)).map fun t => (Ix.oK L t, t)
theorem XG L vis x : QI L (vis ++ [x]) = QI L vis ++ [(Ix.oK L x.1, x.1)] := by
  unfold QI; rw [List.map_append, List.map_append]; rfl
theorem b6H L vis : (QI L vis).length = vis.length := by unfold QI; rw [List.length_map, List.length_map]
theorem a7V {L q} (hf : Cq.form q = true) (h : ∀ t, Ix.sat L q t = false) : Ix.yU L q [] :=
  Ix.a5D hf List.Pairwise.nil fun t => by rw [h t]; simp
theorem a8z {L q} (hf : Cq.form q = true) {m k} (hm : nP m k (Ix.sat L q)) {vis} (hp : vis.Perm m) {ls : List FW} (hpp : ls.Perm (QI L vis)) (ho : ls.Pairwise fun p q => ¬ yZ q p) : Ix.yU L q (ls.map (·.2)) := by
  have hn : (vis.map (·.1)).Nodup := ((hp.map _).nodup_iff.2 hm.1.1)
  obtain ⟨h1, h2⟩ := b0X hn hpp ho
  exact Ix.a5D hf h1 fun t => by rw [h2, (hp.map _).mem_iff, hm.mem]
theorem YF {ls : List FW} {k x} (h : ls[k]? = some x) : (ls.take (k + 1)).map (·.2) = (ls.take k).map (·.2) ++ [x.2] := FB _ h
theorem b1i {ls : List FW} (h : ls.Perm []) : ls = [] := h.eq_nil
theorem b6e xv L q p c (hsz : q.size ≤ 1000000000) (hwd : q.wide ≤ 10000000) (hR : Cq.right q = true) (htk : Ix.TOK L) I (hps : PS I q.ps p) (hx : wQ I xv L) (hT : uD I) : jO Tryz.prog 18 [xv, .agg (kP q p c).toArray] I []
    (fun e _ H' => ∃ (r : List Ix.Rec) (g : Gs), Ix.yU L q r ∧ kZ 0 2 r.length (r.flatMap recC) g ∧ e = .returned (.tuple #[gV r.length g, i64 0]) ∧ H' = gH 54 (r.flatMap recC) g) := by
 have hform : Cq.form q = true := by unfold Cq.right at hR; rw [Bool.and_eq_true] at hR; exact hR.1
 have hbig := hx.big
 refine jT func18 fun w0 hw0 => ?_
 refine jL 3 ?_
 intro b1 hb1
 refine kC (a1W q p c hsz (by omega) _ hps) ?_
 refine J.ev 12 (.bool true) rfl (congrArg Value.bool hR) ?_
 refine kH (a8G xv L htk q p c _ hps hx hT hwd hform) ?_
 intro v3 I4 H5 hle6 hp7
 have hps := hps.mono hle6
 have hx := hx.mono hle6
 have hT := hT.mono hle6
 obtain ⟨ws, h, hset, rfl⟩ := hp7; cases h
 rcases id hset with ⟨rfl, hS⟩ | ⟨sb, sm, sk, rfl, hm, hsb⟩
 ·

  refine J.op rfl (sW rfl rfl rfl rfl qI ?_)
  intro b8 hb8
  refine jL 3 ?_
  refine Cj.rounds 1 ?_
  refine Rj.succ ?_
  refine jL 2 ?_
  refine J.op rfl (vF 0 rfl rfl rfl rfl rfl ?_)
  refine AV [_, _] (QS (base := 0) [] none ⟨rfl, rfl⟩ (by decide) _) ?_
  rintro v9 I9 H9 hle9 ⟨ls, hpp, hpo, h, rfl⟩; cases h
  have hls := b1i hpp
  subst hls
  have hrun : Ix.yU L q (([] : List FW).map (·.2)) := a7V hform hS
  have hps := hps.mono hle9
  have hx := hx.mono hle9
  have hT := hT.mono hle9
  refine jL 16 ?_
  refine Cj.rounds 1 ?_
  refine Rj.succ ?_
  refine jL 6 ?_
  refine Cj.cond rfl (fun hc10 => Bool.noConfusion (Eq.trans (Eq.symm (by first | rfl | decide)) hc10)) (fun hc10 => ?_)
  refine kF ?_
  exact ⟨_, none, hrun, ⟨rfl, rfl⟩, rfl, rfl⟩
 have hml : sm.length ≤ 100000 := by
   have h9 := hm.len (l := L.map (·.1)) fun t ht => Ix.MW L _ q (Nat.lt_succ_self _) hform ht
   rw [List.length_map] at h9
   omega
 refine J.op rfl (vT (kv := jZ) (l := sm) rfl rfl rfl rfl qI (jV.BU hsb) ?_)
 intro b11 hb11
 refine jL 3 ?_
 refine Cj.keep (Keeps.k (Keeps.d Keeps.n)) ?_
 refine Cj.loop (ι := TF) (fun y => (y.vis ++ y.rest).Perm sm ∧ kZ w0.heap.size 3 (QI L y.vis).length ((QI L y.vis).flatMap vO) y.g) (fun y => y.rest.length) (fun y => [(0, xv), (6, gV (QI L y.vis).length y.g), (17, ptr b11 0)]) (fun y => _) (fun y => (b11, ET sb sk y.vis sk) :: gH 123 ((QI L y.vis).flatMap vO) y.g) ⟨[], sm, none⟩ ⟨.refl _, rfl, rfl⟩ ⟨rfl, rfl, rfl, trivial⟩ rfl rfl ?_
 rintro ⟨vis, rest, g⟩ ⟨hp, hg⟩
 dsimp only at hp hg ⊢
 have hpl0 := hp.length_eq
 rw [List.length_append] at hpl0
 have hfl := b6H L vis
 refine jL 2 ?_
 refine J.op rfl (xR (kv := jZ) (l := sm) 0 rfl rfl rfl rfl rfl (jV.BU hsb) hm.1.2.2 (Nat.le_refl _) hm.1.2.1 hp ?_ ?_)
 ·rintro x rest2 H9 hrx hpx ⟨-, hset⟩; simp only [List.set_cons_zero, List.set_cons_succ] at hset; subst hset
  have hxm : x ∈ sm := hpx.mem_iff.1 (List.mem_append_left _ (List.mem_append_right _ (.head _)))
  refine jL 10 ?_
  refine J.z (CP (kv := jZ) (l := sm) rfl rfl (jV.at 0 rfl) (jV.BU hsb) hxm hm.1.2.1) ?_
  refine jL 2 ?_
  intro b13 hb13
  refine jL 3 ?_
  refine Cj.qJ [0, 1] [] 9 (by kernel_rfl) ?_
  have hsb_7 := hsb
  refine kC (b3O xv L x.1 _ hx) ?_
  refine ⟨⟨(Le.refl _), (HSub.c 0 rfl (HSub.c 1 rfl HSub.n)), CSub.n⟩, ?_⟩
  refine JA.fix lG (fun fx15 => ?_)
  refine JA.tk 5 rfl fx15 (jX (pl := #[(0, 1), (1, 2)]) rfl rfl zeroValue123 rfl b8q (fun w => by simp [kX, kY]) (pU.part rfl rfl rfl (nV.c nV.z) (pU.part rfl rfl rfl (nV.s (nV.c (nV.c nV.z))) pU.none))) ?_
  refine q0 6 rfl (q6 a8T sizeOf123 zeroValue123 (xG.agg rfl xG.none) ?_)
  intro b16 hb16
  refine ⟨⟨(Le.refl _), (HSub.c 1 rfl (HSub.c 2 rfl HSub.n)), CSub.n⟩, ?_⟩
  refine q0 7 rfl (kK (by' := 31) [_, _, _] rfl rfl rfl rfl rfl a8T (.inr ⟨_, a8T⟩) (by kernel_rfl) sizeOf123 zeroValue123 rfl hg rfl (Src.slice (jV.at 0 rfl) rfl rfl rfl) (by omega) ?_)
  intro g17 hg17
  refine jL 4 ?_
  refine Ej.keep (Keeps.d (Keeps.d (Keeps.k Keeps.r))) ?_
  refine Ej.round ⟨vis ++ [x], rest2, g17⟩ ⟨hpx, by dsimp only; rw [XG, List.length_append, List.flatMap_append]; exact hg17⟩ (by have h := hrx.length_eq; simp only [List.length_cons] at h; dsimp only; omega) ⟨rfl, by dsimp only; rw [XG, List.length_append]; rfl, rfl, trivial⟩ rfl (by dsimp only; rw [XG, List.flatMap_append]; rfl)
 intro hend
 have hpv : vis.Perm sm := by rw [hend, List.append_nil] at hp; exact hp
 refine AV [_] (QS (QI L vis) g hg (by omega) _) ?_
 rintro v9 I9 H9 hle9 ⟨ls, hpp, hpo, h, rfl⟩; cases h
 have hll : (QI L vis).length = ls.length := hpp.length_eq.symm
 have hgl : kZ w0.heap.size 3 ls.length (ls.flatMap vO) g := by rw [← hll]; exact MF hg (by rw [lS qY, lS qY, hll])
 have hrun := a8z hform hm hpv hpp hpo
 have hps := hps.mono hle9
 have hx := hx.mono hle9
 have hT := hT.mono hle9
 have hsb := hle9 _ _ hsb
 refine jL 3 ?_
 refine Cj.perm (H' := gH 123 (ls.flatMap vO) g ++ [_]) List.perm_append_comm ?_
 refine Cj.keepR (f := vO) qY (by decide) hgl rfl (fun I8 hle8 hv => ?_)
 have hps := hps.mono hle8
 have hx := hx.mono hle8
 have hT := hT.mono hle8
 have hsb := hle8 _ _ hsb
 obtain ⟨pv, cv, hve⟩ := kS hv
 refine Cj.ev 6 (.slice pv ls.length cv) rfl (by rw [hll]; exact hve) ?_
 rw [hve] at hv
 refine jL 13 ?_
 refine Cj.keep (Keeps.d Keeps.n) ?_
 refine Cj.loop (ι := Nat × Gs) (fun y => y.1 ≤ ls.length ∧ kZ w0.heap.size 2 ((ls.take y.1).map (·.2)).length (((ls.take y.1).map (·.2)).flatMap recC) y.2) (fun y => ls.length - y.1) (fun y => [(8, gV ((ls.take y.1).map (·.2)).length y.2), (32, .slice pv ls.length cv), (33, i64 (ls.length : Int)), (34, i64 (y.1 : Int))]) (fun y => _) (fun y => gH 54 (((ls.take y.1).map (·.2)).flatMap recC) y.2) (0, none) ⟨Nat.zero_le _, rfl, rfl⟩ ⟨rfl, rfl, rfl, rfl, trivial⟩ rfl rfl ?_
 clear hg
 rintro ⟨j, g⟩ ⟨hj, hg⟩
 dsimp only at hj hg ⊢
 have hrl : ((ls.take j).map (·.2)).length = j := by rw [List.length_map, List.length_take]; omega
 refine jR (fun hc20 hc20p => ?_) (fun hc20 hc20p => ?_)
 ·have hlt : j < ls.length := by omega
  obtain ⟨x, hget⟩ : ∃ x, ls[j]? = some x := ⟨_, kV hlt⟩
  obtain ⟨p1, c1, hpe, hc1, hp1⟩ := id hv
  cases hpe
  obtain ⟨fb, fo, fcs, fty, ffr, fsp, rfl, hfb, hfd⟩ := hp1 (jS hlt)
  refine kG (fo + j * 3) ?_
  refine J.z (q3 isAgg123 sizeOf123 (jV.BU hfb) (kQ qY hfd hget)) ?_
  refine jL 1 ?_
  intro b21 hb21
  refine jL 8 ?_
  intro b22 hb22
  refine yR 15 [_, _] hg ?_
  intro g23 hg23
  refine jL 8 ?_
  refine Ej.keep (Keeps.d (Keeps.d Keeps.r)) ?_
  refine Ej.round (j + 1, g23) ⟨by dsimp only; omega, by dsimp only; rw [YF hget, List.length_append, List.flatMap_append]; exact hg23⟩ (by dsimp only; omega) ⟨by dsimp only; rw [YF hget, List.length_append]; rfl, rfl, rfl, rfl, trivial⟩ rfl (by dsimp only; rw [YF hget, List.flatMap_append]; rfl)
 refine jL 13 ?_
 rw [List.take_of_length_le (by omega : ls.length ≤ j)] at hg ⊢
 refine jW ?_
 exact ⟨_, g, hrun, zU hg, rfl, rfl⟩
theorem b6N xv (L : Ix.Ix) q p c (hsz : q.size ≤ 1000000000) (hwd : q.wide ≤ 10000000) (hR : Cq.right q = false) I (hps : PS I q.ps p) : Pure Tryz.prog 18 [xv, .agg (kP q p c).toArray] I (.tuple #[.slice none 0 0, i64 1]) := by
 refine jO.toPure ?_
 refine jT func18 fun w0 hw0 => ?_
 refine jL 3 ?_
 intro b1 hb1
 refine kC (a1W q p c hsz (by omega) _ hps) ?_
 refine J.ev 12 (.bool false) rfl (congrArg Value.bool hR) ?_
 refine kF ?_
 exact ⟨rfl, rfl⟩
theorem IU xv L q p c (hsz : q.size ≤ 1000000000) (hwd : q.wide ≤ 10000000) (hR : Cq.right q = true) (htk : Ix.TOK L) I (hps : PS I q.ps p) (hx : wQ I xv L) (hT : uD I) : jO Tryz.prog 18 [xv, .agg (kP q p c).toArray] I []
    (fun e _ H' => ∃ (w : Value) (r : List Ix.Rec), e = .returned (.tuple #[w, i64 0]) ∧ Ix.yU L q r ∧ tJ r w H') :=
  (b6e xv L q p c hsz hwd hR htk I hps hx hT).mono fun _ _ _ _ ⟨r, g, h1, h2, h3, h4⟩ => ⟨_, r, h3, h1, by rw [h4]; exact KJ rfl h2⟩
end Go.Proofs.YtekmeaoblpfnpaaGreatDoor
end
section
namespace Go.Proofs.YtekmeaoblpfnpaaGreatDoor
open _root_.Go.Proofs.Tryz
open Go Go.Sx
theorem b3v {ps : List Ke.Sub} {i : Nat} {x} (h : ps[i]? = some x) : (ps.map (·.code))[i]? = some x.code := by rw [List.getElem?_map, h]; rfl
theorem b3D {ps : List Ke.Sub} {i : Nat} {x} (h : ps[i]? = some x) : (ps.map (·.text))[i]? = some x.text := by rw [List.getElem?_map, h]; rfl
theorem b2R {I k qa qb pa pb ca cb bl T} (ha : PS I qa.ps pa) (hb : PS I qb.ps pb) (h : I bl = some (jM T (kP qa pa ca ++ (kP qb pb cb ++ [])))) : PS I (Ix.BQ k qa qb).ps (some ⟨bl, 0, none⟩) := PS.two ha hb h
theorem IE tag ind ps v (hps : ps.length ≤ 1000) I (hv : mZ I (ps.map (·.text)) v) : jO Tryz.prog 49 [str tag, str ind, str (ps.map (·.code)), v] I [] (fun e I' H' => ∃ w, e = .returned (.agg (nY ⟨tag, ind, [], w, ps⟩).toArray) ∧ jU uT I' ps w ∧ H' = []) := by
 obtain ⟨p, c, rfl, hc, hp⟩ := hv
 have hpl : (ps.map (·.text)).length = ps.length := List.length_map _
 refine jT func49 fun w0 hw0 => ?_
 refine jL 3 ?_
 intro b1 hb1
 refine J.wY (J.z q1 ?_)
 refine J.z q1 ?_
 refine J.z (jX (pl := #[(0, 1), (1, 1), (2, 1), (3, 1)]) rfl rfl PG rfl underlying108 (fun w => by simp [sizeOf106, kY]) (pU.part rfl rfl rfl (nV.c nV.z) (pU.part rfl rfl rfl (nV.s (nV.c nV.z)) pU.none))) ?_
 refine J.op rfl (vJ rfl rfl rfl PG rfl ?_)
 intro b2 hb2
 refine J.op rfl (q5 0 DW (nV.c (nV.c (nV.c (nV.c nV.z)))) lF.z ?_)
 refine J.a9j (Cj.region (J.as ?_))
 refine J.ns (Cj.block ?_)
 refine Cj.loop (ι := Nat × Gs) (fun y => y.1 ≤ ps.length ∧ kZ w0.heap.size 2 (ps.take y.1).length ((ps.take y.1).flatMap uT) y.2) (fun y => ps.length - y.1) (fun y => [(2, str (ps.map (·.code))), (3, .slice p (ps.map (·.text)).length c), (8, ptr b1 0), (9, ptr b2 0), (10, i64 (y.1 : Int))]) (fun y => _) (fun y => (b2, jM 108 [str tag, str ind, str [], gV (ps.take y.1).length y.2]) :: (b1, jM 108 [str [], str [], str [], .slice none 0 0]) :: gH 176 ((ps.take y.1).flatMap uT) y.2) (0, none) ⟨Nat.zero_le _, rfl, rfl⟩ ⟨rfl, rfl, rfl, rfl, rfl, trivial⟩ rfl rfl ?_
 rintro ⟨i, g⟩ ⟨hi, hg⟩
 dsimp only at hi hg ⊢
 have hsl : (ps.take i).length = i := by rw [List.length_take]; omega
 refine jR (fun hc3 hc3p => ?_) (fun hc3 hc3p => ?_)
 ·refine jL 4 ?_
  have hlt : i < ps.length := by omega
  obtain ⟨x, hsget⟩ : ∃ x, ps[i]? = some x := ⟨_, kV hlt⟩
  have hsl1 : (ps.take (i + 1)).length = (ps.take i).length + 1 := by rw [List.length_take, List.length_take]; omega
  obtain ⟨lb, lo, lcs, lty, lfr, sp, rfl, hlb, hld⟩ := hp (jS (k := i) (by omega))
  refine Cj.qJ [0, 1] [] 13 (by kernel_rfl) ?_
  refine jL 4 ?_
  refine JA.zt 4 rfl (lD rfl rfl rfl lJ (by omega) (b3v hsget)) ?_
  refine kG (lo + i) ?_
  refine JA.zt 8 rfl (jP rfl rfl lN (jV.BN hlb) (qM hld (b3D hsget))) ?_
  refine JA.fix lG (fun fx4 => ?_)
  refine JA.tk 9 rfl fx4 (jX (pl := #[(0, 1), (1, 1)]) rfl rfl VH rfl NT (fun w => by simp [ZY, kY]) (pU.part rfl rfl rfl (nV.c nV.z) (pU.part rfl rfl rfl (nV.s (nV.c nV.z)) pU.none))) ?_
  refine q0 10 rfl (q6 KT KX VH (xG.agg rfl xG.none) ?_)
  intro b5 hb5
  refine ⟨⟨(Le.refl _), (HSub.c 1 rfl (HSub.c 2 rfl HSub.n)), CSub.n⟩, ?_⟩
  refine q0 11 rfl (kK (by' := 23) [_, _, _] rfl rfl rfl rfl rfl KT (.inr ⟨_, KT⟩) (by kernel_rfl) KX VH rfl hg rfl (Src.slice (jV.at 0 rfl) rfl rfl rfl) (by omega) ?_)
  intro g6 hg6
  refine ⟨⟨(Le.refl _), (HSub.c 1 rfl (HSub.c 2 rfl HSub.n)), CSub.n⟩, ?_⟩
  refine JA.fix lG (fun fx7 => ?_)
  refine JA.tk 12 rfl fx7 (q2 (off' := 3) underlying108 sizeOf106) ?_
  refine JA.last 13 (by kernel_rfl) rfl rfl rfl (nS 1 rfl rfl rfl rfl (OQ _ _) (a4X _ _) sizeOf106 rfl rfl (nV.s (nV.s (nV.s (nV.c nV.z)))) (lF.s lF.z) ?_)
  refine jL 8 ?_
  refine Ej.keep (Keeps.d (Keeps.k (Keeps.k Keeps.r))) ?_
  refine Ej.round (i + 1, g6) ⟨by dsimp only; omega, by dsimp only; rw [hsl1, JR uT hsget]; exact hg6⟩ (by dsimp only; omega) ⟨rfl, rfl, rfl, rfl, rfl, trivial⟩ rfl (by dsimp only; rw [hsl1, JR uT hsget]; rfl)
 refine jL 8 ?_
 refine J.op rfl (nS 1 rfl rfl rfl rfl rfl (by show [str tag, str ind, str [], gV _ _].all Value.oneCell' = true; simp only [List.all_cons, List.all_nil, VF, Bool.and_true]; rfl) DW rfl rfl (nV.c (nV.c (nV.c (nV.c nV.z)))) (lF.s lF.z) ?_)
 refine jL 3 ?_
 have hfull : ps.take i = ps := List.take_of_length_le (by omega)
 rw [hfull] at hg ⊢
 refine Ej.perm (H' := gH _ _ _ ++ [_, _]) List.perm_append_comm ?_
 refine Ej.keepR qO (by decide) hg rfl (fun I9 hle9 hfs => ?_)
 refine Ej.a0G (Keeps.d (Keeps.d Keeps.n)) rfl rfl rfl (jV.at 1 rfl) isAgg108 DW rfl ?_
 exact ⟨_, rfl, hfs, rfl⟩
theorem DF i r t I : jO Tryz.prog 23 [str i, str r, str t] I [] (fun e _ H' => e = .returned (.agg (kP (Ix.a0f i r t) none 0).toArray) ∧ H' = []) := by
 refine jT func23 fun w0 hw0 => ?_
 refine jL 3 ?_
 intro b1 hb1
 refine J.wY (J.z q1 ?_)
 refine J.z q1 ?_
 refine J.z q1 ?_
 refine J.z (jX (pl := #[(0, 1), (1, 1), (2, 1), (3, 1), (4, 1)]) rfl rfl yK rfl tU32 (fun w => by simp [oJ, yO, kY]) (pU.part rfl rfl rfl (nV.c nV.z) (pU.part rfl rfl rfl (nV.s (nV.c nV.z)) (pU.part rfl rfl rfl (nV.s (nV.s (nV.c nV.z))) (pU.part rfl rfl rfl (nV.s (nV.s (nV.s (nV.c nV.z)))) pU.none))))) ?_
 refine J.op rfl (q5 0 lU (nV.c (nV.c (nV.c (nV.c (nV.c nV.z))))) lF.z ?_)
 refine J.ns (Cj.ret ?_)
 refine Ej.a0G (Keeps.d Keeps.n) rfl rfl rfl (jV.at 0 rfl) nZ lU rfl ?_
 exact ⟨rfl, rfl⟩
theorem both_ok k qa qb pa pb ca cb I (ha : PS I qa.ps pa) (hb : PS I qb.ps pb) : jO Tryz.prog 35 [i64 k, .agg (kP qa pa ca).toArray, .agg (kP qb pb cb).toArray] I [] (fun e I' H' => (∃ p c, e = .returned (.agg (kP (Ix.BQ k qa qb) p c).toArray) ∧ PS I' (Ix.BQ k qa qb).ps p) ∧ H' = []) := by
 refine jT func35 fun w0 hw0 => ?_
 refine jL 3 ?_
 intro b1 hb1
 refine jL 1 ?_
 intro b2 hb2
 refine jL 1 ?_
 intro b3 hb3
 refine jL 8 ?_
 intro b4 hb4
 refine J.persist hb4 (fun I6 hle5 hb4i => ?_)
 have ha := ha.mono hle5
 have hb := hb.mono hle5
 refine J.z (jX (pl := #[(0, 1), (1, 1), (2, 1), (3, 1), (4, 1)]) rfl rfl yK rfl tU32 (fun w => by simp [oJ, yO, kY]) (pU.part rfl rfl rfl (nV.c nV.z) (pU.part rfl rfl rfl (nV.s (nV.s (nV.s (nV.s (nV.c nV.z))))) pU.none))) ?_
 refine J.op rfl (q5 0 lU (nV.c (nV.c (nV.c (nV.c (nV.c nV.z))))) lF.z ?_)
 refine J.ns (Cj.ret ?_)
 refine Ej.a0G (Keeps.d (Keeps.d (Keeps.d Keeps.n))) rfl rfl rfl (jV.at 0 rfl) nZ lU rfl ?_
 exact ⟨⟨_, _, rfl, b2R (ca := ca) (cb := cb) ha hb hb4i⟩, rfl⟩
theorem WG I : jO Tryz.prog 65 [] I [] (fun e I' H' => (∃ v, e = .returned v ∧ qV 9 I' Cq.indexes v) ∧ H' = []) := by
 refine jT func65 fun w0 hw0 => ?_
 refine jL 8 ?_
 intro b1 hb1
 refine jL 4 ?_
 refine Ej.persist hb1 (fun I3 hle2 hb1i => ?_)
 refine jW ?_
 exact ⟨⟨_, rfl, b1, 6, [], rfl, hb1i⟩, rfl⟩
theorem FD I : jO Tryz.prog 66 [] I [] (fun e I' H' => (∃ v, e = .returned v ∧ qV 9 I' Cq.relations v) ∧ H' = []) := by
 refine jT func66 fun w0 hw0 => ?_
 refine jL 8 ?_
 intro b1 hb1
 refine jL 4 ?_
 refine Ej.persist hb1 (fun I3 hle2 hb1i => ?_)
 refine jW ?_
 exact ⟨⟨_, rfl, b1, 6, [], rfl, hb1i⟩, rfl⟩
theorem b8w {L a} (h : a.drop = true) : Ix.act L a = Ix.yV a.title L := if_pos h
theorem b8o {L a} (h : a.drop = false) : Ix.act L a = Ix.sU a.title a.vs L := if_neg (by rw [h]; decide)
theorem b6Z L a : (Ix.act L a).length ≤ L.length + 1 := by
  unfold Ix.act
  split
  · exact Nat.le_succ_of_le (List.length_filter_le _ _)
  exact PU _ _ _
theorem QU : ∀ (l : List Ix.qW) (L : Ix.Ix), (l.foldl Ix.act L).length ≤ L.length + l.length
  | [], _ => Nat.le_refl _
  | a :: r, L => by
    have h1 := QU r (Ix.act L a)
    have h2 := b6Z L a
    rw [List.foldl_cons, List.length_cons]; omega
theorem b3M xs : ((acts xs).foldl Ix.act []).length ≤ xs.length := by
  have := QU (acts xs) []
  rw [List.length_map, List.length_nil] at this; omega
theorem a7I {xs k} (hk : k ≤ xs.length) (h : k ≤ 20 ∧ (xs.length ≤ k ∨ 20 ≤ k)) : (acts (xs.take k)).foldl Ix.act [] = Ix.play (acts xs) := by
  rw [EO hk h, TI]; rfl
theorem b2Q xs : (Ix.play (acts xs)).length ≤ 20 := by
  have := QU ((acts xs).take 20) []
  rw [List.length_take, List.length_nil] at this
  unfold Ix.play; omega
theorem b2O xs v (hao : ZG xs) I (hA0 : OB I xs v) : jO Tryz.prog 15 [v] I [] (fun ev I' H' => ∃ ib o rb es w, ev = .returned (.tuple #[ptr ib 0, ptr rb 0]) ∧ vI I' o (Ix.play (acts xs)) ∧ nO I' es w ∧ es.map jQ = Ix.play (acts xs) ∧ (∀ e ∈ es, yE e.fs) ∧ es.length ≤ 20 ∧ H' = (rb, jM 50 [w]) :: yF ib o) := by
 obtain ⟨p, c, rfl⟩ := jU.len hA0.1
 refine jT func15 fun w0 hw0 => ?_
 refine jL 8 ?_
 refine J.z (jX (pl := #[(0, 1), (1, 1), (2, 1)]) rfl rfl zeroValue114 rfl JW (fun w => by simp [FQ, GV]) pU.none) ?_
 refine jL 1 ?_
 intro b1 hb1
 refine jL 10 ?_
 refine Cj.loop (ι := Nat × Heap × Option Ist) (fun y => y.1 ≤ xs.length ∧ y.1 ≤ 20 ∧ Le I y.2.1 ∧ vI y.2.1 y.2.2 ((acts (xs.take y.1)).foldl Ix.act [])) (fun y => 20 - y.1) (fun y => [(0, .slice p xs.length c), (4, ptr b1 0), (5, i64 (y.1 : Int))]) (fun y => y.2.1) (fun y => yF b1 y.2.2) (0, _, none) ⟨Nat.zero_le _, Nat.zero_le _, Le.refl _, rfl⟩ ⟨rfl, rfl, rfl, trivial⟩ rfl rfl ?_
 rintro ⟨k, Jh, o⟩ ⟨hk, hk20, hIJ, hok⟩
 dsimp only at hk hk20 hIJ hok ⊢
 have hA := hA0.mono hIJ
 have hll := b3M (xs.take k)
 rw [List.length_take, Nat.min_eq_left hk] at hll
 refine mP (fun hg2 hg2p => ?_) (fun hg2 hg2p => ?_)
 ·refine jR (fun hc3 hc3p => ?_) (fun hc3 hc3p => ?_)
  ·refine jL 5 ?_
   have hIJ9 := hIJ
   have hlt : k < xs.length := by omega
   have hlt2 : k < 20 := by omega
   obtain ⟨x, hget⟩ : ∃ x, xs[k]? = some x := ⟨_, kV hlt⟩
   have hxm := lV hget
   obtain ⟨p1, c1, hpe, hc1, hp⟩ := id hA.1
   cases hpe
   obtain ⟨ab, ao, acs, aty, afr, asp, rfl, hab, had⟩ := hp (jS hlt)
   have hfv := hA.2 x hxm
   obtain ⟨vp, vc, hxv⟩ := jU.len hfv
   have hnx : acts (xs.take (k + 1)) = acts (xs.take k) ++ [x.a] := zV _ hget
   refine kG (ao + k * 4) ?_
   refine jL 1 ?_
   refine J.z (jP rfl rfl tA4 (jV.BU hab) (lK zT had hget 0 (by decide))) ?_
   refine mQ (fun hc4 => ?_) (fun hc4 => ?_)
   ·have hdr : x.a.drop = true := hc4
    refine kG (ao + k * 4) ?_
    refine J.z (q3 isAgg93 sizeOf93 (jV.BU hab) (kQ zT had hget)) ?_
    refine kH (JI x (hao x hxm) _ hfv) ?_
    intro v5 I6 H7 hle8 hp9
    have hIJ := hIJ.mono hle8
    have hA := hA.mono hle8
    have hok := hok.mono hle8
    have hab := hle8 _ _ hab
    have hfv := hfv.mono hle8
    obtain ⟨e0, h, he0, rfl⟩ := hp9; cases h
    refine J.z (a2E (v := jZ e0.t) rfl rfl (fun _ => by kernel_rfl)) ?_
    refine AV [] (a6U b1 o _ e0.t _ hok) ?_
    intro v10 I11 H12 hle13 hp14
    have hIJ := hIJ.mono hle13
    have hA := hA.mono hle13
    have hok := hok.mono hle13
    have hab := hle13 _ _ hab
    have hfv := hfv.mono hle13
    have he0 := he0.mono hle13
    obtain ⟨o1, h, hok1, rfl⟩ := hp14; cases h
    refine jL 8 ?_
    refine Ej.round (k + 1, _, o1) ⟨by dsimp only; omega, by dsimp only; omega, hIJ, by dsimp only; rw [hnx, List.foldl_append]; rw [he0.t] at hok1; show vI _ _ (Ix.act _ x.a); rw [b8w hdr]; exact hok1⟩ (by dsimp only; omega) ⟨rfl, rfl, rfl, trivial⟩ rfl rfl
   have hdr : x.a.drop = false := hc4
   refine kG (ao + k * 4) ?_
   refine J.z (q3 isAgg93 sizeOf93 (jV.BU hab) (kQ zT had hget)) ?_
   refine kH (JI x (hao x hxm) _ hfv) ?_
   intro v15 I16 H17 hle18 hp19
   have hIJ := hIJ.mono hle18
   have hA := hA.mono hle18
   have hok := hok.mono hle18
   have hab := hle18 _ _ hab
   have hfv := hfv.mono hle18
   obtain ⟨e0, h, he0, rfl⟩ := hp19; cases h
   refine AV [] (b0b b1 o _ e0 _ hok (by omega) he0.IV he0.r) ?_
   intro v20 I21 H22 hle23 hp24
   have hIJ := hIJ.mono hle23
   have hA := hA.mono hle23
   have hok := hok.mono hle23
   have hab := hle23 _ _ hab
   have hfv := hfv.mono hle23
   have he0 := he0.mono hle23
   obtain ⟨o1, h, hok1, rfl⟩ := hp24; cases h
   refine jL 8 ?_
   refine Ej.round (k + 1, _, o1) ⟨by dsimp only; omega, by dsimp only; omega, hIJ, by dsimp only; rw [hnx, List.foldl_append]; rw [he0.t, he0.vals] at hok1; show vI _ _ (Ix.act _ x.a); rw [b8o hdr]; exact hok1⟩ (by dsimp only; omega) ⟨rfl, rfl, rfl, trivial⟩ rfl rfl
  refine jL 6 ?_
  have hpl := a7I hk (by omega)
  rw [hpl] at hok
  refine kH (a5S xs _ hao _ hA) ?_
  intro v25 I26 H27 hle28 hp29
  have hIJ := hIJ.mono hle28
  have hA := hA.mono hle28
  have hok := hok.mono hle28
  obtain ⟨rb, es, w, h, hE, hL, hek, hel, rfl⟩ := hp29; cases h
  refine jW ?_
  exact ⟨b1, o, rb, es, w, rfl, hok, hE, hL, hek, by omega, rfl⟩
 refine jL 12 ?_
 have hpl := a7I hk (by omega)
 rw [hpl] at hok
 refine kH (a5S xs _ hao _ hA) ?_
 intro v31 I32 H33 hle34 hp35
 have hIJ := hIJ.mono hle34
 have hA := hA.mono hle34
 have hok := hok.mono hle34
 obtain ⟨rb, es, w, h, hE, hL, hek, hel, rfl⟩ := hp35; cases h
 refine jW ?_
 exact ⟨b1, o, rb, es, w, rfl, hok, hE, hL, hek, by omega, rfl⟩
end Go.Proofs.YtekmeaoblpfnpaaGreatDoor
end
namespace Go.Sx
open Go
structure Fact where
  p : Value → Heap → Prop
  m : ∀ v I I', p v I → Le I I' → p v I'
def Fact.is (v0 : Value) : Fact := ⟨fun v _ => v = v0, fun _ _ _ h _ => h⟩
theorem a1K {α : Type} {p q} : ∀ {l : List α} {i : α}, (∀ x ∈ l, q x = true → p x = true) → i ∈ l → p i = true → q i = false → l.countP q < l.countP p
  | [], _, _, h, _, _ => by cases h
  | a :: r, i, hs, hi, hp, hq => by
    have hs' : ∀ x ∈ r, q x = true → p x = true := fun x hx => hs x (.tail _ hx)
    have hle : r.countP q ≤ r.countP p := List.countP_mono_left hs'
    rw [List.countP_cons, List.countP_cons]
    by_cases ha : a = i
    · subst ha; rw [hp, hq]; simp; omega
    have hr : i ∈ r := by
      rcases List.mem_cons.1 hi with g | g
      · exact absurd g.symm ha
      exact g
    have := a1K hs' hr hp hq
    have h2 := hs a (.head _)
    cases hqa : q a with
    | false => simp; omega
    | true => rw [h2 hqa]; simp; omega
theorem lX.mono {cx Q o e I H C C'} (h : lX cx Q o e I H C) (hc : ∀ e' I' H', C e' I' H' → C' e' I' H') : lX cx Q o e I H C' :=
  fun K hK a w ha hs => h K (fun e' I' H' h1 => hK e' I' H' (hc e' I' H' h1)) a w ha hs
def waitsFor (l : List Oper) (k j : Nat) : Bool := match l[k]? with
  | none => false
  | some o => o.after.any fun ed => Region.binds .any ed && ed.on == j
def backwards (l : List Oper) : Bool := (List.range l.length).all fun k => match l[k]? with
  | none => true
  | some o => o.after.all fun ed => !Region.binds .any ed || Nat.blt ed.on k
def YB (l : List Oper) : List Nat := l.filterMap (·.dst)
def a5c (l : List Oper) : Bool := l.all (·.dst.isSome) && decide (YB l).Nodup
theorem a6V : ∀ {l : List Oper}, (∀ o ∈ l, o.dst.isSome = true) → (YB l).Nodup → ∀ {j k : Nat} {oj ok : Oper} {d : Nat}, l[j]? = some oj → l[k]? = some ok → oj.dst = some d → ok.dst = some d → j = k
  | [], _, _, j, _, _, _, _, h, _, _, _ => by simp at h
  | a :: r, hs, hn, j, k, oj, ok, d, hj, hk, h1, h2 => by
    obtain ⟨x, hx⟩ := Option.isSome_iff_exists.1 (hs a (.head _))
    have hc : YB (a :: r) = x :: YB r := by unfold YB; rw [List.filterMap_cons, hx]
    rw [hc, List.nodup_cons] at hn
    have hs' : ∀ o ∈ r, o.dst.isSome = true := fun o ho => hs o (.tail _ ho)
    have hin : ∀ {i : Nat} {o : Oper}, r[i]? = some o → o.dst = some x → False := fun {i o} hi ho => hn.1 (List.mem_filterMap.2 ⟨o, List.mem_of_getElem? hi, ho⟩)
    match j, k with
    | 0, 0 => rfl
    | 0, k + 1 =>
      cases hj
      rw [List.getElem?_cons_succ] at hk
      exact absurd (by rw [h2, ← h1, hx]) fun g => hin hk g
    | j + 1, 0 =>
      cases hk
      rw [List.getElem?_cons_succ] at hj
      exact absurd (by rw [h1, ← h2, hx]) fun g => hin hj g
    | j + 1, k + 1 =>
      rw [List.getElem?_cons_succ] at hj hk
      rw [a6V hs' hn.2 hj hk h1 h2]
section
variable {cx:Cx} {Q:Qt} {l:List Oper} {I1:Heap} {H:HL} {e0:Env}
def Base (l : List Oper) (e0 e : Env) : Prop := ∀ t, t ∉ YB l → eg e t = eg e0 t
def b4X (cx : Cx) (l : List Oper) (F : Nat → Fact) (k d : Nat) (e : Env) (I : Heap) (H : HL) : Ct := fun e' I' H' =>
  ∃ v K, e' = (d, v) :: e ∧ H' = K ++ H ∧ (∀ p ∈ K, cx.w0.heap.size ≤ p.1) ∧ Le I I' ∧ ∀ I'', Le I' I'' → (∀ p ∈ K, I'' p.1 = some p.2) → (F k).p v I''
def Known (l : List Oper) (F : Nat → Fact) (e : Env) (I : Heap) (j : Nat) : Prop := ∀ oj dj, l[j]? = some oj → oj.dst = some dj → ∃ v, eg e dj = some v ∧ (F j).p v I
theorem JA.b8m F (hb : backwards l = true) (hd : a5c l = true)
    (step : ∀ k o d, l[k]? = some o → o.dst = some d → ∀ e I, Le I1 I → Base l e0 e → (∀ j, waitsFor l k j = true → Known l F e I j) → o.guard = none ∧ lX cx Q o e I H (b4X cx l F k d e I H))
    (fin : ∀ e I, Le I1 I → Base l e0 e → (∀ k, Known l F e I k) → Ej cx Q .normal e I H) :
    ∀ (fuel : Nat) (listed : Array Bool) (e : Env) (I : Heap), listed.size = l.length → (List.range l.length).countP (fun i => !listed.getD i true) ≤ fuel → Le I1 I → Base l e0 e →
      (∀ k, listed.getD k false = true → Known l F e I k) → JA cx Q l I1 [] [] l.length fuel listed e I H := by
  have hds := hd
  unfold a5c at hds
  rw [Bool.and_eq_true, List.all_eq_true, decide_eq_true_eq] at hds
  have hall : ∀ (listed : Array Bool) (e : Env) (I : Heap), listed.size = l.length → Region.ready .any l.toArray listed = [] → (∀ k, listed.getD k false = true → Known l F e I k) → ∀ k, Known l F e I k := by
    intro listed e I hsz hr hk k
    have hL : ∀ k, k < l.length → listed.getD k false = true := by
      intro k
      induction k using Nat.strongRecOn with
      | ind k ih =>
        intro hk
        refine Classical.byContradiction fun hn => ?_
        have hlt : k < listed.size := by omega
        have h1 : listed.getD k true = false := by
          rw [Array.getD, dif_pos hlt] at hn ⊢
          simpa using hn
        have h2 : k ∈ Region.ready .any l.toArray listed := by
          rw [mem_ready]
          refine ⟨h1, l[k], by simp [hk], fun ed hed hbd => ?_⟩
          have h3 := List.all_eq_true.1 hb k (List.mem_range.2 hk)
          rw [List.getElem?_eq_getElem hk] at h3
          have h4 := Array.all_eq_true_iff_forall_mem.1 h3 ed hed
          rw [hbd] at h4
          have h5 : ed.on < k := Nat.le_of_ble_eq_true (by simpa [Nat.blt] using h4)
          exact ih ed.on h5 (by omega)
        rw [hr] at h2; cases h2
    rcases Nat.lt_or_ge k l.length with g | g
    · exact hk k (hL k g)
    intro oj dj hj _
    rw [List.getElem?_eq_none g] at hj; cases hj
  intro fuel
  induction fuel with
  | zero =>
    intro listed e I hsz hc hle hba hk
    have hr : Region.ready .any l.toArray listed = [] := by
      refine List.eq_nil_iff_forall_not_mem.2 fun i hi => ?_
      obtain ⟨h1, o, h2, _⟩ := mem_ready.1 hi
      have h3 : i < l.length := by
        rcases Nat.lt_or_ge i l.length with g | g
        · exact g
        simp [List.getElem?_eq_none g] at h2
      have h4 : 0 < (List.range l.length).countP (fun i => !listed.getD i true) := List.countP_pos_iff.2 ⟨i, List.mem_range.2 h3, by rw [h1]; rfl⟩
      omega
    exact JA.done hr (fin e I hle hba (hall listed e I hsz hr hk))
  | succ fuel ih =>
    intro listed e I hsz hc hle hba hk
    by_cases hr : Region.ready .any l.toArray listed = []
    · exact JA.done hr (fin e I hle hba (hall listed e I hsz hr hk))
    refine JA.all _ rfl hr fun i hi => ?_
    obtain ⟨h1, o, h2, h3⟩ := mem_ready.1 hi
    have h2' : l[i]? = some o := by simpa using h2
    have hil : i < l.length := (List.getElem?_eq_some_iff.1 h2').1
    obtain ⟨d, hod⟩ := Option.isSome_iff_exists.1 (hds.1 o (List.mem_of_getElem? h2'))
    have hst := step i o d h2' hod e I hle hba fun j hj => by
      unfold waitsFor at hj
      rw [h2'] at hj
      obtain ⟨ed, hed, hp⟩ := Array.any_eq_true'.1 hj
      rw [Bool.and_eq_true, beq_iff_eq] at hp
      rw [← hp.2]
      exact hk _ (h3 ed hed hp.1)
    refine ⟨o, h2, hst.1, hst.2.mono ?_⟩
    rintro e' I' H' ⟨v, K, rfl, rfl, hK, hle', hF⟩
    refine ⟨⟨hle.trans hle', trivial, trivial⟩, ?_⟩
    refine TS (X := fun I H => JA cx Q l I1 [] [] l.length fuel (listed.setIfInBounds i true) ((d, v) :: e) I H) (base := cx.w0.heap.size) (fun _ _ _ _ hb k => JA.persist hb k) K I' hK fun I'' hle'' hKI => ?_
    have hdm : d ∈ YB l := List.mem_filterMap.2 ⟨o, List.mem_of_getElem? h2', hod⟩
    refine ih _ _ _ (by simpa using hsz) ?_ ((hle.trans hle').trans hle'') (fun t ht => ?_) fun k hkl => ?_
    · have hlt := a1K (l := List.range l.length) (p := fun i => !listed.getD i true) (q := fun j => !(listed.setIfInBounds i true).getD j true) (i := i) (fun x _ hx => ?_) (List.mem_range.2 hil) (by rw [h1]; rfl) ?_
      · omega
      · by_cases hxi : i = x
        · subst hxi; rw [h1]; rfl
        rwa [getD_set_ne true hxi] at hx
      have : i < (listed.setIfInBounds i true).size := by rw [Array.size_setIfInBounds]; omega
      rw [Array.getD, dif_pos this]
      simp
    · have hne : Nat.beq d t = false := by
        refine Bool.eq_false_iff.2 fun g => ht ?_
        rw [← Nat.eq_of_beq_eq_true g]; exact hdm
      show (bif Nat.beq d t then some v else eg e t) = _
      rw [hne]; exact hba t ht
    by_cases hki : i = k
    · subst hki
      intro oj dj hj hdj
      rw [h2'] at hj; cases hj
      rw [hod] at hdj; cases hdj
      refine ⟨v, ?_, hF I'' hle'' hKI⟩
      show (bif Nat.beq d d then some v else eg e d) = _
      rw [Nat.beq_refl]; rfl
    rw [getD_set_ne false hki] at hkl
    intro oj dj hj hdj
    obtain ⟨u, hu, hp⟩ := hk k hkl oj dj hj hdj
    refine ⟨u, ?_, (F k).m _ _ _ hp (hle'.trans hle'')⟩
    have hne : Nat.beq d dj = false := by
      refine Bool.eq_false_iff.2 fun g => hki ?_
      have := Nat.eq_of_beq_eq_true g
      subst this
      exact a6V hds.1 hds.2 h2' hj hod hdj
    show (bif Nat.beq d dj then some v else eg e dj) = _
    rw [hne]; exact hu
theorem Cj.flow {id} F (hm : cx.P.follows .mixedOrders = true) (hb : backwards l = true) (hd : a5c l = true)
    (step : ∀ k o d, l[k]? = some o → o.dst = some d → ∀ e I, Le I1 I → Base l e0 e → (∀ j, waitsFor l k j = true → Known l F e I j) → o.guard = none ∧ lX cx Q o e I H (b4X cx l F k d e I H))
    (fin : ∀ e I, Le I1 I → Base l e0 e → (∀ k, Known l F e I k) → Ej cx Q .normal e I H)
    (hnd : cx.rd = none ∨ (LY l.toArray = true ∧ ¬ LetsOut Q) := by first | exact .inl rfl | exact .inr ⟨rfl, fun h => h.elim fun _ h => h.elim fun _ h => h⟩) : Cj cx Q (.region id l.toArray true) e0 I1 H := by
  refine Cj.draw [] [] l.length hm (JA.b8m F hb hd step fin _ _ _ _ (by simp) ?_ (Le.refl _) (fun _ _ => rfl) fun k hk => ?_) hnd
  · exact Nat.le_trans List.countP_le_length (by simp)
  rw [Array.getD] at hk
  split at hk
  · simp at hk
  cases hk
end
end Go.Sx
section
namespace Go.Proofs.YtekmeaoblpfnpaaGreatDoor
open _root_.Go.Proofs.Tryz
open Go Go.Sx
def ss2 : List Ke.Sub := [⟨97, [84, 104, 101, 32, 115, 101, 97, 32, 58]⟩, ⟨98, [97, 32, 115, 116, 111, 114, 121]⟩]
def ff2 (w : Value) : Ke.tC := ⟨[50, 52, 53], [49, 52], [], w, ss2⟩
def ss4 : List Ke.Sub := [⟨97, [48, 45, 51, 48, 54, 45, 52, 48, 54, 49, 53, 45, 50]⟩]
def ff4 (w : Value) : Ke.tC := ⟨[48, 50, 48], [32, 32], [], w, ss4⟩
def ss6 : List Ke.Sub := [⟨99, [99, 49, 57, 57, 57, 46]⟩]
def ff6 (w : Value) : Ke.tC := ⟨[50, 54, 48], [32, 32], [], w, ss6⟩
def a4S : List Ke.Sub := [⟨97, [83, 101, 97, 32, 115, 116, 111, 114, 105, 101, 115]⟩]
def b3y (w : Value) : Ke.tC := ⟨[50, 52, 53], [49, 48], [], w, a4S⟩
def a4i : List Ke.Sub := [⟨97, [87, 111, 111, 108, 102, 44, 32, 86, 105, 114, 103, 105, 110, 105, 97]⟩]
def b4m (w : Value) : Ke.tC := ⟨[49, 48, 48], [49, 32], [], w, a4i⟩
def a3A : List Ke.Sub := [⟨97, [83, 101, 97]⟩, ⟨120, [72, 105, 115, 116, 111, 114, 121]⟩]
def b2C (w : Value) : Ke.tC := ⟨[54, 53, 48], [32, 32], [], w, a3A⟩
def fs1 (a b c : Value) : List Ke.tC := [ff2 a, ff4 b, ff6 c]
def JL (a b c : Value) : List Ke.tC := [b3y a, b4m b, b2C c]
def ns1 : List Ke.tC := fs1 (.slice none 0 0) (.slice none 0 0) (.slice none 0 0)
def ns2 : List Ke.tC := JL (.slice none 0 0) (.slice none 0 0) (.slice none 0 0)
def LS : Ix.Ix := [((1, 1), Ix.vals ns1), ((2, 1), Ix.vals ns2)]
theorem b5L a b c : Ix.vals (fs1 a b c) = Ix.vals ns1 := by rw [← YE]; rfl
theorem b5j a b c : Ix.vals (JL a b c) = Ix.vals ns2 := by rw [← YE]; rfl
theorem b7J a b c : yE (fs1 a b c) := ⟨lY rfl, fun f hf => by
  simp only [fs1, List.mem_cons, List.not_mem_nil, or_false] at hf
  rcases hf with rfl | rfl | rfl <;> exact ⟨lY rfl, lY rfl, lY rfl⟩⟩
theorem b7V a b c : yE (JL a b c) := ⟨lY rfl, fun f hf => by
  simp only [JL, List.mem_cons, List.not_mem_nil, or_false] at hf
  rcases hf with rfl | rfl | rfl <;> exact ⟨lY rfl, lY rfl, lY rfl⟩⟩
theorem a0J {fs} (h : yE fs) : ∀ v ∈ Ix.vals fs, v.text.length ≤ 4000000 := fun v hv => by
  unfold Ix.vals at hv
  obtain ⟨f, hf, hv⟩ := List.mem_flatMap.1 hv
  obtain ⟨k1, k2, k3⟩ := h.2 f hf
  unfold Ix.BK at hv
  rcases List.mem_append.1 hv with g | g
  · obtain ⟨s, hs, rfl⟩ := List.mem_map.1 g
    have := NR hs
    dsimp only; omega
  split at g
  · rw [List.mem_singleton] at g
    subst g
    have := EK f []
    rw [EN] at this
    dsimp only; omega
  cases g
theorem QZ : Ix.TOK LS := fun e he => by
  have he : e = ((1, 1), Ix.vals ns1) ∨ e = ((2, 1), Ix.vals ns2) := by simpa [LS] using he
  rcases he with rfl | rfl
  · exact a0J (b7J _ _ _)
  exact a0J (b7V _ _ _)
theorem a6L {L} (h : Ix.QL L) : Ix.TOK L := fun e he => by
  obtain ⟨a, ha⟩ := h.2 e he
  rw [ha]
  unfold Ix.qW.vs
  exact a0J (a4B (l := a.fs.take 8) (by show Ke.nrm (Ix.YU _) = Ix.YU _; unfold Ix.YU Ke.nrm; rw [List.map_map]; refine List.map_congr_left fun q _ => ?_; unfold Function.comp Ke.a7Z Ix.a1p; split <;> rfl))
def UH (l : List (List UInt8)) : Fact := ⟨fun v I => mZ I l v, fun _ _ _ h hle => h.mono hle⟩
def a0F (f : Value → Ke.tC) (ss : List Ke.Sub) : Fact := ⟨fun v I => ∃ w, v = .agg (nY (f w)).toArray ∧ jU uT I ss w, fun _ _ _ ⟨w, h1, h2⟩ hle => ⟨w, h1, h2.mono hle⟩⟩
def fRow (fs : Value → Value → Value → List Ke.tC) : Fact := ⟨fun v I => ∃ a b c, yJ I (fs a b c) v, fun _ _ _ ⟨a, b, c, h⟩ hle => ⟨a, b, c, h.mono hle⟩⟩
def b7Y (fs : Value → Value → Value → List Ke.tC) : Fact := ⟨fun v I => ∃ w a b c, v = a0Z 0 0 w ∧ yJ I (fs a b c) w, fun _ _ _ ⟨w, a, b, c, h1, h⟩ hle => ⟨w, a, b, c, h1, h.mono hle⟩⟩
def b7I (t : Ix.Rec) (fs : Value → Value → Value → List Ke.tC) : Fact := ⟨fun v I => ∃ w a b c, v = .agg (oI ⟨t, 0, 0, w, fs a b c⟩).toArray ∧ yJ I (fs a b c) w, fun _ _ _ ⟨w, a, b, c, h1, h⟩ hle => ⟨w, a, b, c, h1, h.mono hle⟩⟩
def b8k : Fact := ⟨fun v I => ∃ es, nO I es v ∧ es.length = 2 ∧ (∀ e ∈ es, yE e.fs) ∧ Ix.b4Q (es.map jQ) [] = LS, fun _ _ _ ⟨es, h1, h2⟩ hle => ⟨es, h1.mono hle, h2⟩⟩
def b7l : Fact := ⟨fun v I => ∃ ib, v = ptr ib 0 ∧ BX I ib LS, fun _ _ _ ⟨ib, h1, h2⟩ hle => ⟨ib, h1, h2.mono hle⟩⟩
def b8F : Fact := ⟨fun _ _ => True, fun _ _ _ _ _ => trivial⟩
theorem CS {I b l} (h : I b = some (jM 9 (l.map str))) : mZ I l (.slice (some ⟨b, 0, none⟩) l.length l.length) :=
  CY.2 (jU.of (sp := []) (Nat.le_refl _) (by rw [h, List.append_nil]; congr 1; congr 1; rw [← List.flatMap_singleton' (l.map str), List.flatMap_map]))
theorem BF {n b : Nat} {o : Obj} (h : n ≤ b) : ∀ p ∈ [(b, o)], n ≤ p.1 := fun p hp => by rw [List.mem_singleton.1 hp]; exact h
theorem rH {n} : ∀ p ∈ ([] : HL), n ≤ p.1 := fun p hp => by cases hp
theorem b8g a b c x y z w u : Ix.b4Q ([(⟨(1, 1), 0, 0, w, fs1 a b c⟩ : nM), ⟨(2, 1), 0, 0, u, JL x y z⟩].map jQ) [] = LS := by
  show Ix.b4Q [((1, 1), Ix.vals (fs1 a b c)), ((2, 1), Ix.vals (JL x y z))] [] = LS
  rw [b5L, b5j]
  generalize hv : Ix.vals ns1 = v
  generalize hu : Ix.vals ns2 = u
  have : LS = [((1, 1), v), ((2, 1), u)] := by unfold LS; rw [hv, hu]
  rw [this]; rfl
theorem b8B : Ix.oK LS (1, 1) < Ix.oK LS (2, 1) := by decide +kernel
theorem sr1 : Ix.yU LS (Ix.BQ 2 (Ix.a0f [116, 105, 116, 108, 101] [61] [115, 101, 97]) (Ix.a0f [97, 117, 116, 104, 111, 114] [61] [119, 111, 111, 108, 102])) [(2, 1)] := by
  refine Ix.b2s ?_ ?_ ?_
  · exact List.pairwise_singleton _ _
  · intro t ht
    have ht : t ∈ [((1, 1) : Ix.Rec), (2, 1)] := ht
    simp only [List.mem_cons, List.not_mem_nil, or_false] at ht
    rcases ht with rfl | rfl <;> decide +kernel
  intro t ht
  revert t
  decide +kernel
theorem sr2 : Ix.yU LS (Ix.a0f [97, 110, 121] [97, 110, 121] [104, 105, 115, 116, 111, 114, 121, 32, 115, 116, 111, 114, 121]) [(1, 1), (2, 1)] := by
  refine Ix.b2s ?_ ?_ ?_
  · exact List.pairwise_cons.2 ⟨fun t ht => by rw [List.mem_singleton.1 ht]; exact .inl b8B, List.pairwise_singleton _ _⟩
  · intro t ht
    have ht : t ∈ [((1, 1) : Ix.Rec), (2, 1)] := ht
    simp only [List.mem_cons, List.not_mem_nil, or_false] at ht
    rcases ht with rfl | rfl <;> decide +kernel
  intro t ht
  revert t
  decide +kernel
theorem sr3 : Ix.yU LS (Ix.a0f [121, 101, 97, 114] [60] [50, 48, 48, 48]) [(1, 1)] := by
  refine Ix.b2s ?_ ?_ ?_
  · exact List.pairwise_singleton _ _
  · intro t ht
    have ht : t ∈ [((1, 1) : Ix.Rec), (2, 1)] := ht
    simp only [List.mem_cons, List.not_mem_nil, or_false] at ht
    rcases ht with rfl | rfl <;> decide +kernel
  intro t ht
  revert t
  decide +kernel
theorem sr4 : Ix.yU LS (Ix.a0f [121, 101, 97, 114] [62, 61] [50, 48, 48, 48]) [] := by
  refine Ix.b2s ?_ ?_ ?_
  · exact List.Pairwise.nil
  · intro t ht
    have ht : t ∈ [((1, 1) : Ix.Rec), (2, 1)] := ht
    simp only [List.mem_cons, List.not_mem_nil, or_false] at ht
    rcases ht with rfl | rfl <;> decide +kernel
  intro t ht
  revert t
  decide +kernel
theorem sr5 : Ix.yU LS (Ix.BQ 4 (Ix.a0f [116, 105, 116, 108, 101] [97, 108, 108] [115, 101, 97, 32, 115, 116, 111, 114, 105, 101, 115]) (Ix.a0f [97, 117, 116, 104, 111, 114] [61] [119, 111, 111, 108, 102])) [] := by
  refine Ix.b2s ?_ ?_ ?_
  · exact List.Pairwise.nil
  · intro t ht
    have ht : t ∈ [((1, 1) : Ix.Rec), (2, 1)] := ht
    simp only [List.mem_cons, List.not_mem_nil, or_false] at ht
    rcases ht with rfl | rfl <;> decide +kernel
  intro t ht
  revert t
  decide +kernel
def b8t : Nat → Fact
  | 0 => .is (.agg #[i64 1, i64 1])
  | 1 => UH (ss2.map (·.text))
  | 2 => a0F ff2 ss2
  | 3 => UH (ss4.map (·.text))
  | 4 => a0F ff4 ss4
  | 5 => UH (ss6.map (·.text))
  | 6 => a0F ff6 ss6
  | 7 => fRow fs1
  | 8 => b7Y fs1
  | 9 => b7I (1, 1) fs1
  | 10 => .is (.agg #[i64 2, i64 1])
  | 11 => UH (a4S.map (·.text))
  | 12 => a0F b3y a4S
  | 13 => UH (a4i.map (·.text))
  | 14 => a0F b4m a4i
  | 15 => UH (a3A.map (·.text))
  | 16 => a0F b2C a3A
  | 17 => fRow JL
  | 18 => b7Y JL
  | 19 => b7I (2, 1) JL
  | 20 => b8k
  | 21 => b7l
  | 22 => b7l
  | _ => b8F
theorem b0R I (hT : uD I) : Pure Tryz.prog 14 [] I (.bool true) := by
 refine jO.toPure ?_
 refine jT func14 fun w0 hw0 => ?_
 refine Cj.sr (J.as ?_)
 refine J.wY (J.z (jX (pl := #[(0, 1), (1, 1)]) rfl rfl tK rfl a1v (fun w => by simp [oJ]) (pU.part rfl rfl rfl (nV.c nV.z) (pU.part rfl rfl rfl (nV.s (nV.c nV.z)) pU.none))) ?_)
 refine J.op rfl (vJ rfl rfl rfl tK rfl ?_)
 intro b1 hb1
 refine J.op rfl (q5 0 kX (nV.c (nV.c nV.z)) lF.z ?_)
 refine J.wY (J.z (jX (pl := #[(0, 1), (1, 1)]) rfl rfl tK rfl a1v (fun w => by simp [oJ]) (pU.part rfl rfl rfl (nV.c nV.z) (pU.part rfl rfl rfl (nV.s (nV.c nV.z)) pU.none))) ?_)
 refine J.op rfl (vJ rfl rfl rfl tK rfl ?_)
 intro b2 hb2
 refine J.op rfl (q5 0 kX (nV.c (nV.c nV.z)) lF.z ?_)
 refine J.nss ?_
 refine Cj.flow b8t (by kernel_rfl) (by kernel_rfl) (by kernel_rfl) (fun k o d hk hd e I2 hle hba hdep => ?_) (fun e I2 hle hba hkn => ?_)
 ·match k, hk with
  | 0, hk =>
   obtain rfl := Option.some.inj hk
   obtain rfl := Option.some.inj hd
   have ht : eg e 1 = some (ptr b1 0) := (hba 1 (by decide)).trans rfl
   exact ⟨rfl, kT (mW (vs := [i64 1, i64 1]) rfl ht oC kX (jV.at 1 rfl) rfl rfl) rfl rfl ⟨_, [], rfl, rfl, rH, Le.refl _, fun _ _ _ => rfl⟩⟩
  | 1, hk =>
   obtain rfl := Option.some.inj hk
   obtain rfl := Option.some.inj hd
   exact ⟨rfl, q6 lI kY AQ (xG.one rfl (xG.one rfl xG.none)) (fun b hb => ⟨_, [(b, _)], rfl, rfl, BF hb, Le.refl _, fun I3 _ hK => CS (l := ss2.map Ke.Sub.text) (hK _ (.head _))⟩)⟩
  | 2, hk =>
   obtain rfl := Option.some.inj hk
   obtain rfl := Option.some.inj hd
   obtain ⟨va, ha, pa⟩ := hdep 1 (by kernel_rfl) _ _ rfl rfl
   refine ⟨rfl, qQ (vs := [str [50, 52, 53], str [49, 52], str [97, 98], va]) (fst := []) (cap := []) rfl rfl rfl rfl (by simp only [evs, ev, ha]; rfl) (IE [50, 52, 53] [49, 52] ss2 va (by decide) _ pa) (fun v I3 H3 hle3 _ hp => ?_) (fun _ _ _ _ ⟨_, h, _⟩ => by cases h) (fun _ _ ⟨_, h, _⟩ => by cases h)⟩
   obtain ⟨w, h, hw, rfl⟩ := hp; cases h
   exact ⟨_, [], rfl, rfl, rH, hle3, fun I4 hle4 _ => ⟨w, rfl, hw.mono hle4⟩⟩
  | 3, hk =>
   obtain rfl := Option.some.inj hk
   obtain rfl := Option.some.inj hd
   exact ⟨rfl, q6 lI kY AQ (xG.one rfl xG.none) (fun b hb => ⟨_, [(b, _)], rfl, rfl, BF hb, Le.refl _, fun I3 _ hK => CS (l := ss4.map Ke.Sub.text) (hK _ (.head _))⟩)⟩
  | 4, hk =>
   obtain rfl := Option.some.inj hk
   obtain rfl := Option.some.inj hd
   obtain ⟨va, ha, pa⟩ := hdep 3 (by kernel_rfl) _ _ rfl rfl
   refine ⟨rfl, qQ (vs := [str [48, 50, 48], str [32, 32], str [97], va]) (fst := []) (cap := []) rfl rfl rfl rfl (by simp only [evs, ev, ha]; rfl) (IE [48, 50, 48] [32, 32] ss4 va (by decide) _ pa) (fun v I3 H3 hle3 _ hp => ?_) (fun _ _ _ _ ⟨_, h, _⟩ => by cases h) (fun _ _ ⟨_, h, _⟩ => by cases h)⟩
   obtain ⟨w, h, hw, rfl⟩ := hp; cases h
   exact ⟨_, [], rfl, rfl, rH, hle3, fun I4 hle4 _ => ⟨w, rfl, hw.mono hle4⟩⟩
  | 5, hk =>
   obtain rfl := Option.some.inj hk
   obtain rfl := Option.some.inj hd
   exact ⟨rfl, q6 lI kY AQ (xG.one rfl xG.none) (fun b hb => ⟨_, [(b, _)], rfl, rfl, BF hb, Le.refl _, fun I3 _ hK => CS (l := ss6.map Ke.Sub.text) (hK _ (.head _))⟩)⟩
  | 6, hk =>
   obtain rfl := Option.some.inj hk
   obtain rfl := Option.some.inj hd
   obtain ⟨va, ha, pa⟩ := hdep 5 (by kernel_rfl) _ _ rfl rfl
   refine ⟨rfl, qQ (vs := [str [50, 54, 48], str [32, 32], str [99], va]) (fst := []) (cap := []) rfl rfl rfl rfl (by simp only [evs, ev, ha]; rfl) (IE [50, 54, 48] [32, 32] ss6 va (by decide) _ pa) (fun v I3 H3 hle3 _ hp => ?_) (fun _ _ _ _ ⟨_, h, _⟩ => by cases h) (fun _ _ ⟨_, h, _⟩ => by cases h)⟩
   obtain ⟨w, h, hw, rfl⟩ := hp; cases h
   exact ⟨_, [], rfl, rfl, rH, hle3, fun I4 hle4 _ => ⟨w, rfl, hw.mono hle4⟩⟩
  | 7, hk =>
   obtain rfl := Option.some.inj hk
   obtain rfl := Option.some.inj hd
   obtain ⟨va, ha, pa⟩ := hdep 2 (by kernel_rfl) _ _ rfl rfl
   obtain ⟨wa, rfl, hwa⟩ := pa
   obtain ⟨vb, hb, pb⟩ := hdep 4 (by kernel_rfl) _ _ rfl rfl
   obtain ⟨wb, rfl, hwb⟩ := pb
   obtain ⟨vc, hc, pc⟩ := hdep 6 (by kernel_rfl) _ _ rfl rfl
   obtain ⟨wc, rfl, hwc⟩ := pc
   refine ⟨rfl, rZ (vs := [.agg (nY (ff2 wa)).toArray, .agg (nY (ff4 wb)).toArray, .agg (nY (ff6 wc)).toArray]) rfl rfl rfl a7X DW PG rfl (by simp only [List.map, evs, ev, ha, hb, hc]) rfl rfl (xG.agg rfl (xG.agg rfl (xG.agg rfl xG.none))) (fun b hbb => ⟨_, [(b, _)], rfl, rfl, BF hbb, Le.refl _, fun I3 hle3 hK => ⟨wa, wb, wc, jU.of (l := fs1 wa wb wc) (sp := []) (Nat.le_refl _) (hK _ (.head _)), fun f hf => ?_⟩⟩)⟩
   simp only [fs1, List.mem_cons, List.not_mem_nil, or_false] at hf
   rcases hf with rfl | rfl | rfl
   · exact hwa.mono hle3
   · exact hwb.mono hle3
   exact hwc.mono hle3
  | 8, hk =>
   obtain rfl := Option.some.inj hk
   obtain rfl := Option.some.inj hd
   obtain ⟨va, ha, pa⟩ := hdep 7 (by kernel_rfl) _ _ rfl rfl
   obtain ⟨wa, wb, wc, hw⟩ := pa
   obtain ⟨qp, qc, rfl⟩ := jU.len hw.1
   exact ⟨rfl, kT (jX (vs := [.slice qp (fs1 wa wb wc).length qc]) (pl := #[(0, 1), (1, 1), (2, 1)]) rfl (by simp only [List.map, evs, ev, ha]) zeroValue57 rfl underlying57 (fun w => by simp [sizeOf55, ZY]) (pU.part rfl rfl rfl (nV.s (nV.s (nV.c nV.z))) pU.none)) rfl rfl ⟨_, [], rfl, rfl, rH, Le.refl _, fun I3 hle3 _ => ⟨_, wa, wb, wc, rfl, hw.mono hle3⟩⟩⟩
  | 9, hk =>
   obtain rfl := Option.some.inj hk
   obtain rfl := Option.some.inj hd
   obtain ⟨va, ha, pa⟩ := hdep 0 (by kernel_rfl) _ _ rfl rfl
   have pa : va = .agg [i64 1, i64 1].toArray := pa
   subst pa
   obtain ⟨vb, hb, pb⟩ := hdep 8 (by kernel_rfl) _ _ rfl rfl
   obtain ⟨w, wa, wb, wc, rfl, hw⟩ := pb
   exact ⟨rfl, kT (jX (vs := [.agg [i64 1, i64 1].toArray, a0Z 0 0 w]) (pl := #[(0, 2), (2, 3)]) rfl (by simp only [List.map, evs, ev, ha, hb]) LP rfl OE (fun w => by simp [kX, yN]) (pU.part rfl rfl rfl (nV.c (nV.c nV.z)) (pU.part rfl rfl rfl (nV.s (nV.s (nV.c (nV.c (nV.c nV.z))))) pU.none))) rfl rfl ⟨_, [], rfl, rfl, rH, Le.refl _, fun I3 hle3 _ => ⟨w, wa, wb, wc, rfl, hw.mono hle3⟩⟩⟩
  | 10, hk =>
   obtain rfl := Option.some.inj hk
   obtain rfl := Option.some.inj hd
   have ht : eg e 2 = some (ptr b2 0) := (hba 2 (by decide)).trans rfl
   exact ⟨rfl, kT (mW (vs := [i64 2, i64 1]) rfl ht oC kX (jV.at 0 rfl) rfl rfl) rfl rfl ⟨_, [], rfl, rfl, rH, Le.refl _, fun _ _ _ => rfl⟩⟩
  | 11, hk =>
   obtain rfl := Option.some.inj hk
   obtain rfl := Option.some.inj hd
   exact ⟨rfl, q6 lI kY AQ (xG.one rfl xG.none) (fun b hb => ⟨_, [(b, _)], rfl, rfl, BF hb, Le.refl _, fun I3 _ hK => CS (l := a4S.map Ke.Sub.text) (hK _ (.head _))⟩)⟩
  | 12, hk =>
   obtain rfl := Option.some.inj hk
   obtain rfl := Option.some.inj hd
   obtain ⟨va, ha, pa⟩ := hdep 11 (by kernel_rfl) _ _ rfl rfl
   refine ⟨rfl, qQ (vs := [str [50, 52, 53], str [49, 48], str [97], va]) (fst := []) (cap := []) rfl rfl rfl rfl (by simp only [evs, ev, ha]; rfl) (IE [50, 52, 53] [49, 48] a4S va (by decide) _ pa) (fun v I3 H3 hle3 _ hp => ?_) (fun _ _ _ _ ⟨_, h, _⟩ => by cases h) (fun _ _ ⟨_, h, _⟩ => by cases h)⟩
   obtain ⟨w, h, hw, rfl⟩ := hp; cases h
   exact ⟨_, [], rfl, rfl, rH, hle3, fun I4 hle4 _ => ⟨w, rfl, hw.mono hle4⟩⟩
  | 13, hk =>
   obtain rfl := Option.some.inj hk
   obtain rfl := Option.some.inj hd
   exact ⟨rfl, q6 lI kY AQ (xG.one rfl xG.none) (fun b hb => ⟨_, [(b, _)], rfl, rfl, BF hb, Le.refl _, fun I3 _ hK => CS (l := a4i.map Ke.Sub.text) (hK _ (.head _))⟩)⟩
  | 14, hk =>
   obtain rfl := Option.some.inj hk
   obtain rfl := Option.some.inj hd
   obtain ⟨va, ha, pa⟩ := hdep 13 (by kernel_rfl) _ _ rfl rfl
   refine ⟨rfl, qQ (vs := [str [49, 48, 48], str [49, 32], str [97], va]) (fst := []) (cap := []) rfl rfl rfl rfl (by simp only [evs, ev, ha]; rfl) (IE [49, 48, 48] [49, 32] a4i va (by decide) _ pa) (fun v I3 H3 hle3 _ hp => ?_) (fun _ _ _ _ ⟨_, h, _⟩ => by cases h) (fun _ _ ⟨_, h, _⟩ => by cases h)⟩
   obtain ⟨w, h, hw, rfl⟩ := hp; cases h
   exact ⟨_, [], rfl, rfl, rH, hle3, fun I4 hle4 _ => ⟨w, rfl, hw.mono hle4⟩⟩
  | 15, hk =>
   obtain rfl := Option.some.inj hk
   obtain rfl := Option.some.inj hd
   exact ⟨rfl, q6 lI kY AQ (xG.one rfl (xG.one rfl xG.none)) (fun b hb => ⟨_, [(b, _)], rfl, rfl, BF hb, Le.refl _, fun I3 _ hK => CS (l := a3A.map Ke.Sub.text) (hK _ (.head _))⟩)⟩
  | 16, hk =>
   obtain rfl := Option.some.inj hk
   obtain rfl := Option.some.inj hd
   obtain ⟨va, ha, pa⟩ := hdep 15 (by kernel_rfl) _ _ rfl rfl
   refine ⟨rfl, qQ (vs := [str [54, 53, 48], str [32, 32], str [97, 120], va]) (fst := []) (cap := []) rfl rfl rfl rfl (by simp only [evs, ev, ha]; rfl) (IE [54, 53, 48] [32, 32] a3A va (by decide) _ pa) (fun v I3 H3 hle3 _ hp => ?_) (fun _ _ _ _ ⟨_, h, _⟩ => by cases h) (fun _ _ ⟨_, h, _⟩ => by cases h)⟩
   obtain ⟨w, h, hw, rfl⟩ := hp; cases h
   exact ⟨_, [], rfl, rfl, rH, hle3, fun I4 hle4 _ => ⟨w, rfl, hw.mono hle4⟩⟩
  | 17, hk =>
   obtain rfl := Option.some.inj hk
   obtain rfl := Option.some.inj hd
   obtain ⟨va, ha, pa⟩ := hdep 12 (by kernel_rfl) _ _ rfl rfl
   obtain ⟨wa, rfl, hwa⟩ := pa
   obtain ⟨vb, hb, pb⟩ := hdep 14 (by kernel_rfl) _ _ rfl rfl
   obtain ⟨wb, rfl, hwb⟩ := pb
   obtain ⟨vc, hc, pc⟩ := hdep 16 (by kernel_rfl) _ _ rfl rfl
   obtain ⟨wc, rfl, hwc⟩ := pc
   refine ⟨rfl, rZ (vs := [.agg (nY (b3y wa)).toArray, .agg (nY (b4m wb)).toArray, .agg (nY (b2C wc)).toArray]) rfl rfl rfl a7X DW PG rfl (by simp only [List.map, evs, ev, ha, hb, hc]) rfl rfl (xG.agg rfl (xG.agg rfl (xG.agg rfl xG.none))) (fun b hbb => ⟨_, [(b, _)], rfl, rfl, BF hbb, Le.refl _, fun I3 hle3 hK => ⟨wa, wb, wc, jU.of (l := JL wa wb wc) (sp := []) (Nat.le_refl _) (hK _ (.head _)), fun f hf => ?_⟩⟩)⟩
   simp only [JL, List.mem_cons, List.not_mem_nil, or_false] at hf
   rcases hf with rfl | rfl | rfl
   · exact hwa.mono hle3
   · exact hwb.mono hle3
   exact hwc.mono hle3
  | 18, hk =>
   obtain rfl := Option.some.inj hk
   obtain rfl := Option.some.inj hd
   obtain ⟨va, ha, pa⟩ := hdep 17 (by kernel_rfl) _ _ rfl rfl
   obtain ⟨wa, wb, wc, hw⟩ := pa
   obtain ⟨qp, qc, rfl⟩ := jU.len hw.1
   exact ⟨rfl, kT (jX (vs := [.slice qp (JL wa wb wc).length qc]) (pl := #[(0, 1), (1, 1), (2, 1)]) rfl (by simp only [List.map, evs, ev, ha]) zeroValue57 rfl underlying57 (fun w => by simp [sizeOf55, ZY]) (pU.part rfl rfl rfl (nV.s (nV.s (nV.c nV.z))) pU.none)) rfl rfl ⟨_, [], rfl, rfl, rH, Le.refl _, fun I3 hle3 _ => ⟨_, wa, wb, wc, rfl, hw.mono hle3⟩⟩⟩
  | 19, hk =>
   obtain rfl := Option.some.inj hk
   obtain rfl := Option.some.inj hd
   obtain ⟨va, ha, pa⟩ := hdep 10 (by kernel_rfl) _ _ rfl rfl
   have pa : va = .agg [i64 2, i64 1].toArray := pa
   subst pa
   obtain ⟨vb, hb, pb⟩ := hdep 18 (by kernel_rfl) _ _ rfl rfl
   obtain ⟨w, wa, wb, wc, rfl, hw⟩ := pb
   exact ⟨rfl, kT (jX (vs := [.agg [i64 2, i64 1].toArray, a0Z 0 0 w]) (pl := #[(0, 2), (2, 3)]) rfl (by simp only [List.map, evs, ev, ha, hb]) LP rfl OE (fun w => by simp [kX, yN]) (pU.part rfl rfl rfl (nV.c (nV.c nV.z)) (pU.part rfl rfl rfl (nV.s (nV.s (nV.c (nV.c (nV.c nV.z))))) pU.none))) rfl rfl ⟨_, [], rfl, rfl, rH, Le.refl _, fun I3 hle3 _ => ⟨w, wa, wb, wc, rfl, hw.mono hle3⟩⟩⟩
  | 20, hk =>
   obtain rfl := Option.some.inj hk
   obtain rfl := Option.some.inj hd
   obtain ⟨va, ha, pa⟩ := hdep 9 (by kernel_rfl) _ _ rfl rfl
   obtain ⟨w, wa, wb, wc, rfl, hw⟩ := pa
   obtain ⟨vb, hb, pb⟩ := hdep 19 (by kernel_rfl) _ _ rfl rfl
   obtain ⟨u, ua, ub, uc, rfl, hu⟩ := pb
   obtain ⟨qp, qc, hq⟩ := jU.len hw.1
   obtain ⟨rp, rc, hr⟩ := jU.len hu.1
   refine ⟨rfl, rZ (vs := [.agg (oI ⟨(1, 1), 0, 0, w, fs1 wa wb wc⟩).toArray, .agg (oI ⟨(2, 1), 0, 0, u, JL ua ub uc⟩).toArray]) rfl rfl rfl vC vZ LP rfl (by simp only [List.map, evs, ev, ha, hb]) rfl rfl (xG.agg rfl (xG.agg rfl xG.none)) (fun b hbb => ⟨_, [(b, _)], rfl, rfl, BF hbb, Le.refl _, fun I3 hle3 hK => ⟨[⟨(1, 1), 0, 0, w, fs1 wa wb wc⟩, ⟨(2, 1), 0, 0, u, JL ua ub uc⟩], ⟨jU.of (sp := []) (Nat.le_refl _) (hK _ (.head _)), fun x hx => ?_⟩, rfl, fun x hx => ?_, b8g _ _ _ _ _ _ _ _⟩⟩)⟩
   · simp only [List.mem_cons, List.not_mem_nil, or_false] at hx
     rcases hx with rfl | rfl
     · exact hw.mono hle3
     exact hu.mono hle3
   simp only [List.mem_cons, List.not_mem_nil, or_false] at hx
   rcases hx with rfl | rfl
   · exact b7J _ _ _
   exact b7V _ _ _
  | 21, hk =>
   obtain rfl := Option.some.inj hk
   obtain rfl := Option.some.inj hd
   obtain ⟨va, ha, pa⟩ := hdep 20 (by kernel_rfl) _ _ rfl rfl
   obtain ⟨es, hE, hl, hek, hls⟩ := pa
   refine ⟨rfl, qQ (vs := [va]) (fst := []) (cap := []) rfl rfl rfl rfl (by simp only [evs, ev, ha]) (b2n es va (by omega) hek _ hE) (fun v I3 H3 hle3 hn hp => ?_) (fun _ _ _ _ ⟨_, _, h, _⟩ => by cases h) (fun _ _ ⟨_, _, h, _⟩ => by cases h)⟩
   obtain ⟨ib, o, h, hok, rfl⟩ := hp; cases h
   rw [hls] at hok
   exact ⟨_, yF ib o, rfl, rfl, hn, hle3, fun I4 hle4 hK => ⟨ib, rfl, o, hok.mono hle4, hK⟩⟩
  | 22, hk =>
   obtain rfl := Option.some.inj hk
   obtain rfl := Option.some.inj hd
   obtain ⟨va, ha, pa⟩ := hdep 21 (by kernel_rfl) _ _ rfl rfl
   obtain ⟨ib, rfl, hx⟩ := pa
   exact ⟨rfl, kT (uI rfl (show ev e (.tmp 37) = some (ptr ib 0) from ha)) rfl rfl ⟨_, [], rfl, rfl, rH, Le.refl _, fun I3 hle3 _ => ⟨ib, rfl, hx.mono hle3⟩⟩⟩
  | k + 23, hk => exact absurd hk (by simp)
 obtain ⟨v3, h3, ib, rfl, hx⟩ := hkn 22 _ _ rfl rfl
 refine Ej.weak (e' := [(3, ptr ib 0), (1, ptr b1 0), (2, ptr b2 0)]) ⟨h3, (hba 1 (by decide)).trans rfl, (hba 2 (by decide)).trans rfl, trivial⟩ ?_
 have hT := hT.mono hle
 refine kH (DF [116, 105, 116, 108, 101] [61] [115, 101, 97] _) ?_
 intro v3 I4 H5 hle6 hp7
 have hT := hT.mono hle6
 have hx := hx.mono hle6
 obtain ⟨h, rfl⟩ := hp7; cases h
 refine kH (DF [97, 117, 116, 104, 111, 114] [61] [119, 111, 111, 108, 102] _) ?_
 intro v8 I9 H10 hle11 hp12
 have hT := hT.mono hle11
 have hx := hx.mono hle11
 obtain ⟨h, rfl⟩ := hp12; cases h
 refine kH (both_ok 2 (Ix.a0f [116, 105, 116, 108, 101] [61] [115, 101, 97]) (Ix.a0f [97, 117, 116, 104, 111, 114] [61] [119, 111, 111, 108, 102]) none none 0 0 _ (.inl rfl) (.inl rfl)) ?_
 intro v13 I14 H15 hle16 hp17
 have hT := hT.mono hle16
 have hx := hx.mono hle16
 obtain ⟨⟨pqa, cqa, h, hqa⟩, rfl⟩ := hp17; cases h
 refine uF (IU (ptr ib 0) LS (Ix.BQ 2 (Ix.a0f [116, 105, 116, 108, 101] [61] [115, 101, 97]) (Ix.a0f [97, 117, 116, 104, 111, 114] [61] [119, 111, 111, 108, 102])) pqa cqa (by decide) (by decide) (Ix.ZA (by decide) (by decide) (Ix.a0q (by decide) (by decide) _) (Ix.a0q (by decide) (by decide) _) (by decide) (by decide)) QZ _ hqa (.inr ⟨ib, rfl, hx⟩) hT) ?_
 intro v19 I20 H21 hle22 hn18 hp23
 have hT := hT.mono hle22
 have hx := hx.mono hle22
 have hqa := hqa.mono hle22
 obtain ⟨wa, ra, h, hruna, hoa⟩ := hp23; cases h
 obtain rfl := hruna.eq sr1
 refine J.FT hoa hn18 (fun Ia hlea hra => ?_)
 have hT := hT.mono hlea
 have hx := hx.mono hlea
 have hqa := hqa.mono hlea
 replace hra := hra.row
 obtain ⟨pa, ca, rfl⟩ := kS hra
 refine kH (DF [97, 110, 121] [97, 110, 121] [104, 105, 115, 116, 111, 114, 121, 32, 115, 116, 111, 114, 121] _) ?_
 intro v24 I25 H26 hle27 hp28
 have hT := hT.mono hle27
 have hx := hx.mono hle27
 have hqa := hqa.mono hle27
 have hra := hra.mono hle27
 obtain ⟨h, rfl⟩ := hp28; cases h
 refine uF (IU (ptr ib 0) LS (Ix.a0f [97, 110, 121] [97, 110, 121] [104, 105, 115, 116, 111, 114, 121, 32, 115, 116, 111, 114, 121]) none 0 (by decide) (by decide) (Ix.a8C (by decide) (by decide) _) QZ _ (.inl rfl) (.inr ⟨ib, rfl, hx⟩) hT) ?_
 intro v30 I31 H32 hle33 hn29 hp34
 have hT := hT.mono hle33
 have hx := hx.mono hle33
 have hqa := hqa.mono hle33
 have hra := hra.mono hle33
 obtain ⟨wb, rb, h, hrunb, hob⟩ := hp34; cases h
 obtain rfl := hrunb.eq sr2
 refine J.FT hob hn29 (fun Ib hleb hrb => ?_)
 have hT := hT.mono hleb
 have hx := hx.mono hleb
 have hqa := hqa.mono hleb
 have hra := hra.mono hleb
 replace hrb := hrb.row
 obtain ⟨pb, cb, rfl⟩ := kS hrb
 refine kH (DF [121, 101, 97, 114] [60] [50, 48, 48, 48] _) ?_
 intro v35 I36 H37 hle38 hp39
 have hT := hT.mono hle38
 have hx := hx.mono hle38
 have hqa := hqa.mono hle38
 have hra := hra.mono hle38
 have hrb := hrb.mono hle38
 obtain ⟨h, rfl⟩ := hp39; cases h
 refine uF (IU (ptr ib 0) LS (Ix.a0f [121, 101, 97, 114] [60] [50, 48, 48, 48]) none 0 (by decide) (by decide) (Ix.a8C (by decide) (by decide) _) QZ _ (.inl rfl) (.inr ⟨ib, rfl, hx⟩) hT) ?_
 intro v41 I42 H43 hle44 hn40 hp45
 have hT := hT.mono hle44
 have hx := hx.mono hle44
 have hqa := hqa.mono hle44
 have hra := hra.mono hle44
 have hrb := hrb.mono hle44
 obtain ⟨wc, rc, h, hrunc, hoc⟩ := hp45; cases h
 obtain rfl := hrunc.eq sr3
 refine J.FT hoc hn40 (fun Ic hlec hrc => ?_)
 have hT := hT.mono hlec
 have hx := hx.mono hlec
 have hqa := hqa.mono hlec
 have hra := hra.mono hlec
 have hrb := hrb.mono hlec
 replace hrc := hrc.row
 obtain ⟨pc, cc, rfl⟩ := kS hrc
 refine kH (DF [121, 101, 97, 114] [62, 61] [50, 48, 48, 48] _) ?_
 intro v46 I47 H48 hle49 hp50
 have hT := hT.mono hle49
 have hx := hx.mono hle49
 have hqa := hqa.mono hle49
 have hra := hra.mono hle49
 have hrb := hrb.mono hle49
 have hrc := hrc.mono hle49
 obtain ⟨h, rfl⟩ := hp50; cases h
 refine uF (IU (ptr ib 0) LS (Ix.a0f [121, 101, 97, 114] [62, 61] [50, 48, 48, 48]) none 0 (by decide) (by decide) (Ix.a8C (by decide) (by decide) _) QZ _ (.inl rfl) (.inr ⟨ib, rfl, hx⟩) hT) ?_
 intro v52 I53 H54 hle55 hn51 hp56
 have hT := hT.mono hle55
 have hx := hx.mono hle55
 have hqa := hqa.mono hle55
 have hra := hra.mono hle55
 have hrb := hrb.mono hle55
 have hrc := hrc.mono hle55
 obtain ⟨wd, rd, h, hrund, hod⟩ := hp56; cases h
 obtain rfl := hrund.eq sr4
 refine J.FT hod hn51 (fun Id hled hrd => ?_)
 have hT := hT.mono hled
 have hx := hx.mono hled
 have hqa := hqa.mono hled
 have hra := hra.mono hled
 have hrb := hrb.mono hled
 have hrc := hrc.mono hled
 replace hrd := hrd.row
 obtain ⟨pd, cd, rfl⟩ := kS hrd
 refine kH (DF [116, 105, 116, 108, 101] [97, 108, 108] [115, 101, 97, 32, 115, 116, 111, 114, 105, 101, 115] _) ?_
 intro v57 I58 H59 hle60 hp61
 have hT := hT.mono hle60
 have hx := hx.mono hle60
 have hqa := hqa.mono hle60
 have hra := hra.mono hle60
 have hrb := hrb.mono hle60
 have hrc := hrc.mono hle60
 have hrd := hrd.mono hle60
 obtain ⟨h, rfl⟩ := hp61; cases h
 refine kH (DF [97, 117, 116, 104, 111, 114] [61] [119, 111, 111, 108, 102] _) ?_
 intro v62 I63 H64 hle65 hp66
 have hT := hT.mono hle65
 have hx := hx.mono hle65
 have hqa := hqa.mono hle65
 have hra := hra.mono hle65
 have hrb := hrb.mono hle65
 have hrc := hrc.mono hle65
 have hrd := hrd.mono hle65
 obtain ⟨h, rfl⟩ := hp66; cases h
 refine kH (both_ok 4 (Ix.a0f [116, 105, 116, 108, 101] [97, 108, 108] [115, 101, 97, 32, 115, 116, 111, 114, 105, 101, 115]) (Ix.a0f [97, 117, 116, 104, 111, 114] [61] [119, 111, 111, 108, 102]) none none 0 0 _ (.inl rfl) (.inl rfl)) ?_
 intro v67 I68 H69 hle70 hp71
 have hT := hT.mono hle70
 have hx := hx.mono hle70
 have hqa := hqa.mono hle70
 have hra := hra.mono hle70
 have hrb := hrb.mono hle70
 have hrc := hrc.mono hle70
 have hrd := hrd.mono hle70
 obtain ⟨⟨pqe, cqe, h, hqe⟩, rfl⟩ := hp71; cases h
 refine uF (IU (ptr ib 0) LS (Ix.BQ 4 (Ix.a0f [116, 105, 116, 108, 101] [97, 108, 108] [115, 101, 97, 32, 115, 116, 111, 114, 105, 101, 115]) (Ix.a0f [97, 117, 116, 104, 111, 114] [61] [119, 111, 111, 108, 102])) pqe cqe (by decide) (by decide) (Ix.ZA (by decide) (by decide) (Ix.a0q (by decide) (by decide) _) (Ix.a0q (by decide) (by decide) _) (by decide) (by decide)) QZ _ hqe (.inr ⟨ib, rfl, hx⟩) hT) ?_
 intro v73 I74 H75 hle76 hn72 hp77
 have hT := hT.mono hle76
 have hx := hx.mono hle76
 have hqa := hqa.mono hle76
 have hra := hra.mono hle76
 have hrb := hrb.mono hle76
 have hrc := hrc.mono hle76
 have hrd := hrd.mono hle76
 have hqe := hqe.mono hle76
 obtain ⟨we, re, h, hrune, hoe⟩ := hp77; cases h
 obtain rfl := hrune.eq sr5
 refine J.FT hoe hn72 (fun Ie hlee hre => ?_)
 have hT := hT.mono hlee
 have hx := hx.mono hlee
 have hqa := hqa.mono hlee
 have hra := hra.mono hlee
 have hrb := hrb.mono hlee
 have hrc := hrc.mono hlee
 have hrd := hrd.mono hlee
 have hqe := hqe.mono hlee
 replace hre := hre.row
 obtain ⟨pe, ce, rfl⟩ := kS hre
 refine jL 14 ?_
 refine J.MX 2 74 true _ rfl rfl rfl (by first | rfl | decide) (q6 mX kX tK (xG.agg rfl xG.none) ?_)
 intro b78 hb78
 refine J.persist hb78 (fun I80 hle79 hb78i => ?_)
 have hT := hT.mono hle79
 have hx := hx.mono hle79
 have hqa := hqa.mono hle79
 have hra := hra.mono hle79
 have hrb := hrb.mono hle79
 have hrc := hrc.mono hle79
 have hrd := hrd.mono hle79
 have hqe := hqe.mono hle79
 have hre := hre.mono hle79
 have hL78 : jU recC _ ([(2, 1)] : List Ix.Rec) (.slice (some ⟨b78, 0, none⟩) 1 1) := jU.of (l := ([(2, 1)] : List Ix.Rec)) (sp := []) (Nat.le_refl _) hb78i
 refine kC (PW [(2, 1)] [(2, 1)] _ _ (by decide) _ hra hL78) ?_
 refine J.ev 78 (.bool true) rfl (congrArg Value.bool (by decide)) ?_
 refine jL 5 ?_
 refine J.MX 8 80 true _ rfl rfl rfl rfl (q6 mX kX tK (xG.agg rfl (xG.agg rfl xG.none)) ?_)
 intro b81 hb81
 refine J.persist hb81 (fun I83 hle82 hb81i => ?_)
 have hT := hT.mono hle82
 have hx := hx.mono hle82
 have hqa := hqa.mono hle82
 have hra := hra.mono hle82
 have hrb := hrb.mono hle82
 have hrc := hrc.mono hle82
 have hrd := hrd.mono hle82
 have hqe := hqe.mono hle82
 have hre := hre.mono hle82
 have hb78i := hle82 _ _ hb78i
 have hL78 := hL78.mono hle82
 have hL85 : jU recC _ ([(1, 1), (2, 1)] : List Ix.Rec) (.slice (some ⟨b81, 0, none⟩) 2 2) := jU.of (l := ([(1, 1), (2, 1)] : List Ix.Rec)) (sp := []) (Nat.le_refl _) hb81i
 refine kC (PW [(1, 1), (2, 1)] [(1, 1), (2, 1)] _ _ (by decide) _ hrb hL85) ?_
 refine J.ev 85 (.bool true) rfl (congrArg Value.bool (by decide)) ?_
 refine jL 4 ?_
 refine J.MX 15 87 true _ rfl rfl rfl rfl (q6 mX kX tK (xG.agg rfl xG.none) ?_)
 intro b84 hb84
 refine J.persist hb84 (fun I86 hle85 hb84i => ?_)
 have hT := hT.mono hle85
 have hx := hx.mono hle85
 have hqa := hqa.mono hle85
 have hra := hra.mono hle85
 have hrb := hrb.mono hle85
 have hrc := hrc.mono hle85
 have hrd := hrd.mono hle85
 have hqe := hqe.mono hle85
 have hre := hre.mono hle85
 have hb78i := hle85 _ _ hb78i
 have hL78 := hL78.mono hle85
 have hb81i := hle85 _ _ hb81i
 have hL85 := hL85.mono hle85
 have hL91 : jU recC _ ([(1, 1)] : List Ix.Rec) (.slice (some ⟨b84, 0, none⟩) 1 1) := jU.of (l := ([(1, 1)] : List Ix.Rec)) (sp := []) (Nat.le_refl _) hb84i
 refine kC (PW [(1, 1)] [(1, 1)] _ _ (by decide) _ hrc hL91) ?_
 refine J.ev 91 (.bool true) rfl (congrArg Value.bool (by decide)) ?_
 refine jL 4 ?_
 refine J.ev 95 (i64 0) rfl rfl ?_
 refine jL 2 ?_
 refine J.ev 97 (i64 0) rfl rfl ?_
 refine jL 2 ?_
 refine J.ev 99 (.bool true) rfl rfl ?_
 refine kF ?_
 exact ⟨rfl, rfl⟩
end Go.Proofs.YtekmeaoblpfnpaaGreatDoor
end
namespace Cq
def UQ (x : Int) (n : Nat) : Nat := ((x.tmod n + n).tmod n).toNat
theorem a7y x {n} (hn : 0 < n) : (x.tmod n + n).tmod n = (UQ x n : Int) ∧ UQ x n < n ∧ -(n : Int) < x.tmod n ∧ x.tmod n < n := by
  have h1 : -(n : Int) < x.tmod n ∧ x.tmod n < n := by
    have h2 := Int.tmod_lt_of_pos x (b := n) (by omega)
    have h3 := Int.tmod_lt_of_pos (-x) (b := n) (by omega)
    rw [Int.neg_tmod] at h3
    omega
  have h4 := Int.tmod_nonneg (a := x.tmod n + n) n (by omega)
  have h5 := Int.tmod_lt_of_pos (x.tmod n + n) (b := n) (by omega)
  unfold UQ
  omega
def next (l : List Int) (k n : Nat) : Nat × Nat :=
  match l[k]? with
  | some x => (UQ x n, k + 1)
  | none => (0, k)
theorem next_lt l k {n} (hn : 0 < n) : (next l k n).1 < n := by grind [next, a7y]
theorem b5Y l {k} n (h : k ≤ l.length) : (next l k n).2 ≤ l.length := by grind [next]
def texts:List (List UInt8):=[[99,97,116],[116,104,101,32,99,97,116],[],[49,57,57,48],[97,34,98],[92],[97,110,100],[57,55,56,48,51,48,54,52,48,54,49,53,55],[120,32,121,32,40,122,41]]
def leaf (l : List Int) (k : Nat) : Qn × Nat :=
  (⟨1, indexes.getD (next l k 6).1 [], relations.getD (next l (next l k 6).2 6).1 [], texts.getD (next l (next l (next l k 6).2 6).2 9).1 [], .nil⟩, (next l (next l (next l k 6).2 6).2 9).2)
def made : Nat → List Int → Nat → Qn × Nat
  | 0, l, k => leaf l (next l k 5).2
  | deep + 1, l, k =>
    if (next l k 5).1 < 2 then leaf l (next l k 5).2
    else (two (next l k 5).1 (made deep l (next l k 5).2).1 (made deep l (made deep l (next l k 5).2).2).1, (made deep l (made deep l (next l k 5).2).2).2)
def FU (l : List Int) : Qn := (made (next l 0 7).1 l (next l 0 7).2).1
theorem a0T k a b : (two k a b).Two a b := rfl
theorem a2f l k : form (leaf l k).1 = true ∧ depth (leaf l k).1 = 0 ∧ (write (leaf l k).1).length ≤ 60 := by
  have h1 := next_lt l k (n := 6) (by omega)
  have h2 := next_lt l (next l k 6).2 (n := 6) (by omega)
  have h3 := next_lt l (next l (next l k 6).2 6).2 (n := 9) (by omega)
  unfold leaf
  revert h1 h2 h3
  generalize (next l k 6).1 = a
  generalize (next l (next l k 6).2 6).1 = b
  generalize (next l (next l (next l k 6).2 6).2 9).1 = c
  intro h1 h2 h3
  have ha : indexes.getD a [] ∈ indexes := by rw [List.getD_eq_getElem?_getD, List.getElem?_eq_getElem (by exact h1)]; exact List.getElem_mem _
  have hb : relations.getD b [] ∈ relations := by rw [List.getD_eq_getElem?_getD, List.getElem?_eq_getElem (by exact h2)]; exact List.getElem_mem _
  have hc : texts.getD c [] ∈ texts := by rw [List.getD_eq_getElem?_getD, List.getElem?_eq_getElem (by exact h3)]; exact List.getElem_mem _
  refine ⟨by rw [xJ rfl]; show (indexes.contains _ && relations.contains _ && _) = true; rw [List.contains_iff_mem.2 ha, List.contains_iff_mem.2 hb]; rfl, xW rfl, ?_⟩
  rw [PE rfl]
  have h4 : (indexes.getD a []).length ≤ 7 := (by decide : ∀ x ∈ indexes, x.length ≤ 7) _ ha
  have h5 : (relations.getD b []).length ≤ 3 := (by decide : ∀ x ∈ relations, x.length ≤ 3) _ hb
  have h6 : (texts.getD c []).length ≤ 13 := (by decide : ∀ x ∈ texts, x.length ≤ 13) _ hc
  have h7 := (NI (texts.getD c [])).2
  simp only [text, List.length_append, List.length_cons, List.length_nil]
  omega
theorem b4B k : (word k).length ≤ 3 := by unfold word; split <;> (try split) <;> simp
theorem a9c k x : (paren k x).length ≤ x.length + 2 := by unfold paren; split <;> simp <;> omega
theorem b5e {k a b} (h2 : 2 ≤ k) (h4 : k ≤ 4) : form (two k a b) = (form a && form b) :=
  CX (show (k : Int) ≠ 1 by omega) (by
    rintro (h | h | h | h | h | h)
    · simp only [two] at h; omega
    · simp only [two] at h; omega
    · exact h rfl
    · exact h rfl
    · exact h rfl
    exact h rfl) (a0T k a b)
theorem b8r k : up k ≤ 1 := by unfold up; split <;> omega
theorem SL : ∀ (deep : Nat) (l : List Int) (k : Nat), form (made deep l k).1 = true ∧ depth (made deep l k).1 ≤ deep ∧ (write (made deep l k).1).length + 7 ≤ 67 * 2 ^ deep ∧ (made deep l k).1.size + 2 ≤ 2 * 2 ^ deep
  | 0, l, k => by
    obtain ⟨h1, h2, h3⟩ := a2f l (next l k 5).2
    exact ⟨h1, by simp only [made]; omega, by simp only [made]; omega, by simp [made, leaf, Qn.size, Qs.size]⟩
  | deep + 1, l, k => by
    have hp : 0 < 2 ^ deep := Nat.pow_pos (by omega)
    by_cases h : (next l k 5).1 < 2
    · obtain ⟨h1, h2, h3⟩ := a2f l (next l k 5).2
      simp only [made, if_pos h]
      refine ⟨h1, by omega, by rw [Nat.pow_succ]; omega, by simp [leaf, Qn.size, Qs.size, Nat.pow_succ]; omega⟩
    have h5 := next_lt l k (n := 5) (by omega)
    obtain ⟨a1, a2, a3, a4⟩ := SL deep l (next l k 5).2
    obtain ⟨b1, b2, b3, b4⟩ := SL deep l (made deep l (next l k 5).2).2
    simp only [made, if_neg h]
    generalize (made deep l (next l k 5).2).1 = a at *
    generalize (made deep l (made deep l (next l k 5).2).2).1 = b at *
    have hk : ((two (next l k 5).1 a b).k) ≠ 1 := by show ((next l k 5).1 : Int) ≠ 1; omega
    refine ⟨by rw [b5e (by omega) (by omega), a1, b1]; rfl, ?_, ?_, ?_⟩
    · rw [AB hk (a0T _ a b)]; have := b8r b.k; omega
    · rw [SN hk (a0T _ a b)]
      have h6 := a9c b.k (write b)
      have h7 := b4B (two (next l k 5).1 a b).k
      simp only [List.length_append, List.length_cons, List.length_nil, Nat.pow_succ]
      omega
    simp only [Qn.size, two, Qn.push, Qs.size, Nat.pow_succ] at *; omega
theorem a8U l : form (FU l) = true ∧ depth (FU l) ≤ 6 ∧ (write (FU l)).length ≤ 10000 ∧ (FU l).size ≤ 200 := by
  have h := next_lt l 0 (n := 7) (by omega)
  obtain ⟨h1, h2, h3, h4⟩ := SL (next l 0 7).1 l (next l 0 7).2
  have hp : 2 ^ (next l 0 7).1 ≤ 2 ^ 6 := Nat.pow_le_pow_right (by omega) (by omega)
  exact ⟨h1, by unfold FU; omega, by unfold FU; omega, by unfold FU; omega⟩
theorem SI : ∀ (n : Nat) (q : Qn), q.size < n → depth q ≤ q.size
  | 0, q, h => by omega
  | n + 1, q, h => by
    by_cases hk : q.k = 1
    · rw [xW hk]; exact Nat.zero_le _
    by_cases hl : q.ps.len = 2
    · obtain ⟨a, b, htw⟩ := Qs.a3x hl
      have htw' : q.Two a b := htw
      have h1 := htw'.size
      have ha := SI n a (by omega)
      have hb := SI n b (by omega)
      have hu : up b.k ≤ 1 := by unfold up; split <;> omega
      rw [AB hk htw']
      omega
    have : depth q = 0 := by
      obtain ⟨k, i, r, t, ps⟩ := q
      unfold depth QW
      rw [if_neg hk]
      match ps, hl with
      | .nil, _ => rfl
      | .cons _ _ _ _ _ .nil, _ => rfl
      | .cons _ _ _ _ _ (.cons _ _ _ _ _ .nil), h => exact absurd rfl h
      | .cons _ _ _ _ _ (.cons _ _ _ _ _ (.cons _ _ _ _ _ _)), _ => rfl
    omega
theorem a3b q : depth q ≤ q.size := SI _ q (Nat.lt_succ_self _)
theorem Qn.Two.sizes {q a b : Qn} (h : q.Two a b) : q.size = a.size + b.size + 2 ∧ q.ps.wide = a.wide + b.wide := by
  have h' : q.ps = a.push (b.push .nil) := h
  unfold Qn.size Qn.wide
  rw [h']
  simp only [Qn.push, Qs.size, Qs.wide]
  omega
theorem a2M {q} (h : form q = true) (hk : q.k ≠ 1) : ∃ a b : Qn, q.Two a b ∧ 2 ≤ q.k ∧ q.k ≤ 4 ∧ form a = true ∧ form b = true ∧ q = two q.k.toNat a b := by
  obtain ⟨_, h2, h4, a, b, htw, ha, hb⟩ := (wV h).resolve_left hk
  have hn : ¬ (q.k < 2 ∨ q.k > 4 ∨ q.i ≠ [] ∨ q.r ≠ [] ∨ q.t ≠ [] ∨ q.ps.len ≠ 2) := fun hbad => by rw [OI hk hbad] at h; cases h
  simp only [not_or, Decidable.not_not] at hn
  obtain ⟨_, _, hi, hr, ht, _⟩ := hn
  refine ⟨a, b, htw, h2, h4, ha, hb, ?_⟩
  have hps : q.ps = a.push (b.push .nil) := htw
  obtain ⟨k, i, r, t, ps⟩ := q
  simp only at hi hr ht hps h2
  subst hi hr ht hps
  simp only [two, Qn.mk.injEq, and_self, and_true]
  omega
theorem a9D {q} (h : form q = true) (hk : q.k = 1) : q.i ∈ indexes ∧ q.r ∈ relations ∧ q = ⟨1, q.i, q.r, q.t, .nil⟩ := by
  rw [xJ hk] at h
  simp only [Bool.and_eq_true, beq_iff_eq, List.contains_iff_mem] at h
  obtain ⟨⟨h1, h2⟩, h3⟩ := h
  refine ⟨h1, h2, ?_⟩
  obtain ⟨k, i, r, t, ps⟩ := q
  cases ps with
  | nil => simp only at hk; subst hk; rfl
  | cons _ _ _ _ _ _ => simp [Qs.len] at h3
theorem b3B k a b : (two k a b).size = a.size + b.size + 2 := by
  simp only [two, Qn.size, Qn.push, Qs.size]; omega
theorem a4A k a b : (two k a b).wide = a.wide + b.wide := by grind [two, Qn.wide, Qn.push, Qs.wide, List.length_nil]
theorem a2Q : ∀ (n : Nat) (q : Qn), q.size < n → form q = true → (write q).length + 7 ≤ 2 * q.wide + 11 * (q.size + 1)
  | 0, q, h, _ => by omega
  | n + 1, q, hn, hf => by
    by_cases hk : q.k = 1
    · rw [PE hk]
      have h := (NI q.t).2
      simp only [text, List.length_append, List.length_cons, List.length_nil, Qn.wide]
      omega
    obtain ⟨a, b, htw, h2, h4, ha, hb, hq⟩ := a2M hf hk
    have hsz := htw.size
    have h1 := a2Q n a (by omega) ha
    have h3 := a2Q n b (by omega) hb
    have hw : (word q.k).length ≤ 3 := by unfold word; split <;> (try split) <;> simp
    have hp : (paren b.k (write b)).length ≤ (write b).length + 2 := by unfold paren; split <;> simp <;> omega
    have e1 : q.wide = a.wide + b.wide := by rw [hq, a4A]
    have e2 : q.size = a.size + b.size + 2 := by rw [hq, b3B]
    rw [SN hk htw, e1, e2]
    simp only [List.length_append, List.length_cons, List.length_nil]
    omega
theorem a0R : ∀ (n : Nat) (q : Qn), q.size < n → form q = true → q.wide ≤ (write q).length
  | 0, q, h, _ => by omega
  | n + 1, q, hn, hf => by
    by_cases hk : q.k = 1
    · obtain ⟨_, _, hq⟩ := a9D hf hk
      have hw : q.wide = q.i.length + q.r.length + q.t.length := by rw [hq]; simp [Qn.wide, Qs.wide]
      rw [PE hk, hw]
      have h := (NI q.t).1
      simp only [text, List.length_append, List.length_cons, List.length_nil]
      omega
    obtain ⟨a, b, htw, h2, h4, ha, hb, hq⟩ := a2M hf hk
    have hsz := htw.size
    have h1 := a0R n a (by omega) ha
    have h3 := a0R n b (by omega) hb
    have hp := b0w b.k (write b)
    have e1 : q.wide = a.wide + b.wide := by rw [hq, a4A]
    rw [SN hk htw, e1]
    simp only [List.length_append, List.length_cons, List.length_nil]
    omega
theorem a8I {q} (h : form q = true) : q.wide ≤ (write q).length := a0R _ q (Nat.lt_succ_self _) h
end Cq
namespace Go.Sx
open Cq
