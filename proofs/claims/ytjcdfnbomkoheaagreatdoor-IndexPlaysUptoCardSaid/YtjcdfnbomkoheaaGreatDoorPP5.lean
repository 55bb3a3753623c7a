/-
  Own texts on the laws of the seat, joined: the logic, and contracts of functions. Conditions: none.
-/
import Derived.Test.YtjcdfnbomkoheaaGreatDoorNmP
import Derived.Test.YtjcdfnbomkoheaaGreatDoorPP4
set_option maxRecDepth 100000
set_option maxHeartbeats 4000000
section
namespace Go.Proofs.YtjcdfnbomkoheaaGreatDoor
open _root_.Go.Proofs.Tryz
open Go Go.Sx
def ixH (ib : Nat) : Option Ist → HL
  | none => [(ib, cel 89 [.map none, .map none, .map none])]
  | some s => istH ib s
def IxOk (I : Heap) : Option Ist → Ix.Ix → Prop
  | none, L => L = []
  | some s, L => IstOk I s L
theorem IxOk.mono {I I' : Heap} {o : Option Ist} {L : Ix.Ix} (h : IxOk I o L) (hle : Le I I') : IxOk I' o L := by
  cases o with
  | none => exact h
  | some s => exact IstOk.mono h hle
theorem IxOk.srt {I : Heap} {o : Option Ist} {L : Ix.Ix} (h : IxOk I o L) : Ix.Srt L := by
  cases o with
  | none => rw [show L = [] from h]; exact List.Pairwise.nil
  | some s => exact IstOk.srt h
theorem IxOk.big {I : Heap} {o : Option Ist} {L : Ix.Ix} (h : IxOk I o L) : L.length ≤ 100000 := by
  cases o with
  | none => rw [show L = [] from h]; exact Nat.zero_le _
  | some s => exact IstOk.big h
theorem Put_ok (ib : Nat) (o : Option Ist) (L : Ix.Ix) (e0 : Ent) (I : Heap) (hok : IxOk I o L) (hbig : L.length < 100000) (hek : EOK e0.fs) (hrec : RecS I e0.fs e0.v) : Ctr Tryz.prog 42 [ptr ib 0, .agg (entC e0).toArray] I (ixH ib o)
    (fun e I' H' => ∃ o', e = .returned (.tuple #[]) ∧ IxOk I' o' (Ix.rput e0.t (Ix.vals e0.fs) L) ∧ H' = ixH ib o') := by
  cases o with
  | none =>
    have hL : L = [] := hok
    subst hL
    exact (Put_none ib e0 I hek hrec).mono fun e I' H' _ ⟨s', h1, h2, h3⟩ => ⟨some s', h1, h2, h3⟩
  | some s => exact (Put_some ib s L e0 I hok hbig hek hrec).mono fun e I' H' _ ⟨s', h1, h2, h3⟩ => ⟨some s', h1, h2, h3⟩
theorem Drop_ok (ib : Nat) (o : Option Ist) (L : Ix.Ix) (t : Ix.Rec) (I : Heap) (hok : IxOk I o L) : Ctr Tryz.prog 43 [ptr ib 0, kvR t] I (ixH ib o)
    (fun e I' H' => ∃ o', e = .returned (.tuple #[]) ∧ IxOk I' o' (Ix.rdrop t L) ∧ H' = ixH ib o') := by
  cases o with
  | none =>
    have hL : L = [] := hok
    subst hL
    exact (Drop_none ib t I).mono fun e I' H' _ ⟨h1, h3⟩ => ⟨none, h1, rfl, h3⟩
  | some s => exact (Drop_some ib s L t I hok).mono fun e I' H' _ ⟨s', h1, h2, h3⟩ => ⟨some s', h1, h2, h3⟩
def IxP (I : Heap) (ib : Nat) (L : Ix.Ix) : Prop := ∃ o, IxOk I o L ∧ ∀ p ∈ ixH ib o, I p.1 = some p.2
theorem IxP.mono {I I' : Heap} {ib : Nat} {L : Ix.Ix} (h : IxP I ib L) (hle : Le I I') : IxP I' ib L := let ⟨o, h1, h2⟩ := h; ⟨o, h1.mono hle, fun p hp => hle _ _ (h2 p hp)⟩
theorem IxP.srt {I : Heap} {ib : Nat} {L : Ix.Ix} (h : IxP I ib L) : Ix.Srt L := let ⟨_, h1, _⟩ := h; h1.srt
theorem IxP.big {I : Heap} {ib : Nat} {L : Ix.Ix} (h : IxP I ib L) : L.length ≤ 100000 := let ⟨_, h1, _⟩ := h; h1.big
def SetP (I : Heap) (mv : Option Nat) (f : Ix.Pl → Ix.Rec → Nat) : Prop := (mv = none ∧ ∀ p t, f p t = 0) ∨ ∃ b l c N, mv = some b ∧ NestS l c N f ∧ ∀ q ∈ setH b l c N, I q.1 = some q.2
theorem SetP.mono {I I' : Heap} {mv : Option Nat} {f : Ix.Pl → Ix.Rec → Nat} (h : SetP I mv f) (hle : Le I I') : SetP I' mv f := by
  rcases h with h | ⟨b, l, c, N, h1, h2, h3⟩
  · exact .inl h
  exact .inr ⟨b, l, c, N, h1, h2, fun q hq => hle _ _ (h3 q hq)⟩
def ValP (I : Heap) (mv : Option Nat) (L : Ix.Ix) : Prop := (mv = none ∧ L = []) ∨ ∃ b l c, mv = some b ∧ MS l c ∧ ValMap I l L ∧ I b = some (mobj kvR l c)
theorem ValP.mono {I I' : Heap} {mv : Option Nat} {L : Ix.Ix} (h : ValP I mv L) (hle : Le I I') : ValP I' mv L := by
  rcases h with h | ⟨b, l, c, h1, h2, h3, h4⟩
  · exact .inl h
  exact .inr ⟨b, l, c, h1, h2, h3.mono hle, hle _ _ h4⟩
theorem IxP.parts {I : Heap} {ib : Nat} {L : Ix.Ix} (h : IxP I ib L) : ∃ vm wm km, I ib = some (cel 89 [.map vm, .map wm, .map km]) ∧ ValP I vm L ∧ SetP I wm (Ix.cnt Ix.plW L) ∧ SetP I km (Ix.cnt Ix.plK L) := by
  obtain ⟨o, h1, h2⟩ := h
  cases o with
  | none =>
    have hL : L = [] := h1
    subst hL
    exact ⟨none, none, none, h2 _ (.head _), .inl ⟨rfl, rfl⟩, .inl ⟨rfl, fun _ _ => rfl⟩, .inl ⟨rfl, fun _ _ => rfl⟩⟩
  | some s =>
    have hs : IstOk I s L := h1
    refine ⟨some s.vb, some s.wb, some s.kb, h2 (ib, _) (.tail _ (.head _)), .inr ⟨s.vb, s.lv, s.cv, rfl, hs.vms, hs.vals, h2 (s.vb, _) (.head _)⟩, .inr ⟨s.wb, s.lw, s.cw, s.Nw, rfl, hs.nw, fun q hq => h2 q ?_⟩, .inr ⟨s.kb, s.lk, s.ck, s.Nk, rfl, hs.nk, fun q hq => h2 q ?_⟩⟩
    · exact .tail _ (.tail _ (List.mem_append_left _ hq))
    exact .tail _ (.tail _ (List.mem_append_right _ hq))
theorem sub_lenG {α : Type} [BEq α] [LawfulBEq α] {l m : List α} (hl : l.Nodup) (h : ∀ x ∈ l, x ∈ m) : l.length ≤ m.length := by
  induction l generalizing m with
  | nil => simp
  | cons a r ih =>
    rw [List.nodup_cons] at hl
    have hm := h a (.head _)
    have := ih (m := m.erase a) hl.2 fun x hx => by
      have hne : x ≠ a := fun e => hl.1 (e ▸ hx)
      exact (List.mem_erase_of_ne hne).2 (h x (.tail _ hx))
    rw [List.length_erase_of_mem hm] at this
    have h0 : 0 < m.length := List.length_pos_of_mem hm
    rw [List.length_cons]; omega
theorem pair_le {L : Ix.Ix} {m : ML Ix.Rec} {k : Nat} {f : Ix.Rec → Nat} (hm : MS m k) (hv : ∀ t, mget m t = cv (f t)) (_hs : Ix.Srt L) (hf : ∀ t, f t ≠ 0 → ∃ e ∈ L, e.1 = t) : m.length ≤ L.length := by
  have h1 : (m.map (·.1)).length ≤ (L.map (·.1)).length := by
    refine sub_lenG hm.1 fun t ht => ?_
    have h2 : mget m t ≠ none := fun h => mget_none.1 h ht
    rw [hv] at h2
    have h3 : f t ≠ 0 := fun h => h2 (by rw [h]; rfl)
    obtain ⟨e, he, rfl⟩ := hf t h3
    exact List.mem_map_of_mem he
  rw [List.length_map, List.length_map] at h1
  exact h1
structure TA where
  vis : ML Ix.Rec
  rest : ML Ix.Rec
  g : Gs
theorem titles_end {m : ML Ix.Rec} {k : Nat} {f : Ix.Rec → Nat} (hm : MS m k) (hv : ∀ t, mget m t = cv (f t)) {vis : ML Ix.Rec} (hp : vis.Perm m) {l' : List Ix.Rec} (hpl : l'.Perm (vis.map Prod.fst)) (ho : l'.Pairwise fun p q => Ix.lessR q p = false) : (l'.Pairwise fun a b => Ix.lessR a b = true) ∧ ∀ t, t ∈ l' ↔ f t ≠ 0 := by
  have hnd : l'.Nodup := hpl.nodup_iff.2 ((hp.map _).nodup_iff.2 hm.1)
  refine ⟨?_, fun t => ?_⟩
  · refine (List.pairwise_and_iff.2 ⟨ho, List.nodup_iff_pairwise_ne.1 hnd⟩).imp fun {a b} ⟨h1, h2⟩ => ?_
    rcases Ix.lessR_tri a b with h | h | h
    · exact h
    · exact absurd h h2
    rw [h] at h1; cases h1
  rw [hpl.mem_iff, (hp.map _).mem_iff]
  constructor
  · intro h
    have h2 : mget m t ≠ none := fun g => mget_none.1 g h
    rw [hv] at h2
    exact fun g => h2 (by rw [g]; rfl)
  intro h
  refine Classical.byContradiction fun g => ?_
  have := mget_none.2 g
  rw [hv, cv_pos h] at this; cases this
theorem len_map (vis : ML Ix.Rec) (g : Gs) : gV (vis.map Prod.fst).length g = gV vis.length g := by rw [List.length_map]
theorem gOk_zero {base sz n : Nat} {xs : List Value} {g : Gs} (h : gOk base sz n xs g) : gOk 0 sz n xs g := by
  cases g with
  | none => exact h
  | some q => exact ⟨Nat.zero_le _, h.2⟩
theorem gOk_re {base : Nat} {l l' : List Ix.Rec} {g : Gs} (h : gOk base 2 l.length (l.flatMap recC) g) (he : l'.length = l.length) : gOk base 2 l'.length (l'.flatMap recC) g := by
  rw [he]
  exact gOk_len h (by rw [flat_len recC_len, flat_len recC_len, he])
theorem titles_hit (b : Nat) (l : ML Ix.Pl) (c : Nat) (p : Ix.Pl) (mb : Nat) (m : ML Ix.Rec) (k : Nat) (f : Ix.Rec → Nat) (hm : mget l p = some (.map (some mb))) (hms : MS m k) (hmv : ∀ t, mget m t = cv (f t)) (hml : m.length ≤ 100000) (I : Heap) (hb : I b = some (mobj kvP l c)) (hmb : I mb = some (mobj kvR m k)) : Ctr Tryz.prog 46 [.map (some b), kvP p] I []
    (fun e _ H' => ∃ (ts : List Ix.Rec) (g : Gs), (ts.Pairwise fun a b => Ix.lessR a b = true) ∧ (∀ t, t ∈ ts ↔ f t ≠ 0) ∧ gOk 0 2 ts.length (ts.flatMap recC) g ∧ e = .returned (gV ts.length g) ∧ H' = gH 26 (ts.flatMap recC) g) := by
 refine Ctr.ob func46 ?_
 intro w0 hw0
 refine Cj.sr (J.op rfl (q28 ?_))
 intro b1 hb1
 refine J.z q1 ?_
 refine J.nssr (J.z q1 ?_)
 refine J.nsss (Cj.region (J.z q0 ?_))
 refine J.z (q33 tA93 tS93) ?_
 refine J.z (q45 (kv := kvP) (l := l) (a := p) tU87 keyP tZ105 (Blk.imm hb)) ?_
 refine J.eqv 9 rfl (show _ = .map (some mb) from (by rw [hm]; rfl)) ?_
 refine J.op rfl (op_rangeMap (kv := kvR) (l := m) rfl rfl rfl rfl tU105 (Blk.imm hmb) ?_)
 intro b2 hb2
 refine J.ns (Cj.block (Cj.keep (Keeps.k (Keeps.d Keeps.n)) ?_))
 refine Cj.loop (ι := TA) (fun y => (y.vis ++ y.rest).Perm m ∧ gOk w0.heap.size 2 y.vis.length ((y.vis.map Prod.fst).flatMap recC) y.g) (fun y => y.rest.length) (fun y => [(5, gV y.vis.length y.g), (10, ptr b2 0)]) (fun y => _) (fun y => (b2, mit mb k y.vis k) :: gH 26 ((y.vis.map Prod.fst).flatMap recC) y.g) ⟨[], m, none⟩ ⟨.refl _, rfl, rfl⟩ ⟨rfl, rfl, trivial⟩ rfl rfl ?_
 rintro ⟨vis, rest, g⟩ ⟨hp, hg⟩
 dsimp only at hp hg ⊢
 have hpl0 := hp.length_eq
 rw [List.length_append] at hpl0
 refine Cj.sr (J.op rfl (op_nextMap (kv := kvR) (l := m) 0 rfl rfl rfl rfl rfl (Blk.imm hmb) hms.2.2 (Nat.le_refl _) hms.2.1 hp ?_ ?_))
 ·
  rintro x rest2 H9 hrx hpx ⟨-, hset⟩; simp only [List.set_cons_zero] at hset; subst hset
  refine J.z q25 ?_
  refine J.nss (Cj.cond rfl (fun hc3 => ?_) (fun hc3 => Bool.noConfusion (Eq.trans (Eq.symm rfl) hc3)))
  refine Cj.ks (Cj.block (Cj.sr (J.z (yl_entry (kv := kvR) (l := m) rfl rfl (Blk.at 0 rfl) (Blk.imm hmb) (hpx.mem_iff.1 (List.mem_append_left _ (List.mem_append_right _ (.head _)))) hms.2.1) ?_)))
  refine J.z q25 ?_
  refine J.op rfl (q46 tZ26 ?_)
  intro b4 hb4
  refine J.op rfl (q21 0 tS26 (LSpl.c (LSpl.c LSpl.z)) LSet.z ?_)
  refine J.nsr (J.z q0 ?_)
  refine J.z (q33 tA26 tS26) ?_
  refine J.op rfl (q41 tU44 tS26 tZ26 ?_)
  intro b5 hb5
  refine J.op rfl (op_append (by' := 15) [_, _, _] rfl rfl rfl rfl rfl tU44 (.inr ⟨_, tU44⟩) (by kernel_rfl) tS26 tZ26 rfl hg rfl (Src.slice (Blk.at 0 rfl) rfl rfl rfl) (by omega) ?_)
  intro g6 hg6
  refine J.z q1 ?_
  refine J.nil (Ej.blkNormal (Ej.keep (Keeps.d (Keeps.d (Keeps.k Keeps.r))) ?_))
  refine Ej.round ⟨vis ++ [x], rest2, g6⟩ ⟨hpx, by dsimp only; rw [List.length_append, List.map_append, List.flatMap_append]; exact hg6⟩ (by have h := hrx.length_eq; simp only [List.length_cons] at h; dsimp only; omega) ⟨by dsimp only; rw [List.length_append]; rfl, rfl, trivial⟩ rfl (by dsimp only; rw [List.map_append, List.flatMap_append]; rfl)
 intro hend
 refine J.z q25 ?_
 refine J.nss (Cj.cond rfl (fun hc7 => Bool.noConfusion (Eq.trans (Eq.symm rfl) hc7)) (fun hc7 => ?_))
 refine Cj.xl (Cj.seq ?_)
 have hpv : vis.Perm m := by rw [hend, List.append_nil] at hp; exact hp
 have hg2 : gOk w0.heap.size 2 (vis.map Prod.fst).length ((vis.map Prod.fst).flatMap recC) g := by rw [List.length_map]; exact hg
 refine Cj.region (J.z q0 ?_)
 refine J.eqv 19 rfl (show _ = gV (vis.map Prod.fst).length g from (len_map vis g).symm) ?_
 refine J.op rfl (q56 (H1 := gH 26 ((vis.map Prod.fst).flatMap recC) g) [_] rfl rfl rfl rfl rfl rfl (SortRec_ok (vis.map Prod.fst) g hg2 (by rw [List.length_map]; omega) _) ?_)
 rintro v9 I9 H9 hle9 ⟨ts, hpp, hpo, h, rfl⟩; cases h
 obtain ⟨hsrt, hmem⟩ := titles_end hms hmv hpv hpp hpo
 have htl : vis.length = ts.length := by rw [hpp.length_eq, List.length_map]
 refine J.nssr (J.z q0 ?_)
 refine J.z q1 ?_
 refine J.ns (Cj.ret (Ej.keep (H' := gH 26 (ts.flatMap recC) g) (List.sublist_append_right [_] _) ?_))
 refine q6 ?_
 rw [htl]
 exact ⟨ts, g, hsrt, hmem, gOk_zero (gOk_re hg2 hpp.length_eq), rfl, rfl⟩
theorem titles_nil (p : Ix.Pl) (f : Ix.Rec → Nat) (hz : ∀ t, f t = 0) (I : Heap) : Ctr Tryz.prog 46 [.map none, kvP p] I []
    (fun e _ H' => ∃ (ts : List Ix.Rec) (g : Gs), (ts.Pairwise fun a b => Ix.lessR a b = true) ∧ (∀ t, t ∈ ts ↔ f t ≠ 0) ∧ gOk 0 2 ts.length (ts.flatMap recC) g ∧ e = .returned (gV ts.length g) ∧ H' = gH 26 (ts.flatMap recC) g) := by
 refine Ctr.ob func46 ?_
 intro w0 hw0
 refine Cj.sr (J.op rfl (q28 ?_))
 intro b1 hb1
 refine J.z q1 ?_
 refine J.nssr (J.z q1 ?_)
 refine J.nsss (Cj.region (J.z q0 ?_))
 refine J.z (q33 tA93 tS93) ?_
 refine J.z (yl_lookupNil1 (kv := kvP) (a := p) rfl rfl rfl rfl tU87 keyP tZ105) ?_
 refine J.op rfl (op_rangeNil rfl rfl rfl rfl tU105 ?_)
 intro b2 hb2
 refine J.ns (Cj.block (Cj.rounds 1 ?_))
 refine Rj.succ ?_
 refine Cj.sr (J.op rfl (op_nextNil 0 rfl rfl rfl rfl rfl ?_))
 refine J.z q25 ?_
 refine J.nss (Cj.cond rfl (fun hc3 => Bool.noConfusion (Eq.trans (Eq.symm rfl) hc3)) (fun hc3 => ?_))
 refine Cj.exit (Ej.seqExit (Ej.seqExit (Ej.blkExit (Ej.seq (Cj.sr (J.z q0 ?_))))))
 refine J.op rfl (q56 (H1 := []) [_, _] rfl rfl rfl rfl rfl rfl (SortRec_ok (base := 0) [] none ⟨rfl, rfl⟩ (by decide) _) ?_)
 rintro v9 I9 H9 hle9 ⟨ts, hpp, hpo, h, rfl⟩; cases h
 have hts := hpp.eq_nil
 subst hts
 refine J.nssr (J.z q0 ?_)
 refine J.z q1 ?_
 refine J.ns (Cj.ret (Ej.bare ?_))
 refine q6 ?_
 exact ⟨[], none, List.Pairwise.nil, fun t => ⟨fun h => (by cases h), fun h => absurd (hz t) h⟩, ⟨rfl, rfl⟩, rfl, rfl⟩
theorem titles_miss (b : Nat) (l : ML Ix.Pl) (c : Nat) (p : Ix.Pl) (f : Ix.Rec → Nat) (hm : mget l p = none) (hz : ∀ t, f t = 0) (I : Heap) (hb : I b = some (mobj kvP l c)) : Ctr Tryz.prog 46 [.map (some b), kvP p] I []
    (fun e _ H' => ∃ (ts : List Ix.Rec) (g : Gs), (ts.Pairwise fun a b => Ix.lessR a b = true) ∧ (∀ t, t ∈ ts ↔ f t ≠ 0) ∧ gOk 0 2 ts.length (ts.flatMap recC) g ∧ e = .returned (gV ts.length g) ∧ H' = gH 26 (ts.flatMap recC) g) := by
 refine Ctr.ob func46 ?_
 intro w0 hw0
 refine Cj.sr (J.op rfl (q28 ?_))
 intro b1 hb1
 refine J.z q1 ?_
 refine J.nssr (J.z q1 ?_)
 refine J.nsss (Cj.region (J.z q0 ?_))
 refine J.z (q33 tA93 tS93) ?_
 refine J.z (q45 (kv := kvP) (l := l) (a := p) tU87 keyP tZ105 (Blk.imm hb)) ?_
 refine J.eqv 9 rfl (show _ = .map none from (by rw [hm]; rfl)) ?_
 refine J.op rfl (op_rangeNil rfl rfl rfl rfl tU105 ?_)
 intro b2 hb2
 refine J.ns (Cj.block (Cj.rounds 1 ?_))
 refine Rj.succ ?_
 refine Cj.sr (J.op rfl (op_nextNil 0 rfl rfl rfl rfl rfl ?_))
 refine J.z q25 ?_
 refine J.nss (Cj.cond rfl (fun hc3 => Bool.noConfusion (Eq.trans (Eq.symm rfl) hc3)) (fun hc3 => ?_))
 refine Cj.exit (Ej.seqExit (Ej.seqExit (Ej.blkExit (Ej.seq (Cj.sr (J.z q0 ?_))))))
 refine J.op rfl (q56 (H1 := []) [_, _] rfl rfl rfl rfl rfl rfl (SortRec_ok (base := 0) [] none ⟨rfl, rfl⟩ (by decide) _) ?_)
 rintro v9 I9 H9 hle9 ⟨ts, hpp, hpo, h, rfl⟩; cases h
 have hts := hpp.eq_nil
 subst hts
 refine J.nssr (J.z q0 ?_)
 refine J.z q1 ?_
 refine J.ns (Cj.ret (Ej.bare ?_))
 refine q6 ?_
 exact ⟨[], none, List.Pairwise.nil, fun t => ⟨fun h => (by cases h), fun h => absurd (hz t) h⟩, ⟨rfl, rfl⟩, rfl, rfl⟩
theorem titles_ok (mv : Option Nat) (fc : Ix.Pl → Ix.Rec → Nat) (L : Ix.Ix) (p : Ix.Pl) (I : Heap) (h : SetP I mv fc) (hs : Ix.Srt L) (hL : L.length ≤ 100000) (hf : ∀ t, fc p t ≠ 0 → ∃ e ∈ L, e.1 = t) : Ctr Tryz.prog 46 [.map mv, kvP p] I []
    (fun e _ H' => ∃ (ts : List Ix.Rec) (g : Gs), (ts.Pairwise fun a b => Ix.lessR a b = true) ∧ (∀ t, t ∈ ts ↔ fc p t ≠ 0) ∧ gOk 0 2 ts.length (ts.flatMap recC) g ∧ e = .returned (gV ts.length g) ∧ H' = gH 26 (ts.flatMap recC) g) := by
  rcases h with ⟨rfl, hz⟩ | ⟨b, l, c, N, rfl, hN, hI⟩
  · exact titles_nil p (fc p) (hz p) I
  rcases hN.find p with ⟨hno, hmg, hz⟩ | ⟨A, ib, m, k, B, rfl, hmg, hms, hne, hmv, hA, hB⟩
  · exact titles_miss b l c p (fc p) hmg hz I (hI (b, _) (.head _))
  exact titles_hit b l c p ib m k (fc p) hmg hms hmv (nlt (pair_le hms hmv hs hf) hL) I (hI (b, _) (.head _)) (hI (ib, mobj kvR m k) (.tail _ (List.mem_map.2 ⟨(p, ib, m, k), by simp, rfl⟩)))
theorem cnt_in {pl : List Ix.V → List Ix.Pl} {L : Ix.Ix} (h : Ix.Srt L) (p : Ix.Pl) (t : Ix.Rec) (hc : Ix.cnt pl L p t ≠ 0) : ∃ e ∈ L, e.1 = t := by
  unfold Ix.cnt at hc
  cases hg : Ix.rget L t with
  | none => rw [hg] at hc; exact absurd rfl hc
  | some vs => exact ⟨_, (Ix.rget_iff h).1 hg, rfl⟩
theorem titles_all {I : Heap} {m : ML Ix.Rec} {k : Nat} {L : Ix.Ix} (hm : MS m k) (hv : ValMap I m L) (hs : Ix.Srt L) {vis : ML Ix.Rec} (hp : vis.Perm m) {l' : List Ix.Rec} (hpl : l'.Perm (vis.map Prod.fst)) (ho : l'.Pairwise fun p q => Ix.lessR q p = false) : l' = L.map Prod.fst := by
  have hnd : l'.Nodup := hpl.nodup_iff.2 ((hp.map _).nodup_iff.2 hm.1)
  have hsl : l'.Pairwise fun a b => Ix.lessR a b = true := by
    refine (List.pairwise_and_iff.2 ⟨ho, List.nodup_iff_pairwise_ne.1 hnd⟩).imp fun {a b} ⟨h1, h2⟩ => ?_
    rcases Ix.lessR_tri a b with h | h | h
    · exact h
    · exact absurd h h2
    rw [h] at h1; cases h1
  have hmem : ∀ t, t ∈ l' ↔ t ∈ L.map Prod.fst := fun t => by
    rw [hpl.mem_iff, (hp.map _).mem_iff]
    constructor
    · intro h
      cases hg : Ix.rget L t with
      | none => exact absurd h (mget_none.1 ((hv t).1 hg))
      | some vs => exact List.mem_map.2 ⟨_, (Ix.rget_iff hs).1 hg, rfl⟩
    intro h
    obtain ⟨⟨u, vs⟩, he, rfl⟩ := List.mem_map.1 h
    obtain ⟨w, h1, _⟩ := (hv u).2 vs ((Ix.rget_iff hs).2 he)
    refine Classical.byContradiction fun g => ?_
    have := mget_none.2 g
    rw [this] at h1; cases h1
  have key : l'.map (fun t => (t, ())) = (L.map Prod.fst).map fun t => (t, ()) := by
    refine Ix.srt_eq (β := Unit) ?_ ?_ fun e => ?_
    · unfold Ix.Srt; rw [List.pairwise_map]; exact hsl
    · unfold Ix.Srt; rw [List.pairwise_map, List.pairwise_map]; exact hs
    rw [List.mem_map, List.mem_map]
    exact ⟨fun ⟨t, h, e⟩ => ⟨t, (hmem t).1 h, e⟩, fun ⟨t, h, e⟩ => ⟨t, (hmem t).2 h, e⟩⟩
  have := congrArg (List.map Prod.fst) key
  simpa [List.map_map, Function.comp_def] using this
theorem vals_len {I : Heap} {m : ML Ix.Rec} {k : Nat} {L : Ix.Ix} (hm : MS m k) (hv : ValMap I m L) (hs : Ix.Srt L) : m.length ≤ L.length := by
  have h1 : (m.map Prod.fst).length ≤ (L.map Prod.fst).length := by
    refine sub_lenG hm.1 fun t ht => ?_
    cases hg : Ix.rget L t with
    | none => exact absurd ht (mget_none.1 ((hv t).1 hg))
    | some vs => exact List.mem_map.2 ⟨_, (Ix.rget_iff hs).1 hg, rfl⟩
  rw [List.length_map, List.length_map] at h1
  exact h1
theorem Titles_some (ib mb : Nat) (wm km : Option Nat) (m : ML Ix.Rec) (k : Nat) (L : Ix.Ix) (I : Heap) (hms : MS m k) (hmv : ValMap I m L) (hs : Ix.Srt L) (hml : m.length ≤ 100000) (hib : I ib = some (cel 89 [.map (some mb), .map wm, .map km])) (hmb : I mb = some (mobj kvR m k)) : Ctr Tryz.prog 37 [ptr ib 0] I []
    (fun e _ H' => ∃ g : Gs, gOk 0 2 L.length ((L.map Prod.fst).flatMap recC) g ∧ e = .returned (gV L.length g) ∧ H' = gH 26 ((L.map Prod.fst).flatMap recC) g) := by
 refine Ctr.ob func37 ?_
 intro w0 hw0
 refine Cj.sr (J.z q1 ?_)
 refine J.nsss (Cj.region (J.z q0 ?_))
 refine J.z (q52 tU38) ?_
 refine J.c0 (fun hc1 => ?_)
 refine Cj.ks (Cj.sr (J.z q1 ?_))
 refine J.nsss (Cj.region (J.z q0 ?_))
 refine J.z q8 ?_
 refine J.z (q4 (off' := 0) tU89 tS85) ?_
 refine J.z (q9 tA85 (Blk.imm hib)) ?_
 refine J.op rfl (op_rangeMap (kv := kvR) (l := m) rfl rfl rfl rfl tU85 (Blk.imm hmb) ?_)
 intro b2 hb2
 refine J.ns (Cj.block (Cj.loop (ι := TA) (fun y => (y.vis ++ y.rest).Perm m ∧ gOk w0.heap.size 2 y.vis.length ((y.vis.map Prod.fst).flatMap recC) y.g) (fun y => y.rest.length) (fun y => [(3, gV y.vis.length y.g), (11, ptr b2 0)]) (fun y => _) (fun y => (b2, mit mb k y.vis k) :: gH 26 ((y.vis.map Prod.fst).flatMap recC) y.g) ⟨[], m, none⟩ ⟨.refl _, rfl, rfl⟩ ⟨rfl, rfl, trivial⟩ rfl rfl ?_))
 rintro ⟨vis, rest, g⟩ ⟨hp, hg⟩
 dsimp only at hp hg ⊢
 have hpl0 := hp.length_eq
 rw [List.length_append] at hpl0
 refine Cj.sr (J.op rfl (op_nextMap (kv := kvR) (l := m) 0 rfl rfl rfl rfl rfl (Blk.imm hmb) hms.2.2 (Nat.le_refl _) hms.2.1 hp ?_ ?_))
 ·
  rintro x rest2 H9 hrx hpx ⟨-, hset⟩; simp only [List.set_cons_zero] at hset; subst hset
  refine J.z q25 ?_
  refine J.nss (Cj.cond rfl (fun hc3 => ?_) (fun hc3 => Bool.noConfusion (Eq.trans (Eq.symm rfl) hc3)))
  refine Cj.ks (Cj.block (Cj.sr (J.z (yl_entry (kv := kvR) (l := m) rfl rfl (Blk.at 0 rfl) (Blk.imm hmb) (hpx.mem_iff.1 (List.mem_append_left _ (List.mem_append_right _ (.head _)))) hms.2.1) ?_)))
  refine J.z q25 ?_
  refine J.op rfl (q46 tZ26 ?_)
  intro b4 hb4
  refine J.op rfl (q21 0 tS26 (LSpl.c (LSpl.c LSpl.z)) LSet.z ?_)
  refine J.nsr (J.z q0 ?_)
  refine J.z (q33 tA26 tS26) ?_
  refine J.op rfl (q41 tU44 tS26 tZ26 ?_)
  intro b5 hb5
  refine J.op rfl (op_append (by' := 15) [_, _, _] rfl rfl rfl rfl rfl tU44 (.inr ⟨_, tU44⟩) (by kernel_rfl) tS26 tZ26 rfl hg rfl (Src.slice (Blk.at 0 rfl) rfl rfl rfl) (by omega) ?_)
  intro g6 hg6
  refine J.z q1 ?_
  refine J.nil (Ej.blkNormal (Ej.keep (Keeps.d (Keeps.d (Keeps.k Keeps.r))) ?_))
  refine Ej.round ⟨vis ++ [x], rest2, g6⟩ ⟨hpx, by dsimp only; rw [List.length_append, List.map_append, List.flatMap_append]; exact hg6⟩ (by have h := hrx.length_eq; simp only [List.length_cons] at h; dsimp only; omega) ⟨by dsimp only; rw [List.length_append]; rfl, rfl, trivial⟩ rfl (by dsimp only; rw [List.map_append, List.flatMap_append]; rfl)
 intro hend
 refine J.z q25 ?_
 refine J.nss (Cj.cond rfl (fun hc7 => Bool.noConfusion (Eq.trans (Eq.symm rfl) hc7)) (fun hc7 => ?_))
 refine Cj.xl (Cj.seq ?_)
 have hpv : vis.Perm m := by rw [hend, List.append_nil] at hp; exact hp
 have hg2 : gOk w0.heap.size 2 (vis.map Prod.fst).length ((vis.map Prod.fst).flatMap recC) g := by rw [List.length_map]; exact hg
 refine Cj.region (J.z q0 ?_)
 refine J.eqv 20 rfl (show _ = gV (vis.map Prod.fst).length g from (len_map vis g).symm) ?_
 refine J.op rfl (q56 (H1 := gH 26 ((vis.map Prod.fst).flatMap recC) g) [_] rfl rfl rfl rfl rfl rfl (SortRec_ok (vis.map Prod.fst) g hg2 (by rw [List.length_map]; omega) _) ?_)
 rintro v9 I9 H9 hle9 ⟨ts, hpp, hpo, h, rfl⟩; cases h
 have hts := titles_all hms hmv hs hpv hpp hpo
 have htl : vis.length = ts.length := by rw [hpp.length_eq, List.length_map]
 refine J.nssr (J.z q0 ?_)
 refine J.z q1 ?_
 refine J.ns (Cj.ret (Ej.keep (H' := gH 26 (ts.flatMap recC) g) (List.sublist_append_right [_] _) ?_))
 refine q6 ?_
 rw [htl]
 subst hts
 rw [show L.length = (L.map Prod.fst).length by rw [List.length_map]]
 exact ⟨g, gOk_zero (gOk_re hg2 hpp.length_eq), rfl, rfl⟩
theorem Titles_none (ib : Nat) (wm km : Option Nat) (I : Heap) (hib : I ib = some (cel 89 [.map none, .map wm, .map km])) : Ctr Tryz.prog 37 [ptr ib 0] I []
    (fun e _ H' => e = .returned (gV 0 none) ∧ H' = []) := by
 refine Ctr.ob func37 ?_
 intro w0 hw0
 refine Cj.sr (J.z q1 ?_)
 refine J.nsss (Cj.region (J.z q0 ?_))
 refine J.z (q52 tU38) ?_
 refine J.c0 (fun hc1 => ?_)
 refine Cj.ks (Cj.sr (J.z q1 ?_))
 refine J.nsss (Cj.region (J.z q0 ?_))
 refine J.z q8 ?_
 refine J.z (q4 (off' := 0) tU89 tS85) ?_
 refine J.z (q9 tA85 (Blk.imm hib)) ?_
 refine J.op rfl (op_rangeNil rfl rfl rfl rfl tU85 ?_)
 intro b2 hb2
 refine J.ns (Cj.block (Cj.rounds 1 ?_))
 refine Rj.succ ?_
 refine Cj.sr (J.op rfl (op_nextNil 0 rfl rfl rfl rfl rfl ?_))
 refine J.z q25 ?_
 refine J.nss (Cj.cond rfl (fun hc3 => Bool.noConfusion (Eq.trans (Eq.symm rfl) hc3)) (fun hc3 => ?_))
 refine Cj.exit (Ej.seqExit (Ej.seqExit (Ej.blkExit (Ej.seq (Cj.sr (J.z q0 ?_))))))
 refine J.op rfl (q56 (H1 := []) [_] rfl rfl rfl rfl rfl rfl (SortRec_ok (base := 0) [] none ⟨rfl, rfl⟩ (by decide) _) ?_)
 rintro v9 I9 H9 hle9 ⟨ts, hpp, hpo, h, rfl⟩; cases h
 have hts := hpp.eq_nil
 subst hts
 refine J.nssr (J.z q0 ?_)
 refine J.z q1 ?_
 refine J.ns (Cj.ret (Ej.bare ?_))
 refine q6 ?_
 exact ⟨rfl, rfl⟩
theorem Titles_ok (ib : Nat) (L : Ix.Ix) (I : Heap) (h : IxP I ib L) : Ctr Tryz.prog 37 [ptr ib 0] I []
    (fun e _ H' => ∃ g : Gs, gOk 0 2 L.length ((L.map Prod.fst).flatMap recC) g ∧ e = .returned (gV L.length g) ∧ H' = gH 26 ((L.map Prod.fst).flatMap recC) g) := by
  obtain ⟨vm, wm, km, hI, hV, -, -⟩ := h.parts
  rcases hV with ⟨rfl, rfl⟩ | ⟨b, l, c, rfl, hms, hvm, hb⟩
  · exact (Titles_none ib wm km I hI).mono fun e I' H' _ ⟨h1, h2⟩ => ⟨none, ⟨rfl, rfl⟩, h1, h2⟩
  exact Titles_some ib b wm km l c L I hms hvm h.srt (nlt (vals_len hms hvm h.srt) h.big) hI hb
end Go.Proofs.YtjcdfnbomkoheaaGreatDoor
end
section
namespace Go.Sx
open Go
section
variable {cx : Cx} {Q : Qt} {o : Oper} {e : Env} {I : Heap} {H : HL} {C : Ct} {S : World → Prop}
theorem op_clear {x : Operand} {T E b off n c sz t : Nat} {cs : List Value} {z : Value} (i : Nat) (ho : o.op = .call ⟨.builtin .clear, #[x], #[T]⟩) (hd : o.dst = none) (hx : ev e x = some (.slice (some ⟨b, off, none⟩) n c)) (hn : 0 < n) (hu : cx.P.underlying T = some (.slice E)) (hz : ∀ w, (zeroValue E).run cx.P w = .ok z w)
    (hzs : z.cells.size = sz) (hz0 : 0 < sz) (hz1 : z.cells.toList.all Value.oneCell' = true) (hH : H[i]? = some (b, cel t cs)) (hlen : off + n * sz ≤ cs.length) (k : ∀ vs H', vs.length = n * sz → LSet H i (b, cel t (cs.take off ++ vs ++ cs.drop (off + n * sz))) H' → C e I H') : OpJ cx Q o e I H C := by
  intro K hK a w ha hs
  unfold Oper.wp
  have hb := hs.own _ (List.mem_of_getElem? hH)
  have hl : (Builtin.zeroCells z.cells n).toList.length = n * sz := by simp [Builtin.zeroCells, hzs]
  have hone : ∀ v ∈ (Builtin.zeroCells z.cells n).toList, v.oneCell' = true := fun v hv => by
    simp only [Builtin.zeroCells, Array.toList_map, List.mem_map] at hv
    obtain ⟨j, hj, rfl⟩ := hv
    have hjl : j % z.cells.size < z.cells.size := Nat.mod_lt _ (by omega)
    rw [getElem!_pos z.cells _ hjl]
    exact List.all_eq_true.1 hz1 _ (by simp)
  have hspl : LSpl cs (off + 0) (Builtin.zeroCells z.cells n).toList (cs.take off ++ (Builtin.zeroCells z.cells n).toList ++ cs.drop (off + n * sz)) := ⟨by rw [hl]; omega, by rw [hl, Nat.add_zero]⟩
  have hst := run_storeCells (P := cx.P) (t := t) (Builtin.zeroCells z.cells n).toList 0 w cs hb (.inl rfl) (by rw [hl]; omega) hone _ hspl
  obtain ⟨n, rfl⟩ : ∃ m, n = m + 1 := ⟨n - 1, by omega⟩
  have : (execOp a.eval o).run cx.P w = .ok (.value (.tuple #[])) (World.block w b (cel t (cs.take off ++ (Builtin.zeroCells z.cells (n + 1)).toList ++ cs.drop (off + (n + 1) * sz)))) := by
    simp only [execOp, ho, resolve, invoke, builtin, Builtin.clear_, Sem.run_bind, Sem.run_pure, Result.andThen_ok]
    simp [ha.eval hx, run_underlying hu, hz, hst, cel, List.append_assoc]
  rw [this]
  simp only [Oper.upon, hd]
  have hset : LSet H i (b, cel t (cs.take off ++ (Builtin.zeroCells z.cells (n + 1)).toList ++ cs.drop (off + (n + 1) * sz))) (H.set i (b, cel t (cs.take off ++ (Builtin.zeroCells z.cells (n + 1)).toList ++ cs.drop (off + (n + 1) * sz)))) := ⟨(List.getElem?_eq_some_iff.1 hH).1, rfl⟩
  exact hK _ _ _ (k _ _ hl hset) _ _ ha.putNone (hs.block hH hset)
theorem yl_slice3 {x y z : Operand} {T E n c sz k m : Nat} {a : Option Addr} {kl kh : IntKind} (ho : o.op = .slice T x none (some y) (some z)) (hx : ev e x = some (.slice a n c)) (hy : ev e y = some (.int kl (k : Int))) (hz : ev e z = some (.int kh (m : Int))) (hu : cx.P.underlying T = some (.slice E)) (hsz : ∀ w, (sizeOf E).run cx.P w = .ok sz w) (hkm : k ≤ m) (hmc : m ≤ c) :
    Yld cx o e S (.slice a k m) := by
  intro w0 w ha _
  have h1 : (k : Int) ≤ m := by omega
  have h2 : (m : Int) ≤ c := by omega
  cases a with
  | none => simp [execOp, ho, ha.eval hx, ha.eval hy, ha.eval hz, Instr.sliceAt, Instr.slice, run_underlying hu, Instr.sliceBounds, run_sliceBound, h1, h2, hsz]
  | some q => simp [execOp, ho, ha.eval hx, ha.eval hy, ha.eval hz, Instr.sliceAt, Instr.slice, run_underlying hu, Instr.sliceBounds, run_sliceBound, h1, h2, hsz, Addr.add]
end
def OwnR {α : Type} (T : TypeId) (f : α → List Value) (l : List α) (v : Value) (H : HL) : Prop := (l = [] ∧ v = .slice none 0 0 ∧ H = []) ∨ ∃ b c sp, v = .slice (some ⟨b, 0, none⟩) l.length c ∧ l.length ≤ c ∧ H = [(b, cel T (l.flatMap f ++ sp))]
theorem OwnR.of_g {α : Type} {T : TypeId} {f : α → List Value} {sz base n : Nat} {l : List α} {g : Gs} (hf : ∀ x, (f x).length = sz) (hpos : 0 < sz) (hn : n = l.length) (hg : gOk base sz n (l.flatMap f) g) : OwnR T f l (gV n g) (gH T (l.flatMap f) g) := by
  subst hn
  cases g with
  | none =>
    obtain ⟨h1, h2⟩ := hg
    exact .inl ⟨List.length_eq_zero_iff.1 h1, by rw [h1]; rfl, rfl⟩
  | some q =>
    obtain ⟨b, c, sp⟩ := q
    obtain ⟨h1, h2, h3⟩ := hg
    have hc : l.length ≤ c := by
      rw [flat_len hf] at h3
      exact Nat.le_of_mul_le_mul_right (by omega : l.length * sz ≤ c * sz) hpos
    exact .inr ⟨b, c, sp, rfl, hc, rfl⟩
section
variable {cx : Cx} {Q : Qt} {e : Env} {I : Heap} {R H1 : HL} {T : TypeId} {α : Type} {l : List α} {f : α → List Value} {v : Value}
theorem own_cases {X : Heap → HL → Prop} {base : Nat} (h : OwnR T f l v H1) (hb : ∀ p ∈ H1, base ≤ p.1) (hp : ∀ b o, base ≤ b → (∀ I', Le I I' → I' b = some o → X I' R) → X I ((b, o) :: R)) (k : ∀ I', Le I I' → RowT T f I' l v → X I' R) : X I (H1 ++ R) := by
  rcases h with ⟨rfl, rfl, rfl⟩ | ⟨b, c, sp, rfl, hc, rfl⟩
  · exact k I (Le.refl _) RowT.nil
  exact hp b _ (hb _ (.head _)) fun I' hle hI => k I' hle ⟨_, c, rfl, hc, fun _ => ⟨b, sp, rfl, hI⟩⟩
theorem J.keepO {ops : Array Oper} {r : List Oper} (h : OwnR T f l v H1) (hb : ∀ p ∈ H1, cx.w0.heap.size ≤ p.1) (k : ∀ I', Le I I' → RowT T f I' l v → J cx Q ops r e I' R) : J cx Q ops r e I (H1 ++ R) := own_cases (X := fun I H => J cx Q ops r e I H) h hb (fun _ _ hb k => J.persist hb k) k
end
end Go.Sx
end
section
namespace Go.Sx
open Go
section
variable {cx : Cx} {Q : Qt} {e : Env} {I : Heap} {H : HL} {o : Oper} {C : Ct}
end
theorem row_spl {α : Type} {f : α → List Value} {n : Nat} (hf : ∀ x, (f x).length = n) {sp : List Value} {x : α} : ∀ {l : List α} {i : Nat}, i < l.length → LSpl (l.flatMap f ++ sp) (i * n) (f x) ((l.set i x).flatMap f ++ sp)
  | [], _, h => by simp at h
  | a :: r, 0, _ => by
    refine ⟨by rw [Nat.zero_mul, hf, List.flatMap_cons, List.length_append, List.length_append, hf]; omega, ?_⟩
    rw [Nat.zero_mul, List.take_zero, List.nil_append, Nat.zero_add, List.set_cons_zero, List.flatMap_cons, List.flatMap_cons, List.append_assoc, List.append_assoc, hf, ← hf a, List.drop_left]
  | a :: r, i + 1, h => by
    obtain ⟨h1, h2⟩ := row_spl hf (sp := sp) (x := x) (l := r) (i := i) (by simpa using h)
    have ha := hf a
    refine ⟨by rw [List.flatMap_cons, List.append_assoc, List.length_append, ha, Nat.add_mul]; omega, ?_⟩
    rw [List.set_cons_succ, List.flatMap_cons, List.append_assoc, h2, List.flatMap_cons, List.append_assoc (f a), show (i + 1) * n = (f a).length + i * n by rw [ha, Nat.add_mul]; omega, List.take_length_add_append, Nat.add_assoc, List.drop_length_add_append]
    simp only [List.append_assoc]
end Go.Sx
end
section
namespace Go.Proofs.YtjcdfnbomkoheaaGreatDoor
open _root_.Go.Proofs.Tryz
open Go Go.Sx
theorem within_short {w l : Ke.Row} (h : l.length < w.length) : Ix.within w l = false := by
  rw [Bool.eq_false_iff, Ne, Ix.within_iff]
  exact fun g => by have := g.length_le; omega
theorem within_pre {w l : Ke.Row} (h : l.take w.length = w) : Ix.within w l = true := by
  rw [Ix.within_iff]
  exact (List.prefix_iff_eq_take.2 h.symm).isInfix
theorem within_step {w l : Ke.Row} {k : Nat} (hk : k + w.length ≤ l.length) (h : ¬ (l.drop k).take w.length = w) : Ix.within w (l.drop k) = Ix.within w (l.drop (k + 1)) := by
  rcases Nat.lt_or_ge k l.length with hlt | hge
  · rw [← List.getElem_cons_drop hlt] at h ⊢
    conv => lhs; unfold Ix.within
    have : w.isPrefixOf (l[k] :: l.drop (k + 1)) = false := by
      rw [Bool.eq_false_iff, Ne, List.isPrefixOf_iff_prefix, List.prefix_iff_eq_take]
      exact fun e => h e.symm
    rw [this, Bool.false_or]
  have hw : w = [] := List.length_eq_zero_iff.1 (by omega)
  subst hw
  exact absurd rfl h
theorem take_eq {a b : List (List UInt8)} {k : Nat} {x y : List UInt8} (h : a.take k = b.take k) (hx : a[k]? = some x) (hy : b[k]? = some y) (he : x = y) : a.take (k + 1) = b.take (k + 1) := by
  obtain ⟨h1, e1⟩ := List.getElem?_eq_some_iff.1 hx
  obtain ⟨h2, e2⟩ := List.getElem?_eq_some_iff.1 hy
  rw [List.take_succ_eq_append_getElem h1, List.take_succ_eq_append_getElem h2, h, e1, e2, he]
theorem strP_cut {I : Heap} {l : List (List UInt8)} {a : Option Addr} {n c : Nat} (h : StrP I l (.slice a n c)) {j k : Nat} (hj : j ≤ k) (hk : k ≤ l.length) : StrP I ((l.drop j).take (k - j)) (.slice (cutA a c j 1) (k - j) (c - j)) :=
  strC_row.2 (RowS.cut (f := fun s => [str s]) (sz := 1) (fun _ => rfl) (strC_row.1 h) hj hk)
theorem EqualP_ok (a b : List (List UInt8)) (va vb : Value) (I : Heap) (ha : StrP I a va) (hb : StrP I b vb) (hal : a.length ≤ 100000000000000) : Pure Tryz.prog 84 [va, vb] I (.bool (decide (a = b))) := by
 refine Ctr.toPure ?_
 obtain ⟨p1, c1, rfl, hc1, hp1⟩ := ha
 obtain ⟨p2, c2, rfl, hc2, hp2⟩ := hb
 refine Ctr.ob func84 ?_
 intro w0 hw0
 refine Cj.sr (J.z q1 ?_)
 refine J.nsss (Cj.region (J.z q0 ?_))
 refine J.z (q15 tU28) ?_
 refine J.z q0 ?_
 refine J.z (q15 tU28) ?_
 refine J.z q47 ?_
 refine J.cd (fun hc10 => ?_) (fun hc10 => ?_)
 ·
  have hc10p := bne_iff_ne.1 hc10
  refine Cj.sr (J.z q1 ?_)
  refine J.ns (Cj.rs (q6 ?_))
  rw [decide_eq_false (fun e => hc10p (by rw [e]))]
  exact ⟨rfl, rfl⟩
 have hc10p := bne_f hc10
 have hlen : a.length = b.length := by have h := hc10p; omega
 refine Cj.ks (Cj.seq (Cj.sr (J.z q0 ?_)))
 refine J.z (q15 tU28) ?_
 refine J.z q0 ?_
 refine J.ns (Cj.block (Cj.loop (ι := Nat) (fun j => j ≤ a.length ∧ a.take j = b.take j) (fun j => a.length - j) (fun j => [(0, .slice p1 a.length c1), (1, .slice p2 b.length c2), (12, i64 (a.length : Int)), (13, i64 (j : Int))]) (fun j => I) (fun j => []) 0 ⟨Nat.zero_le _, rfl⟩ ⟨rfl, rfl, rfl, rfl, trivial⟩ rfl rfl ?_))
 rintro j ⟨hj, hall⟩
 refine Cj.sr (J.z q17 ?_)
 refine J.nss (Cj.cond rfl (fun hc14 => ?_) (fun hc14 => ?_))
 ·
  have hc14p := odt hc14
  have hlt : j < a.length := by omega
  obtain ⟨x, hx⟩ : ∃ x, a[j]? = some x := ⟨_, lgg hlt⟩
  obtain ⟨y, hy⟩ : ∃ y, b[j]? = some y := ⟨_, lgg (by omega)⟩
  obtain ⟨fa, oa, acs, aty, afr, asp, rfl, hfa, had⟩ := hp1 (ne_nil_of hlt)
  obtain ⟨fb, ob, bcs, bty, bfr, bsp, rfl, hfb, hbd⟩ := hp2 (ne_nil_of (by omega : j < b.length))
  refine Cj.ks (Cj.seq (Cj.block (Cj.sr (J.z q0 ?_))))
  refine J.z q1 ?_
  refine J.nss (Cj.drawSel [] [] 9 (by kernel_rfl) ?_)
  refine JA.fix fx1 (fun fx1 => ?_)
  refine JA.tk 0 rfl fx1 q0 ?_
  refine JA.tk 1 rfl fx1 q0 ?_
  refine JA.tk 2 rfl fx1 (q19 (off' := oa + j) tU28 tS9) ?_
  refine JA.tk 3 rfl fx1 (q37 tA9 (Blk.immC hfa) (str_from had hx)) ?_
  refine JA.tk 4 rfl fx1 q0 ?_
  refine JA.tk 5 rfl fx1 q0 ?_
  refine JA.tk 6 rfl fx1 (q19 (off' := ob + j) tU28 tS9) ?_
  refine JA.tk 7 rfl fx1 (q37 tA9 (Blk.immC hfb) (str_from hbd hy)) ?_
  refine JA.tk 8 rfl fx1 (yl_neqStr rfl rfl rfl) ?_
  refine q14 ?_
  refine Ej.seq (Cj.cond rfl (fun hc24 => ?_) (fun hc24 => ?_))
  ·
   have hc24p := bne_iff_ne.1 hc24
   have hxy : x ≠ y := hc24p
   refine Cj.sr (J.z q1 ?_)
   refine J.ns (Cj.ret (Ej.blkRet (Ej.seqRet (Ej.loopRet (Ej.blkRet (Ej.seqRet (q6 ?_)))))))
   rw [decide_eq_false (fun e => hxy (by rw [e, hy] at hx; exact (Option.some.inj hx).symm))]
   exact ⟨rfl, rfl⟩
  have hc24p := bne_f hc24
  have hxy : x = y := hc24p
  refine Cj.kb (Cj.region (J.z q7 ?_))
  refine J.z q0 ?_
  refine J.nil (Ej.round (j + 1) ⟨by omega, take_eq hall hx hy hxy⟩ (by omega) ⟨rfl, rfl, rfl, rfl, trivial⟩ rfl rfl)
 have hc14p := odf hc14
 refine Cj.xl (Cj.sr (J.z q1 ?_))
 refine J.ns (Cj.ret (q6 ?_))
 rw [List.take_of_length_le (by omega : a.length ≤ j), List.take_of_length_le (by omega : b.length ≤ j)] at hall
 rw [decide_eq_true hall]
 exact ⟨rfl, rfl⟩
theorem contains_ok (a b : List (List UInt8)) (va vb : Value) (I : Heap) (ha : StrP I a va) (hb : StrP I b vb) (hal : a.length ≤ 100000000000000) (hbl : b.length ≤ 100000000000000) : Pure Tryz.prog 52 [va, vb] I (.bool (Ix.within b a)) := by
 refine Ctr.toPure ?_
 obtain ⟨p1, c1, rfl, hc1, -⟩ := id ha
 obtain ⟨p2, c2, rfl, hc2, -⟩ := id hb
 refine Ctr.ob func52 ?_
 intro w0 hw0
 refine Cj.sr (J.z q1 ?_)
 refine J.nsss (Cj.region (J.z q1 ?_))
 refine J.ns (Cj.block (Cj.loop (ι := Nat) (fun k => k ≤ a.length + 1 ∧ (0 < k → 0 < b.length) ∧ Ix.within b (a.drop k) = Ix.within b a) (fun k => a.length + 1 - k) (fun k => [(0, .slice p1 a.length c1), (1, .slice p2 b.length c2), (5, i64 (k : Int))]) (fun k => I) (fun k => []) 0 ⟨Nat.zero_le _, fun h => absurd h (Nat.lt_irrefl 0), rfl⟩ ⟨rfl, rfl, rfl, trivial⟩ rfl rfl ?_))
 rintro k ⟨hk, hb0, hw⟩
 refine Cj.seq (Cj.sr (J.z q0 ?_))
 refine J.z q0 ?_
 refine J.z (q15 tU28) ?_
 refine J.z q7 ?_
 refine J.z q0 ?_
 refine J.z (q15 tU28) ?_
 refine J.z q38 ?_
 refine J.cd (fun hc12 => ?_) (fun hc12 => ?_)
 ·
  have hc12p := odt hc12
  have hkl : k + b.length ≤ a.length := by omega
  refine Cj.ks (Cj.seq (Cj.block (Cj.sr (J.z q0 ?_))))
  refine J.z q0 ?_
  refine J.z q0 ?_
  refine J.z q0 ?_
  refine J.z (q15 tU28) ?_
  refine J.z q7 ?_
  refine J.z (yl_slice2 (j := k) (k := (k + b.length)) rfl rfl rfl rfl tU28 tS9 rfl (by omega) (by omega)) ?_
  refine J.z q0 ?_
  refine J.op rfl (op_pure rfl rfl rfl rfl rfl (EqualP_ok _ b _ _ _ (strP_cut ha (Nat.le_add_right k b.length) hkl) hb (by rw [List.length_take, List.length_drop]; omega)) ?_)
  refine J.cd (fun hc23 => ?_) (fun hc23 => ?_)
  ·
   have heq := odt hc23
   rw [Nat.add_sub_cancel_left] at heq
   refine Cj.sr (J.z q1 ?_)
   refine J.ns (Cj.ret (Ej.blkRet (Ej.seqRet (Ej.loopRet (Ej.blkRet (Ej.seqRet (q6 ?_)))))))
   rw [← hw, within_pre heq]
   exact ⟨rfl, rfl⟩
  have hne := odf hc23
  rw [Nat.add_sub_cancel_left] at hne
  refine Cj.kb (Cj.region (J.z q0 ?_))
  refine J.z q7 ?_
  refine J.z q1 ?_
  refine J.nil (Ej.round (k + 1) ⟨by omega, fun _ => List.length_pos_iff.2 (fun e => hne (by rw [e]; rfl)), by rw [← hw, within_step hkl hne]⟩ (by omega) ⟨rfl, rfl, rfl, trivial⟩ rfl rfl)
 have hc12p := odf hc12
 refine Cj.xl (Cj.sr (J.z q1 ?_))
 refine J.ns (Cj.ret (q6 ?_))
 rw [← hw, within_short (by rw [List.length_drop]; rcases Nat.eq_zero_or_pos k with h | h <;> (first | omega | (have := hb0 h; omega)))]
 exact ⟨rfl, rfl⟩
theorem IndexFuncV_ok (l : List VW) (v : Value) (pq : VW → Bool) (g : Nat) (cap : List Value) (hl : l.length ≤ 100000000000000) (I : Heap) (hr : RowS vwC I l v) (_hw : ∀ x ∈ l, StrS 9 I x.1.ws x.2) (hcl : ∀ x ∈ l, Pure Tryz.prog g (.agg (vwC x).toArray :: cap) I (.bool (pq x))) : Pure Tryz.prog 63 [v, .func (.func g) #[] cap.toArray] I (i64 (idxI pq l)) := by
 refine Ctr.toPure ?_
 obtain ⟨p, c, rfl, hc, hp⟩ := hr
 refine Ctr.ob func63 ?_
 intro w0 hw0
 refine Cj.sr (J.z q1 ?_)
 refine J.nsss (Cj.region (J.z q0 ?_))
 refine J.z (q15 tU96) ?_
 refine J.z q0 ?_
 refine J.ns (Cj.block (Cj.loop (ι := Nat) (fun j => j ≤ l.length ∧ ∀ x ∈ l.take j, pq x = false) (fun j => l.length - j) (fun j => [(0, .slice p l.length c), (1, .func (.func g) #[] cap.toArray), (7, i64 (l.length : Int)), (8, i64 (j : Int))]) (fun j => I) (fun j => []) 0 ⟨Nat.zero_le _, fun g hg => by simp at hg⟩ ⟨rfl, rfl, rfl, rfl, trivial⟩ rfl rfl ?_))
 rintro j ⟨hj, hall⟩
 refine Cj.sr (J.z q17 ?_)
 refine J.nss (Cj.cond rfl (fun hc1 => ?_) (fun hc1 => ?_))
 ·
  have hc1p := odt hc1
  have hlt : j < l.length := by omega
  obtain ⟨x, hget⟩ : ∃ x, l[j]? = some x := ⟨_, lgg hlt⟩
  obtain ⟨fb, fo, fcs, fty, ffr, sp, rfl, hfb, hfd⟩ := hp (ne_nil_of hlt)
  refine Cj.ks (Cj.seq (Cj.block (Cj.sr (J.z q0 ?_))))
  refine J.z q1 ?_
  refine J.nssr (J.z q0 ?_)
  refine J.z q0 ?_
  refine J.z q0 ?_
  refine J.z (q19 (off' := fo + j * 3) tU96 tS98) ?_
  refine J.z (q43 isAgg98 tS98 (Blk.imm hfb) (row_from vwC_len hfd hget)) ?_
  refine J.op rfl (op_pure rfl rfl rfl rfl rfl (hcl x (lmg hget)) ?_)
  refine J.cd (fun hc2 => ?_) (fun hc2 => ?_)
  ·
   have ht : pq x = true := hc2
   refine Cj.sr (J.z q0 ?_)
   refine J.z q1 ?_
   refine J.ns (Cj.ret (Ej.blkRet (Ej.seqRet (Ej.loopRet (Ej.blkRet (Ej.seqRet (q6 ?_)))))))
   rw [idxI_at hall hget ht]
   exact ⟨rfl, rfl⟩
  have hnt : pq x = false := hc2
  refine Cj.kb (Cj.region (J.z q7 ?_))
  refine J.z q0 ?_
  refine J.nil (Ej.round (j + 1) ⟨by omega, false_next hall hget hnt⟩ (by omega) ⟨rfl, rfl, rfl, rfl, trivial⟩ rfl rfl)
 have hc1p := odf hc1
 have hfull : l.take j = l := List.take_of_length_le (by omega)
 rw [hfull] at hall
 refine Cj.xl (Cj.sr (J.z q1 ?_))
 refine J.ns (Cj.ret (q6 ?_))
 rw [idxI_none hall]
 exact ⟨rfl, rfl⟩
theorem IndexFuncR_ok (l : List Ix.Rec) (v : Value) (pq : Ix.Rec → Bool) (g : Nat) (cap : List Value) (hl : l.length ≤ 100000000000000) (I : Heap) (hr : RowS recC I l v) (hcl : ∀ x ∈ l, Pure Tryz.prog g (kvR x :: cap) I (.bool (pq x))) : Pure Tryz.prog 83 [v, .func (.func g) #[] cap.toArray] I (i64 (idxI pq l)) := by
 refine Ctr.toPure ?_
 obtain ⟨p, c, rfl, hc, hp⟩ := hr
 refine Ctr.ob func83 ?_
 intro w0 hw0
 refine Cj.sr (J.z q1 ?_)
 refine J.nsss (Cj.region (J.z q0 ?_))
 refine J.z (q15 tU44) ?_
 refine J.z q0 ?_
 refine J.ns (Cj.block (Cj.loop (ι := Nat) (fun j => j ≤ l.length ∧ ∀ x ∈ l.take j, pq x = false) (fun j => l.length - j) (fun j => [(0, .slice p l.length c), (1, .func (.func g) #[] cap.toArray), (7, i64 (l.length : Int)), (8, i64 (j : Int))]) (fun j => I) (fun j => []) 0 ⟨Nat.zero_le _, fun g hg => by simp at hg⟩ ⟨rfl, rfl, rfl, rfl, trivial⟩ rfl rfl ?_))
 rintro j ⟨hj, hall⟩
 refine Cj.sr (J.z q17 ?_)
 refine J.nss (Cj.cond rfl (fun hc1 => ?_) (fun hc1 => ?_))
 ·
  have hc1p := odt hc1
  have hlt : j < l.length := by omega
  obtain ⟨x, hget⟩ : ∃ x, l[j]? = some x := ⟨_, lgg hlt⟩
  obtain ⟨fb, fo, fcs, fty, ffr, sp, rfl, hfb, hfd⟩ := hp (ne_nil_of hlt)
  refine Cj.ks (Cj.seq (Cj.block (Cj.sr (J.z q0 ?_))))
  refine J.z q1 ?_
  refine J.nssr (J.z q0 ?_)
  refine J.z q0 ?_
  refine J.z q0 ?_
  refine J.z (q19 (off' := fo + j * 2) tU44 tS26) ?_
  refine J.z (q43 tA26 tS26 (Blk.imm hfb) (row_from recC_len hfd hget)) ?_
  refine J.op rfl (op_pure rfl rfl rfl rfl rfl (hcl x (lmg hget)) ?_)
  refine J.cd (fun hc2 => ?_) (fun hc2 => ?_)
  ·
   have ht : pq x = true := hc2
   refine Cj.sr (J.z q0 ?_)
   refine J.z q1 ?_
   refine J.ns (Cj.ret (Ej.blkRet (Ej.seqRet (Ej.loopRet (Ej.blkRet (Ej.seqRet (q6 ?_)))))))
   rw [idxI_at hall hget ht]
   exact ⟨rfl, rfl⟩
  have hnt : pq x = false := hc2
  refine Cj.kb (Cj.region (J.z q7 ?_))
  refine J.z q0 ?_
  refine J.nil (Ej.round (j + 1) ⟨by omega, false_next hall hget hnt⟩ (by omega) ⟨rfl, rfl, rfl, rfl, trivial⟩ rfl rfl)
 have hc1p := odf hc1
 have hfull : l.take j = l := List.take_of_length_le (by omega)
 rw [hfull] at hall
 refine Cj.xl (Cj.sr (J.z q1 ?_))
 refine J.ns (Cj.ret (q6 ?_))
 rw [idxI_none hall]
 exact ⟨rfl, rfl⟩
theorem IndexFuncR_own (b c : Nat) (sp : List Value) (l : List Ix.Rec) (hc : l.length ≤ c) (pq : Ix.Rec → Bool) (g : Nat) (cap : List Value) (hl : l.length ≤ 100000000000000) (I : Heap) (hcl : ∀ J, Le I J → ∀ x ∈ l, Pure Tryz.prog g (kvR x :: cap) J (.bool (pq x))) :
    Ctr Tryz.prog 83 [.slice (some ⟨b, 0, none⟩) l.length c, .func (.func g) #[] cap.toArray] I [(b, cel 26 (l.flatMap recC ++ sp))] (fun e _ H' => e = .returned (i64 (idxI pq l)) ∧ H' = [(b, cel 26 (l.flatMap recC ++ sp))]) := by
  refine Ctr.withReady (Enters.of func83 (by decide) rfl) fun hn hd => ?_
  have hr : RowS recC (hputs [(b, cel 26 (l.flatMap recC ++ sp))] I) l (.slice (some ⟨b, 0, none⟩) l.length c) := RowS.of hc (hputs_at hn _ (.head _))
  refine (Ctr.borrow (IndexFuncR_ok l _ pq g cap hl _ hr (hcl _ (hputs_le hd)))).mono fun e I' H' _ ⟨J, M, ⟨h1, _, h3⟩, h4, _⟩ => ⟨h1, ?_⟩
  rw [h4, h3, List.append_nil]
theorem any_idx {α : Type} (p : α → Bool) (l : List α) : decide (0 ≤ idxI p l) = l.any p := by
  rcases idxI_cases p l with ⟨h1, h2⟩ | ⟨k, x, h1, h2, h3⟩
  · rw [h1]
    have : l.any p = false := by
      rw [Bool.eq_false_iff, Ne, List.any_eq_true]
      rintro ⟨y, hy, hp⟩
      exact absurd hp (by simpa using List.find?_eq_none.1 h2 y hy)
    rw [this]; rfl
  rw [h1]
  have : l.any p = true := List.any_eq_true.2 ⟨x, lmg h2, by have := List.find?_some h3; exact this⟩
  rw [this]; exact decide_eq_true (by omega)
theorem ContainsFuncV_ok (l : List VW) (v : Value) (pq : VW → Bool) (g : Nat) (cap : List Value) (hl : l.length ≤ 100000000000000) (I : Heap) (hr : RowS vwC I l v) (hw : ∀ x ∈ l, StrS 9 I x.1.ws x.2) (hcl : ∀ x ∈ l, Pure Tryz.prog g (.agg (vwC x).toArray :: cap) I (.bool (pq x))) : Pure Tryz.prog 50 [v, .func (.func g) #[] cap.toArray] I (.bool (l.any pq)) := by
 refine Ctr.toPure ?_
 refine Ctr.ob func50 ?_
 intro w0 hw0
 refine Cj.sr (J.z q1 ?_)
 refine J.nssr (J.z q0 ?_)
 refine J.z q0 ?_
 refine J.op rfl (op_pure rfl rfl rfl rfl rfl (IndexFuncV_ok l v pq g cap hl _ hr hw hcl) ?_)
 refine J.z q34 ?_
 refine J.z q1 ?_
 refine J.ns (Cj.ret (q6 ?_))
 rw [← any_idx]
 exact ⟨rfl, rfl⟩
theorem sort1_ok (x : VW) (p : Option Addr) (n c : Nat) (_hx : x.2 = .slice p n c) (I : Heap) : Pure Tryz.prog 64 [.agg (vwC x).toArray] I (.bool (decide (x.1.name = Ix.nTitle))) := by
 refine Ctr.toPure ?_
 refine Ctr.ob func64 ?_
 intro w0 hw0
 refine Cj.sr (J.op rfl (q28 ?_))
 intro b1 hb1
 refine J.z q1 ?_
 refine J.nssr (J.z (q4 (off' := 0) tU98 tS9) ?_)
 refine J.z (q18 tA9) ?_
 refine J.z q31 ?_
 refine J.eqv 5 rfl (show _ = .bool (decide (x.1.name = Ix.nTitle)) from (congrArg Value.bool (by rw [Bool.eq_iff_iff, beq_iff_eq, decide_eq_true_eq]; exact Iff.rfl))) ?_
 refine J.z q1 ?_
 refine J.ns (Cj.ret (Ej.bare ?_))
 refine q6 ?_
 exact ⟨rfl, rfl⟩
theorem phrase11_ok (x : VW) (nb lb : Nat) (n : List UInt8) (w : List (List UInt8)) (wv : Value) (I : Heap) (hx : StrS 9 I x.1.ws x.2) (hxl : x.1.ws.length ≤ 10000000) (hwl : w.length ≤ 1000000000) (hw : StrS 9 I w wv) (hnb : I nb = some (cel 9 [str n])) (hlb : I lb = some (cel 28 [wv])) : Pure Tryz.prog 51 [.agg (vwC x).toArray, ptr nb 0, ptr lb 0] I (.bool (decide (x.1.name = n) && Ix.within w x.1.ws)) := by
 refine Ctr.toPure ?_
 refine Ctr.ob func51 ?_
 intro w0 hw0
 refine Cj.sr (J.op rfl (q28 ?_))
 intro b1 hb1
 refine J.z q1 ?_
 refine J.nssr (J.z (q4 (off' := 0) tU98 tS9) ?_)
 refine J.z (q18 tA9) ?_
 refine J.z (q9 tA9 (Blk.imm hnb)) ?_
 refine J.z q31 ?_
 refine J.z q0 ?_
 refine q16 9 (fun hg2 => ?_) (fun hg2 => ?_)
 ·
  have hg2p := ebq hg2
  refine q5 4 9 true hg2 (q2 (q4 (off' := 2) tU98 tS28) ?_)
  refine q5 4 9 true hg2 (q2 (q18 tA28) ?_)
  refine q5 4 9 true hg2 (q2 (q9 tA28 (Blk.imm hlb)) ?_)
  refine J.opG 4 9 true _ rfl rfl rfl hg2 (op_pure rfl rfl rfl rfl rfl (contains_ok x.1.ws w _ _ _ (StrP.of hx) (StrP.of hw) (by omega) (by omega)) ?_)
  refine J.z (q11 hg2) ?_
  refine J.z q1 ?_
  refine J.ns (Cj.ret (Ej.bare ?_))
  refine q6 ?_
  rw [decide_eq_true (ebq hg2 : x.1.name = n), Bool.true_and]
  exact ⟨rfl, rfl⟩
 have hg2p := nbf hg2
 refine q3 4 9 10 true hg2 ?_
 refine q3 4 9 11 true hg2 ?_
 refine q3 4 9 12 true hg2 ?_
 refine q3 4 9 13 true hg2 ?_
 refine J.z (q10 hg2) ?_
 refine J.z q1 ?_
 refine J.ns (Cj.ret (Ej.bare ?_))
 refine q6 ?_
 rw [decide_eq_false (nbf hg2 : x.1.name ≠ n)]
 exact ⟨rfl, rfl⟩
theorem map_any {α β : Type} (f : α → β) (p : β → Bool) (l : List α) : (l.map f).any p = l.any fun x => p (f x) := by rw [List.any_map]; rfl
theorem hasW_any {I : Heap} {xs : List VW} {vs : List Ix.V} (h : ValsX I xs vs) (n : List UInt8) (w : Ke.Row) : xs.any (fun x => decide (x.1.name = n) && Ix.within w x.1.ws) = Ix.hasW n w vs := by
  unfold Ix.hasW
  rw [← h.1, map_any]
def lacks (L : Ix.Ix) (n : List UInt8) (w : Ke.Row) (t : Ix.Rec) : Bool := !Ix.hasW n w ((Ix.rget L t).getD [])
theorem phrase1_some (xb nb lb ib : Nat) (mb : Nat) (m : ML Ix.Rec) (k : Nat) (wm km : Option Nat) (L : Ix.Ix) (n : List UInt8) (w : List (List UInt8)) (wv : Value) (t : Ix.Rec) (I : Heap) (_hs : Ix.Srt L) (hvk : VOK ((Ix.rget L t).getD [])) (hwl : w.length ≤ 1000000000) (hw : StrS 9 I w wv) (hxb : I xb = some (cel 38 [ptr ib 0])) (hnb : I nb = some (cel 9 [str n])) (hlb : I lb = some (cel 28 [wv])) (hib : I ib = some (cel 89 [.map (some mb), .map wm, .map km])) (hmb : I mb = some (mobj kvR m k)) (_hms : MS m k) (hmv : ValMap I m L) : Pure Tryz.prog 49 [kvR t, ptr xb 0, ptr nb 0, ptr lb 0] I (.bool (lacks L n w t)) := by
 refine Ctr.toPure ?_
 obtain ⟨vv, hvv, xs, hrow, hX⟩ := hmv.at t
 have hxl := hX.len
 have hv1 := hvk.1
 refine Ctr.ob func49 ?_
 intro w0 hw0
 refine Cj.sr (J.op rfl (q28 ?_))
 intro b1 hb1
 refine J.z q1 ?_
 refine J.nss (Cj.drawSel [0] [] 10 (by kernel_rfl) ?_)
 have hxb_1 := hxb
 have hib_1 := hib
 have hmb_1 := hmb
 refine JA.fix ⟨(HSub.c 0 rfl HSub.n), CSub.n, (Le.refl _)⟩ (fun fx2 => ?_)
 refine JA.tk 0 rfl fx2 (q9 tA38 (Blk.immC hxb_1)) ?_
 refine JA.tk 1 rfl fx2 q8 ?_
 refine JA.tk 2 rfl fx2 (q4 (off' := 0) tU89 tS85) ?_
 refine JA.tk 3 rfl fx2 (q9 tA85 (Blk.immC hib_1)) ?_
 refine JA.tk 4 rfl fx2 (q27 tA26 tS26 (Blk.atC 0 rfl)) ?_
 refine JA.tk 5 rfl fx2 (q45 (kv := kvR) (l := m) (a := t) tU85 keyR tZ96 (Blk.immC hmb_1)) ?_
 refine JA.eqv 11 rfl (show _ = vv from hvv) ?_
 refine JA.tk 6 rfl fx2 (yl_makeFunc rfl rfl rfl) ?_
 refine q13 7 rfl (op_pure rfl rfl rfl rfl rfl (ContainsFuncV_ok xs _ (fun x => decide (x.1.name = n) && Ix.within w x.1.ws) _ [ptr nb 0, ptr lb 0] (by omega) _ hrow.row hX.2 (fun x hx => phrase11_ok x nb lb n w wv _ (hX.2 x hx) (hvk.2 _ (hX.1 ▸ List.mem_map_of_mem hx)) hwl hw hnb hlb)) ?_)
 refine ⟨⟨(Le.refl _), (HSub.c 0 rfl HSub.n), CSub.n⟩, ?_⟩
 refine JA.fix ⟨(HSub.c 0 rfl HSub.n), CSub.n, (Le.refl _)⟩ (fun fx3 => ?_)
 refine JA.tk 8 rfl fx3 q50 ?_
 refine JA.tk 9 rfl fx3 q1 ?_
 refine q14 ?_
 refine Ej.seq (Cj.ret (Ej.bare ?_))
 refine q6 ?_
 rw [hasW_any hX]
 exact ⟨rfl, rfl⟩
theorem phrase1_none (xb nb lb ib : Nat)  (wm km : Option Nat) (L : Ix.Ix) (n : List UInt8) (w : List (List UInt8)) (wv : Value) (t : Ix.Rec) (I : Heap) (hs : Ix.Srt L) (hvk : VOK ((Ix.rget L t).getD [])) (hwl : w.length ≤ 1000000000) (hw : StrS 9 I w wv) (hxb : I xb = some (cel 38 [ptr ib 0])) (hnb : I nb = some (cel 9 [str n])) (hlb : I lb = some (cel 28 [wv])) (hib : I ib = some (cel 89 [.map none, .map wm, .map km])) (hL : L = []) : Pure Tryz.prog 49 [kvR t, ptr xb 0, ptr nb 0, ptr lb 0] I (.bool (lacks L n w t)) := by
 refine Ctr.toPure ?_
 subst hL
 obtain ⟨xs, hrow, hX⟩ := ValsS.nil I
 have hxl := hX.len
 rw [List.length_nil] at hxl
 have hv1 := hvk.1
 refine Ctr.ob func49 ?_
 intro w0 hw0
 refine Cj.sr (J.op rfl (q28 ?_))
 intro b1 hb1
 refine J.z q1 ?_
 refine J.nss (Cj.drawSel [0] [] 10 (by kernel_rfl) ?_)
 have hxb_1 := hxb
 have hib_1 := hib
 refine JA.fix ⟨(HSub.c 0 rfl HSub.n), CSub.n, (Le.refl _)⟩ (fun fx2 => ?_)
 refine JA.tk 0 rfl fx2 (q9 tA38 (Blk.immC hxb_1)) ?_
 refine JA.tk 1 rfl fx2 q8 ?_
 refine JA.tk 2 rfl fx2 (q4 (off' := 0) tU89 tS85) ?_
 refine JA.tk 3 rfl fx2 (q9 tA85 (Blk.immC hib_1)) ?_
 refine JA.tk 4 rfl fx2 (q27 tA26 tS26 (Blk.atC 0 rfl)) ?_
 refine JA.tk 5 rfl fx2 (yl_lookupNil1 (kv := kvR) (a := t) rfl rfl rfl rfl tU85 keyR tZ96) ?_
 refine JA.tk 6 rfl fx2 (yl_makeFunc rfl rfl rfl) ?_
 refine q13 7 rfl (op_pure rfl rfl rfl rfl rfl (ContainsFuncV_ok xs _ (fun x => decide (x.1.name = n) && Ix.within w x.1.ws) _ [ptr nb 0, ptr lb 0] (by omega) _ hrow.row hX.2 (fun x hx => phrase11_ok x nb lb n w wv _ (hX.2 x hx) (hvk.2 _ (hX.1 ▸ List.mem_map_of_mem hx)) hwl hw hnb hlb)) ?_)
 refine ⟨⟨(Le.refl _), (HSub.c 0 rfl HSub.n), CSub.n⟩, ?_⟩
 refine JA.fix ⟨(HSub.c 0 rfl HSub.n), CSub.n, (Le.refl _)⟩ (fun fx3 => ?_)
 refine JA.tk 8 rfl fx3 q50 ?_
 refine JA.tk 9 rfl fx3 q1 ?_
 refine q14 ?_
 refine Ej.seq (Cj.ret (Ej.bare ?_))
 refine q6 ?_
 rw [hasW_any hX]
 exact ⟨rfl, rfl⟩
structure DL where
  i : Nat
  j : Nat
  zs : List Ix.Rec
theorem del_first {ts : List Ix.Rec} {pq : Ix.Rec → Bool} {k : Nat} {x : Ix.Rec} (hx : ts[k]? = some x) (hp : pq x = true) (h : ∀ y ∈ ts.take k, pq y = false) : (ts.take (k + 1)).filter (fun t => !pq t) = ts.take k := by
  rw [take_one hx, List.filter_append, List.filter_eq_self.2 (fun y hy => by simp [h y hy])]
  simp [hp]
theorem del_skip {ts zs : List Ix.Rec} {pq : Ix.Rec → Bool} {i j : Nat} {x : Ix.Rec} (h : zs.take i = (ts.take j).filter (fun t => !pq t)) (hx : ts[j]? = some x) (hp : pq x = true) : zs.take i = (ts.take (j + 1)).filter (fun t => !pq t) := by
  rw [take_one hx, List.filter_append, ← h]
  simp [hp]
theorem del_keep {ts zs : List Ix.Rec} {pq : Ix.Rec → Bool} {i j : Nat} {x : Ix.Rec} (hij : i < j) (h : zs.take i = (ts.take j).filter (fun t => !pq t)) (_hd : zs.drop j = ts.drop j) (hx : ts[j]? = some x) (hp : pq x = false) (hl : zs.length = ts.length) : (zs.set i x).take (i + 1) = (ts.take (j + 1)).filter (fun t => !pq t) := by
  have hj : j < ts.length := (List.getElem?_eq_some_iff.1 hx).1
  rw [take_one hx, List.filter_append, ← h, List.take_succ_eq_append_getElem (by rw [List.length_set]; omega), List.take_set_of_le (Nat.le_refl i)]
  simp [hp]
theorem keep_all {ts : List Ix.Rec} {pq : Ix.Rec → Bool} (h : ts.find? pq = none) : (ts.filter fun t => !pq t) = ts := by
  rw [List.find?_eq_none] at h
  exact List.filter_eq_self.2 fun y hy => by simp [h y hy]
theorem clr_take {zs : List Ix.Rec} {n i : Nat} {sp : List Value} (_ : zs.length = n) (hi : i ≤ zs.length) : (zs.flatMap recC ++ sp).take (0 + i * 2) = (zs.take i).flatMap recC := by
  have h1 : zs.flatMap recC = (zs.take i).flatMap recC ++ (zs.drop i).flatMap recC := by rw [← List.flatMap_append, List.take_append_drop]
  have h2 : ((zs.take i).flatMap recC).length = 0 + i * 2 := by rw [flat_len recC_len, List.length_take, Nat.min_eq_left hi]; omega
  rw [h1, List.append_assoc, ← h2, List.take_left]
theorem idx_before {pq : Ix.Rec → Bool} : ∀ {l : List Ix.Rec} {k : Nat}, idxI pq l = (k : Int) → ∀ y ∈ l.take k, pq y = false := fun {l k} h => by
  unfold idxI at h
  cases hf : l.findIdx? pq with
  | none => rw [hf] at h; simp only at h; omega
  | some j =>
    rw [hf] at h
    have hj : j = k := by simp only at h; omega
    subst hj
    obtain ⟨h1, h2, h3⟩ := List.findIdx?_eq_some_iff_getElem.1 hf
    intro y hy
    obtain ⟨i, hi, rfl⟩ := List.mem_iff_getElem.1 hy
    have hi' : i < j := by rw [List.length_take] at hi; omega
    have := h3 i hi'
    rw [List.getElem_take]
    simpa using this
theorem DeleteR_some {base : Nat} (b c : Nat) (sp : List Value) (ts : List Ix.Rec) (hg : gOk base 2 ts.length (ts.flatMap recC) (some (b, c, sp))) (pq : Ix.Rec → Bool) (g : Nat) (cap : List Value) (hl : ts.length ≤ 100000000000000) (I : Heap) (hcl : ∀ J, Le I J → ∀ x ∈ ts, Pure Tryz.prog g (kvR x :: cap) J (.bool (pq x))) : Ctr Tryz.prog 48 [.slice (some ⟨b, 0, none⟩) ts.length c, .func (.func g) #[] cap.toArray] I [(b, cel 26 (ts.flatMap recC ++ sp))]
    (fun e _ H' => ∃ g' : Gs, gOk 0 2 (ts.filter fun t => !pq t).length ((ts.filter fun t => !pq t).flatMap recC) g' ∧ e = .returned (gV (ts.filter fun t => !pq t).length g') ∧ H' = gH 26 ((ts.filter fun t => !pq t).flatMap recC) g') := by
 have hc : ts.length ≤ c := by
   obtain ⟨_, h2, h3⟩ := hg
   rw [flat_len recC_len] at h3; omega
 obtain ⟨-, hgl2, hgl3⟩ := id hg
 refine Ctr.ob func48 ?_
 intro w0 hw0
 refine Cj.sr (J.z q1 ?_)
 refine J.nssr (J.z q0 ?_)
 refine J.z q0 ?_
 refine J.pull Pull.z ?_
 refine J.op rfl (op_call (H1 := [_]) rfl rfl rfl rfl rfl (IndexFuncR_own b c sp ts hc pq g cap hl _ hcl) ?_ (fun _ _ _ _ h => by cases h.1) (fun _ _ h => by cases h.1))
 intro v1 I2 H3 hle4 hp5
 have hcl := fun J9 h9 => hcl J9 (Le.trans hle4 h9)
 obtain ⟨h, rfl⟩ := hp5; cases h
 refine J.z q1 ?_
 refine J.nsss (Cj.region (J.z q0 ?_))
 refine J.z q23 ?_
 refine J.cd (fun hc6 => ?_) (fun hc6 => ?_)
 ·
  have hc6p := ebq hc6
  have hnone : ts.find? pq = none := by
   rcases idxI_cases pq ts with h | ⟨k, x, h1, -, -⟩
   · exact h.2
   have h9 := ebq hc6; rw [h1] at h9; omega
  refine Cj.sr (J.z q0 ?_)
  refine J.z q1 ?_
  refine J.ns (Cj.rs (q6 ?_))
  rw [keep_all hnone]
  exact ⟨some (b, c, sp), gOk_zero hg, rfl, rfl⟩
 have hc6p := nbf hc6
 obtain ⟨k, x0, hkk, hget0, hfind⟩ := (idxI_cases pq ts).resolve_left (fun h => by have h9 := nbf hc6; exact h9 h.1)
 have hbef := idx_before hkk
 have hp0 : pq x0 = true := by have := List.find?_some hfind; exact this
 have hklt := (List.getElem?_eq_some_iff.1 hget0).1
 rw [hkk]
 refine Cj.ks (Cj.seq (Cj.sr (J.z q0 ?_)))
 refine J.z q7 ?_
 refine J.z q1 ?_
 refine J.ns (Cj.block (Cj.loop (ι := DL) (fun y => y.i < y.j ∧ y.j ≤ ts.length ∧ y.zs.length = ts.length ∧ y.zs.take y.i = (ts.take y.j).filter (fun t => !pq t) ∧ y.zs.drop y.j = ts.drop y.j) (fun y => ts.length - y.j) (fun y => [(0, .slice (some ⟨b, 0, none⟩) ts.length c), (1, .func (.func g) #[] cap.toArray), (5, i64 (y.i : Int)), (6, i64 (y.j : Int))]) (fun y => _) (fun y => [(b, cel 26 (y.zs.flatMap recC ++ sp))]) ⟨k, k + 1, ts⟩ ⟨Nat.lt_succ_self k, by dsimp only; omega, rfl, by dsimp only; exact (del_first hget0 hp0 hbef).symm, rfl⟩ ⟨rfl, rfl, rfl, rfl, trivial⟩ rfl rfl ?_))
 rintro ⟨i, j, zs⟩ ⟨hij, hj, hzl, htk, hdr⟩
 dsimp only at hij hj hzl htk hdr ⊢
 refine Cj.seq (Cj.sr (J.z q0 ?_))
 refine J.z q0 ?_
 refine J.z (q15 tU44) ?_
 refine J.z q17 ?_
 refine J.cd (fun hc7 => ?_) (fun hc7 => ?_)
 ·
  have hc7p := odt hc7
  have hlt : j < ts.length := by omega
  obtain ⟨x, hget⟩ : ∃ x, ts[j]? = some x := ⟨_, lgg hlt⟩
  have hzget : zs[j]? = some x := by rw [← hget, ← Nat.add_zero j, ← List.getElem?_drop, ← List.getElem?_drop, hdr]
  refine Cj.ks (Cj.seq (Cj.block (Cj.sr (J.z q0 ?_))))
  refine J.z q0 ?_
  refine J.z (q19 (off' := 0 + j * 2) tU44 tS26) ?_
  refine J.z (yl_loadAgg rfl rfl tA26 tS26 (Blk.at 0 rfl) (row_from recC_len (o := 0) rfl hzget) rfl) ?_
  refine J.op rfl (q46 tZ26 ?_)
  intro b8 hb8
  refine J.op rfl (q21 0 tS26 (LSpl.c (LSpl.c LSpl.z)) LSet.z ?_)
  refine J.nssr (J.z q0 ?_)
  refine J.z (q33 tA26 tS26) ?_
  refine J.op rfl (op_pure rfl rfl rfl rfl rfl (hcl _ (Le.refl _) x (lmg hget)) ?_)
  refine J.z q50 ?_
  refine J.cd (fun hc9 => ?_) (fun hc9 => ?_)
  ·
   have hnd : pq x = false := by have h := hc9; simpa using h
   refine Cj.sr (J.z q0 ?_)
   refine J.z q0 ?_
   refine J.z (q33 tA26 tS26) ?_
   refine J.z (yl_indexAddr (off' := i * 2) rfl rfl rfl tU44 tS26 (by omega) (by omega) (by omega)) ?_
   refine J.op rfl (op_store 1 rfl rfl rfl rfl rfl rfl tS26 rfl rfl (row_spl (x := x) recC_len (by omega)) (LSet.s LSet.z) ?_)
   refine J.nsr (J.z q0 ?_)
   refine J.z q7 ?_
   refine J.z q1 ?_
   refine J.nb (Cj.region (J.z q0 ?_))
   refine J.z q7 ?_
   refine J.z q1 ?_
   refine J.nil (Ej.keep (Keeps.d (Keeps.k Keeps.n)) ?_)
   refine Ej.round ⟨i + 1, j + 1, zs.set i x⟩ ⟨by dsimp only; omega, by dsimp only; omega, by dsimp only; rw [List.length_set]; exact hzl, by dsimp only; exact del_keep hij htk hdr hget hnd hzl, by dsimp only; rw [List.drop_set_of_lt (by omega), ← List.drop_drop, hdr, List.drop_drop]⟩ (by dsimp only; omega) ⟨rfl, rfl, rfl, rfl, trivial⟩ rfl rfl
  have hnd : pq x = true := by have h := hc9; simpa using h
  refine Cj.kb (Cj.region (J.z q0 ?_))
  refine J.z q7 ?_
  refine J.z q1 ?_
  refine J.nil (Ej.keep (Keeps.d (Keeps.k Keeps.n)) ?_)
  refine Ej.round ⟨i, j + 1, zs⟩ ⟨by dsimp only; omega, by dsimp only; omega, hzl, by dsimp only; exact del_skip htk hget hnd, by dsimp only; rw [← List.drop_drop, hdr, List.drop_drop]⟩ (by dsimp only; omega) ⟨rfl, rfl, rfl, rfl, trivial⟩ rfl rfl
 have hc7p := odf hc7
 refine Cj.xl (Cj.sr (J.z q0 ?_))
 refine J.z q0 ?_
 refine J.z (yl_slice1 (j := i) rfl rfl rfl tU44 tS26 rfl (by omega) (by omega)) ?_
 refine J.eqv 38 rfl (show _ = .slice (some ⟨b, 0 + i * 2, none⟩) (ts.length - i) (c - i) from (by unfold cutA; rw [if_neg (by omega), Option.map_some, Addr.add_lit])) ?_
 refine J.op rfl (op_clear (sz := 2) 0 rfl rfl rfl (by omega) tU44 tZ26 rfl (by decide) rfl rfl (by rw [List.length_append, flat_len recC_len, hzl]; omega) ?_)
 rintro zvs H9 hzl9 ⟨-, hset⟩
 simp only [List.set_cons_zero] at hset
 subst hset
 refine J.nss ?_
 have hzv := hzl9
 refine Cj.region (J.z q0 ?_)
 refine J.z q0 ?_
 refine J.z (yl_slice0 (k := i) rfl rfl rfl tU44 tS26 rfl (by omega)) ?_
 refine J.z q1 ?_
 refine J.ns (Cj.ret (q6 ?_))
 have htf : (ts.filter fun t => !pq t) = zs.take i := by rw [htk, List.take_of_length_le (by omega : ts.length ≤ j)]
 have hil : (zs.take i).length = i := by rw [List.length_take]; omega
 rw [htf, hil]
 refine ⟨some (b, c, zvs ++ (zs.flatMap recC ++ sp).drop (0 + i * 2 + (ts.length - i) * 2)), ⟨Nat.zero_le _, by rw [flat_len recC_len, hil], ?_⟩, rfl, ?_⟩
 · rw [flat_len recC_len, hil, List.length_append, hzv, List.length_drop, List.length_append, flat_len recC_len, hzl]; omega
 show [_] = [_]
 rw [clr_take hzl (by omega : i ≤ zs.length), List.append_assoc]
abbrev OwnT (l : List Ix.Rec) (v : Value) (H : HL) : Prop := OwnR 26 recC l v H
theorem own_g {base n : Nat} {l : List Ix.Rec} {g : Gs} (hn : n = l.length) (hg : gOk base 2 n (l.flatMap recC) g) : OwnT l (gV n g) (gH 26 (l.flatMap recC) g) := OwnR.of_g recC_len (by decide) hn hg
theorem own_nil : OwnT [] (.slice none 0 0) [] := .inl ⟨rfl, rfl, rfl⟩
theorem word_no {L : Ix.Ix} {n s : List UInt8} (h : (Ke.words s).length ≠ 1) : Ix.word L n s = [] := if_neg h
theorem word_one {L : Ix.Ix} {n s w : List UInt8} (h : Ke.words s = [w]) : Ix.word L n s = Ix.phrase L n [w] := by
  unfold Ix.word; rw [h]; rfl
theorem one_of {l : Ke.Row} {w : List UInt8} (h : l.length = 1) (hw : l[0]? = some w) : l = [w] := by
  match l, h with
  | [a], _ => simp at hw; rw [hw]
theorem phrase_cut {L : Ix.Ix} (hs : Ix.Srt L) (n x : List UInt8) (w : Ke.Row) : (Ix.phrase L n [x]).filter (fun t => !lacks L n (x :: w) t) = Ix.phrase L n (x :: w) :=
  Ix.phrase_of n x w _ hs fun t vs hg => by unfold lacks; rw [hg, Bool.not_not]; rfl
theorem sortOf_at {L : Ix.Ix} {t : Ix.Rec} : Ix.sortOf L t = match ((Ix.rget L t).getD []).find? fun v => decide (v.name = Ix.nTitle) with
    | none => []
    | some v => v.key := by
  unfold Ix.sortOf
  cases Ix.rget L t with
  | none => rfl
  | some vs => rfl
theorem find_map {α β : Type} (f : α → β) (p : β → Bool) (l : List α) : (l.map f).find? p = (l.find? fun x => p (f x)).map f := by
  induction l with
  | nil => rfl
  | cons a r ih =>
    rw [List.map_cons, List.find?_cons, List.find?_cons]
    cases p (f a) with
    | true => rfl
    | false => exact ih
theorem ixp_parts {I : Heap} {ib : Nat} {L : Ix.Ix} (h : IxP I ib L) (t : Ix.Rec) : VOK ((Ix.rget L t).getD []) := by
  obtain ⟨o, h1, _⟩ := h
  cases o with
  | none => rw [show L = [] from h1]; exact ⟨Nat.zero_le _, fun _ h => by cases h⟩
  | some s => exact rget_vok (IstOk.srt h1) (IstOk.vok h1) t
theorem keyOf_ok (n s : List UInt8) (hs : s.length ≤ 100000000) (I : Heap) : Pure Tryz.prog 55 [str n, str s] I (str (Ix.keyOf n s)) := by
 refine Ctr.toPure ?_
 have hil := isbn_len s
 refine Ctr.ob func55 ?_
 intro w0 hw0
 refine Cj.sr (J.z q1 ?_)
 refine J.nsss (Cj.region (J.z q0 ?_))
 refine J.op rfl (op_pure rfl rfl rfl rfl rfl (Isbn_ok s hs _) ?_)
 refine J.z q0 ?_
 refine J.z q25 ?_
 refine J.z q25 ?_
 refine J.z q1 ?_
 refine J.z q1 ?_
 refine J.nssr (J.z q0 ?_)
 refine J.z q0 ?_
 refine q16 13 (fun hg1 => ?_) (fun hg1 => ?_)
 ·
  refine q5 1 13 true hg1 (q2 q0 ?_)
  refine q5 1 13 true hg1 (q2 q31 ?_)
  refine J.z (q11 hg1) ?_
  refine J.cd (fun hc2 => ?_) (fun hc2 => ?_)
  ·
   have hc2p := ebq hc2
   have hk : Ix.keyOf n s = Ke.sortKey (Ke.isbn s).1 0 := if_pos ⟨hg1, ebq hc2⟩
   refine Cj.region (J.z q0 ?_)
   refine J.z q1 ?_
   refine J.nssr (J.z q0 ?_)
   refine J.op rfl (op_pure rfl rfl rfl rfl rfl (Sort_ok (Ke.isbn s).1 0 (by omega) _) ?_)
   refine J.z q1 ?_
   refine J.ns (Cj.ret (q6 ?_))
   rw [hk]
   exact ⟨rfl, rfl⟩
  have hc2p := nbf hc2
  have hk : Ix.keyOf n s = Ke.sortKey s 0 := if_neg (fun g => nbf hc2 g.2)
  refine Cj.ks (Cj.sr (J.z q0 ?_))
  refine J.op rfl (op_pure rfl rfl rfl rfl rfl (Sort_ok s 0 hs _) ?_)
  refine J.z q1 ?_
  refine J.ns (Cj.ret (q6 ?_))
  rw [hk]
  exact ⟨rfl, rfl⟩
 have hk : Ix.keyOf n s = Ke.sortKey s 0 := if_neg (fun g => Bool.noConfusion (g.1.symm.trans hg1))
 refine q3 1 13 14 true hg1 ?_
 refine q3 1 13 15 true hg1 ?_
 refine J.z (q10 hg1) ?_
 refine J.c0 (fun hc3 => ?_)
 refine Cj.ks (Cj.sr (J.z q0 ?_))
 refine J.op rfl (op_pure rfl rfl rfl rfl rfl (Sort_ok s 0 hs _) ?_)
 refine J.z q1 ?_
 refine J.ns (Cj.ret (q6 ?_))
 rw [hk]
 exact ⟨rfl, rfl⟩
theorem Word_ok (ib : Nat) (L : Ix.Ix) (n s : List UInt8) (hs : s.length ≤ 100000000) (I : Heap) (hx : IxP I ib L) : Ctr Tryz.prog 19 [ptr ib 0, str n, str s] I [] (fun e _ H' => ∃ v, e = .returned v ∧ OwnT (Ix.word L n s) v H') := by
 have hsrt := hx.srt
 have hbig := hx.big
 obtain ⟨vm, wm, km, hib, hV, hW, hK⟩ := hx.parts
 have hwl := (Ke.words_len s).1
 refine Ctr.ob func19 ?_
 intro w0 hw0
 refine Cj.sr (J.z q1 ?_)
 refine J.nssr (J.z q0 ?_)
 refine J.op rfl (q36 (H1 := []) rfl rfl rfl rfl rfl (Words_ok s (by omega) _) ?_)
 intro v1 I2 H3 hle4 hp5
 have hib := hle4 _ _ hib
 have hW := hW.mono hle4
 obtain ⟨wv, h, hw, rfl⟩ := hp5; cases h
 obtain ⟨wp, wc, rfl⟩ := StrS_sl hw
 refine J.z q1 ?_
 refine J.nsss (Cj.region (J.z q0 ?_))
 refine J.z (q52 tU38) ?_
 refine J.z q0 ?_
 refine q12 2 12 false (q2 q0 ?_)
 refine q12 2 12 false (q2 (q15 tU28) ?_)
 refine q12 2 12 false (q2 q47 ?_)
 refine J.z q30 ?_
 refine J.cd (fun hc6 => ?_) (fun hc6 => ?_)
 ·
  have hc6p := bne_iff_ne.1 hc6
  have hne1 : (Ke.words s).length ≠ 1 := by have h := bne_iff_ne.1 hc6; omega
  refine Cj.sr (J.z q1 ?_)
  refine J.ns (Cj.rs ?_)
  rw [word_no hne1]
  refine Ej.bare ?_
  refine q6 ?_
  exact ⟨_, rfl, own_nil⟩
 have hc6p := bne_f hc6
 have hl1 : (Ke.words s).length = 1 := by have h := bne_f hc6; omega
 obtain ⟨w1, hget⟩ : ∃ w, (Ke.words s)[0]? = some w := ⟨_, lgg (by omega)⟩
 have hw1 := one_of hl1 hget
 obtain ⟨wb, wc1, wsp, hwe, hwb⟩ := hw.some (ne_nil_of (by omega : 0 < (Ke.words s).length))
 cases hwe
 refine Cj.ks (Cj.seq (Cj.drawSel [] [] 11 (by kernel_rfl) ?_))
 have hib_4 := hib
 have hwb_4 := hwb
 refine JA.fix fx1 (fun fx7 => ?_)
 refine JA.tk 0 rfl fx7 q0 ?_
 refine JA.tk 1 rfl fx7 q8 ?_
 refine JA.tk 2 rfl fx7 (q4 (off' := 1) tU89 tS87) ?_
 refine JA.tk 3 rfl fx7 (q9 isAgg87 (Blk.immC hib_4)) ?_
 refine JA.tk 4 rfl fx7 q0 ?_
 refine JA.tk 5 rfl fx7 q0 ?_
 refine JA.tk 6 rfl fx7 (yl_indexAddr (off' := 0) rfl rfl rfl tU28 tS9 (by decide) (by omega) (by simp)) ?_
 refine JA.tk 7 rfl fx7 (q37 tA9 (Blk.immC hwb_4) (str_get hget)) ?_
 refine JA.tk 8 rfl fx7 (yl_buildS (pl := #[(0, 1), (1, 1)]) rfl rfl tZ93 rfl tU93 (fun w => by simp []) (LBld.part rfl rfl rfl (LSpl.c LSpl.z) (LBld.part rfl rfl rfl (LSpl.s (LSpl.c LSpl.z)) LBld.none))) ?_
 refine q13 9 rfl (op_call (H1 := []) rfl rfl rfl rfl rfl (titles_ok wm _ L (n, w1) _ hW hsrt hbig (cnt_in hsrt _)) ?_ (fun _ _ _ _ ⟨_, _, _, _, _, h, _⟩ => nomatch h) (fun _ _ ⟨_, _, _, _, _, h, _⟩ => nomatch h))
 intro v8 I9 H10 hle11 hp12
 obtain ⟨ts, g, hpw, hmem, hg, h, rfl⟩ := hp12; cases h
 refine ⟨⟨(Le.trans (Le.refl _) hle11), HSub.n, CSub.n⟩, ?_⟩
 refine JA.fix ⟨HSub.n, CSub.n, (Le.trans (Le.refl _) hle11)⟩ (fun fx13 => ?_)
 refine JA.tk 10 rfl fx13 q1 ?_
 refine q14 ?_
 refine Ej.seq (Cj.ret ?_)
 have hts := Ix.titles_word hsrt hpw hmem
 rw [word_one hw1]
 subst hts
 refine Ej.keep (H' := gH _ _ g) (List.sublist_append_left _ _) ?_
 refine q6 ?_
 exact ⟨_, rfl, own_g rfl hg⟩
theorem Key_ok (ib : Nat) (L : Ix.Ix) (n s : List UInt8) (hs : s.length ≤ 100000000) (I : Heap) (hx : IxP I ib L) : Ctr Tryz.prog 23 [ptr ib 0, str n, str s] I [] (fun e _ H' => ∃ v, e = .returned v ∧ OwnT (Ix.withK L n (Ix.keyOf n s)) v H') := by
 have hsrt := hx.srt
 have hbig := hx.big
 obtain ⟨vm, wm, km, hib, hV, hW, hK⟩ := hx.parts
 refine Ctr.ob func23 ?_
 intro w0 hw0
 refine Cj.sr (J.z q1 ?_)
 refine J.nsss (Cj.region (J.z q0 ?_))
 refine J.z (q52 tU38) ?_
 refine J.c0 (fun hc1 => ?_)
 refine Cj.ks (Cj.seq (Cj.drawSel [] [] 11 (by kernel_rfl) ?_))
 have hib_3 := hib
 refine JA.fix fx1 (fun fx2 => ?_)
 refine JA.tk 0 rfl fx2 q0 ?_
 refine JA.tk 1 rfl fx2 q8 ?_
 refine JA.tk 2 rfl fx2 (q4 (off' := 2) tU89 tS87) ?_
 refine JA.tk 3 rfl fx2 (q9 isAgg87 (Blk.immC hib_3)) ?_
 refine JA.tk 4 rfl fx2 q0 ?_
 refine JA.tk 5 rfl fx2 q0 ?_
 refine JA.tk 6 rfl fx2 q0 ?_
 refine q13 7 rfl (op_pure rfl rfl rfl rfl rfl (keyOf_ok n s hs _) ?_)
 refine ⟨fx0, ?_⟩
 refine JA.fix fx1 (fun fx3 => ?_)
 refine JA.tk 8 rfl fx3 (yl_buildS (pl := #[(0, 1), (1, 1)]) rfl rfl tZ93 rfl tU93 (fun w => by simp []) (LBld.part rfl rfl rfl (LSpl.c LSpl.z) (LBld.part rfl rfl rfl (LSpl.s (LSpl.c LSpl.z)) LBld.none))) ?_
 refine q13 9 rfl (op_call (H1 := []) rfl rfl rfl rfl rfl (titles_ok km _ L (n, Ix.keyOf n s) _ hK hsrt hbig (cnt_in hsrt _)) ?_ (fun _ _ _ _ ⟨_, _, _, _, _, h, _⟩ => nomatch h) (fun _ _ ⟨_, _, _, _, _, h, _⟩ => nomatch h))
 intro v4 I5 H6 hle7 hp8
 obtain ⟨ts, g, hpw, hmem, hg, h, rfl⟩ := hp8; cases h
 refine ⟨⟨(Le.trans (Le.refl _) hle7), HSub.n, CSub.n⟩, ?_⟩
 refine JA.fix ⟨HSub.n, CSub.n, (Le.trans (Le.refl _) hle7)⟩ (fun fx9 => ?_)
 refine JA.tk 10 rfl fx9 q1 ?_
 refine q14 ?_
 refine Ej.seq (Cj.ret ?_)
 have hts := Ix.titles_key hsrt hpw hmem
 subst hts
 refine Ej.keep (H' := gH _ _ g) (List.sublist_append_left _ _) ?_
 refine q6 ?_
 exact ⟨_, rfl, own_g rfl hg⟩
theorem DeleteR_none (pq : Ix.Rec → Bool) (g : Nat) (cap : List Value) (I : Heap) : Ctr Tryz.prog 48 [.slice none 0 0, .func (.func g) #[] cap.toArray] I [] (fun e _ H' => e = .returned (.slice none 0 0) ∧ H' = []) := by
 refine Ctr.ob func48 ?_
 intro w0 hw0
 refine Cj.sr (J.z q1 ?_)
 refine J.nssr (J.z q0 ?_)
 refine J.z q0 ?_
 refine J.op rfl (op_pure rfl rfl rfl rfl rfl (IndexFuncR_ok [] _ pq g cap (by decide) _ RowS.nil (fun x hx => by cases hx)) ?_)
 refine J.eqv 10 rfl (show _ = i64 (-1) from rfl) ?_
 refine J.z q1 ?_
 refine J.nsss (Cj.region (J.z q0 ?_))
 refine J.z q23 ?_
 refine J.c1 (fun hc1 => ?_)
 refine Cj.sr (J.z q0 ?_)
 refine J.z q1 ?_
 refine J.ns (Cj.rs (q6 ?_))
 exact ⟨rfl, rfl⟩
theorem phrase1_ok (xb nb lb ib : Nat) (vm wm km : Option Nat) (L : Ix.Ix) (n : List UInt8) (w : List (List UInt8)) (wv : Value) (t : Ix.Rec) (I : Heap) (hs : Ix.Srt L) (hvk : VOK ((Ix.rget L t).getD [])) (hwl : w.length ≤ 1000000000) (hw : StrS 9 I w wv) (hxb : I xb = some (cel 38 [ptr ib 0])) (hnb : I nb = some (cel 9 [str n])) (hlb : I lb = some (cel 28 [wv])) (hib : I ib = some (cel 89 [.map vm, .map wm, .map km])) (hV : ValP I vm L) : Pure Tryz.prog 49 [kvR t, ptr xb 0, ptr nb 0, ptr lb 0] I (.bool (lacks L n w t)) := by
  rcases hV with ⟨rfl, hL⟩ | ⟨b, l, c, rfl, hms, hvm, hb⟩
  · exact phrase1_none xb nb lb ib wm km L n w wv t I hs hvk hwl hw hxb hnb hlb hib hL
  exact phrase1_some xb nb lb ib b l c wm km L n w wv t I hs hvk hwl hw hxb hnb hlb hib hb hms hvm
theorem DeleteR_ok {base : Nat} (ts : List Ix.Rec) (g : Gs) (hg : gOk base 2 ts.length (ts.flatMap recC) g) (pq : Ix.Rec → Bool) (f : Nat) (cap : List Value) (hl : ts.length ≤ 100000000000000) (I : Heap) (hcl : ∀ J, Le I J → ∀ x ∈ ts, Pure Tryz.prog f (kvR x :: cap) J (.bool (pq x))) : Ctr Tryz.prog 48 [gV ts.length g, .func (.func f) #[] cap.toArray] I (gH 26 (ts.flatMap recC) g)
    (fun e _ H' => ∃ g' : Gs, gOk 0 2 (ts.filter fun t => !pq t).length ((ts.filter fun t => !pq t).flatMap recC) g' ∧ e = .returned (gV (ts.filter fun t => !pq t).length g') ∧ H' = gH 26 ((ts.filter fun t => !pq t).flatMap recC) g') := by
  cases g with
  | none =>
    have h0 : ts = [] := List.length_eq_zero_iff.1 hg.1
    subst h0
    exact (DeleteR_none pq f cap I).mono fun e I' H' _ ⟨h1, h2⟩ => ⟨none, ⟨rfl, rfl⟩, h1, h2⟩
  | some q =>
    obtain ⟨b, c, sp⟩ := q
    exact DeleteR_some b c sp ts hg pq f cap hl I hcl
theorem phr_len {L : Ix.Ix} (_hs : Ix.Srt L) (hL : L.length ≤ 100000) (n : List UInt8) (w : Ke.Row) : (Ix.phrase L n w).length ≤ 100000000000000 := by
  unfold Ix.phrase
  split
  · simp
  rw [List.length_map]
  have := List.length_filter_le (fun e : Ix.Rec × List Ix.V => Ix.hasW n w e.2) L
  omega
theorem PhraseG_ok (ib : Nat) (L : Ix.Ix) (n s : List UInt8) (hs : s.length ≤ 100000000) (I : Heap) (hx : IxP I ib L) : Ctr Tryz.prog 21 [ptr ib 0, str n, str s] I [] (fun e _ H' => ∃ g, gOk 0 2 (Ix.phrase L n (Ke.words s)).length ((Ix.phrase L n (Ke.words s)).flatMap recC) g ∧ e = .returned (gV (Ix.phrase L n (Ke.words s)).length g) ∧ H' = gH 26 ((Ix.phrase L n (Ke.words s)).flatMap recC) g) := by
 have hsrt := hx.srt
 have hbig := hx.big
 obtain ⟨vm, wm, km, hib, hV, hW, hK⟩ := hx.parts
 have hvok := fun t => ixp_parts hx t
 have hwl := (Ke.words_len s).1
 refine Ctr.ob func21 ?_
 intro w0 hw0
 refine Cj.sr (J.op rfl (q28 ?_))
 intro b1 hb1
 refine J.op rfl (q28 ?_)
 intro b2 hb2
 refine J.z q1 ?_
 refine J.nss (Cj.pull (Pull.s Pull.z) ?_)
 refine Cj.persist hb1 (fun I4 hle3 hb1i => ?_)
 have hib := hle3 _ _ hib
 have hW := hW.mono hle3
 have hV := hV.mono hle3
 refine Cj.persist hb2 (fun I6 hle5 hb2i => ?_)
 have hib := hle5 _ _ hib
 have hW := hW.mono hle5
 have hV := hV.mono hle5
 have hb1i := hle5 _ _ hb1i
 refine Cj.region (J.z q0 ?_)
 refine J.op rfl (q36 (H1 := []) rfl rfl rfl rfl rfl (Words_ok s (by omega) _) ?_)
 intro v7 I8 H9 hle10 hp11
 have hib := hle10 _ _ hib
 have hW := hW.mono hle10
 have hV := hV.mono hle10
 have hb1i := hle10 _ _ hb1i
 have hb2i := hle10 _ _ hb2i
 obtain ⟨wv, h, hw, rfl⟩ := hp11; cases h
 obtain ⟨wp, wc, rfl⟩ := StrS_sl hw
 refine J.op rfl (q46 zeroValue28 ?_)
 intro b12 hb12
 refine J.op rfl (q21 0 tS28 (LSpl.c LSpl.z) LSet.z ?_)
 refine J.nsss (Cj.persist hb12 (fun I14 hle13 hb12i => ?_))
 have hib := hle13 _ _ hib
 have hW := hW.mono hle13
 have hV := hV.mono hle13
 have hb1i := hle13 _ _ hb1i
 have hb2i := hle13 _ _ hb2i
 have hw := hw.mono hle13
 refine Cj.region (J.z (q9 tA38 (Blk.imm hb1i)) ?_)
 refine J.z (q52 tU38) ?_
 refine J.z q0 ?_
 refine q12 2 12 false (q2 (q9 tA28 (Blk.imm hb12i)) ?_)
 refine q12 2 12 false (q2 (q15 tU28) ?_)
 refine q12 2 12 false (q2 q23 ?_)
 refine J.z q30 ?_
 refine J.cd (fun hc15 => ?_) (fun hc15 => ?_)
 ·
  have hc15p := ebq hc15
  refine Cj.sr (J.z q1 ?_)
  refine J.ns (Cj.rs ?_)
  rw [show Ix.phrase L n (Ke.words s) = [] from if_pos (List.length_eq_zero_iff.1 (by have h := ebq hc15; omega))]
  refine Ej.bare ?_
  refine q6 ?_
  exact ⟨none, ⟨rfl, rfl⟩, rfl, rfl⟩
 have hc15p := nbf hc15
 have hl0 : (Ke.words s).length ≠ 0 := by have h := nbf hc15; omega
 obtain ⟨x, w, hxw⟩ : ∃ x w, Ke.words s = x :: w := by
  cases hc : Ke.words s with
  | nil => rw [hc] at hl0; exact absurd rfl hl0
  | cons a r => exact ⟨a, r, rfl⟩
 have hget : (Ke.words s)[0]? = some x := by rw [hxw]; rfl
 obtain ⟨wb, wc1, wsp, hwe, hwb⟩ := hw.some (ne_nil_of (by omega : 0 < (Ke.words s).length))
 cases hwe
 refine Cj.ks (Cj.seq (Cj.drawSel [] [] 13 (by kernel_rfl) ?_))
 have hib_4 := hib
 have hb1i_4 := hb1i
 have hb2i_4 := hb2i
 have hb12i_4 := hb12i
 have hwb_4 := hwb
 refine JA.fix fx1 (fun fx16 => ?_)
 refine JA.tk 0 rfl fx16 (q9 tA38 (Blk.immC hb1i_4)) ?_
 refine JA.tk 1 rfl fx16 q8 ?_
 refine JA.tk 2 rfl fx16 (q4 (off' := 1) tU89 tS87) ?_
 refine JA.tk 3 rfl fx16 (q9 isAgg87 (Blk.immC hib_4)) ?_
 refine JA.tk 4 rfl fx16 (q9 tA9 (Blk.immC hb2i_4)) ?_
 refine JA.tk 5 rfl fx16 (q9 tA28 (Blk.immC hb12i_4)) ?_
 refine JA.tk 6 rfl fx16 (yl_indexAddr (off' := 0) rfl rfl rfl tU28 tS9 (by decide) (by omega) (by simp)) ?_
 refine JA.tk 7 rfl fx16 (q37 tA9 (Blk.immC hwb_4) (str_get hget)) ?_
 refine JA.tk 8 rfl fx16 (yl_buildS (pl := #[(0, 1), (1, 1)]) rfl rfl tZ93 rfl tU93 (fun w => by simp []) (LBld.part rfl rfl rfl (LSpl.c LSpl.z) (LBld.part rfl rfl rfl (LSpl.s (LSpl.c LSpl.z)) LBld.none))) ?_
 refine JA.tk 10 rfl fx16 (yl_makeFunc rfl rfl rfl) ?_
 refine q13 9 rfl (op_call (H1 := []) rfl rfl rfl rfl rfl (titles_ok wm _ L (n, x) _ hW hsrt hbig (cnt_in hsrt _)) ?_ (fun _ _ _ _ ⟨_, _, _, _, _, h, _⟩ => nomatch h) (fun _ _ ⟨_, _, _, _, _, h, _⟩ => nomatch h))
 intro v17 I18 H19 hle20 hp21
 have hib := hle20 _ _ hib
 have hV := hV.mono hle20
 have hb1i := hle20 _ _ hb1i
 have hb2i := hle20 _ _ hb2i
 have hw := hw.mono hle20
 have hb12i := hle20 _ _ hb12i
 obtain ⟨ts, g, hpw, hmem, hg, h, rfl⟩ := hp21; cases h
 have hts := Ix.titles_word hsrt hpw hmem
 have hg2 := hg
 refine ⟨⟨(Le.trans (Le.refl _) hle20), HSub.n, CSub.n⟩, ?_⟩
 refine q13 11 rfl (op_callR (H1 := gH 26 (ts.flatMap recC) g) [] (List.append_nil _) rfl rfl rfl rfl rfl (DeleteR_ok ts g hg2 (lacks L n (Ke.words s)) _ [ptr b1 0, ptr b2 0, ptr b12 0] (by rw [hts]; exact phr_len hsrt hbig _ _) _ (fun J9 h9 t _ => phrase1_ok b1 b2 b12 ib vm wm km L n (Ke.words s) _ t J9 hsrt (hvok t) (by omega) (hw.mono h9) (h9 _ _ hb1i) (h9 _ _ hb2i) (h9 _ _ hb12i) (h9 _ _ hib) (hV.mono h9))) ?_ (fun _ _ _ _ ⟨_, _, h, _⟩ => nomatch h) (fun _ _ ⟨_, _, h, _⟩ => nomatch h))
 rintro v9 I9 H9 hle9 ⟨g9, hg9, h, rfl⟩; cases h
 refine ⟨⟨(Le.trans (Le.trans (Le.refl _) hle20) hle9), HSub.n, CSub.n⟩, ?_⟩
 refine JA.fix ⟨HSub.n, CSub.n, (Le.trans (Le.trans (Le.refl _) hle20) hle9)⟩ (fun fx22 => ?_)
 refine JA.tk 12 rfl fx22 q1 ?_
 refine q14 ?_
 refine Ej.seq (Cj.ret ?_)
 rw [hts, hxw, phrase_cut hsrt n x w] at *
 refine q6 ?_
 exact ⟨g9, hg9, rfl, rfl⟩
theorem Phrase_ok (ib : Nat) (L : Ix.Ix) (n s : List UInt8) (hs : s.length ≤ 100000000) (I : Heap) (hx : IxP I ib L) : Ctr Tryz.prog 21 [ptr ib 0, str n, str s] I [] (fun e _ H' => ∃ v, e = .returned v ∧ OwnT (Ix.phrase L n (Ke.words s)) v H') :=
  (PhraseG_ok ib L n s hs I hx).mono fun _ _ _ _ ⟨_, h1, h2, h3⟩ => ⟨_, h2, by rw [h3]; exact own_g rfl h1⟩
theorem sort_no {I : Heap} {L : Ix.Ix} {t : Ix.Rec} {xs : List VW} (hX : ValsX I xs ((Ix.rget L t).getD [])) (h : xs.find? (fun x => decide (x.1.name = Ix.nTitle)) = none) : Ix.sortOf L t = [] := by
  rw [sortOf_at, ← hX.1, find_map, h]; rfl
theorem sort_at {I : Heap} {L : Ix.Ix} {t : Ix.Rec} {xs : List VW} {x : VW} (hX : ValsX I xs ((Ix.rget L t).getD [])) (h : xs.find? (fun x => decide (x.1.name = Ix.nTitle)) = some x) : Ix.sortOf L t = x.1.key := by
  rw [sortOf_at, ← hX.1, find_map, h]; rfl
abbrev isT (x : VW) : Bool := decide (x.1.name = Ix.nTitle)
abbrev lineI (x : List UInt8 × Nat) : List UInt8 × Int := (x.1, (x.2 : Int))
abbrev OwnL (l : List (List UInt8 × Nat)) (v : Value) (H : HL) : Prop := OwnR 57 lineC (l.map lineI) v H
def selK (n b : List UInt8) (p : Ix.Pl) : Bool := decide (p.1 = n) && !decide (p.2 < b)
def lns (L : Ix.Ix) (n b : List UInt8) (vis : ML Ix.Pl) : List (List UInt8 × Nat) := (vis.filter fun x => selK n b x.1).map fun x => (x.1.2, (Ix.withK L n x.1.2).length)
theorem lns_next (L : Ix.Ix) (n b : List UInt8) (vis : ML Ix.Pl) (x : Ix.Pl × Value × Nat) : lns L n b (vis ++ [x]) = lns L n b vis ++ if selK n b x.1 = true then [(x.1.2, (Ix.withK L n x.1.2).length)] else [] := by
  unfold lns
  rw [List.filter_append, List.map_append]
  by_cases h : selK n b x.1 = true
  · rw [if_pos h]; simp [h]
  rw [if_neg h]; simp [h]
theorem lns_len (L : Ix.Ix) (n b : List UInt8) (vis : ML Ix.Pl) : (lns L n b vis).length ≤ vis.length := by
  unfold lns; rw [List.length_map]; exact List.length_filter_le _ _
structure TB where
  vis : ML Ix.Pl
  rest : ML Ix.Pl
  g : Gs
theorem nest_at {I : Heap} {b : Nat} {l : ML Ix.Pl} {c : Nat} {N : Nest Ix.Pl Ix.Rec} {f : Ix.Pl → Ix.Rec → Nat} (h : NestS l c N f) (hI : ∀ q ∈ setH b l c N, I q.1 = some q.2) {x : Ix.Pl × Value × Nat} (hx : x ∈ l) : ∃ mb m k, x.2.1 = .map (some mb) ∧ I mb = some (mobj kvR m k) ∧ MS m k ∧ m ≠ [] ∧ ∀ t, mget m t = cv (f x.1 t) := by
  have h1 : kvp x ∈ N.map nvp := by rw [← h.vals]; exact List.mem_map_of_mem hx
  obtain ⟨⟨a, mb, m, k⟩, he, hv⟩ := List.mem_map.1 h1
  have e1 : a = x.1 := congrArg (·.1) hv
  have e2 : Value.map (some mb) = x.2.1 := congrArg (·.2) hv
  subst e1
  obtain ⟨g1, g2, g3⟩ := h.inn _ he
  exact ⟨mb, m, k, e2.symm, hI (mb, _) (.tail _ (List.mem_map.2 ⟨_, he, rfl⟩)), g1, g2, g3⟩
theorem nest_in {l : ML Ix.Pl} {c : Nat} {N : Nest Ix.Pl Ix.Rec} {f : Ix.Pl → Ix.Rec → Nat} (h : NestS l c N f) (p : Ix.Pl) : p ∈ l.map (·.1) ↔ ∃ t, f p t ≠ 0 := by
  rw [h.keys]
  constructor
  · intro hp
    obtain ⟨e, he, rfl⟩ := List.mem_map.1 hp
    obtain ⟨g1, g2, g3⟩ := h.inn e he
    obtain ⟨⟨t, v, n⟩, r, hr⟩ := List.exists_cons_of_ne_nil g2
    refine ⟨t, fun hz => ?_⟩
    have h2 := g3 t
    rw [hz] at h2
    have h3 : mget e.2.2.1 t = none := h2
    exact mget_none.1 h3 (by rw [hr]; exact .head _)
  rintro ⟨t, ht⟩
  exact Classical.byContradiction fun g => ht (h.out p g t)
theorem keys_le {L : Ix.Ix} {l : ML Ix.Pl} {c : Nat} {N : Nest Ix.Pl Ix.Rec} (h : NestS l c N (Ix.cnt Ix.plK L)) (hs : Ix.Srt L) (hL : L.length ≤ 100000) (hv : ∀ e ∈ L, VOK e.2) : l.length ≤ 1000000000000 := by
  have h1 : (l.map (·.1)).length ≤ (L.flatMap fun e => Ix.plK e.2).length := by
    refine sub_lenG h.ms.1 fun p hp => ?_
    obtain ⟨e, he, hpe⟩ := (Ix.cnt_pos hs).1 ((nest_in h p).1 hp)
    exact List.mem_flatMap.2 ⟨e, he, hpe⟩
  have h2 : ∀ M : Ix.Ix, (∀ e ∈ M, VOK e.2) → (M.flatMap fun e => Ix.plK e.2).length ≤ M.length * 10000000 := by
    intro M
    induction M with
    | nil => intro _; simp
    | cons a r ih =>
      intro hM
      have := ih fun e he => hM e (.tail _ he)
      have h3 := (hM a (.head _)).k
      rw [List.flatMap_cons, List.length_append, List.length_cons, Nat.add_mul]; omega
  rw [List.length_map] at h1
  exact nlt (nlt h1 (h2 L hv)) (Nat.mul_le_mul_right 10000000 hL)
theorem lt_of_ne {a b : List UInt8} (h : ¬ b < a) (hne : a ≠ b) : a < b := Std.lt_of_le_of_ne (Std.not_lt.1 h) hne
theorem scan_end {L : Ix.Ix} {l : ML Ix.Pl} {c : Nat} {N : Nest Ix.Pl Ix.Rec} (h : NestS l c N (Ix.cnt Ix.plK L)) (hs : Ix.Srt L) {n b : List UInt8} {vis : ML Ix.Pl} (hp : vis.Perm l) {ls : List (List UInt8 × Int)} (hpl : ls.Perm ((lns L n b vis).map lineI)) (ho : ls.Pairwise fun p q => ¬ q.1 < p.1) : ls = ((Ix.keysAll L n b).map fun k => (k, (Ix.withK L n k).length)).map lineI := by
  have hsel : ∀ x ∈ vis.filter (fun x => selK n b x.1), x.1.1 = n ∧ ¬ x.1.2 < b := fun x hx => by
    have := (List.mem_filter.1 hx).2
    unfold selK at this
    rw [Bool.and_eq_true, decide_eq_true_eq, Bool.not_eq_true', decide_eq_false_iff_not] at this
    exact this
  have hnd : ((lns L n b vis).map (·.1)).Nodup := by
    unfold lns
    rw [List.map_map]
    have h1 : ((vis.filter fun x => selK n b x.1).map (·.1)).Nodup := ((hp.map _).nodup_iff.2 h.ms.1).sublist (List.filter_sublist.map _)
    rw [List.nodup_iff_pairwise_ne, List.pairwise_map] at h1 ⊢
    refine (List.pairwise_iff_forall_sublist.2 fun {x y} hxy => ?_)
    have hx := hsel x (hxy.subset (.head _))
    have hy := hsel y (hxy.subset (.tail _ (.head _)))
    have hne := List.pairwise_iff_forall_sublist.1 h1 hxy
    exact fun e => hne (Prod.ext (hx.1.trans hy.1.symm) e)
  have hlen : ∀ x ∈ ls, x.2 = ((Ix.withK L n x.1).length : Int) := fun x hx => by
    obtain ⟨y, hy, rfl⟩ := List.mem_map.1 (hpl.mem_iff.1 hx)
    obtain ⟨z, _, rfl⟩ := List.mem_map.1 hy
    rfl
  have hk : (ls.map (·.1)).Perm ((lns L n b vis).map (·.1)) := by
    have := hpl.map (·.1)
    rwa [List.map_map] at this
  have hinc : Ke.Inc (ls.map (·.1)) := by
    unfold Ke.Inc
    have h1 := hk.nodup_iff.2 hnd
    rw [List.nodup_iff_pairwise_ne, List.pairwise_map] at h1
    rw [List.pairwise_map]
    exact (List.pairwise_and_iff.2 ⟨ho, h1⟩).imp fun {x y} ⟨h2, h3⟩ => lt_of_ne h2 h3
  have hall := Ix.scan_all hs (n := n) (b := b) (ls := ls.map fun x => (x.1, x.2.toNat)) (by rw [List.map_map]; exact hinc) (fun k => ?_) (fun x hx => ?_)
  · rw [← hall, List.map_map]
    conv => lhs; rw [← List.map_id ls]
    refine List.map_congr_left fun x hx => ?_
    have := hlen x hx
    show x = (x.1, ((x.2.toNat : Nat) : Int))
    refine Prod.ext rfl ?_
    show x.2 = _
    omega
  · rw [List.map_map]
    show k ∈ ls.map (·.1) ↔ _
    rw [hk.mem_iff, ← nest_in h]
    unfold lns
    rw [List.map_map]
    constructor
    · intro hm
      obtain ⟨x, hx, rfl⟩ := List.mem_map.1 hm
      obtain ⟨h1, h2⟩ := hsel x hx
      refine ⟨h2, ?_⟩
      show (n, x.1.2) ∈ _
      rw [← h1, ← (hp.map (·.1)).mem_iff]
      exact List.mem_map_of_mem (List.mem_filter.1 hx).1
    rintro ⟨h1, h2⟩
    rw [← (hp.map (·.1)).mem_iff] at h2
    obtain ⟨x, hx, he⟩ := List.mem_map.1 h2
    refine List.mem_map.2 ⟨x, List.mem_filter.2 ⟨hx, ?_⟩, ?_⟩
    · unfold selK
      rw [he, decide_eq_true rfl, Bool.true_and, decide_eq_false h1]; rfl
    show x.1.2 = k
    rw [he]
  obtain ⟨y, hy, rfl⟩ := List.mem_map.1 hx
  have := hlen y hy
  show y.2.toNat = _
  rw [this]; rfl
theorem Sort_some (ib : Nat) (mb : Nat) (m : ML Ix.Rec) (k0 : Nat) (wm km : Option Nat) (L : Ix.Ix) (t : Ix.Rec) (I : Heap) (hvk : VOK ((Ix.rget L t).getD [])) (hib : I ib = some (cel 89 [.map (some mb), .map wm, .map km])) (hmb : I mb = some (mobj kvR m k0)) (_hms : MS m k0) (hmv : ValMap I m L) : Pure Tryz.prog 28 [ptr ib 0, kvR t] I (str (Ix.sortOf L t)) := by
 refine Ctr.toPure ?_
 obtain ⟨vv, hvv, xs, hrow, hX⟩ := hmv.at t
 have hxl := hX.len
 have hv1 := hvk.1
 refine Ctr.ob func28 ?_
 intro w0 hw0
 refine Cj.sr (J.op rfl (q28 ?_))
 intro b1 hb1
 refine J.z q1 ?_
 refine J.nsss (Cj.region (J.z q0 ?_))
 refine J.z (q52 tU38) ?_
 refine J.c0 (fun hc2 => ?_)
 refine Cj.ks (Cj.seq (Cj.drawSel [0] [] 8 (by kernel_rfl) ?_))
 have hib_3 := hib
 have hmb_3 := hmb
 refine JA.fix ⟨(HSub.c 0 rfl HSub.n), CSub.n, (Le.refl _)⟩ (fun fx3 => ?_)
 refine JA.tk 0 rfl fx3 q0 ?_
 refine JA.tk 1 rfl fx3 q8 ?_
 refine JA.tk 2 rfl fx3 (q4 (off' := 0) tU89 tS85) ?_
 refine JA.tk 3 rfl fx3 (q9 tA85 (Blk.immC hib_3)) ?_
 refine JA.tk 4 rfl fx3 (q27 tA26 tS26 (Blk.atC 0 rfl)) ?_
 refine JA.tk 5 rfl fx3 (q45 (kv := kvR) (l := m) (a := t) tU85 keyR tZ96 (Blk.immC hmb_3)) ?_
 refine JA.eqv 13 rfl (show _ = vv from hvv) ?_
 refine q13 6 rfl (op_pure rfl rfl rfl rfl rfl (IndexFuncV_ok xs _ isT _ [] (by omega) _ hrow.row hX.2 (fun x hx => by obtain ⟨p9, c9, h9⟩ := StrS_sl (hX.2 x hx); exact sort1_ok x p9 _ c9 h9 _)) ?_)
 refine ⟨⟨(Le.refl _), (HSub.c 0 rfl HSub.n), CSub.n⟩, ?_⟩
 refine JA.fix ⟨(HSub.c 0 rfl HSub.n), CSub.n, (Le.refl _)⟩ (fun fx4 => ?_)
 refine JA.tk 7 rfl fx4 q1 ?_
 refine q14 ?_
 refine Ej.seq (Cj.seq (Cj.sr (J.z q0 ?_)))
 refine J.z q17 ?_
 refine J.cd (fun hc5 => ?_) (fun hc5 => ?_)
 ·
  have hc5p := odt hc5
  have hfind : xs.find? isT = none := ((idxI_cases isT xs).resolve_right (fun ⟨k, x, h, _⟩ => by have h9 := odt hc5; rw [h] at h9; omega)).2
  refine Cj.sr (J.z q1 ?_)
  refine J.ns (Cj.rs (Ej.bare ?_))
  refine q6 ?_
  rw [sort_no hX hfind]
  exact ⟨rfl, rfl⟩
 have hc5p := odf hc5
 obtain ⟨k, x, hkk, hget, hfind⟩ := (idxI_cases isT xs).resolve_left (fun h => by have h9 := odf hc5; rw [h.1] at h9; exact h9 (by decide))
 have hklt := (List.getElem?_eq_some_iff.1 hget).1
 obtain ⟨vp1, vc1, hve, hvc1, hvb⟩ := id hrow
 rw [hve] at hvv ⊢
 obtain ⟨rb, rsp, rfl, hrb⟩ := hvb (ne_nil_of hklt)
 rw [hkk]
 refine Cj.ks (Cj.seq (Cj.drawSel [0] [] 11 (by kernel_rfl) ?_))
 refine JA.fix ⟨(HSub.c 0 rfl HSub.n), CSub.n, (Le.refl _)⟩ (fun fx6 => ?_)
 refine JA.tk 0 rfl fx6 q0 ?_
 refine JA.tk 1 rfl fx6 q8 ?_
 refine JA.tk 2 rfl fx6 (q4 (off' := 0) tU89 tS85) ?_
 refine JA.tk 3 rfl fx6 (q9 tA85 (Blk.immC hib)) ?_
 refine JA.tk 4 rfl fx6 (q27 tA26 tS26 (Blk.atC 0 rfl)) ?_
 refine JA.tk 5 rfl fx6 (q45 (kv := kvR) (l := m) (a := t) tU85 keyR tZ96 (Blk.immC hmb)) ?_
 refine JA.eqv 22 rfl (show _ = .slice (some ⟨rb, 0, none⟩) xs.length vc1 from hvv) ?_
 refine JA.tk 6 rfl fx6 q0 ?_
 refine JA.tk 7 rfl fx6 (q19 (off' := 0 + k * 3) tU96 tS98) ?_
 refine JA.tk 8 rfl fx6 (q4 (off' := 0 + k * 3 + 1) tU98 tS9) ?_
 refine JA.tk 9 rfl fx6 (yl_load rfl rfl tA9 (Blk.immC hrb) (row_fcell vwC_len (o := 0) rfl hget 1 (by decide))) ?_
 refine JA.tk 10 rfl fx6 q1 ?_
 refine q14 ?_
 refine Ej.seq (Cj.ret (Ej.bare ?_))
 refine q6 ?_
 rw [sort_at hX hfind]
 exact ⟨rfl, rfl⟩
theorem Sort_none (ib : Nat) (wm km : Option Nat) (t : Ix.Rec) (I : Heap) (hib : I ib = some (cel 89 [.map none, .map wm, .map km])) : Pure Tryz.prog 28 [ptr ib 0, kvR t] I (str []) := by
 refine Ctr.toPure ?_
 refine Ctr.ob func28 ?_
 intro w0 hw0
 refine Cj.sr (J.op rfl (q28 ?_))
 intro b1 hb1
 refine J.z q1 ?_
 refine J.nsss (Cj.region (J.z q0 ?_))
 refine J.z (q52 tU38) ?_
 refine J.c0 (fun hc2 => ?_)
 refine Cj.ks (Cj.seq (Cj.drawSel [0] [] 8 (by kernel_rfl) ?_))
 have hib_3 := hib
 refine JA.fix ⟨(HSub.c 0 rfl HSub.n), CSub.n, (Le.refl _)⟩ (fun fx3 => ?_)
 refine JA.tk 0 rfl fx3 q0 ?_
 refine JA.tk 1 rfl fx3 q8 ?_
 refine JA.tk 2 rfl fx3 (q4 (off' := 0) tU89 tS85) ?_
 refine JA.tk 3 rfl fx3 (q9 tA85 (Blk.immC hib_3)) ?_
 refine JA.tk 4 rfl fx3 (q27 tA26 tS26 (Blk.atC 0 rfl)) ?_
 refine JA.tk 5 rfl fx3 (yl_lookupNil1 (kv := kvR) (a := t) rfl rfl rfl rfl tU85 keyR tZ96) ?_
 refine q13 6 rfl (op_pure rfl rfl rfl rfl rfl (IndexFuncV_ok [] _ isT _ [] (by decide) _ RowS.nil (fun x hx => by cases hx) (fun x hx => by cases hx)) ?_)
 refine ⟨⟨(Le.refl _), (HSub.c 0 rfl HSub.n), CSub.n⟩, ?_⟩
 refine JA.eqv 14 rfl (show _ = i64 (-1) from rfl) ?_
 refine JA.fix ⟨(HSub.c 0 rfl HSub.n), CSub.n, (Le.refl _)⟩ (fun fx4 => ?_)
 refine JA.tk 7 rfl fx4 q1 ?_
 refine q14 ?_
 refine Ej.seq (Cj.seq (Cj.sr (J.z q0 ?_)))
 refine J.z q17 ?_
 refine J.c1 (fun hc5 => ?_)
 refine Cj.sr (J.z q1 ?_)
 refine J.ns (Cj.rs (Ej.bare ?_))
 refine q6 ?_
 exact ⟨rfl, rfl⟩
theorem Sort_ok' (ib : Nat) (L : Ix.Ix) (t : Ix.Rec) (I : Heap) (hx : IxP I ib L) : Pure Tryz.prog 28 [ptr ib 0, kvR t] I (str (Ix.sortOf L t)) := by
  obtain ⟨vm, wm, km, hI, hV, -, -⟩ := hx.parts
  rcases hV with ⟨rfl, rfl⟩ | ⟨b, l, c, rfl, hms, hvm, hb⟩
  · exact Sort_none ib wm km t I hI
  exact Sort_some ib b l c wm km L t I (ixp_parts hx t) hI hb hms hvm
theorem Clip_ok (a : Option Addr) (n c : Nat) (hnc : n ≤ c) (I : Heap) : Pure Tryz.prog 60 [.slice a n c] I (.slice a n n) := by
 refine Ctr.toPure ?_
 refine Ctr.ob func60 ?_
 intro w0 hw0
 refine Cj.sr (J.z q1 ?_)
 refine J.nssr (J.z q0 ?_)
 refine J.z q0 ?_
 refine J.z (q15 tU47) ?_
 refine J.z q0 ?_
 refine J.z (q15 tU47) ?_
 refine J.z (yl_slice3 (k := n) (m := n) rfl rfl rfl rfl tU47 tS57 (Nat.le_refl _) hnc) ?_
 refine J.z q1 ?_
 refine J.ns (Cj.ret (q6 ?_))
 exact ⟨rfl, rfl⟩
theorem own_sl {α : Type} {T : TypeId} {f : α → List Value} {l : List α} {v : Value} {H : HL} (h : OwnR T f l v H) : ∃ a c, v = .slice a l.length c ∧ l.length ≤ c := by
  rcases h with ⟨rfl, rfl, rfl⟩ | ⟨b, c, sp, rfl, hc, rfl⟩
  · exact ⟨none, 0, rfl, Nat.le_refl _⟩
  exact ⟨_, c, rfl, hc⟩
theorem own_take {α : Type} {T : TypeId} {f : α → List Value} {l : List α} {a : Option Addr} {c : Nat} {H : HL} (h : OwnR T f l (.slice a l.length c) H) {k : Nat} (hk : k ≤ l.length) : OwnR T f (l.take k) (.slice a k k) H := by
  rcases h with ⟨rfl, hv, rfl⟩ | ⟨b, c, sp, hv, hc, rfl⟩
  · cases hv
    have : k = 0 := by simpa using hk
    subst this
    exact .inl ⟨rfl, rfl, rfl⟩
  cases hv
  refine .inr ⟨b, k, (l.drop k).flatMap f ++ sp, by rw [List.length_take, Nat.min_eq_left hk], by rw [List.length_take]; omega, ?_⟩
  rw [← List.append_assoc, ← List.flatMap_append, List.take_append_drop]
theorem scan_own {L : Ix.Ix} {n s : List UInt8} {most : Int} {ls : List (List UInt8 × Int)} {a : Option Addr} {c : Nat} {v : Value} {H : HL} (hls : ls = ((Ix.keysAll L n (Ix.keyOf n s)).map fun k => (k, (Ix.withK L n k).length)).map lineI) (h : OwnR 57 lineC ls v H) (hv : v = .slice a ls.length c) : OwnL (Ix.scan L n s most) (.slice a (min ls.length most.toNat) (min ls.length most.toNat)) H := by
  subst hv
  have h1 := own_take h (Nat.min_le_left ls.length most.toNat)
  have h2 : ls.take (min ls.length most.toNat) = (Ix.scan L n s most).map lineI := by
    rw [← Ix.scan_take, List.map_take, ← hls]
    rcases Nat.le_total ls.length most.toNat with g | g
    · rw [Nat.min_eq_left g, List.take_length, List.take_of_length_le g]
    rw [Nat.min_eq_right g]
  rw [h2] at h1
  exact h1
theorem many_of {L : Ix.Ix} (hs : Ix.Srt L) {m : ML Ix.Rec} {k : Nat} (hm : MS m k) {p : Ix.Pl} (hv : ∀ t, mget m t = cv (Ix.cnt Ix.plK L p t)) {n : List UInt8} (hn : p.1 = n) : ((m.length : Nat) : Int) = ((Ix.withK L n p.2).length : Int) := by
  subst hn
  have h := Ix.with_len hs (n := p.1) (k := p.2) (ts := m.map (·.1)) hm.1 fun t => by
    constructor
    · intro h1
      have h2 : mget m t ≠ none := fun g => mget_none.1 g h1
      rw [hv] at h2
      exact fun g => h2 (by rw [show Ix.cnt Ix.plK L p t = 0 from g]; rfl)
    intro h1
    refine Classical.byContradiction fun g => ?_
    have h2 := mget_none.2 g
    rw [hv, cv_pos h1] at h2; cases h2
  rw [List.length_map] at h
  rw [h]
theorem min_of (n : Nat) (most : Int) : (if (if (0 : Int) > most then (0 : Int) else most) < (n : Int) then (if (0 : Int) > most then (0 : Int) else most) else (n : Int)) = ((min n most.toNat : Nat) : Int) := by
  repeat (first | omega | split)
theorem Scan_some (ib kb : Nat) (vm wm : Option Nat) (l : ML Ix.Pl) (c : Nat) (N : Nest Ix.Pl Ix.Rec) (L : Ix.Ix) (n s : List UInt8) (hs : s.length ≤ 100000000) (most : Int) (I : Heap) (hsrt : Ix.Srt L) (hN : NestS l c N (Ix.cnt Ix.plK L)) (hll0 : l.length ≤ 1000000000000) (hib : I ib = some (cel 89 [.map vm, .map wm, .map (some kb)])) (hI : ∀ q ∈ setH kb l c N, I q.1 = some q.2) : Ctr Tryz.prog 26 [ptr ib 0, str n, str s, i64 most] I [] (fun e _ H' => ∃ v, e = .returned v ∧ OwnL (Ix.scan L n s most) v H') := by
 have hkb : I kb = some (mobj kvP l c) := hI (kb, _) (.head _)
 refine Ctr.ob func26 ?_
 intro w0 hw0
 refine Cj.sr (J.z q1 ?_)
 refine J.nsss (Cj.region (J.z q0 ?_))
 refine J.z (q52 tU38) ?_
 refine J.c0 (fun hc1 => ?_)
 refine Cj.ks (Cj.sr (J.z q0 ?_))
 refine J.z q0 ?_
 refine J.op rfl (op_pure rfl rfl rfl rfl rfl (keyOf_ok n s hs _) ?_)
 refine J.z q1 ?_
 refine J.nssr (J.z q1 ?_)
 refine J.nsss (Cj.region (J.z q0 ?_))
 refine J.z q8 ?_
 refine J.z (q4 (off' := 2) tU89 tS87) ?_
 refine J.z (q9 isAgg87 (Blk.imm hib)) ?_
 refine J.op rfl (op_rangeMap (kv := kvP) (l := l) rfl rfl rfl rfl tU87 (Blk.imm hkb) ?_)
 intro b2 hb2
 refine J.ns (Cj.block (Cj.loop (ι := TB) (fun y => (y.vis ++ y.rest).Perm l ∧ gOk w0.heap.size 2 (lns L n (Ix.keyOf n s) y.vis).length (((lns L n (Ix.keyOf n s) y.vis).map lineI).flatMap lineC) y.g) (fun y => y.rest.length) (fun y => [(1, str n), (3, i64 most), (9, str (Ix.keyOf n s)), (10, gV (lns L n (Ix.keyOf n s) y.vis).length y.g), (22, ptr b2 0)]) (fun y => _) (fun y => (b2, mit kb c y.vis c) :: gH 57 (((lns L n (Ix.keyOf n s) y.vis).map lineI).flatMap lineC) y.g) ⟨[], l, none⟩ ⟨.refl _, rfl, rfl⟩ ⟨rfl, rfl, rfl, rfl, rfl, trivial⟩ rfl rfl ?_))
 rintro ⟨vis, rest, g⟩ ⟨hp, hg⟩
 dsimp only at hp hg ⊢
 have hpl0 := hp.length_eq
 rw [List.length_append] at hpl0
 have hlns := lns_len L n (Ix.keyOf n s) vis
 refine Cj.sr (J.op rfl (op_nextMap (kv := kvP) (l := l) 0 rfl rfl rfl rfl rfl (Blk.imm hkb) hN.ms.2.2 (Nat.le_refl _) hN.ms.2.1 hp ?_ ?_))
 ·
  rintro x rest2 H9 hrx hpx ⟨-, hset⟩; simp only [List.set_cons_zero] at hset; subst hset
  obtain ⟨mb, m, k, hxv, hmb, hms, hmne, hmv⟩ := nest_at hN hI (hpx.mem_iff.1 (List.mem_append_left _ (List.mem_append_right _ (.head _))))
  refine J.z q25 ?_
  refine J.nss (Cj.cond rfl (fun hc3 => ?_) (fun hc3 => Bool.noConfusion (Eq.trans (Eq.symm rfl) hc3)))
  refine Cj.ks (Cj.block (Cj.sr (J.z (yl_entry (kv := kvP) (l := l) rfl rfl (Blk.at 0 rfl) (Blk.imm hkb) (hpx.mem_iff.1 (List.mem_append_left _ (List.mem_append_right _ (.head _)))) hN.ms.2.1) ?_)))
  refine J.z q25 ?_
  refine J.z q25 ?_
  refine J.eqv 27 rfl (show _ = .map (some mb) from hxv) ?_
  refine J.op rfl (q46 tZ93 ?_)
  intro b4 hb4
  refine J.op rfl (q21 0 tS93 (LSpl.c (LSpl.c LSpl.z)) LSet.z ?_)
  refine J.z q1 ?_
  refine J.nssr (J.z (q4 (off' := 0) tU93 tS9) ?_)
  refine J.z (q18 tA9) ?_
  refine J.z q0 ?_
  refine J.z q31 ?_
  refine J.z q0 ?_
  refine q16 32 (fun hg5 => ?_) (fun hg5 => ?_)
  ·
   have hg5p := ebq hg5
   have hxn : x.1.1 = n := ebq hg5
   refine q5 4 32 true hg5 (q2 (q4 (off' := 1) tU93 tS9) ?_)
   refine q5 4 32 true hg5 (q2 (q18 tA9) ?_)
   refine q5 4 32 true hg5 (q2 q0 ?_)
   refine q5 4 32 true hg5 (q2 (yl_geqStr rfl rfl rfl) ?_)
   refine J.z (q11 hg5) ?_
   refine J.cd (fun hc6 => ?_) (fun hc6 => ?_)
   ·
    have hsel : selK n (Ix.keyOf n s) x.1 = true := by unfold selK; rw [decide_eq_true hxn, Bool.true_and]; exact hc6
    refine Cj.region (J.z q0 ?_)
    refine J.z (q4 (off' := 1) tU93 tS9) ?_
    refine J.z (q18 tA9) ?_
    refine J.z q0 ?_
    refine J.z (yl_lenMap (kv := kvR) (l := m) rfl rfl tU105 (Blk.imm hmb)) ?_
    refine J.eqv 42 rfl (show _ = i64 ((Ix.withK L n x.1.2).length : Int) from (congrArg i64 (many_of hsrt hms hmv hxn))) ?_
    refine J.z (yl_buildS (pl := #[(0, 1), (1, 1)]) rfl rfl tZ57 rfl tU57 (fun w => by simp []) (LBld.part rfl rfl rfl (LSpl.c LSpl.z) (LBld.part rfl rfl rfl (LSpl.s (LSpl.c LSpl.z)) LBld.none))) ?_
    refine J.op rfl (q41 tU47 tS57 tZ57 ?_)
    intro b7 hb7
    refine J.op rfl (op_append (by' := 23) [_, _, _] rfl rfl rfl rfl rfl tU47 (.inr ⟨_, tU47⟩) (by kernel_rfl) tS57 tZ57 rfl hg rfl (Src.slice (Blk.at 0 rfl) rfl rfl rfl) (by omega) ?_)
    intro g8 hg8
    refine J.z q1 ?_
    refine J.nil (Ej.blkNormal (Ej.keep (Keeps.d (Keeps.d (Keeps.k Keeps.r))) ?_))
    refine Ej.round ⟨vis ++ [x], rest2, g8⟩ ⟨hpx, by dsimp only; rw [lns_next, if_pos hsel, List.length_append, List.map_append, List.flatMap_append]; exact hg8⟩ (by have h := hrx.length_eq; simp only [List.length_cons] at h; dsimp only; omega) ⟨rfl, rfl, rfl, by dsimp only; rw [lns_next, if_pos hsel, List.length_append]; rfl, rfl, trivial⟩ rfl (by dsimp only; rw [lns_next, if_pos hsel, List.map_append, List.flatMap_append]; rfl)
   have hsel : ¬ selK n (Ix.keyOf n s) x.1 = true := by unfold selK; rw [decide_eq_true hxn, Bool.true_and]; exact fun e => Bool.noConfusion (e.symm.trans hc6)
   refine Cj.skip (Ej.blkNormal (Ej.keep (Keeps.d (Keeps.k Keeps.r)) ?_))
   refine Ej.round ⟨vis ++ [x], rest2, g⟩ ⟨hpx, by dsimp only; rw [lns_next, if_neg hsel, List.append_nil]; exact hg⟩ (by have h := hrx.length_eq; simp only [List.length_cons] at h; dsimp only; omega) ⟨rfl, rfl, rfl, by dsimp only; rw [lns_next, if_neg hsel, List.append_nil]; rfl, rfl, trivial⟩ rfl (by dsimp only; rw [lns_next, if_neg hsel, List.append_nil])
  have hg5p := nbf hg5
  have hsel : ¬ selK n (Ix.keyOf n s) x.1 = true := by unfold selK; rw [decide_eq_false (nbf hg5)]; exact Bool.false_ne_true
  refine q3 4 32 33 true hg5 ?_
  refine q3 4 32 34 true hg5 ?_
  refine q3 4 32 35 true hg5 ?_
  refine q3 4 32 36 true hg5 ?_
  refine J.z (q10 hg5) ?_
  refine J.c0 (fun hc9 => ?_)
  refine Cj.skip (Ej.blkNormal (Ej.keep (Keeps.d (Keeps.k Keeps.r)) ?_))
  refine Ej.round ⟨vis ++ [x], rest2, g⟩ ⟨hpx, by dsimp only; rw [lns_next, if_neg hsel, List.append_nil]; exact hg⟩ (by have h := hrx.length_eq; simp only [List.length_cons] at h; dsimp only; omega) ⟨rfl, rfl, rfl, by dsimp only; rw [lns_next, if_neg hsel, List.append_nil]; rfl, rfl, trivial⟩ rfl (by dsimp only; rw [lns_next, if_neg hsel, List.append_nil])
 intro hend
 refine J.z q25 ?_
 refine J.nss (Cj.cond rfl (fun hc10 => Bool.noConfusion (Eq.trans (Eq.symm rfl) hc10)) (fun hc10 => ?_))
 refine Cj.xl (Cj.seq ?_)
 have hpv : vis.Perm l := by rw [hend, List.append_nil] at hp; exact hp
 have hg2 : gOk w0.heap.size 2 ((lns L n (Ix.keyOf n s) vis).map lineI).length (((lns L n (Ix.keyOf n s) vis).map lineI).flatMap lineC) g := by rw [List.length_map]; exact hg
 refine Cj.region (J.z q0 ?_)
 refine J.eqv 46 rfl (show _ = gV ((lns L n (Ix.keyOf n s) vis).map lineI).length g from (by rw [List.length_map])) ?_
 refine J.op rfl (q56 (H1 := gH 57 (((lns L n (Ix.keyOf n s) vis).map lineI).flatMap lineC) g) [_] rfl rfl rfl rfl rfl rfl (SortLine_ok ((lns L n (Ix.keyOf n s) vis).map lineI) g hg2 (by rw [List.length_map]; omega) _) ?_)
 rintro v9 I9 H9 hle9 ⟨ls, hpp, hpo, h, rfl⟩; cases h
 have hls := scan_end hN hsrt hpv hpp hpo
 have hll : ((lns L n (Ix.keyOf n s) vis).map lineI).length = ls.length := hpp.length_eq.symm
 have hgl : gOk w0.heap.size 2 ls.length (ls.flatMap lineC) g := by rw [← hll]; exact gOk_len hg2 (by rw [flat_len lineC_len, flat_len lineC_len, hll])
 refine J.nss ?_
 obtain ⟨hown⟩ : Nonempty (OwnR 57 lineC ls (gV ls.length g) (gH 57 (ls.flatMap lineC) g)) := ⟨OwnR.of_g lineC_len (by decide) rfl hgl⟩
 obtain ⟨sa, sc, hsv, hsc⟩ : ∃ a c, gV ls.length g = .slice a ls.length c ∧ ls.length ≤ c := own_sl hown
 have hgv : gV (lns L n (Ix.keyOf n s) vis).length g = .slice sa ls.length sc := by rw [← hsv, ← hll, List.length_map]
 refine Cj.region (J.z q0 ?_)
 refine J.eqv 48 rfl (show _ = .slice sa ls.length sc from hgv) ?_
 refine J.z q0 ?_
 refine J.eqv 49 rfl (show _ = .slice sa ls.length sc from hgv) ?_
 refine J.z (q15 tU47) ?_
 refine J.z q0 ?_
 refine J.z (yl_max2 rfl rfl rfl) ?_
 refine J.z (yl_min2 rfl rfl rfl) ?_
 refine J.eqv 53 rfl (show _ = i64 ((min ls.length most.toNat : Nat) : Int) from (congrArg i64 (min_of _ _))) ?_
 refine J.z (yl_slice0 (k := (min ls.length most.toNat)) rfl rfl rfl tU47 tS57 rfl (nlt (Nat.min_le_left _ _) hsc)) ?_
 refine J.op rfl (op_pure rfl rfl rfl rfl rfl (Clip_ok sa (min ls.length most.toNat) sc (nlt (Nat.min_le_left _ _) hsc) _) ?_)
 refine J.z q1 ?_
 refine J.ns (Cj.ret (Ej.keep (H' := gH 57 (ls.flatMap lineC) g) (List.sublist_append_right [_] _) ?_))
 refine q6 ?_
 exact ⟨_, rfl, scan_own hls hown hsv⟩
theorem Scan_none (ib : Nat) (vm wm : Option Nat) (n s : List UInt8) (hs : s.length ≤ 100000000) (most : Int) (I : Heap) (hib : I ib = some (cel 89 [.map vm, .map wm, .map none])) : Ctr Tryz.prog 26 [ptr ib 0, str n, str s, i64 most] I [] (fun e _ H' => e = .returned (.slice none 0 0) ∧ H' = []) := by
 refine Ctr.ob func26 ?_
 intro w0 hw0
 refine Cj.sr (J.z q1 ?_)
 refine J.nsss (Cj.region (J.z q0 ?_))
 refine J.z (q52 tU38) ?_
 refine J.c0 (fun hc1 => ?_)
 refine Cj.ks (Cj.sr (J.z q0 ?_))
 refine J.z q0 ?_
 refine J.op rfl (op_pure rfl rfl rfl rfl rfl (keyOf_ok n s hs _) ?_)
 refine J.z q1 ?_
 refine J.nssr (J.z q1 ?_)
 refine J.nsss (Cj.region (J.z q0 ?_))
 refine J.z q8 ?_
 refine J.z (q4 (off' := 2) tU89 tS87) ?_
 refine J.z (q9 isAgg87 (Blk.imm hib)) ?_
 refine J.op rfl (op_rangeNil rfl rfl rfl rfl tU87 ?_)
 intro b2 hb2
 refine J.ns (Cj.block (Cj.rounds 1 ?_))
 refine Rj.succ ?_
 refine Cj.sr (J.op rfl (op_nextNil 0 rfl rfl rfl rfl rfl ?_))
 refine J.z q25 ?_
 refine J.nss (Cj.cond rfl (fun hc3 => Bool.noConfusion (Eq.trans (Eq.symm rfl) hc3)) (fun hc3 => ?_))
 refine Cj.exit (Ej.seqExit (Ej.seqExit (Ej.blkExit (Ej.seq (Cj.sr (J.z q0 ?_))))))
 refine J.op rfl (q56 (H1 := []) [_] rfl rfl rfl rfl rfl rfl (SortLine_ok (base := 0) [] none ⟨rfl, rfl⟩ (by decide) _) ?_)
 rintro v9 I9 H9 hle9 ⟨ts, hpp, hpo, h, rfl⟩; cases h
 have hts := hpp.eq_nil
 subst hts
 refine J.nssr (J.z q0 ?_)
 refine J.z q0 ?_
 refine J.z (q15 tU47) ?_
 refine J.z q0 ?_
 refine J.z (yl_max2 rfl rfl rfl) ?_
 refine J.z (yl_min2 rfl rfl rfl) ?_
 refine J.eqv 53 rfl (show _ = i64 ((0 : Nat) : Int) from (congrArg i64 (min_of 0 most |>.trans (by rw [Nat.zero_min])))) ?_
 refine J.z (yl_slice0 (k := 0) rfl rfl rfl tU47 tS57 rfl (Nat.le_refl _)) ?_
 refine J.op rfl (op_pure rfl rfl rfl rfl rfl (Clip_ok none 0 0 (Nat.le_refl _) _) ?_)
 refine J.z q1 ?_
 refine J.ns (Cj.ret (Ej.bare ?_))
 refine q6 ?_
 exact ⟨rfl, rfl⟩
theorem scan_zero {L : Ix.Ix} (hs : Ix.Srt L) (hz : ∀ p t, Ix.cnt Ix.plK L p t = 0) (n s : List UInt8) (most : Int) : Ix.scan L n s most = [] := by
  have h := Ix.scan_all hs (n := n) (b := Ix.keyOf n s) (ls := []) List.Pairwise.nil (fun k => ⟨fun h => (by cases h), fun ⟨_, t, ht⟩ => absurd (hz _ t) ht⟩) (fun x hx => by cases hx)
  rw [← Ix.scan_take, ← h, List.take_nil]
theorem Scan_ok (ib : Nat) (L : Ix.Ix) (n s : List UInt8) (hs : s.length ≤ 100000000) (most : Int) (I : Heap) (hx : IxP I ib L) : Ctr Tryz.prog 26 [ptr ib 0, str n, str s, i64 most] I [] (fun e _ H' => ∃ v, e = .returned v ∧ OwnL (Ix.scan L n s most) v H') := by
  obtain ⟨vm, wm, km, hI, -, -, hK⟩ := hx.parts
  have hv : ∀ e ∈ L, VOK e.2 := by
    obtain ⟨o, h1, _⟩ := hx
    cases o with
    | none => rw [show L = [] from h1]; intro e he; cases he
    | some s => exact IstOk.vok h1
  rcases hK with ⟨rfl, hz⟩ | ⟨b, l, c, N, rfl, hN, hq⟩
  · rw [scan_zero hx.srt hz]
    exact (Scan_none ib vm wm n s hs most I hI).mono fun e I' H' _ ⟨h1, h2⟩ => ⟨_, h1, .inl ⟨rfl, rfl, h2⟩⟩
  exact Scan_some ib b vm wm l c N L n s hs most I hx.srt hN (keys_le hN hx.srt hx.big hv) hI hq
abbrev entL (e : Ent) : Ix.Rec × List Ix.V := (e.t, Ix.vals e.fs)
theorem rputs_next {es : List Ent} {i : Nat} {e : Ent} (h : es[i]? = some e) : Ix.rputs ((es.take (i + 1)).map entL) [] = Ix.rput e.t (Ix.vals e.fs) (Ix.rputs ((es.take i).map entL) []) := by
  rw [map_next entL h]
  unfold Ix.rputs
  rw [List.foldl_append]; rfl
def EntsS (I : Heap) (es : List Ent) (v : Value) : Prop := RowS entC I es v ∧ ∀ e ∈ es, RecS I e.fs e.v
theorem EntsS.mono {I I' : Heap} {es : List Ent} {v : Value} (h : EntsS I es v) (hle : Le I I') : EntsS I' es v := ⟨h.1.mono hle, fun e he => (h.2 e he).mono hle⟩
structure BA where
  i : Nat
  J : Heap
  o : Option Ist
theorem ent_one {e : Ent} {p : Option Addr} {n c : Nat} (h : e.v = .slice p n c) : (entC e).all Value.oneCell' = true := by unfold entC; rw [h]; rfl
theorem Build_ok (es : List Ent) (v : Value) (hel : es.length ≤ 1000) (hek : ∀ e ∈ es, EOK e.fs) (I : Heap) (hE0 : EntsS I es v) : Ctr Tryz.prog 15 [v] I [] (fun e I' H' => ∃ ib o, e = .returned (ptr ib 0) ∧ IxOk I' o (Ix.rputs (es.map entL) []) ∧ H' = ixH ib o) := by
 obtain ⟨p, c, rfl, hc, -⟩ := id hE0.1
 refine Ctr.ob func15 ?_
 intro w0 hw0
 refine Cj.sr (J.z q1 ?_)
 refine J.nssr (J.z (yl_buildS (pl := #[(0, 1), (1, 1), (2, 1)]) rfl rfl zeroValue89 rfl tU89 (fun w => by simp []) LBld.none) ?_)
 refine J.op rfl (q28 ?_)
 intro b1 hb1
 refine J.z q1 ?_
 refine J.nsss (Cj.region (J.z q0 ?_))
 refine J.z (q15 tU27) ?_
 refine J.z q0 ?_
 refine J.ns (Cj.block (Cj.loop (ι := BA) (fun y => y.i ≤ es.length ∧ Le I y.J ∧ IxOk y.J y.o (Ix.rputs ((es.take y.i).map entL) []) ∧ (Ix.rputs ((es.take y.i).map entL) []).length ≤ y.i) (fun y => es.length - y.i) (fun y => [(3, ptr b1 0), (8, .slice p es.length c), (9, i64 (es.length : Int)), (10, i64 (y.i : Int))]) (fun y => y.J) (fun y => ixH b1 y.o) ⟨0, _, none⟩ ⟨Nat.zero_le _, Le.refl _, rfl, Nat.le_refl _⟩ ⟨rfl, rfl, rfl, rfl, trivial⟩ rfl rfl ?_))
 rintro ⟨i, Jh, o⟩ ⟨hi, hIJ, hok, hlen⟩
 dsimp only at hi hIJ hok hlen ⊢
 have hE := hE0.mono hIJ
 refine Cj.sr (J.z q17 ?_)
 refine J.nss (Cj.cond rfl (fun hc2 => ?_) (fun hc2 => ?_))
 ·
  have hc2p := odt hc2
  have hlt : i < es.length := by omega
  obtain ⟨e0, hget⟩ : ∃ e, es[i]? = some e := ⟨_, lgg hlt⟩
  have hem := lmg hget
  obtain ⟨⟨p1, c1, hpe, hc1, hp⟩, hrecs⟩ := id hE
  cases hpe
  obtain ⟨eb, eo, ecs, ety, efr, esp, rfl, heb, hed⟩ := hp (ne_nil_of hlt)
  have hrec := hrecs e0 hem
  clear hrecs
  obtain ⟨vp0, vc0, hev, -, -⟩ := id hrec.1
  refine Cj.ks (Cj.seq (Cj.block (Cj.sr (J.z (q19 (off' := eo + i * 5) tU27 tS37) ?_))))
  refine J.z (q43 isAgg37 tS37 (Blk.imm heb) (row_from entC_len hed hget)) ?_
  refine J.op rfl (q46 tZ37 ?_)
  intro b3 hb3
  refine J.op rfl (op_store 0 rfl rfl rfl rfl rfl (ent_one hev) tS37 rfl rfl (LSpl.c (LSpl.c (LSpl.c (LSpl.c (LSpl.c LSpl.z))))) LSet.z ?_)
  refine J.nsr (J.z q0 ?_)
  refine J.z (q33 isAgg37 tS37) ?_
  refine J.op rfl (op_callR (H1 := ixH _ _) [_] rfl rfl rfl rfl rfl rfl (Put_ok b1 o (Ix.rputs ((es.take i).map entL) []) e0 _ hok (by omega) (hek e0 hem) hrec) ?_ (fun _ _ _ _ ⟨_, h, _⟩ => nomatch h) (fun _ _ ⟨_, h, _⟩ => nomatch h))
  intro v4 I5 H6 hle7 hp8
  have hIJ := hIJ.mono hle7
  obtain ⟨o1, h, hok1, rfl⟩ := hp8; cases h
  refine J.nb (Cj.region (J.z q7 ?_))
  refine J.z q0 ?_
  refine J.nil (Ej.keep (Keeps.d Keeps.r) ?_)
  refine Ej.round ⟨i + 1, _, o1⟩ ⟨by dsimp only; omega, hIJ, by dsimp only; rw [rputs_next hget]; exact hok1, by dsimp only; rw [rputs_next hget]; have := rput_len e0.t (Ix.vals e0.fs) (Ix.rputs ((es.take i).map entL) []); omega⟩ (by dsimp only; omega) ⟨rfl, rfl, rfl, rfl, trivial⟩ rfl rfl
 have hc2p := odf hc2
 rw [List.take_of_length_le (by omega : es.length ≤ i)] at hok
 refine Cj.xl (Cj.sr (J.z q0 ?_))
 refine J.z q1 ?_
 refine J.ns (Cj.ret (q6 ?_))
 exact ⟨_, o, rfl, hok, rfl⟩
theorem Names_ok (I : Heap) : Ctr Tryz.prog 17 [] I [] (fun e _ H' => ∃ b, e = .returned (.slice (some ⟨b, 0, none⟩) 6 6) ∧ H' = [(b, cel 9 (Ix.names.map str))]) := by
 refine Ctr.ob func17 ?_
 intro w0 hw0
 refine Cj.sr (J.z q1 ?_)
 refine J.nssr (J.op rfl (op_buildSlice rfl rfl rfl tU28 tS9 tZ9 rfl rfl rfl rfl (LCat.one rfl (LCat.one rfl (LCat.one rfl (LCat.one rfl (LCat.one rfl (LCat.one rfl LCat.none)))))) ?_))
 intro b1 hb1
 refine J.z q1 ?_
 refine J.ns (Cj.ret (q6 ?_))
 exact ⟨_, rfl, rfl⟩
end Go.Proofs.YtjcdfnbomkoheaaGreatDoor
end
section
namespace Go.Sx
open Go
section
variable {P : Program} {K i j : TypeId} {f0 f1 : Field}
def EqK {α : Type} [BEq α] (P : Program) (K : TypeId) (kv : α → Array Value) : Prop := ∀ a b w, (Op.equalIn 10000 K (.agg (kv a)) (.agg (kv b))).run P w = .ok (a == b) w
theorem EqK.ints2 (hu : P.underlying K = some (.struct #[f0, f1])) (hp : P.stoodInHeld K = false) (n0 : f0.name ≠ "_") (n1 : f1.name ≠ "_") (o0 : f0.offset = 0) (o1 : f1.offset = 1) (t0 : f0.type = i) (t1 : f1.type = i) (hi : P.underlying i = some (.int .i64)) (ha : ∀ w, (isAgg i).run P w = .ok false w) :
    EqK P K (fun a : Int × Int => #[i64 a.1, i64 a.2]) := by
  subst t0
  exact fun a b w => stru_equal2 hu hp n0 n1 o0 o1 ha (t1 ▸ ha) (x0 := i64 a.1) (x1 := i64 a.2) (y0 := i64 b.1) (y1 := i64 b.2) w (fun d w => run_equalIn_int w d _ .i64 .i64 a.1 b.1 hi) (fun d w => run_equalIn_int w d _ .i64 .i64 a.2 b.2 (t1 ▸ hi)) 9998
theorem EqK.textInt (hu : P.underlying K = some (.struct #[f0, f1])) (hp : P.stoodInHeld K = false) (n0 : f0.name ≠ "_") (n1 : f1.name ≠ "_") (o0 : f0.offset = 0) (o1 : f1.offset = 1) (t0 : f0.type = i) (t1 : f1.type = j) (hi : P.underlying i = some .string) (hj : P.underlying j = some (.int .i64)) (ha : ∀ w, (isAgg i).run P w = .ok false w) (hb : ∀ w, (isAgg j).run P w = .ok false w) :
    EqK P K (fun a : List UInt8 × Int => #[str a.1, i64 a.2]) := by
  subst t0
  exact fun a b w => stru_equal2 hu hp n0 n1 o0 o1 ha (t1 ▸ hb) (x0 := str a.1) (x1 := i64 a.2) (y0 := str b.1) (y1 := i64 b.2) w (fun d w => equal_str hi a.1 b.1 d w) (fun d w => run_equalIn_int w d _ .i64 .i64 a.2 b.2 (t1 ▸ hj)) 9998
end
section
variable {cx : Cx} {S : World → Prop} {ev0 : Env} {o : Oper} {α : Type} [BEq α] {t : TypeId} {kv : α → Array Value}
theorem yl_eqlK {x y : Operand} {U : Nat} {a b : α} {vs us : List Value} (ho : o.op = .binOp .eql t x y U) (hx : ev ev0 x = some (.agg vs.toArray)) (hy : ev ev0 y = some (.agg us.toArray)) (hvs : vs.toArray = kv a) (hus : us.toArray = kv b)
    (hK : EqK cx.P t kv) (hq : cx.P.eqGuardType cx.P.depth t = false) : Yld cx o ev0 S (.bool (a == b)) := by
  intro w0 w hw _
  have hg : (eqGuard .eql t x y (.agg vs.toArray) (.agg us.toArray)).run cx.P w = .ok () w := by
    simp [eqGuard, hq]
  have h1 := run_eql_struct (P := cx.P) w t vs.toArray us.toArray
  rw [hvs] at h1 hg hx
  rw [hus] at h1 hg hy
  rw [hK a b w] at h1
  simp [execOp, ho, hw.eval hx, hw.eval hy, hg, h1]
theorem yl_neqK {x y : Operand} {U : Nat} {a b : α} {vs us : List Value} (ho : o.op = .binOp .neq t x y U) (hx : ev ev0 x = some (.agg vs.toArray)) (hy : ev ev0 y = some (.agg us.toArray)) (hvs : vs.toArray = kv a) (hus : us.toArray = kv b)
    (hK : EqK cx.P t kv) (hq : cx.P.eqGuardType cx.P.depth t = false) : Yld cx o ev0 S (.bool (a != b)) := by
  intro w0 w hw _
  have hg : (eqGuard .neq t x y (.agg vs.toArray) (.agg us.toArray)).run cx.P w = .ok () w := by
    simp [eqGuard, hq]
  have h1 := run_neq_struct (P := cx.P) w t vs.toArray us.toArray
  rw [hvs] at h1 hg hx
  rw [hus] at h1 hg hy
  rw [hK a b w] at h1
  simp [execOp, ho, hw.eval hx, hw.eval hy, hg, h1, bne]
end
section
variable {cx : Cx} {S : World → Prop} {ev0 : Env} {o : Oper}
theorem yl_fieldR {x : Operand} {T k : Nat} {v0 v : Value} (ho : o.op = .field T x k) (hx : ev ev0 x = some v0) (hr : ∀ w, (Instr.field T v0 k).run cx.P w = .ok v w) : Yld cx o ev0 S v := by
  intro w0 w hw _
  simp [execOp, ho, hw.eval hx, hr]
end
theorem Pure.borrow {P : Program} {f : FuncId} {args : List Value} {I : Heap} {B : HL} {v : Value} (he : Enters P f) (h : ∀ J, Le I J → (∀ p ∈ B, J p.1 = some p.2) → Pure P f args J v) : Ctr P f args I B (fun e _ H' => e = .returned v ∧ H' = B) := by
  refine Ctr.withReady he fun hn hf => ?_
  refine (Ctr.borrow (h (hputs B I) (hputs_le hf) (hputs_at hn))).mono fun e I' H' _ ⟨J, K, ⟨h1, h2, h3⟩, h4, h5, h6⟩ => ⟨h1, ?_⟩
  subst h3; rw [h4, List.append_nil]
end Go.Sx
end
section
namespace Go.Proofs.YtjcdfnbomkoheaaGreatDoor
open _root_.Go.Proofs.Tryz
open Go Go.Sx
abbrev recA (t : Ix.Rec) : Array Value := #[i64 t.1, i64 t.2]
theorem eqRec : EqK Tryz.prog 26 recA := EqK.ints2 tU26 (by kernel_rfl) (by decide) (by decide) rfl rfl rfl rfl tU3 tA3
theorem ent_rec {cs sp : List Value} {o k : Nat} {es : List Ent} {x : Ent} (h : cs.drop o = es.flatMap entC ++ sp) (hx : es[k]? = some x) : (cs.drop (o + k * 5)).take 2 = recC x.t := by
  have h1 := row_from entC_len h hx
  rw [show (cs.drop (o + k * 5)).take 2 = ((cs.drop (o + k * 5)).take 5).take 2 by rw [List.take_take, show min 2 5 = 2 from rfl], h1]; rfl
theorem lessR_ne {a b : Ix.Rec} (h : a.1 ≠ b.1) : Ix.lessR a b = decide (a.1 < b.1) := by unfold Ix.lessR; rw [decide_eq_false (p := a.1 = b.1) h]; simp
theorem lessR_eq {a b : Ix.Rec} (h : a.1 = b.1) : Ix.lessR a b = decide (a.2 < b.2) := by unfold Ix.lessR; rw [decide_eq_true h, h, decide_eq_false (Int.lt_irrefl _)]; simp
def epos (es : List Ent) (t : Ix.Rec) : Nat := (es.takeWhile fun x => Ix.lessR x.t t).length
def ethere (es : List Ent) (t : Ix.Rec) : Bool := match es[epos es t]? with
  | none => false
  | some x => x.t == t
def eput (es : List Ent) (e : Ent) : List Ent := es.take (epos es e.t) ++ [e] ++ es.drop (if ethere es e.t then epos es e.t + 1 else epos es e.t)
def edrop (es : List Ent) (t : Ix.Rec) : List Ent := if ethere es t then es.take (epos es t) ++ es.drop (epos es t + 1) else es
theorem epos_cons (x : Ent) (es : List Ent) (t : Ix.Rec) : epos (x :: es) t = if Ix.lessR x.t t then epos es t + 1 else 0 := by
  unfold epos; rw [List.takeWhile_cons]; split <;> simp_all
theorem epos_le : ∀ (es : List Ent) (t : Ix.Rec), epos es t ≤ es.length
  | [], _ => Nat.zero_le _
  | x :: r, t => by rw [epos_cons]; have := epos_le r t; split <;> simp <;> omega
theorem epos_at : ∀ {es : List Ent} {t : Ix.Rec} {k : Nat}, (∀ x ∈ es.take k, Ix.lessR x.t t = true) → (∀ x, es[k]? = some x → Ix.lessR x.t t = false) → k ≤ es.length → epos es t = k
  | [], _, k, _, _, hk => by have : k = 0 := by simpa using hk
                             subst this; rfl
  | x :: r, t, 0, _, h2, _ => by rw [epos_cons, if_neg (by rw [h2 x rfl]; decide)]
  | x :: r, t, k + 1, h1, h2, hk => by
    rw [epos_cons, if_pos (h1 x (by rw [List.take_succ_cons]; exact .head _)), epos_at (k := k) (fun y hy => h1 y (by rw [List.take_succ_cons]; exact .tail _ hy)) (fun y hy => h2 y (by rw [List.getElem?_cons_succ]; exact hy)) (by simpa using hk)]
theorem ethere_at {es : List Ent} {t : Ix.Rec} {k : Nat} {x : Ent} (h : epos es t = k) (hx : es[k]? = some x) : ethere es t = (x.t == t) := by unfold ethere; rw [h, hx]
theorem ethere_no {es : List Ent} {t : Ix.Rec} {k : Nat} (h : epos es t = k) (hk : es.length ≤ k) : ethere es t = false := by unfold ethere; rw [h, List.getElem?_eq_none hk]
theorem take_all {es : List Ent} {t : Ix.Rec} {k : Nat} {x : Ent} (h : ∀ y ∈ es.take k, Ix.lessR y.t t = true) (hg : es[k]? = some x) (hx : Ix.lessR x.t t = true) : ∀ y ∈ es.take (k + 1), Ix.lessR y.t t = true := by
  obtain ⟨hlt, hg⟩ := List.getElem?_eq_some_iff.1 hg
  rw [List.take_succ_eq_append_getElem hlt, hg]
  intro y hy
  rcases List.mem_append.1 hy with g | g
  · exact h y g
  rw [List.mem_singleton.1 g]; exact hx
theorem ethere_cons (x : Ent) (es : List Ent) (t : Ix.Rec) : ethere (x :: es) t = if Ix.lessR x.t t then ethere es t else x.t == t := by
  unfold ethere; rw [epos_cons]
  by_cases h : Ix.lessR x.t t = true
  · rw [if_pos h, if_pos h]; rfl
  rw [if_neg h, if_neg h]; rfl
theorem eput_put (e : Ent) : ∀ es : List Ent, (eput es e).map entL = Ix.rput e.t (Ix.vals e.fs) (es.map entL)
  | [] => rfl
  | x :: r => by
    have ih := eput_put e r
    unfold eput at ih ⊢
    rw [epos_cons, ethere_cons, List.map_cons]
    unfold Ix.rput
    by_cases h : Ix.lessR x.t e.t = true
    · rw [if_pos h, if_pos h, if_pos h, ← ih]
      have e1 : (if ethere r e.t = true then epos r e.t + 1 + 1 else epos r e.t + 1) = (if ethere r e.t = true then epos r e.t + 1 else epos r e.t) + 1 := by split <;> rfl
      rw [e1]; rfl
    rw [if_neg h, if_neg h, if_neg h]
    by_cases h2 : x.t = e.t
    · rw [if_pos h2, if_pos (by simpa using h2)]; rfl
    rw [if_neg h2, if_neg (by simpa using h2)]; rfl
theorem edrop_id {t : Ix.Rec} {L : List Ent} (h : ∀ x ∈ L, x.t ≠ t) : Ix.rdrop t (L.map entL) = L.map entL := by
  unfold Ix.rdrop
  rw [List.filter_eq_self]
  intro y hy
  obtain ⟨x, hx, rfl⟩ := List.mem_map.1 hy
  exact decide_eq_true (h x hx)
theorem edrop_drop (t : Ix.Rec) : ∀ es : List Ent, Ix.Srt (es.map entL) → (edrop es t).map entL = Ix.rdrop t (es.map entL)
  | [], _ => rfl
  | x :: r, hs => by
    have h' := List.pairwise_cons.1 hs
    have ih := edrop_drop t r h'.2
    unfold edrop at ih ⊢
    rw [epos_cons, ethere_cons, List.map_cons]
    have hd : Ix.rdrop t (entL x :: r.map entL) = if x.t = t then Ix.rdrop t (r.map entL) else entL x :: Ix.rdrop t (r.map entL) := by
      unfold Ix.rdrop
      rw [List.filter_cons]
      by_cases g : x.t = t
      · rw [if_pos g, if_neg (by simp [g])]
      rw [if_neg g, if_pos (by simp [g])]
    have hbig : ∀ u : Ix.Rec, Ix.lessR u x.t = false → u ≠ x.t → True := fun _ _ _ => trivial
    rw [hd]
    by_cases h : Ix.lessR x.t t = true
    · have hne : x.t ≠ t := fun g => by rw [g, Ix.lessR_irr] at h; cases h
      rw [if_pos h, if_pos h, if_neg hne, ← ih]
      split <;> rfl
    rw [if_neg h, if_neg h]
    by_cases g : x.t = t
    · rw [if_pos g, if_pos (by simpa using g), edrop_id fun y hy he => by
        have := h'.1 (entL y) (List.mem_map_of_mem hy)
        simp only [] at this
        rw [he, ← g, Ix.lessR_irr] at this; cases this]
      rfl
    rw [if_neg g, if_neg (by simpa using g), edrop_id fun y hy he => by
      have h1 := h'.1 (entL y) (List.mem_map_of_mem hy)
      simp only [] at h1
      rw [he] at h1; exact h h1]
    rfl
theorem eput_len (es : List Ent) (e : Ent) : (eput es e).length ≤ es.length + 1 := by
  unfold eput
  have := epos_le es e.t
  simp only [List.length_append, List.length_take, List.length_drop, List.length_singleton]
  split <;> omega
theorem edrop_len (es : List Ent) (t : Ix.Rec) : (edrop es t).length ≤ es.length := by
  unfold edrop
  split
  · have := epos_le es t
    simp only [List.length_append, List.length_take, List.length_drop]; omega
  exact Nat.le_refl _
theorem eput_mem {es : List Ent} {e x : Ent} (h : x ∈ eput es e) : x = e ∨ x ∈ es := by
  unfold eput at h
  rcases List.mem_append.1 h with g | g
  · rcases List.mem_append.1 g with g | g
    · exact .inr (List.mem_of_mem_take g)
    exact .inl (List.mem_singleton.1 g)
  exact .inr (List.mem_of_mem_drop g)
theorem edrop_mem {es : List Ent} {t : Ix.Rec} {x : Ent} (h : x ∈ edrop es t) : x ∈ es := by
  unfold edrop at h
  split at h
  · rcases List.mem_append.1 h with g | g
    · exact List.mem_of_mem_take g
    exact List.mem_of_mem_drop g
  exact h
theorem ethere_lt {es : List Ent} {t : Ix.Rec} (h : ethere es t = true) : epos es t < es.length := by
  rcases Nat.lt_or_ge (epos es t) es.length with g | g
  · exact g
  rw [ethere_no rfl g] at h; cases h
theorem ents_one {I : Heap} {es : List Ent} {v : Value} (h : EntsS I es v) {l : List Ent} (hl : ∀ x ∈ l, x ∈ es) : ∀ x ∈ l, (entC x).all Value.oneCell' = true := fun x hx => by
  obtain ⟨p, c, he, -⟩ := (h.2 x (hl x hx)).1
  exact ent_one he
theorem EntsS.nil {I : Heap} : EntsS I [] (.slice none 0 0) := ⟨RowS.nil, fun _ h => by cases h⟩
theorem EntsS.len {I : Heap} {es : List Ent} {v : Value} (h : EntsS I es v) : ∃ p c, v = .slice p es.length c ∧ es.length ≤ c := let ⟨p, c, h, hc, _⟩ := h.1; ⟨p, c, h, hc⟩
theorem rLess_ok (a b : Ix.Rec) (I : Heap) : Pure Tryz.prog 94 [kvR a, kvR b] I (.bool (Ix.lessR a b)) := by
 refine Ctr.toPure ?_
 refine Ctr.ob func94 ?_
 intro w0 hw0
 refine Cj.sr (J.op rfl (q28 ?_))
 intro b1 hb1
 refine J.op rfl (q28 ?_)
 intro b2 hb2
 refine J.z q1 ?_
 refine J.nsss (Cj.region (J.z (q4 (off' := 0) tU26 tS3) ?_))
 refine J.z (q9 tA3 (Blk.at 1 rfl)) ?_
 refine J.z (q4 (off' := 0) tU26 tS3) ?_
 refine J.z (q18 tA3) ?_
 refine J.z q47 ?_
 refine J.cd (fun hc3 => ?_) (fun hc3 => ?_)
 ·
  have hc3p := bne_iff_ne.1 hc3
  have hl := lessR_ne (bne_iff_ne.1 hc3)
  refine Cj.sr (J.z (q4 (off' := 0) tU26 tS3) ?_)
  refine J.z (q9 tA3 (Blk.at 1 rfl)) ?_
  refine J.z (q4 (off' := 0) tU26 tS3) ?_
  refine J.z (q18 tA3) ?_
  refine J.z q17 ?_
  refine J.z q1 ?_
  refine J.ns (Cj.rs (Ej.bare ?_))
  refine q6 ?_
  rw [hl]
  exact ⟨rfl, rfl⟩
 have hc3p := bne_f hc3
 have hl := lessR_eq (bne_f hc3)
 refine Cj.ks (Cj.sr (J.z (q4 (off' := 1) tU26 tS3) ?_))
 refine J.z (q9 tA3 (Blk.at 1 rfl)) ?_
 refine J.z (q4 (off' := 1) tU26 tS3) ?_
 refine J.z (q18 tA3) ?_
 refine J.z q17 ?_
 refine J.z q1 ?_
 refine J.ns (Cj.ret (Ej.bare ?_))
 refine q6 ?_
 rw [hl]
 exact ⟨rfl, rfl⟩
theorem rfind_ok (rb : Nat) (w : Value) (es : List Ent) (t : Ix.Rec) (hl : es.length ≤ 1000000) (I : Heap) (hrb : I rb = some (cel 73 [w])) (hE : EntsS I es w) : Pure Tryz.prog 65 [ptr rb 0, kvR t] I (.tuple #[i64 (epos es t : Int), .bool (ethere es t)]) := by
 refine Ctr.toPure ?_
 obtain ⟨p, c, rfl, hc, hp⟩ := id hE.1
 refine Ctr.ob func65 ?_
 intro w0 hw0
 refine Cj.sr (J.op rfl (q28 ?_))
 intro b1 hb1
 refine J.z q1 ?_
 refine J.z q1 ?_
 refine J.nssr (J.z q1 ?_)
 refine J.nss (Cj.block (Cj.loop (ι := Nat) (fun y => y ≤ es.length ∧ ∀ x ∈ es.take y, Ix.lessR x.t t = true) (fun y => es.length - y) (fun y => [(0, ptr rb 0), (3, ptr b1 0), (6, i64 (y : Int))]) (fun y => _) (fun y => [(b1, cel 26 [i64 t.1, i64 t.2])]) 0 ⟨Nat.zero_le _, fun x hx => by simp at hx⟩ ⟨rfl, rfl, rfl, trivial⟩ rfl rfl ?_))
 rintro y ⟨hy, hall⟩
 refine Cj.seq (Cj.sr (J.z q0 ?_))
 refine J.z q0 ?_
 refine J.z q8 ?_
 refine J.z (q4 (off' := 0) tU73 tS27) ?_
 refine J.z (q9 tA27 (Blk.imm hrb)) ?_
 refine J.z (q15 tU27) ?_
 refine J.z q17 ?_
 refine J.cd (fun hc2 => ?_) (fun hc2 => ?_)
 ·
  have hc2p := odt hc2
  have hlt : y < es.length := by omega
  obtain ⟨x, hget⟩ : ∃ x, es[y]? = some x := ⟨_, lgg hlt⟩
  obtain ⟨eb, eo, ecs, ety, efr, esp, rfl, heb, hed⟩ := hp (ne_nil_of hlt)
  refine Cj.ks (Cj.block (Cj.seq (Cj.drawSel [0] [] 11 (by kernel_rfl) ?_)))
  have hrb_3 := hrb
  have heb_3 := heb
  refine JA.fix ⟨(HSub.c 0 rfl HSub.n), CSub.n, (Le.refl _)⟩ (fun fx3 => ?_)
  refine JA.tk 0 rfl fx3 q0 ?_
  refine JA.tk 1 rfl fx3 q8 ?_
  refine JA.tk 2 rfl fx3 (q4 (off' := 0) tU73 tS27) ?_
  refine JA.tk 3 rfl fx3 (q9 tA27 (Blk.immC hrb_3)) ?_
  refine JA.tk 4 rfl fx3 q0 ?_
  refine JA.tk 5 rfl fx3 (q19 (off' := eo + y * 5) tU27 tS37) ?_
  refine JA.tk 6 rfl fx3 (q4 tU37 tS26) ?_
  refine JA.tk 7 rfl fx3 (q43 tA26 tS26 (Blk.immC heb_3) (ent_rec hed hget)) ?_
  refine JA.tk 8 rfl fx3 (q27 tA26 tS26 (Blk.atC 0 rfl)) ?_
  refine q13 9 rfl (op_pure rfl rfl rfl rfl rfl (rLess_ok x.t t _) ?_)
  refine ⟨⟨(Le.refl _), (HSub.c 0 rfl HSub.n), CSub.n⟩, ?_⟩
  refine JA.fix ⟨(HSub.c 0 rfl HSub.n), CSub.n, (Le.refl _)⟩ (fun fx4 => ?_)
  refine JA.tk 10 rfl fx4 q1 ?_
  refine q14 ?_
  refine Ej.seq (Cj.seq (Cj.sr (J.z q0 ?_)))
  refine J.z q50 ?_
  refine J.cd (fun hc5 => ?_) (fun hc5 => ?_)
  ·
   have hls : Ix.lessR x.t t = false := by have h := hc5; simpa using h
   refine Cj.exit (Ej.seqExit (Ej.blkOther rfl ?_))
   refine Ej.loopExit (Ej.blkExit (Ej.seq (Cj.seq ?_)))
   have hpos : epos es t = y := epos_at hall (fun z hz => by rw [hget] at hz; cases hz; exact hls) hy
   have hth := ethere_at hpos hget
   refine Cj.drawSel [0] [] 22 (by kernel_rfl) ?_
   refine JA.fix ⟨(HSub.c 0 rfl HSub.n), CSub.n, (Le.refl _)⟩ (fun fx6 => ?_)
   refine JA.tk 0 rfl fx6 q0 ?_
   refine JA.tk 1 rfl fx6 q0 ?_
   refine JA.tk 2 rfl fx6 q0 ?_
   refine JA.tk 3 rfl fx6 q8 ?_
   refine JA.tk 4 rfl fx6 (q4 (off' := 0) tU73 tS27) ?_
   refine JA.tk 5 rfl fx6 (q9 tA27 (Blk.immC hrb)) ?_
   refine JA.tk 6 rfl fx6 (q15 tU27) ?_
   refine JA.tk 7 rfl fx6 q17 ?_
   refine JA.tk 8 rfl fx6 q0 ?_
   refine JA.split 37 rfl (fun hg7 => ?_) (fun hg7 => ?_)
   rotate_left
   ·
    have hg7p := odf hg7
    omega
   have hg7p := odt hg7
   refine JA.tkG 9 8 37 true _ rfl fx6 rfl rfl hg7 q0 ?_
   refine JA.tkG 10 8 37 true _ rfl fx6 rfl rfl hg7 q8 ?_
   refine JA.tkG 11 8 37 true _ rfl fx6 rfl rfl hg7 (q4 (off' := 0) tU73 tS27) ?_
   refine JA.tkG 12 8 37 true _ rfl fx6 rfl rfl hg7 (q9 tA27 (Blk.immC hrb)) ?_
   refine JA.tkG 13 8 37 true _ rfl fx6 rfl rfl hg7 q0 ?_
   refine JA.tkG 14 8 37 true _ rfl fx6 rfl rfl hg7 (q19 (off' := eo + y * 5) tU27 tS37) ?_
   refine JA.tkG 15 8 37 true _ rfl fx6 rfl rfl hg7 (q4 tU37 tS26) ?_
   refine JA.tkG 16 8 37 true _ rfl fx6 rfl rfl hg7 (q43 tA26 tS26 (Blk.immC heb) (ent_rec hed hget)) ?_
   refine JA.tkG 17 8 37 true _ rfl fx6 rfl rfl hg7 (q27 tA26 tS26 (Blk.atC 0 rfl)) ?_
   refine JA.tkG 18 8 37 true _ rfl fx6 rfl rfl hg7 (yl_eqlK (kv := recA) (a := x.t) (b := t) rfl rfl rfl rfl rfl eqRec (by kernel_rfl)) ?_
   refine JA.tk 19 rfl fx6 (q11 hg7) ?_
   refine JA.tk 20 rfl fx6 q1 ?_
   refine JA.tk 21 rfl fx6 q1 ?_
   refine q14 ?_
   refine Ej.seq (Cj.ret (Ej.bare ?_))
   refine q22 ?_
   rw [hpos, hth]
   exact ⟨rfl, rfl⟩
  have hls : Ix.lessR x.t t = true := by have h := hc5; simpa using h
  refine Cj.ks (Cj.region (J.z q0 ?_))
  refine J.z q7 ?_
  refine J.z q1 ?_
  refine J.nil (Ej.blkNormal (Ej.round (y + 1) ⟨by omega, take_all hall hget hls⟩ (by omega) ⟨rfl, rfl, rfl, trivial⟩ rfl rfl))
 have hc2p := odf hc2
 refine Cj.xl (Cj.seq ?_)
 have hpos : epos es t = y := epos_at hall (fun x hx => absurd (List.getElem?_eq_some_iff.1 hx).1 (by omega)) hy
 have hth := ethere_no hpos (by omega)
 refine Cj.drawSel [0] [] 22 (by kernel_rfl) ?_
 refine JA.fix ⟨(HSub.c 0 rfl HSub.n), CSub.n, (Le.refl _)⟩ (fun fx8 => ?_)
 refine JA.tk 0 rfl fx8 q0 ?_
 refine JA.tk 1 rfl fx8 q0 ?_
 refine JA.tk 2 rfl fx8 q0 ?_
 refine JA.tk 3 rfl fx8 q8 ?_
 refine JA.tk 4 rfl fx8 (q4 (off' := 0) tU73 tS27) ?_
 refine JA.tk 5 rfl fx8 (q9 tA27 (Blk.immC hrb)) ?_
 refine JA.tk 6 rfl fx8 (q15 tU27) ?_
 refine JA.tk 7 rfl fx8 q17 ?_
 refine JA.tk 8 rfl fx8 q0 ?_
 refine JA.split 37 rfl (fun hg9 => ?_) (fun hg9 => ?_)
 ·
  have hg9p := odt hg9
  omega
 have hg9p := odf hg9
 refine q20 9 8 37 true fx8 (.inl (congrArg Value.bool hg9)) ?_
 refine q20 10 8 37 true fx8 (.inl (congrArg Value.bool hg9)) ?_
 refine q20 11 8 37 true fx8 (.inl (congrArg Value.bool hg9)) ?_
 refine q20 12 8 37 true fx8 (.inl (congrArg Value.bool hg9)) ?_
 refine q20 13 8 37 true fx8 (.inl (congrArg Value.bool hg9)) ?_
 refine q20 14 8 37 true fx8 (.inl (congrArg Value.bool hg9)) ?_
 refine q20 15 8 37 true fx8 (.inl (congrArg Value.bool hg9)) ?_
 refine q20 16 8 37 true fx8 (.inl (congrArg Value.bool hg9)) ?_
 refine q20 17 8 37 true fx8 (.inl (congrArg Value.bool hg9)) ?_
 refine q20 18 8 37 true fx8 (.inl (congrArg Value.bool hg9)) ?_
 refine JA.tk 19 rfl fx8 (q10 hg9) ?_
 refine JA.tk 20 rfl fx8 q1 ?_
 refine JA.tk 21 rfl fx8 q1 ?_
 refine q14 ?_
 refine Ej.seq (Cj.ret (Ej.bare ?_))
 refine q22 ?_
 rw [hpos, hth]
 exact ⟨rfl, rfl⟩
theorem rfind_own (rb : Nat) (w : Value) (es : List Ent) (t : Ix.Rec) (hl : es.length ≤ 1000000) (I : Heap) (hE : EntsS I es w) : Ctr Tryz.prog 65 [ptr rb 0, kvR t] I [(rb, cel 73 [w])] (fun e _ H' => e = .returned (.tuple #[i64 (epos es t : Int), .bool (ethere es t)]) ∧ H' = [(rb, cel 73 [w])]) :=
  Pure.borrow (Enters.of func65 (by decide) rfl) fun J hle hJ => rfind_ok rb w es t hl J (hJ (rb, _) (.head _)) (hE.mono hle)
theorem RowS.from {α : Type} {f : α → List Value} {sz : Nat} (hf : ∀ x, (f x).length = sz) {I : Heap} {l : List α} {a : Option Addr} {c : Nat} (h : RowS f I l (.slice a l.length c)) {j : Nat} (hj : j ≤ l.length) : RowS f I (l.drop j) (.slice (cutA a c j sz) (l.length - j) (c - j)) := by
  have h1 := RowS.cut hf h hj (Nat.le_refl _)
  rwa [List.take_of_length_le (by rw [List.length_drop]; omega)] at h1
theorem three_flat (a b : List Ent) (e : Ent) : ((([] : List Value) ++ a.flatMap entC) ++ entC e) ++ b.flatMap entC = (a ++ [e] ++ b).flatMap entC := by simp
theorem two_flat (a b : List Ent) : (([] : List Value) ++ a.flatMap entC) ++ b.flatMap entC = (a ++ b).flatMap entC := by simp
theorem EntsS.put {I I' : Heap} {es : List Ent} {e : Ent} {w v : Value} (h : EntsS I es w) (he : RecS I e.fs e.v) (hle : Le I I') (hr : RowS entC I' (eput es e) v) : EntsS I' (eput es e) v := ⟨hr, fun x hx => by
  rcases eput_mem hx with rfl | g
  · exact he.mono hle
  exact (h.2 x g).mono hle⟩
theorem EntsS.drop {I I' : Heap} {es : List Ent} {t : Ix.Rec} {w v : Value} (h : EntsS I es w) (hle : Le I I') (hr : RowS entC I' (edrop es t) v) : EntsS I' (edrop es t) v := ⟨hr, fun x hx => (h.2 x (edrop_mem hx)).mono hle⟩
theorem rPut_ok (rb : Nat) (w : Value) (es : List Ent) (e : Ent) (hl : es.length ≤ 1000000) (I : Heap) (hE : EntsS I es w) (hr : RecS I e.fs e.v) : Ctr Tryz.prog 44 [ptr rb 0, .agg (entC e).toArray] I [(rb, cel 73 [w])] (fun ev I' H' => ∃ w', ev = .returned (.tuple #[]) ∧ EntsS I' (eput es e) w' ∧ H' = [(rb, cel 73 [w'])]) := by
 have hrow := hE.1
 obtain ⟨p, c, rfl, hc⟩ := hE.len
 obtain ⟨vp, vc, hev, -, -⟩ := id hr.1
 have hpl := epos_le es e.t
 have htl : (es.take (epos es e.t)).length = epos es e.t := by rw [List.length_take]; omega
 refine Ctr.ob func44 ?_
 intro w0 hw0
 refine Cj.sr (J.op rfl (q28 ?_))
 intro b1 hb1
 refine J.nssr (J.z q0 ?_)
 refine J.z (q4 (off' := 0) tU37 tS26) ?_
 refine J.z (q33 tA26 tS26) ?_
 refine J.pull (Pull.s Pull.z) ?_
 refine J.op rfl (op_call (H1 := [_]) rfl rfl rfl rfl rfl (rfind_own rb _ es e.t hl _ hE) ?_ (fun _ _ _ _ h => by cases h.1) (fun _ _ h => by cases h.1))
 intro v2 I3 H4 hle5 hp6
 have hE := hE.mono hle5
 have hr := hr.mono hle5
 have hrow := hrow.mono hle5
 obtain ⟨h, rfl⟩ := hp6; cases h
 refine J.z q0 ?_
 refine J.z q25 ?_
 refine J.z q25 ?_
 refine J.z q1 ?_
 refine J.z q1 ?_
 refine J.nssr (J.z q1 ?_)
 refine J.nssr (J.z q0 ?_)
 refine J.z q0 ?_
 refine J.z q8 ?_
 refine J.z (q4 (off' := 0) tU73 tS27) ?_
 refine J.z (q18 tA27) ?_
 refine J.z q0 ?_
 refine J.z (yl_slice0 (k := epos es e.t) rfl rfl rfl tU27 tS37 rfl (by omega)) ?_
 refine J.op rfl (op_append (by' := 47) (n := 0) (g := none) (xs := []) [_, _] rfl rfl rfl rfl rfl tU27 (.inr ⟨_, tU27⟩) (by kernel_rfl) tS37 tZ37 rfl ⟨rfl, rfl⟩ rfl (Src.row entC_len (RowS.take hrow hpl) (ents_one hE (fun x hx => List.mem_of_mem_take hx))) (by omega) ?_)
 intro g7 hg7
 refine J.z q1 ?_
 refine J.nssr (J.z q0 ?_)
 refine J.z (q27 isAgg37 tS37 (Blk.at 1 rfl)) ?_
 refine J.op rfl (q41 tU27 tS37 tZ37 ?_)
 intro b8 hb8
 refine J.op rfl (op_append (by' := 47) [_, _, _] rfl rfl rfl rfl rfl tU27 (.inr ⟨_, tU27⟩) (by kernel_rfl) tS37 tZ37 rfl hg7 rfl (Src.slice (Blk.at 0 rfl) rfl rfl (ent_one hev)) (by omega) ?_)
 intro g9 hg9
 refine J.z q1 ?_
 refine J.nsss (Cj.region (J.z q0 ?_))
 refine J.cd (fun hc10 => ?_) (fun hc10 => ?_)
 ·
  have hth : ethere es e.t = true := hc10
  have hlt := ethere_lt hth
  have hpj : epos es e.t + 1 ≤ es.length := hlt
  have hdl : (es.drop (epos es e.t + 1)).length = es.length - (epos es e.t + 1) := List.length_drop
  refine Cj.region (J.z q0 ?_)
  refine J.z q7 ?_
  refine J.z q1 ?_
  refine J.nsr (J.z q0 ?_)
  refine J.z q0 ?_
  refine J.z q0 ?_
  refine J.z q8 ?_
  refine J.z (q4 (off' := 0) tU73 tS27) ?_
  refine J.z (q9 tA27 (Blk.at 1 rfl)) ?_
  refine J.z q0 ?_
  refine J.z (yl_slice1 (j := (epos es e.t + 1)) rfl rfl rfl tU27 tS37 rfl (by omega) (by omega)) ?_
  refine J.op rfl (op_append (by' := 47) [_, _, _] rfl rfl rfl rfl rfl tU27 (.inr ⟨_, tU27⟩) (by kernel_rfl) tS37 tZ37 rfl hg9 rfl (Src.row entC_len (RowS.from entC_len hrow (j := epos es e.t + 1) hpj) (ents_one hE (fun x hx => List.mem_of_mem_drop hx))) (by omega) ?_)
  intro g11 hg11
  refine J.z q8 ?_
  refine J.z (q4 (off' := 0) tU73 tS27) ?_
  refine J.op rfl (op_store 1 rfl rfl rfl rfl (gV_cells _ _) (gV_one _ _) tS27 rfl rfl (LSpl.c LSpl.z) (LSet.s LSet.z) ?_)
  refine J.nil (Ej.keep (Keeps.d (Keeps.k (Keeps.d Keeps.r))) ?_)
  have hes : es.take (epos es e.t) ++ [e] ++ es.drop (epos es e.t + 1) = eput es e := by unfold eput; rw [hth]; rfl
  have hfl := (three_flat (es.take (epos es e.t)) (es.drop (epos es e.t + 1)) e).trans (congrArg (List.flatMap entC) hes)
  refine Ej.perm (H' := gH 37 ((eput es e).flatMap entC) g11 ++ [(rb, _)]) (by rw [← hfl]; exact List.perm_append_comm) ?_
  refine Ej.keepR entC_len (by decide) (by rw [← hfl]; exact hg11) (by rw [← hes]; simp only [List.length_append, List.length_singleton]; omega) (fun I8 hle8 hw8 => ?_)
  refine q39 ?_
  exact ⟨_, rfl, hE.put hr hle8 hw8, rfl⟩
 have hth : ethere es e.t = false := hc10
 have hpj := hpl
 have hdl : (es.drop (epos es e.t)).length = es.length - epos es e.t := List.length_drop
 refine Cj.ks (Cj.region (J.z q0 ?_))
 refine J.z q0 ?_
 refine J.z q0 ?_
 refine J.z q8 ?_
 refine J.z (q4 (off' := 0) tU73 tS27) ?_
 refine J.z (q9 tA27 (Blk.at 1 rfl)) ?_
 refine J.z q0 ?_
 refine J.z (yl_slice1 (j := (epos es e.t)) rfl rfl rfl tU27 tS37 rfl (by omega) (by omega)) ?_
 refine J.op rfl (op_append (by' := 47) [_, _, _] rfl rfl rfl rfl rfl tU27 (.inr ⟨_, tU27⟩) (by kernel_rfl) tS37 tZ37 rfl hg9 rfl (Src.row entC_len (RowS.from entC_len hrow (j := epos es e.t) hpj) (ents_one hE (fun x hx => List.mem_of_mem_drop hx))) (by omega) ?_)
 intro g12 hg12
 refine J.z q8 ?_
 refine J.z (q4 (off' := 0) tU73 tS27) ?_
 refine J.op rfl (op_store 1 rfl rfl rfl rfl (gV_cells _ _) (gV_one _ _) tS27 rfl rfl (LSpl.c LSpl.z) (LSet.s LSet.z) ?_)
 refine J.nil (Ej.keep (Keeps.d (Keeps.k (Keeps.d Keeps.r))) ?_)
 have hes : es.take (epos es e.t) ++ [e] ++ es.drop (epos es e.t) = eput es e := by unfold eput; rw [hth]; rfl
 have hfl := (three_flat (es.take (epos es e.t)) (es.drop (epos es e.t)) e).trans (congrArg (List.flatMap entC) hes)
 refine Ej.perm (H' := gH 37 ((eput es e).flatMap entC) g12 ++ [(rb, _)]) (by rw [← hfl]; exact List.perm_append_comm) ?_
 refine Ej.keepR entC_len (by decide) (by rw [← hfl]; exact hg12) (by rw [← hes]; simp only [List.length_append, List.length_singleton]; omega) (fun I8 hle8 hw8 => ?_)
 refine q39 ?_
 exact ⟨_, rfl, hE.put hr hle8 hw8, rfl⟩
theorem rDrop_ok (rb : Nat) (w : Value) (es : List Ent) (t : Ix.Rec) (hl : es.length ≤ 1000000) (I : Heap) (hE : EntsS I es w) : Ctr Tryz.prog 68 [ptr rb 0, kvR t] I [(rb, cel 73 [w])] (fun ev I' H' => ∃ w', ev = .returned (.tuple #[]) ∧ EntsS I' (edrop es t) w' ∧ H' = [(rb, cel 73 [w'])]) := by
 have hrow := hE.1
 obtain ⟨p, c, rfl, hc⟩ := hE.len
 have hpl := epos_le es t
 have htl : (es.take (epos es t)).length = epos es t := by rw [List.length_take]; omega
 refine Ctr.ob func68 ?_
 intro w0 hw0
 refine Cj.sr (J.op rfl (q28 ?_))
 intro b1 hb1
 refine J.nssr (J.z q0 ?_)
 refine J.z (q33 tA26 tS26) ?_
 refine J.pull (Pull.s Pull.z) ?_
 refine J.op rfl (op_call (H1 := [_]) rfl rfl rfl rfl rfl (rfind_own rb _ es t hl _ hE) ?_ (fun _ _ _ _ h => by cases h.1) (fun _ _ h => by cases h.1))
 intro v2 I3 H4 hle5 hp6
 have hE := hE.mono hle5
 have hrow := hrow.mono hle5
 obtain ⟨h, rfl⟩ := hp6; cases h
 refine J.z q0 ?_
 refine J.z q25 ?_
 refine J.z q25 ?_
 refine J.z q1 ?_
 refine J.z q1 ?_
 refine J.nssr (J.z q0 ?_)
 refine J.cd (fun hc7 => ?_) (fun hc7 => ?_)
 ·
  have hth : ethere es t = true := hc7
  have hlt := ethere_lt hth
  have hpj : epos es t + 1 ≤ es.length := hlt
  have hdl : (es.drop (epos es t + 1)).length = es.length - (epos es t + 1) := List.length_drop
  refine Cj.sr (J.z q1 ?_)
  refine J.nssr (J.z q0 ?_)
  refine J.z q0 ?_
  refine J.z q8 ?_
  refine J.z (q4 (off' := 0) tU73 tS27) ?_
  refine J.z (q18 tA27) ?_
  refine J.z q0 ?_
  refine J.z (yl_slice0 (k := epos es t) rfl rfl rfl tU27 tS37 rfl (by omega)) ?_
  refine J.op rfl (op_append (by' := 47) (n := 0) (g := none) (xs := []) [_, _] rfl rfl rfl rfl rfl tU27 (.inr ⟨_, tU27⟩) (by kernel_rfl) tS37 tZ37 rfl ⟨rfl, rfl⟩ rfl (Src.row entC_len (RowS.take hrow hpl) (ents_one hE (fun x hx => List.mem_of_mem_take hx))) (by omega) ?_)
  intro g8 hg8
  refine J.z q1 ?_
  refine J.nsr (J.z q0 ?_)
  refine J.z q0 ?_
  refine J.z q0 ?_
  refine J.z q8 ?_
  refine J.z (q4 (off' := 0) tU73 tS27) ?_
  refine J.z (q18 tA27) ?_
  refine J.z q0 ?_
  refine J.z q7 ?_
  refine J.z (yl_slice1 (j := (epos es t + 1)) rfl rfl rfl tU27 tS37 rfl (by omega) (by omega)) ?_
  refine J.op rfl (op_append (by' := 47) [_, _] rfl rfl rfl rfl rfl tU27 (.inr ⟨_, tU27⟩) (by kernel_rfl) tS37 tZ37 rfl hg8 rfl (Src.row entC_len (RowS.from entC_len hrow (j := epos es t + 1) hpj) (ents_one hE (fun x hx => List.mem_of_mem_drop hx))) (by omega) ?_)
  intro g9 hg9
  refine J.z q8 ?_
  refine J.z (q4 (off' := 0) tU73 tS27) ?_
  refine J.op rfl (op_store 0 rfl rfl rfl rfl (gV_cells _ _) (gV_one _ _) tS27 rfl rfl (LSpl.c LSpl.z) LSet.z ?_)
  refine J.nil (Ej.keep (Keeps.k (Keeps.d Keeps.r)) ?_)
  have hes : es.take (epos es t) ++ es.drop (epos es t + 1) = edrop es t := by unfold edrop; rw [hth]; rfl
  have hfl := (two_flat (es.take (epos es t)) (es.drop (epos es t + 1))).trans (congrArg (List.flatMap entC) hes)
  refine Ej.perm (H' := gH 37 ((edrop es t).flatMap entC) g9 ++ [(rb, _)]) (by rw [← hfl]; exact List.perm_append_comm) ?_
  refine Ej.keepR entC_len (by decide) (by rw [← hfl]; exact hg9) (by rw [← hes]; simp only [List.length_append]; omega) (fun I8 hle8 hw8 => ?_)
  refine q39 ?_
  exact ⟨_, rfl, hE.drop hle8 hw8, rfl⟩
 have hth : ethere es t = false := hc7
 refine Cj.skip (Ej.keep (Keeps.k (Keeps.d Keeps.n)) ?_)
 refine q39 ?_
 exact ⟨_, rfl, (show edrop es t = es from by unfold edrop; rw [hth]; rfl).symm ▸ hE, rfl⟩
theorem take_flat {α : Type} {f : α → List Value} {l : List α} {k : Nat} {x : α} (h : l[k]? = some x) : (l.take (k + 1)).flatMap f = (l.take k).flatMap f ++ f x := by
  obtain ⟨hlt, h⟩ := List.getElem?_eq_some_iff.1 h
  rw [List.take_succ_eq_append_getElem hlt, h, List.flatMap_append]; simp
theorem rTitles_ok (rb : Nat) (w : Value) (es : List Ent) (hl : es.length ≤ 1000000) (I : Heap) (hrb : I rb = some (cel 73 [w])) (hE : EntsS I es w) : Ctr Tryz.prog 38 [ptr rb 0] I [] (fun e I' H' => ∃ v, e = .returned v ∧ RowS recC I' (es.map (·.t)) v ∧ H' = []) := by
 obtain ⟨p, c, rfl, hc, hp⟩ := id hE.1
 refine Ctr.ob func38 ?_
 intro w0 hw0
 refine Cj.sr (J.z q1 ?_)
 refine J.nssr (J.z q1 ?_)
 refine J.nsss (Cj.region (J.z q1 ?_))
 refine J.ns (Cj.block (Cj.loop (ι := Nat × Gs) (fun y => y.1 ≤ es.length ∧ gOk w0.heap.size 2 (es.take y.1).length ((es.take y.1).flatMap fun x => recC x.t) y.2) (fun y => es.length - y.1) (fun y => [(0, ptr rb 0), (3, gV (es.take y.1).length y.2), (4, i64 (y.1 : Int))]) (fun y => _) (fun y => gH 26 ((es.take y.1).flatMap fun x => recC x.t) y.2) (0, none) ⟨Nat.zero_le _, rfl, rfl⟩ ⟨rfl, rfl, rfl, trivial⟩ rfl rfl ?_))
 rintro ⟨y, g⟩ ⟨hy, hg⟩
 dsimp only at hy hg ⊢
 have hyl : (es.take y).length = y := by rw [List.length_take]; omega
 refine Cj.seq (Cj.sr (J.z q0 ?_))
 refine J.z q0 ?_
 refine J.z q8 ?_
 refine J.z (q4 (off' := 0) tU73 tS27) ?_
 refine J.z (q9 tA27 (Blk.imm hrb)) ?_
 refine J.z (q15 tU27) ?_
 refine J.z q17 ?_
 refine J.cd (fun hc1 => ?_) (fun hc1 => ?_)
 ·
  have hc1p := odt hc1
  have hlt : y < es.length := by omega
  obtain ⟨x, hget⟩ : ∃ x, es[y]? = some x := ⟨_, lgg hlt⟩
  obtain ⟨eb, eo, ecs, ety, efr, esp, rfl, heb, hed⟩ := hp (ne_nil_of hlt)
  have hnx := take_flat (f := fun x : Ent => recC x.t) hget
  have hl1 : (es.take (y + 1)).length = (es.take y).length + 1 := by rw [List.length_take, List.length_take]; omega
  refine Cj.ks (Cj.seq (Cj.block (Cj.region (J.z q0 ?_))))
  refine J.z q0 ?_
  refine J.z q8 ?_
  refine J.z (q4 (off' := 0) tU73 tS27) ?_
  refine J.z (q9 tA27 (Blk.imm hrb)) ?_
  refine J.z q0 ?_
  refine J.z (q19 (off' := eo + y * 5) tU27 tS37) ?_
  refine J.z (q4 tU37 tS26) ?_
  refine J.z (q43 tA26 tS26 (Blk.imm heb) (ent_rec hed hget)) ?_
  refine J.op rfl (q41 tU44 tS26 tZ26 ?_)
  intro b2 hb2
  refine J.op rfl (op_append (by' := 15) [_] rfl rfl rfl rfl rfl tU44 (.inr ⟨_, tU44⟩) (by kernel_rfl) tS26 tZ26 rfl hg rfl (Src.slice (Blk.at 0 rfl) rfl rfl rfl) (by omega) ?_)
  intro g3 hg3
  refine J.z q1 ?_
  refine J.nb (Cj.region (J.z q0 ?_))
  refine J.z q7 ?_
  refine J.z q1 ?_
  refine J.nil (Ej.keep (Keeps.d Keeps.r) ?_)
  refine Ej.round (y + 1, g3) ⟨by dsimp only; omega, by dsimp only; rw [hl1, hnx]; exact hg3⟩ (by dsimp only; omega) ⟨rfl, by dsimp only; rw [hl1]; rfl, rfl, trivial⟩ rfl (by dsimp only; rw [hnx]; rfl)
 have hc1p := odf hc1
 refine Cj.xl (Cj.sr (J.z q0 ?_))
 refine J.z q1 ?_
 refine J.ns (Cj.ret ?_)
 have hfull : es.take y = es := List.take_of_length_le (by omega)
 rw [hfull] at hg ⊢
 have hfm : (es.map (·.t)).flatMap recC = es.flatMap fun x => recC x.t := List.flatMap_map _ recC _
 refine Ej.perm (H' := gH 26 ((es.map (·.t)).flatMap recC) g ++ []) (.of_eq (by rw [hfm, List.append_nil])) ?_
 refine Ej.keepR recC_len (by decide) (by rw [hfm]; exact hg) (by rw [List.length_map]) (fun I8 hle8 hw8 => ?_)
 refine q6 ?_
 exact ⟨_, rfl, hw8, rfl⟩
end Go.Proofs.YtjcdfnbomkoheaaGreatDoor
end
