/-
  Own texts on the laws of the seat, joined: the logic, and contracts of functions. Conditions: none.
-/
import Derived.Test.YtekmeaoblpfnpaaGreatDoorPG8
set_option maxRecDepth 100000
set_option maxHeartbeats 40000000
section
set_option maxHeartbeats 40000000
namespace Go.Proofs.YtekmeaoblpfnpaaGreatDoor
open _root_.Go.Proofs.Tryz
open Go Go.Sx
theorem sort_no {I : Heap} {L : Ix.Ix} {t : Ix.Rec} {xs : List VW} (hX : ValsX I xs ((Ix.rget L t).getD [])) (h : xs.find? (fun x => decide (x.1.name = Ix.nTitle)) = none) : Ix.sortOf L t = [] := by
  rw [sortOf_at, ← hX.1, find_map, h]; rfl
theorem sort_at {I : Heap} {L : Ix.Ix} {t : Ix.Rec} {xs : List VW} {x : VW} (hX : ValsX I xs ((Ix.rget L t).getD [])) (h : xs.find? (fun x => decide (x.1.name = Ix.nTitle)) = some x) : Ix.sortOf L t = x.1.key := by
  rw [sortOf_at, ← hX.1, find_map, h]; rfl
abbrev isT (x : VW) : Bool := decide (x.1.name = Ix.nTitle)
abbrev lineI (x : List UInt8 × Nat) : List UInt8 × Int := (x.1, (x.2 : Int))
abbrev OwnL (l : List (List UInt8 × Nat)) (v : Value) (H : HL) : Prop := OwnR 268 lineC (l.map lineI) v H
def selK (n b : List UInt8) (p : Ix.Pl) : Bool := decide (p.1 = n) && !decide (p.2 < b)
def lns (L : Ix.Ix) (n b : List UInt8) (vis : ML Ix.Pl) : List (List UInt8 × Nat) := (vis.filter fun x => selK n b x.1).map fun x => (x.1.2, (Ix.withK L n x.1.2).length)
theorem lns_next (L : Ix.Ix) (n b : List UInt8) (vis : ML Ix.Pl) (x : Ix.Pl × Value × Nat) : lns L n b (vis ++ [x]) = lns L n b vis ++ if selK n b x.1 = true then [(x.1.2, (Ix.withK L n x.1.2).length)] else [] := by
  unfold lns
  rw [List.filter_append, List.map_append]
  by_cases h : selK n b x.1 = true
  · rw [if_pos h]; simp [h]
  rw [if_neg h]; simp [h]
theorem lns_len (L : Ix.Ix) (n b : List UInt8) (vis : ML Ix.Pl) : (lns L n b vis).length ≤ vis.length := by
  unfold lns; rw [List.length_map]; exact List.length_filter_le _ _
structure TB where
  vis : ML Ix.Pl
  rest : ML Ix.Pl
  g : Gs
theorem nest_at {I : Heap} {b : Nat} {l : ML Ix.Pl} {c : Nat} {N : Nest Ix.Pl Ix.Rec} {f : Ix.Pl → Ix.Rec → Nat} (h : NestS l c N f) (hI : ∀ q ∈ setH b l c N, I q.1 = some q.2) {x : Ix.Pl × Value × Nat} (hx : x ∈ l) : ∃ mb m k, x.2.1 = .map (some mb) ∧ I mb = some (mobj kvR m k) ∧ MS m k ∧ m ≠ [] ∧ ∀ t, mget m t = cv (f x.1 t) := by
  have h1 : kvp x ∈ N.map nvp := by rw [← h.vals]; exact List.mem_map_of_mem hx
  obtain ⟨⟨a, mb, m, k⟩, he, hv⟩ := List.mem_map.1 h1
  have e1 : a = x.1 := congrArg (·.1) hv
  have e2 : Value.map (some mb) = x.2.1 := congrArg (·.2) hv
  subst e1
  obtain ⟨g1, g2, g3⟩ := h.inn _ he
  exact ⟨mb, m, k, e2.symm, hI (mb, _) (.tail _ (List.mem_map.2 ⟨_, he, rfl⟩)), g1, g2, g3⟩
theorem nest_in {l : ML Ix.Pl} {c : Nat} {N : Nest Ix.Pl Ix.Rec} {f : Ix.Pl → Ix.Rec → Nat} (h : NestS l c N f) (p : Ix.Pl) : p ∈ l.map (·.1) ↔ ∃ t, f p t ≠ 0 := by
  rw [h.keys]
  constructor
  · intro hp
    obtain ⟨e, he, rfl⟩ := List.mem_map.1 hp
    obtain ⟨g1, g2, g3⟩ := h.inn e he
    obtain ⟨⟨t, v, n⟩, r, hr⟩ := List.exists_cons_of_ne_nil g2
    refine ⟨t, fun hz => ?_⟩
    have h2 := g3 t
    rw [hz] at h2
    have h3 : mget e.2.2.1 t = none := h2
    exact mget_none.1 h3 (by rw [hr]; exact .head _)
  rintro ⟨t, ht⟩
  exact Classical.byContradiction fun g => ht (h.out p g t)
theorem keys_le {L : Ix.Ix} {l : ML Ix.Pl} {c : Nat} {N : Nest Ix.Pl Ix.Rec} (h : NestS l c N (Ix.cnt Ix.plK L)) (hs : Ix.Srt L) (hL : L.length ≤ 100000) (hv : ∀ e ∈ L, VOK e.2) : l.length ≤ 1000000000000 := by
  have h1 : (l.map (·.1)).length ≤ (L.flatMap fun e => Ix.plK e.2).length := by
    refine sub_lenG h.ms.1 fun p hp => ?_
    obtain ⟨e, he, hpe⟩ := (Ix.cnt_pos hs).1 ((nest_in h p).1 hp)
    exact List.mem_flatMap.2 ⟨e, he, hpe⟩
  have h2 : ∀ M : Ix.Ix, (∀ e ∈ M, VOK e.2) → (M.flatMap fun e => Ix.plK e.2).length ≤ M.length * 10000000 := by
    intro M
    induction M with
    | nil => intro _; simp
    | cons a r ih =>
      intro hM
      have := ih fun e he => hM e (.tail _ he)
      have h3 := (hM a (.head _)).k
      rw [List.flatMap_cons, List.length_append, List.length_cons, Nat.add_mul]; omega
  rw [List.length_map] at h1
  exact Nat.le_trans (Nat.le_trans h1 (h2 L hv)) (Nat.mul_le_mul_right 10000000 hL)
theorem lt_of_ne {a b : List UInt8} (h : ¬ b < a) (hne : a ≠ b) : a < b := Std.lt_of_le_of_ne (Std.not_lt.1 h) hne
theorem scan_end {L : Ix.Ix} {l : ML Ix.Pl} {c : Nat} {N : Nest Ix.Pl Ix.Rec} (h : NestS l c N (Ix.cnt Ix.plK L)) (hs : Ix.Srt L) {n b : List UInt8} {vis : ML Ix.Pl} (hp : vis.Perm l) {ls : List (List UInt8 × Int)} (hpl : ls.Perm ((lns L n b vis).map lineI)) (ho : ls.Pairwise fun p q => ¬ q.1 < p.1) : ls = ((Ix.keysAll L n b).map fun k => (k, (Ix.withK L n k).length)).map lineI := by
  have hsel : ∀ x ∈ vis.filter (fun x => selK n b x.1), x.1.1 = n ∧ ¬ x.1.2 < b := fun x hx => by
    have := (List.mem_filter.1 hx).2
    unfold selK at this
    rw [Bool.and_eq_true, decide_eq_true_eq, Bool.not_eq_true', decide_eq_false_iff_not] at this
    exact this
  have hnd : ((lns L n b vis).map (·.1)).Nodup := by
    unfold lns
    rw [List.map_map]
    have h1 : ((vis.filter fun x => selK n b x.1).map (·.1)).Nodup := ((hp.map _).nodup_iff.2 h.ms.1).sublist (List.filter_sublist.map _)
    rw [List.nodup_iff_pairwise_ne, List.pairwise_map] at h1 ⊢
    refine (List.pairwise_iff_forall_sublist.2 fun {x y} hxy => ?_)
    have hx := hsel x (hxy.subset (.head _))
    have hy := hsel y (hxy.subset (.tail _ (.head _)))
    have hne := List.pairwise_iff_forall_sublist.1 h1 hxy
    exact fun e => hne (Prod.ext (hx.1.trans hy.1.symm) e)
  have hlen : ∀ x ∈ ls, x.2 = ((Ix.withK L n x.1).length : Int) := fun x hx => by
    obtain ⟨y, hy, rfl⟩ := List.mem_map.1 (hpl.mem_iff.1 hx)
    obtain ⟨z, _, rfl⟩ := List.mem_map.1 hy
    rfl
  have hk : (ls.map (·.1)).Perm ((lns L n b vis).map (·.1)) := by
    have := hpl.map (·.1)
    rwa [List.map_map] at this
  have hinc : Ke.Inc (ls.map (·.1)) := by
    unfold Ke.Inc
    have h1 := hk.nodup_iff.2 hnd
    rw [List.nodup_iff_pairwise_ne, List.pairwise_map] at h1
    rw [List.pairwise_map]
    exact (List.pairwise_and_iff.2 ⟨ho, h1⟩).imp fun {x y} ⟨h2, h3⟩ => lt_of_ne h2 h3
  have hall := Ix.scan_all hs (n := n) (b := b) (ls := ls.map fun x => (x.1, x.2.toNat)) (by rw [List.map_map]; exact hinc) (fun k => ?_) (fun x hx => ?_)
  · rw [← hall, List.map_map]
    conv => lhs; rw [← List.map_id ls]
    refine List.map_congr_left fun x hx => ?_
    have := hlen x hx
    show x = (x.1, ((x.2.toNat : Nat) : Int))
    refine Prod.ext rfl ?_
    show x.2 = _
    omega
  · rw [List.map_map]
    show k ∈ ls.map (·.1) ↔ _
    rw [hk.mem_iff, ← nest_in h]
    unfold lns
    rw [List.map_map]
    constructor
    · intro hm
      obtain ⟨x, hx, rfl⟩ := List.mem_map.1 hm
      obtain ⟨h1, h2⟩ := hsel x hx
      refine ⟨h2, ?_⟩
      show (n, x.1.2) ∈ _
      rw [← h1, ← (hp.map (·.1)).mem_iff]
      exact List.mem_map_of_mem (List.mem_filter.1 hx).1
    rintro ⟨h1, h2⟩
    rw [← (hp.map (·.1)).mem_iff] at h2
    obtain ⟨x, hx, he⟩ := List.mem_map.1 h2
    refine List.mem_map.2 ⟨x, List.mem_filter.2 ⟨hx, ?_⟩, ?_⟩
    · unfold selK
      rw [he, decide_eq_true rfl, Bool.true_and, decide_eq_false h1]; rfl
    show x.1.2 = k
    rw [he]
  obtain ⟨y, hy, rfl⟩ := List.mem_map.1 hx
  have := hlen y hy
  show y.2.toNat = _
  rw [this]; rfl
theorem Sort_some (ib : Nat) (mb : Nat) (m : ML Ix.Rec) (k0 : Nat) (wm km : Option Nat) (L : Ix.Ix) (t : Ix.Rec) (I : Heap) (hvk : VOK ((Ix.rget L t).getD [])) (hib : I ib = some (cel 114 [.map (some mb), .map wm, .map km])) (hmb : I mb = some (mobj kvR m k0)) (_hms : MS m k0) (hmv : ValMap I m L) : Pure Tryz.prog 28 [ptr ib 0, kvR t] I (str (Ix.sortOf L t)) := by
 refine Ctr.toPure ?_
 obtain ⟨vv, hvv, xs, hrow, hX⟩ := hmv.at t
 have hxl := hX.len
 have hv1 := hvk.1
 refine xob func28 fun w0 hw0 => ?_
 refine axn 3 ?_
 intro b1 hb1
 refine axn 14 ?_
 refine Cj.drawSel [0] [] 8 (by kernel_rfl) ?_
 have hib_3 := hib
 have hmb_3 := hmb
 refine axn 5 ?_
 refine JA.zt 5 rfl (yl_lookup1 (kv := kvR) (l := m) (a := t) rfl rfl rfl rfl underlying110 keyR zeroValue140 (Blk.immC hmb_3)) ?_
 refine JA.ev 13 vv rfl hvv ?_
 refine xpu (IndexFuncV_ok xs _ isT _ [] (by omega) _ hrow.row hX.2 (fun x hx => by obtain ⟨p9, c9, h9⟩ := StrS_sl (hX.2 x hx); exact sort1_ok x p9 _ c9 h9 _)) ?_
 refine axc (fun hc5 hc5p => ?_) (fun hc5 hc5p => ?_)
 ·
  have hfind : xs.find? isT = none := ((idxI_cases isT xs).resolve_right (fun ⟨k, x, h, _⟩ => by have h9 := of_decide_eq_true hc5; rw [h] at h9; omega)).2
  refine axr ?_
  rw [sort_no hX hfind]
  exact ⟨rfl, rfl⟩
 obtain ⟨k, x, hkk, hget, hfind⟩ := (idxI_cases isT xs).resolve_left (fun h => by have h9 := of_decide_eq_false hc5; rw [h.1] at h9; exact h9 (by decide))
 have hklt := (List.getElem?_eq_some_iff.1 hget).1
 obtain ⟨vp1, vc1, hve, hvc1, hvb⟩ := id hrow
 rw [hve] at hvv ⊢
 obtain ⟨rb, rsp, rfl, hrb⟩ := hvb (ne_nil_of hklt)
 rw [hkk]
 refine axn 3 ?_
 refine Cj.drawSel [0] [] 11 (by kernel_rfl) ?_
 refine axn 5 ?_
 refine JA.zt 5 rfl (yl_lookup1 (kv := kvR) (l := m) (a := t) rfl rfl rfl rfl underlying110 keyR zeroValue140 (Blk.immC hmb)) ?_
 refine JA.ev 22 (.slice (some ⟨rb, 0, none⟩) xs.length vc1) rfl hvv ?_
 refine xix (0 + k * 3) ?_
 refine JA.zt 8 rfl (q1 (off' := 0 + k * 3 + 1) underlying142 sizeOf9) ?_
 refine JA.zt 9 rfl (yl_load rfl rfl isAgg9 (Blk.immC hrb) (row_fcell vwC_len (o := 0) rfl hget 1 (by decide))) ?_
 refine axr ?_
 rw [sort_at hX hfind]
 exact ⟨rfl, rfl⟩
theorem Sort_none (ib : Nat) (wm km : Option Nat) (t : Ix.Rec) (I : Heap) (hib : I ib = some (cel 114 [.map none, .map wm, .map km])) : Pure Tryz.prog 28 [ptr ib 0, kvR t] I (str []) := by
 refine Ctr.toPure ?_
 refine xob func28 fun w0 hw0 => ?_
 refine axn 3 ?_
 intro b1 hb1
 refine axn 14 ?_
 refine Cj.drawSel [0] [] 8 (by kernel_rfl) ?_
 have hib_3 := hib
 refine axn 5 ?_
 refine JA.zt 5 rfl (yl_lookupNil1 (kv := kvR) (a := t) rfl rfl rfl rfl underlying110 keyR zeroValue140) ?_
 refine xpu (IndexFuncV_ok [] _ isT _ [] (by decide) _ RowS.nil (fun x hx => by cases hx) (fun x hx => by cases hx)) ?_
 refine axn 1 ?_
 refine JA.ev 14 (i64 (-1)) rfl rfl ?_
 refine axr ?_
 exact ⟨rfl, rfl⟩
theorem Sort_ok' (ib : Nat) (L : Ix.Ix) (t : Ix.Rec) (I : Heap) (hx : IxP I ib L) : Pure Tryz.prog 28 [ptr ib 0, kvR t] I (str (Ix.sortOf L t)) := by
  obtain ⟨vm, wm, km, hI, hV, -, -⟩ := hx.parts
  rcases hV with ⟨rfl, rfl⟩ | ⟨b, l, c, rfl, hms, hvm, hb⟩
  · exact Sort_none ib wm km t I hI
  exact Sort_some ib b l c wm km L t I (ixp_parts hx t) hI hb hms hvm
theorem Clip_ok (a : Option Addr) (n c : Nat) (hnc : n ≤ c) (I : Heap) : Pure Tryz.prog 222 [.slice a n c] I (.slice a n n) := by
 refine Ctr.toPure ?_
 refine xob func222 fun w0 hw0 => ?_
 refine axn 12 ?_
 refine J.z (yl_slice3 (k := n) (m := n) rfl rfl rfl rfl underlying228 sizeOf268 (Nat.le_refl _) hnc) ?_
 refine axe ?_
 exact ⟨rfl, rfl⟩
theorem own_sl {α : Type} {T : TypeId} {f : α → List Value} {l : List α} {v : Value} {H : HL} (h : OwnR T f l v H) : ∃ a c, v = .slice a l.length c ∧ l.length ≤ c := by
  rcases h with ⟨rfl, rfl, rfl⟩ | ⟨b, c, sp, rfl, hc, rfl⟩
  · exact ⟨none, 0, rfl, Nat.le_refl _⟩
  exact ⟨_, c, rfl, hc⟩
theorem own_take {α : Type} {T : TypeId} {f : α → List Value} {l : List α} {a : Option Addr} {c : Nat} {H : HL} (h : OwnR T f l (.slice a l.length c) H) {k : Nat} (hk : k ≤ l.length) : OwnR T f (l.take k) (.slice a k k) H := by
  rcases h with ⟨rfl, hv, rfl⟩ | ⟨b, c, sp, hv, hc, rfl⟩
  · cases hv
    have : k = 0 := by simpa using hk
    subst this
    exact .inl ⟨rfl, rfl, rfl⟩
  cases hv
  refine .inr ⟨b, k, (l.drop k).flatMap f ++ sp, by rw [List.length_take, Nat.min_eq_left hk], by rw [List.length_take]; omega, ?_⟩
  rw [← List.append_assoc, ← List.flatMap_append, List.take_append_drop]
theorem scan_own {L : Ix.Ix} {n s : List UInt8} {most : Int} {ls : List (List UInt8 × Int)} {a : Option Addr} {c : Nat} {v : Value} {H : HL} (hls : ls = ((Ix.keysAll L n (Ix.keyOf n s)).map fun k => (k, (Ix.withK L n k).length)).map lineI) (h : OwnR 268 lineC ls v H) (hv : v = .slice a ls.length c) : OwnL (Ix.scan L n s most) (.slice a (min ls.length most.toNat) (min ls.length most.toNat)) H := by
  subst hv
  have h1 := own_take h (Nat.min_le_left ls.length most.toNat)
  have h2 : ls.take (min ls.length most.toNat) = (Ix.scan L n s most).map lineI := by
    rw [← Ix.scan_take, List.map_take, ← hls]
    rcases Nat.le_total ls.length most.toNat with g | g
    · rw [Nat.min_eq_left g, List.take_length, List.take_of_length_le g]
    rw [Nat.min_eq_right g]
  rw [h2] at h1
  exact h1
theorem many_of {L : Ix.Ix} (hs : Ix.Srt L) {m : ML Ix.Rec} {k : Nat} (hm : MS m k) {p : Ix.Pl} (hv : ∀ t, mget m t = cv (Ix.cnt Ix.plK L p t)) {n : List UInt8} (hn : p.1 = n) : ((m.length : Nat) : Int) = ((Ix.withK L n p.2).length : Int) := by
  subst hn
  have h := Ix.with_len hs (n := p.1) (k := p.2) (ts := m.map (·.1)) hm.1 fun t => by
    constructor
    · intro h1
      have h2 : mget m t ≠ none := fun g => mget_none.1 g h1
      rw [hv] at h2
      exact fun g => h2 (by rw [show Ix.cnt Ix.plK L p t = 0 from g]; rfl)
    intro h1
    refine Classical.byContradiction fun g => ?_
    have h2 := mget_none.2 g
    rw [hv, cv_pos h1] at h2; cases h2
  rw [List.length_map] at h
  rw [h]
theorem min_of (n : Nat) (most : Int) : (if (if (0 : Int) > most then (0 : Int) else most) < (n : Int) then (if (0 : Int) > most then (0 : Int) else most) else (n : Int)) = ((min n most.toNat : Nat) : Int) := by
  repeat (first | omega | split)
theorem Scan_some (ib kb : Nat) (vm wm : Option Nat) (l : ML Ix.Pl) (c : Nat) (N : Nest Ix.Pl Ix.Rec) (L : Ix.Ix) (n s : List UInt8) (hs : s.length ≤ 100000000) (most : Int) (I : Heap) (hsrt : Ix.Srt L) (hN : NestS l c N (Ix.cnt Ix.plK L)) (hll0 : l.length ≤ 1000000000000) (hib : I ib = some (cel 114 [.map vm, .map wm, .map (some kb)])) (hI : ∀ q ∈ setH kb l c N, I q.1 = some q.2) : Ctr Tryz.prog 160 [ptr ib 0, str n, str s, i64 most] I [] (fun e _ H' => ∃ v, e = .returned v ∧ OwnL (Ix.scan L n s most) v H') := by
 have hkb : I kb = some (mobj kvP l c) := hI (kb, _) (.head _)
 refine xob func160 fun w0 hw0 => ?_
 refine xpu (keyOf_ok n s hs _) ?_
 refine axn 15 ?_
 refine J.op rfl (op_rangeMap (kv := kvP) (l := l) rfl rfl rfl rfl underlying112 (Blk.imm hkb) ?_)
 intro b2 hb2
 refine axn 3 ?_
 refine Cj.loop (ι := TB) (fun y => (y.vis ++ y.rest).Perm l ∧ gOk w0.heap.size 2 (lns L n (Ix.keyOf n s) y.vis).length (((lns L n (Ix.keyOf n s) y.vis).map lineI).flatMap lineC) y.g) (fun y => y.rest.length) (fun y => [(1, str n), (3, i64 most), (9, str (Ix.keyOf n s)), (10, gV (lns L n (Ix.keyOf n s) y.vis).length y.g), (22, ptr b2 0)]) (fun y => _) (fun y => (b2, mit kb c y.vis c) :: gH 268 (((lns L n (Ix.keyOf n s) y.vis).map lineI).flatMap lineC) y.g) ⟨[], l, none⟩ ⟨.refl _, rfl, rfl⟩ ⟨rfl, rfl, rfl, rfl, rfl, trivial⟩ rfl rfl ?_
 rintro ⟨vis, rest, g⟩ ⟨hp, hg⟩
 dsimp only at hp hg ⊢
 have hpl0 := hp.length_eq
 rw [List.length_append] at hpl0
 have hlns := lns_len L n (Ix.keyOf n s) vis
 refine axn 2 ?_
 refine J.op rfl (op_nextMap (kv := kvP) (l := l) 0 rfl rfl rfl rfl rfl (Blk.imm hkb) hN.ms.2.2 (Nat.le_refl _) hN.ms.2.1 hp ?_ ?_)
 ·
  rintro x rest2 H9 hrx hpx ⟨-, hset⟩; simp only [List.set_cons_zero] at hset; subst hset
  obtain ⟨mb, m, k, hxv, hmb, hms, hmne, hmv⟩ := nest_at hN hI (hpx.mem_iff.1 (List.mem_append_left _ (List.mem_append_right _ (.head _))))
  refine axn 10 ?_
  refine J.z (yl_entry (kv := kvP) (l := l) rfl rfl (Blk.at 0 rfl) (Blk.imm hkb) (hpx.mem_iff.1 (List.mem_append_left _ (List.mem_append_right _ (.head _)))) hN.ms.2.1) ?_
  refine axn 2 ?_
  refine J.ev 27 (.map (some mb)) rfl hxv ?_
  refine axn 1 ?_
  intro b4 hb4
  refine axg (fun hg5 hg5p => ?_) (fun hg5 hg5p => ?_)
  ·
   have hxn : x.1.1 = n := eq_of_beq hg5
   refine axn 3 ?_
   refine J.zg (yl_geqStr rfl rfl rfl) ?_
   refine ax0 (fun hc6 => ?_) (fun hc6 => ?_)
   ·
    have hsel : selK n (Ix.keyOf n s) x.1 = true := by unfold selK; rw [decide_eq_true hxn, Bool.true_and]; exact hc6
    refine axn 5 ?_
    refine J.z (yl_lenMap (kv := kvR) (l := m) rfl rfl underlying213 (Blk.imm hmb)) ?_
    refine J.ev 42 (i64 ((Ix.withK L n x.1.2).length : Int)) rfl (congrArg i64 (many_of hsrt hms hmv hxn)) ?_
    refine J.z (yl_buildS (pl := #[(0, 1), (1, 1)]) rfl rfl zeroValue268 rfl underlying268 (fun w => by simp [sizeOf3, sizeOf9]) (LBld.part rfl rfl rfl (LSpl.c LSpl.z) (LBld.part rfl rfl rfl (LSpl.s (LSpl.c LSpl.z)) LBld.none))) ?_
    refine J.op rfl (q3 underlying228 sizeOf268 zeroValue268 (LCat.agg rfl LCat.none) ?_)
    intro b7 hb7
    refine J.op rfl (op_append (by' := 23) [_, _, _] rfl rfl rfl rfl rfl underlying228 (.inr ⟨_, underlying228⟩) (by kernel_rfl) sizeOf268 zeroValue268 rfl hg rfl (Src.slice (Blk.at 0 rfl) rfl rfl rfl) (by omega) ?_)
    intro g8 hg8
    refine axn 3 ?_
    refine Ej.keep (Keeps.d (Keeps.d (Keeps.k Keeps.r))) ?_
    refine Ej.round ⟨vis ++ [x], rest2, g8⟩ ⟨hpx, by dsimp only; rw [lns_next, if_pos hsel, List.length_append, List.map_append, List.flatMap_append]; exact hg8⟩ (by have h := hrx.length_eq; simp only [List.length_cons] at h; dsimp only; omega) ⟨rfl, rfl, rfl, by dsimp only; rw [lns_next, if_pos hsel, List.length_append]; rfl, rfl, trivial⟩ rfl (by dsimp only; rw [lns_next, if_pos hsel, List.map_append, List.flatMap_append]; rfl)
   have hsel : ¬ selK n (Ix.keyOf n s) x.1 = true := by unfold selK; rw [decide_eq_true hxn, Bool.true_and]; exact fun e => Bool.noConfusion (e.symm.trans hc6)
   refine axn 2 ?_
   refine Ej.keep (Keeps.d (Keeps.k Keeps.r)) ?_
   refine Ej.round ⟨vis ++ [x], rest2, g⟩ ⟨hpx, by dsimp only; rw [lns_next, if_neg hsel, List.append_nil]; exact hg⟩ (by have h := hrx.length_eq; simp only [List.length_cons] at h; dsimp only; omega) ⟨rfl, rfl, rfl, by dsimp only; rw [lns_next, if_neg hsel, List.append_nil]; rfl, rfl, trivial⟩ rfl (by dsimp only; rw [lns_next, if_neg hsel, List.append_nil])
  have hsel : ¬ selK n (Ix.keyOf n s) x.1 = true := by unfold selK; rw [decide_eq_false (ne_of_beq_false hg5)]; exact Bool.false_ne_true
  refine axn 10 ?_
  refine Ej.keep (Keeps.d (Keeps.k Keeps.r)) ?_
  refine Ej.round ⟨vis ++ [x], rest2, g⟩ ⟨hpx, by dsimp only; rw [lns_next, if_neg hsel, List.append_nil]; exact hg⟩ (by have h := hrx.length_eq; simp only [List.length_cons] at h; dsimp only; omega) ⟨rfl, rfl, rfl, by dsimp only; rw [lns_next, if_neg hsel, List.append_nil]; rfl, rfl, trivial⟩ rfl (by dsimp only; rw [lns_next, if_neg hsel, List.append_nil])
 intro hend
 refine axn 11 ?_
 have hpv : vis.Perm l := by rw [hend, List.append_nil] at hp; exact hp
 have hg2 : gOk w0.heap.size 2 ((lns L n (Ix.keyOf n s) vis).map lineI).length (((lns L n (Ix.keyOf n s) vis).map lineI).flatMap lineC) g := by rw [List.length_map]; exact hg
 refine axn 2 ?_
 refine J.ev 46 (gV ((lns L n (Ix.keyOf n s) vis).map lineI).length g) rfl (by rw [List.length_map]) ?_
 refine xcr [_] (SortLine_ok ((lns L n (Ix.keyOf n s) vis).map lineI) g hg2 (by rw [List.length_map]; omega) _) ?_
 rintro v9 I9 H9 hle9 ⟨ls, hpp, hpo, h, rfl⟩; cases h
 have hls := scan_end hN hsrt hpv hpp hpo
 have hll : ((lns L n (Ix.keyOf n s) vis).map lineI).length = ls.length := hpp.length_eq.symm
 have hgl : gOk w0.heap.size 2 ls.length (ls.flatMap lineC) g := by rw [← hll]; exact gOk_len hg2 (by rw [flat_len lineC_len, flat_len lineC_len, hll])
 refine axn 3 ?_
 obtain ⟨hown⟩ : Nonempty (OwnR 268 lineC ls (gV ls.length g) (gH 268 (ls.flatMap lineC) g)) := ⟨OwnR.of_g lineC_len (by decide) rfl hgl⟩
 obtain ⟨sa, sc, hsv, hsc⟩ : ∃ a c, gV ls.length g = .slice a ls.length c ∧ ls.length ≤ c := own_sl hown
 have hgv : gV (lns L n (Ix.keyOf n s) vis).length g = .slice sa ls.length sc := by rw [← hsv, ← hll, List.length_map]
 refine axn 2 ?_
 refine J.ev 48 (.slice sa ls.length sc) rfl hgv ?_
 refine axn 1 ?_
 refine J.ev 49 (.slice sa ls.length sc) rfl hgv ?_
 refine axn 2 ?_
 refine J.z (yl_max2 rfl rfl rfl) ?_
 refine J.z (yl_min2 rfl rfl rfl) ?_
 refine J.ev 53 (i64 ((min ls.length most.toNat : Nat) : Int)) rfl (congrArg i64 (min_of _ _)) ?_
 refine J.z (yl_slice0 (k := (min ls.length most.toNat)) rfl rfl rfl underlying228 sizeOf268 rfl (Nat.le_trans (Nat.min_le_left _ _) hsc)) ?_
 refine xpu (Clip_ok sa (min ls.length most.toNat) sc (Nat.le_trans (Nat.min_le_left _ _) hsc) _) ?_
 refine axn 4 ?_
 refine Ej.keep (H' := gH 268 (ls.flatMap lineC) g) (List.sublist_append_right [_] _) ?_
 refine axe ?_
 exact ⟨_, rfl, scan_own hls hown hsv⟩
theorem Scan_none (ib : Nat) (vm wm : Option Nat) (n s : List UInt8) (hs : s.length ≤ 100000000) (most : Int) (I : Heap) (hib : I ib = some (cel 114 [.map vm, .map wm, .map none])) : Ctr Tryz.prog 160 [ptr ib 0, str n, str s, i64 most] I [] (fun e _ H' => e = .returned (.slice none 0 0) ∧ H' = []) := by
 refine xob func160 fun w0 hw0 => ?_
 refine xpu (keyOf_ok n s hs _) ?_
 refine axn 15 ?_
 refine J.op rfl (op_rangeNil rfl rfl rfl rfl underlying112 ?_)
 intro b2 hb2
 refine axn 3 ?_
 refine Cj.rounds 1 ?_
 refine Rj.succ ?_
 refine axn 2 ?_
 refine J.op rfl (op_nextNil 0 rfl rfl rfl rfl rfl ?_)
 refine xcr [_] (SortLine_ok (base := 0) [] none ⟨rfl, rfl⟩ (by decide) _) ?_
 rintro v9 I9 H9 hle9 ⟨ts, hpp, hpo, h, rfl⟩; cases h
 have hts := hpp.eq_nil
 subst hts
 refine axn 8 ?_
 refine J.z (yl_max2 rfl rfl rfl) ?_
 refine J.z (yl_min2 rfl rfl rfl) ?_
 refine J.ev 53 (i64 ((0 : Nat) : Int)) rfl (congrArg i64 (min_of 0 most |>.trans (by rw [Nat.zero_min]))) ?_
 refine J.z (yl_slice0 (k := 0) rfl rfl rfl underlying228 sizeOf268 rfl (Nat.le_refl _)) ?_
 refine xpu (Clip_ok none 0 0 (Nat.le_refl _) _) ?_
 refine axr ?_
 exact ⟨rfl, rfl⟩
theorem scan_zero {L : Ix.Ix} (hs : Ix.Srt L) (hz : ∀ p t, Ix.cnt Ix.plK L p t = 0) (n s : List UInt8) (most : Int) : Ix.scan L n s most = [] := by
  have h := Ix.scan_all hs (n := n) (b := Ix.keyOf n s) (ls := []) List.Pairwise.nil (fun k => ⟨fun h => (by cases h), fun ⟨_, t, ht⟩ => absurd (hz _ t) ht⟩) (fun x hx => by cases hx)
  rw [← Ix.scan_take, ← h, List.take_nil]
theorem Scan_ok (ib : Nat) (L : Ix.Ix) (n s : List UInt8) (hs : s.length ≤ 100000000) (most : Int) (I : Heap) (hx : IxP I ib L) : Ctr Tryz.prog 160 [ptr ib 0, str n, str s, i64 most] I [] (fun e _ H' => ∃ v, e = .returned v ∧ OwnL (Ix.scan L n s most) v H') := by
  obtain ⟨vm, wm, km, hI, -, -, hK⟩ := hx.parts
  have hv : ∀ e ∈ L, VOK e.2 := by
    obtain ⟨o, h1, _⟩ := hx
    cases o with
    | none => rw [show L = [] from h1]; intro e he; cases he
    | some s => exact IstOk.vok h1
  rcases hK with ⟨rfl, hz⟩ | ⟨b, l, c, N, rfl, hN, hq⟩
  · rw [scan_zero hx.srt hz]
    exact (Scan_none ib vm wm n s hs most I hI).mono fun e I' H' _ ⟨h1, h2⟩ => ⟨_, h1, .inl ⟨rfl, rfl, h2⟩⟩
  exact Scan_some ib b vm wm l c N L n s hs most I hx.srt hN (keys_le hN hx.srt hx.big hv) hI hq
theorem Word_nil (n s : List UInt8) (hs : s.length ≤ 100000000) (I : Heap) : Ctr Tryz.prog 32 [.pointer none, str n, str s] I [] (fun e _ H' => e = .returned (.slice none 0 0) ∧ H' = []) := by
 refine xob func32 fun w0 hw0 => ?_
 refine xca (Words_ok s (by omega) _) ?_
 intro v1 I2 H3 hle4 hp5
 obtain ⟨wv, h, hw, rfl⟩ := hp5; cases h
 obtain ⟨wp, wc, rfl⟩ := StrS_sl hw
 refine axe ?_
 exact ⟨rfl, rfl⟩
theorem Phrase_nil (n s : List UInt8) (hs : s.length ≤ 100000000) (I : Heap) : Ctr Tryz.prog 33 [.pointer none, str n, str s] I [] (fun e _ H' => e = .returned (.slice none 0 0) ∧ H' = []) := by
 refine xob func33 fun w0 hw0 => ?_
 refine axn 3 ?_
 intro b1 hb1
 refine axn 1 ?_
 intro b2 hb2
 refine xca (Words_ok s (by omega) _) ?_
 intro v3 I4 H5 hle6 hp7
 obtain ⟨wv, h, hw, rfl⟩ := hp7; cases h
 obtain ⟨wp, wc, rfl⟩ := StrS_sl hw
 refine axn 1 ?_
 intro b8 hb8
 refine axr ?_
 exact ⟨rfl, rfl⟩
theorem Key_nil (n s : List UInt8) (I : Heap) : Ctr Tryz.prog 34 [.pointer none, str n, str s] I [] (fun e _ H' => e = .returned (.slice none 0 0) ∧ H' = []) := by
 refine xob func34 fun w0 hw0 => ?_
 refine axe ?_
 exact ⟨rfl, rfl⟩
theorem Scan_nil (n s : List UInt8) (most : Int) (I : Heap) : Ctr Tryz.prog 160 [.pointer none, str n, str s, i64 most] I [] (fun e _ H' => e = .returned (.slice none 0 0) ∧ H' = []) := by
 refine xob func160 fun w0 hw0 => ?_
 refine axe ?_
 exact ⟨rfl, rfl⟩
theorem Sort_nil (t : Ix.Rec) (I : Heap) : Pure Tryz.prog 28 [.pointer none, kvR t] I (str []) := by
 refine Ctr.toPure ?_
 refine xob func28 fun w0 hw0 => ?_
 refine axn 3 ?_
 intro b1 hb1
 refine axr ?_
 exact ⟨rfl, rfl⟩
abbrev entL (e : Ent) : Ix.Rec × List Ix.V := (e.t, Ix.vals e.fs)
theorem rputs_next {es : List Ent} {i : Nat} {e : Ent} (h : es[i]? = some e) : Ix.rputs ((es.take (i + 1)).map entL) [] = Ix.rput e.t (Ix.vals e.fs) (Ix.rputs ((es.take i).map entL) []) := by
  rw [map_next entL h]
  unfold Ix.rputs
  rw [List.foldl_append]; rfl
def EntsS (I : Heap) (es : List Ent) (v : Value) : Prop := RowS entC I es v ∧ ∀ e ∈ es, RecS I e.fs e.v
theorem EntsS.mono {I I' : Heap} {es : List Ent} {v : Value} (h : EntsS I es v) (hle : Le I I') : EntsS I' es v := ⟨h.1.mono hle, fun e he => (h.2 e he).mono hle⟩
structure BA where
  i : Nat
  J : Heap
  o : Option Ist
theorem ent_one {e : Ent} {p : Option Addr} {n c : Nat} (h : e.v = .slice p n c) : (entC e).all Value.oneCell' = true := by unfold entC; rw [h]; rfl
theorem Build_ok (es : List Ent) (v : Value) (hel : es.length ≤ 1000) (hek : ∀ e ∈ es, EOK e.fs) (I : Heap) (hE0 : EntsS I es v) : Ctr Tryz.prog 48 [v] I [] (fun e I' H' => ∃ ib o, e = .returned (ptr ib 0) ∧ IxOk I' o (Ix.rputs (es.map entL) []) ∧ H' = ixH ib o) := by
 obtain ⟨p, c, rfl, hc, -⟩ := id hE0.1
 refine xob func48 fun w0 hw0 => ?_
 refine axn 7 ?_
 refine J.z (yl_buildS (pl := #[(0, 1), (1, 1), (2, 1)]) rfl rfl zeroValue114 rfl underlying114 (fun w => by simp [sizeOf110, sizeOf112]) LBld.none) ?_
 refine axn 1 ?_
 intro b1 hb1
 refine axn 12 ?_
 refine Cj.loop (ι := BA) (fun y => y.i ≤ es.length ∧ Le I y.J ∧ IxOk y.J y.o (Ix.rputs ((es.take y.i).map entL) []) ∧ (Ix.rputs ((es.take y.i).map entL) []).length ≤ y.i) (fun y => es.length - y.i) (fun y => [(3, ptr b1 0), (8, .slice p es.length c), (9, i64 (es.length : Int)), (10, i64 (y.i : Int))]) (fun y => y.J) (fun y => ixH b1 y.o) ⟨0, _, none⟩ ⟨Nat.zero_le _, Le.refl _, rfl, Nat.le_refl _⟩ ⟨rfl, rfl, rfl, rfl, trivial⟩ rfl rfl ?_
 rintro ⟨i, Jh, o⟩ ⟨hi, hIJ, hok, hlen⟩
 dsimp only at hi hIJ hok hlen ⊢
 have hE := hE0.mono hIJ
 refine axc (fun hc2 hc2p => ?_) (fun hc2 hc2p => ?_)
 ·
  have hlt : i < es.length := by omega
  obtain ⟨e0, hget⟩ : ∃ e, es[i]? = some e := ⟨_, List.getElem?_eq_getElem hlt⟩
  have hem := List.mem_of_getElem? hget
  obtain ⟨⟨p1, c1, hpe, hc1, hp⟩, hrecs⟩ := id hE
  cases hpe
  obtain ⟨eb, eo, ecs, ety, efr, esp, rfl, heb, hed⟩ := hp (ne_nil_of hlt)
  have hrec := hrecs e0 hem
  clear hrecs
  obtain ⟨vp0, vc0, hev, -, -⟩ := id hrec.1
  refine xix (eo + i * 5) ?_
  refine J.z (yl_loadAgg rfl rfl isAgg59 sizeOf59 (Blk.imm heb) (row_from entC_len hed hget) rfl) ?_
  refine axn 1 ?_
  intro b3 hb3
  refine J.op rfl (op_store 0 rfl rfl rfl rfl rfl (ent_one hev) sizeOf59 rfl rfl (LSpl.c (LSpl.c (LSpl.c (LSpl.c (LSpl.c LSpl.z))))) LSet.z ?_)
  refine xcr [_] (Put_ok b1 o (Ix.rputs ((es.take i).map entL) []) e0 _ hok (by omega) (hek e0 hem) hrec) ?_
  intro v4 I5 H6 hle7 hp8
  have hE := hE.mono hle7
  have hok := hok.mono hle7
  have hIJ := hIJ.mono hle7
  have heb := hle7 _ _ heb
  have hrec := hrec.mono hle7
  obtain ⟨o1, h, hok1, rfl⟩ := hp8; cases h
  refine axn 7 ?_
  refine Ej.keep (Keeps.d Keeps.r) ?_
  refine Ej.round ⟨i + 1, _, o1⟩ ⟨by dsimp only; omega, hIJ, by dsimp only; rw [rputs_next hget]; exact hok1, by dsimp only; rw [rputs_next hget]; have := rput_len e0.t (Ix.vals e0.fs) (Ix.rputs ((es.take i).map entL) []); omega⟩ (by dsimp only; omega) ⟨rfl, rfl, rfl, rfl, trivial⟩ rfl rfl
 rw [List.take_of_length_le (by omega : es.length ≤ i)] at hok
 refine axe ?_
 exact ⟨_, o, rfl, hok, rfl⟩
end Go.Proofs.YtekmeaoblpfnpaaGreatDoor
end
section
namespace Go.Sx
open Go
section
variable {P : Program} {K i j : TypeId} {f0 f1 : Field}
def EqK {α : Type} [BEq α] (P : Program) (K : TypeId) (kv : α → Array Value) : Prop := ∀ a b w, (Op.equalIn 10000 K (.agg (kv a)) (.agg (kv b))).run P w = .ok (a == b) w
theorem EqK.ints2 (hu : P.underlying K = some (.struct #[f0, f1])) (hp : P.stoodInHeld K = false) (n0 : f0.name ≠ "_") (n1 : f1.name ≠ "_") (o0 : f0.offset = 0) (o1 : f1.offset = 1) (t0 : f0.type = i) (t1 : f1.type = i) (hi : P.underlying i = some (.int .i64)) (ha : ∀ w, (isAgg i).run P w = .ok false w) :
    EqK P K (fun a : Int × Int => #[i64 a.1, i64 a.2]) := by
  subst t0
  exact fun a b w => stru_equal2 hu hp n0 n1 o0 o1 ha (t1 ▸ ha) (x0 := i64 a.1) (x1 := i64 a.2) (y0 := i64 b.1) (y1 := i64 b.2) w (fun d w => run_equalIn_int w d _ .i64 .i64 a.1 b.1 hi) (fun d w => run_equalIn_int w d _ .i64 .i64 a.2 b.2 (t1 ▸ hi)) 9998
end
section
variable {cx : Cx} {S : World → Prop} {ev0 : Env} {o : Oper} {α : Type} [BEq α] {t : TypeId} {kv : α → Array Value}
theorem yl_eqlK {x y : Operand} {U : Nat} {a b : α} {vs us : List Value} (ho : o.op = .binOp .eql t x y U) (hx : ev ev0 x = some (.agg vs.toArray)) (hy : ev ev0 y = some (.agg us.toArray)) (hvs : vs.toArray = kv a) (hus : us.toArray = kv b)
    (hK : EqK cx.P t kv) (hq : cx.P.eqGuardType cx.P.depth t = false) : Yld cx o ev0 S (.bool (a == b)) := by
  intro w0 w hw _
  have hg : (eqGuard .eql t x y (.agg vs.toArray) (.agg us.toArray)).run cx.P w = .ok () w := by
    simp [eqGuard, hq]
  have h1 := run_eql_struct (P := cx.P) w t vs.toArray us.toArray
  rw [hvs] at h1 hg hx
  rw [hus] at h1 hg hy
  rw [hK a b w] at h1
  simp [execOp, ho, hw.eval hx, hw.eval hy, hg, h1]
theorem yl_neqK {x y : Operand} {U : Nat} {a b : α} {vs us : List Value} (ho : o.op = .binOp .neq t x y U) (hx : ev ev0 x = some (.agg vs.toArray)) (hy : ev ev0 y = some (.agg us.toArray)) (hvs : vs.toArray = kv a) (hus : us.toArray = kv b)
    (hK : EqK cx.P t kv) (hq : cx.P.eqGuardType cx.P.depth t = false) : Yld cx o ev0 S (.bool (a != b)) := by
  intro w0 w hw _
  have hg : (eqGuard .neq t x y (.agg vs.toArray) (.agg us.toArray)).run cx.P w = .ok () w := by
    simp [eqGuard, hq]
  have h1 := run_neq_struct (P := cx.P) w t vs.toArray us.toArray
  rw [hvs] at h1 hg hx
  rw [hus] at h1 hg hy
  rw [hK a b w] at h1
  simp [execOp, ho, hw.eval hx, hw.eval hy, hg, h1, bne]
end
section
variable {cx : Cx} {S : World → Prop} {ev0 : Env} {o : Oper}
theorem yl_fieldR {x : Operand} {T k : Nat} {v0 v : Value} (ho : o.op = .field T x k) (hx : ev ev0 x = some v0) (hr : ∀ w, (Instr.field T v0 k).run cx.P w = .ok v w) : Yld cx o ev0 S v := by
  intro w0 w hw _
  simp [execOp, ho, hw.eval hx, hr]
end
theorem Pure.borrow {P : Program} {f : FuncId} {args : List Value} {I : Heap} {B : HL} {v : Value} (he : Enters P f) (h : ∀ J, Le I J → (∀ p ∈ B, J p.1 = some p.2) → Pure P f args J v) : Ctr P f args I B (fun e _ H' => e = .returned v ∧ H' = B) := by
  refine Ctr.withReady he fun hn hf => ?_
  refine (Ctr.borrow (h (hputs B I) (hputs_le hf) (hputs_at hn))).mono fun e I' H' _ ⟨J, K, ⟨h1, h2, h3⟩, h4, h5, h6⟩ => ⟨h1, ?_⟩
  subst h3; rw [h4, List.append_nil]
end Go.Sx
end
section
set_option maxHeartbeats 40000000
namespace Go.Proofs.YtekmeaoblpfnpaaGreatDoor
open _root_.Go.Proofs.Tryz
open Go Go.Sx
abbrev recA (t : Ix.Rec) : Array Value := #[i64 t.1, i64 t.2]
theorem eqRec : EqK Tryz.prog 54 recA := EqK.ints2 underlying54 (by kernel_rfl) (by decide) (by decide) rfl rfl rfl rfl underlying3 isAgg3
theorem ent_rec {cs sp : List Value} {o k : Nat} {es : List Ent} {x : Ent} (h : cs.drop o = es.flatMap entC ++ sp) (hx : es[k]? = some x) : (cs.drop (o + k * 5)).take 2 = recC x.t := by
  have h1 := row_from entC_len h hx
  rw [show (cs.drop (o + k * 5)).take 2 = ((cs.drop (o + k * 5)).take 5).take 2 by rw [List.take_take, show min 2 5 = 2 from rfl], h1]; rfl
theorem lessR_ne {a b : Ix.Rec} (h : a.1 ≠ b.1) : Ix.lessR a b = decide (a.1 < b.1) := by unfold Ix.lessR; rw [decide_eq_false (p := a.1 = b.1) h]; simp
theorem lessR_eq {a b : Ix.Rec} (h : a.1 = b.1) : Ix.lessR a b = decide (a.2 < b.2) := by unfold Ix.lessR; rw [decide_eq_true h, h, decide_eq_false (Int.lt_irrefl _)]; simp
def epos (es : List Ent) (t : Ix.Rec) : Nat := (es.takeWhile fun x => Ix.lessR x.t t).length
def ethere (es : List Ent) (t : Ix.Rec) : Bool := match es[epos es t]? with
  | none => false
  | some x => x.t == t
def eput (es : List Ent) (e : Ent) : List Ent := es.take (epos es e.t) ++ [e] ++ es.drop (if ethere es e.t then epos es e.t + 1 else epos es e.t)
def edrop (es : List Ent) (t : Ix.Rec) : List Ent := if ethere es t then es.take (epos es t) ++ es.drop (epos es t + 1) else es
theorem epos_cons (x : Ent) (es : List Ent) (t : Ix.Rec) : epos (x :: es) t = if Ix.lessR x.t t then epos es t + 1 else 0 := by
  unfold epos; rw [List.takeWhile_cons]; split <;> simp_all
theorem epos_le : ∀ (es : List Ent) (t : Ix.Rec), epos es t ≤ es.length
  | [], _ => Nat.zero_le _
  | x :: r, t => by rw [epos_cons]; have := epos_le r t; split <;> simp <;> omega
theorem epos_at : ∀ {es : List Ent} {t : Ix.Rec} {k : Nat}, (∀ x ∈ es.take k, Ix.lessR x.t t = true) → (∀ x, es[k]? = some x → Ix.lessR x.t t = false) → k ≤ es.length → epos es t = k
  | [], _, k, _, _, hk => by have : k = 0 := by simpa using hk
                             subst this; rfl
  | x :: r, t, 0, _, h2, _ => by rw [epos_cons, if_neg (by rw [h2 x rfl]; decide)]
  | x :: r, t, k + 1, h1, h2, hk => by
    rw [epos_cons, if_pos (h1 x (by rw [List.take_succ_cons]; exact .head _)), epos_at (k := k) (fun y hy => h1 y (by rw [List.take_succ_cons]; exact .tail _ hy)) (fun y hy => h2 y (by rw [List.getElem?_cons_succ]; exact hy)) (by simpa using hk)]
theorem ethere_at {es : List Ent} {t : Ix.Rec} {k : Nat} {x : Ent} (h : epos es t = k) (hx : es[k]? = some x) : ethere es t = (x.t == t) := by unfold ethere; rw [h, hx]
theorem ethere_no {es : List Ent} {t : Ix.Rec} {k : Nat} (h : epos es t = k) (hk : es.length ≤ k) : ethere es t = false := by unfold ethere; rw [h, List.getElem?_eq_none hk]
theorem take_all {es : List Ent} {t : Ix.Rec} {k : Nat} {x : Ent} (h : ∀ y ∈ es.take k, Ix.lessR y.t t = true) (hg : es[k]? = some x) (hx : Ix.lessR x.t t = true) : ∀ y ∈ es.take (k + 1), Ix.lessR y.t t = true := by
  obtain ⟨hlt, hg⟩ := List.getElem?_eq_some_iff.1 hg
  rw [List.take_succ_eq_append_getElem hlt, hg]
  intro y hy
  rcases List.mem_append.1 hy with g | g
  · exact h y g
  rw [List.mem_singleton.1 g]; exact hx
theorem ethere_cons (x : Ent) (es : List Ent) (t : Ix.Rec) : ethere (x :: es) t = if Ix.lessR x.t t then ethere es t else x.t == t := by
  unfold ethere; rw [epos_cons]
  by_cases h : Ix.lessR x.t t = true
  · rw [if_pos h, if_pos h]; rfl
  rw [if_neg h, if_neg h]; rfl
theorem eput_put (e : Ent) : ∀ es : List Ent, (eput es e).map entL = Ix.rput e.t (Ix.vals e.fs) (es.map entL)
  | [] => rfl
  | x :: r => by
    have ih := eput_put e r
    unfold eput at ih ⊢
    rw [epos_cons, ethere_cons, List.map_cons]
    unfold Ix.rput
    by_cases h : Ix.lessR x.t e.t = true
    · rw [if_pos h, if_pos h, if_pos h, ← ih]
      have e1 : (if ethere r e.t = true then epos r e.t + 1 + 1 else epos r e.t + 1) = (if ethere r e.t = true then epos r e.t + 1 else epos r e.t) + 1 := by split <;> rfl
      rw [e1]; rfl
    rw [if_neg h, if_neg h, if_neg h]
    by_cases h2 : x.t = e.t
    · rw [if_pos h2, if_pos (by simpa using h2)]; rfl
    rw [if_neg h2, if_neg (by simpa using h2)]; rfl
theorem edrop_id {t : Ix.Rec} {L : List Ent} (h : ∀ x ∈ L, x.t ≠ t) : Ix.rdrop t (L.map entL) = L.map entL := by
  unfold Ix.rdrop
  rw [List.filter_eq_self]
  intro y hy
  obtain ⟨x, hx, rfl⟩ := List.mem_map.1 hy
  exact decide_eq_true (h x hx)
theorem edrop_drop (t : Ix.Rec) : ∀ es : List Ent, Ix.Srt (es.map entL) → (edrop es t).map entL = Ix.rdrop t (es.map entL)
  | [], _ => rfl
  | x :: r, hs => by
    have h' := List.pairwise_cons.1 hs
    have ih := edrop_drop t r h'.2
    unfold edrop at ih ⊢
    rw [epos_cons, ethere_cons, List.map_cons]
    have hd : Ix.rdrop t (entL x :: r.map entL) = if x.t = t then Ix.rdrop t (r.map entL) else entL x :: Ix.rdrop t (r.map entL) := by
      unfold Ix.rdrop
      rw [List.filter_cons]
      by_cases g : x.t = t
      · rw [if_pos g, if_neg (by simp [g])]
      rw [if_neg g, if_pos (by simp [g])]
    have hbig : ∀ u : Ix.Rec, Ix.lessR u x.t = false → u ≠ x.t → True := fun _ _ _ => trivial
    rw [hd]
    by_cases h : Ix.lessR x.t t = true
    · have hne : x.t ≠ t := fun g => by rw [g, Ix.lessR_irr] at h; cases h
      rw [if_pos h, if_pos h, if_neg hne, ← ih]
      split <;> rfl
    rw [if_neg h, if_neg h]
    by_cases g : x.t = t
    · rw [if_pos g, if_pos (by simpa using g), edrop_id fun y hy he => by
        have := h'.1 (entL y) (List.mem_map_of_mem hy)
        simp only [] at this
        rw [he, ← g, Ix.lessR_irr] at this; cases this]
      rfl
    rw [if_neg g, if_neg (by simpa using g), edrop_id fun y hy he => by
      have h1 := h'.1 (entL y) (List.mem_map_of_mem hy)
      simp only [] at h1
      rw [he] at h1; exact h h1]
    rfl
theorem eput_len (es : List Ent) (e : Ent) : (eput es e).length ≤ es.length + 1 := by
  unfold eput
  have := epos_le es e.t
  simp only [List.length_append, List.length_take, List.length_drop, List.length_singleton]
  split <;> omega
theorem edrop_len (es : List Ent) (t : Ix.Rec) : (edrop es t).length ≤ es.length := by
  unfold edrop
  split
  · have := epos_le es t
    simp only [List.length_append, List.length_take, List.length_drop]; omega
  exact Nat.le_refl _
theorem eput_mem {es : List Ent} {e x : Ent} (h : x ∈ eput es e) : x = e ∨ x ∈ es := by
  unfold eput at h
  rcases List.mem_append.1 h with g | g
  · rcases List.mem_append.1 g with g | g
    · exact .inr (List.mem_of_mem_take g)
    exact .inl (List.mem_singleton.1 g)
  exact .inr (List.mem_of_mem_drop g)
theorem edrop_mem {es : List Ent} {t : Ix.Rec} {x : Ent} (h : x ∈ edrop es t) : x ∈ es := by
  unfold edrop at h
  split at h
  · rcases List.mem_append.1 h with g | g
    · exact List.mem_of_mem_take g
    exact List.mem_of_mem_drop g
  exact h
theorem ethere_lt {es : List Ent} {t : Ix.Rec} (h : ethere es t = true) : epos es t < es.length := by
  rcases Nat.lt_or_ge (epos es t) es.length with g | g
  · exact g
  rw [ethere_no rfl g] at h; cases h
theorem ents_one {I : Heap} {es : List Ent} {v : Value} (h : EntsS I es v) {l : List Ent} (hl : ∀ x ∈ l, x ∈ es) : ∀ x ∈ l, (entC x).all Value.oneCell' = true := fun x hx => by
  obtain ⟨p, c, he, -⟩ := (h.2 x (hl x hx)).1
  exact ent_one he
theorem EntsS.nil {I : Heap} : EntsS I [] (.slice none 0 0) := ⟨RowS.nil, fun _ h => by cases h⟩
theorem EntsS.len {I : Heap} {es : List Ent} {v : Value} (h : EntsS I es v) : ∃ p c, v = .slice p es.length c ∧ es.length ≤ c := let ⟨p, c, h, hc, _⟩ := h.1; ⟨p, c, h, hc⟩
theorem rLess_ok (a b : Ix.Rec) (I : Heap) : Pure Tryz.prog 29 [kvR a, kvR b] I (.bool (Ix.lessR a b)) := by
 refine Ctr.toPure ?_
 refine xob func29 fun w0 hw0 => ?_
 refine axn 3 ?_
 intro b1 hb1
 refine axn 1 ?_
 intro b2 hb2
 refine axc (fun hc3 hc3p => ?_) (fun hc3 hc3p => ?_)
 ·
  have hl := lessR_ne (bne_iff_ne.1 hc3)
  refine axr ?_
  rw [hl]
  exact ⟨rfl, rfl⟩
 have hl := lessR_eq (bne_f hc3)
 refine axr ?_
 rw [hl]
 exact ⟨rfl, rfl⟩
theorem rfind_ok (rb : Nat) (w : Value) (es : List Ent) (t : Ix.Rec) (hl : es.length ≤ 1000000) (I : Heap) (hrb : I rb = some (cel 50 [w])) (hE : EntsS I es w) : Pure Tryz.prog 92 [ptr rb 0, kvR t] I (.tuple #[i64 (epos es t : Int), .bool (ethere es t)]) := by
 refine Ctr.toPure ?_
 obtain ⟨p, c, rfl, hc, hp⟩ := id hE.1
 refine xob func92 fun w0 hw0 => ?_
 refine axn 3 ?_
 intro b1 hb1
 refine axn 11 ?_
 refine Cj.loop (ι := Nat) (fun y => y ≤ es.length ∧ ∀ x ∈ es.take y, Ix.lessR x.t t = true) (fun y => es.length - y) (fun y => [(0, ptr rb 0), (3, ptr b1 0), (6, i64 (y : Int))]) (fun y => _) (fun y => [(b1, cel 54 [i64 t.1, i64 t.2])]) 0 ⟨Nat.zero_le _, fun x hx => by simp at hx⟩ ⟨rfl, rfl, rfl, trivial⟩ rfl rfl ?_
 rintro y ⟨hy, hall⟩
 refine axc (fun hc2 hc2p => ?_) (fun hc2 hc2p => ?_)
 ·
  have hlt : y < es.length := by omega
  obtain ⟨x, hget⟩ : ∃ x, es[y]? = some x := ⟨_, List.getElem?_eq_getElem hlt⟩
  obtain ⟨eb, eo, ecs, ety, efr, esp, rfl, heb, hed⟩ := hp (ne_nil_of hlt)
  refine axn 4 ?_
  refine Cj.drawSel [0] [] 11 (by kernel_rfl) ?_
  have hrb_3 := hrb
  have heb_3 := heb
  refine xix (eo + y * 5) ?_
  refine axn 1 ?_
  refine JA.zt 7 rfl (yl_loadAgg rfl rfl isAgg54 sizeOf54 (Blk.immC heb_3) (ent_rec hed hget) rfl) ?_
  refine xpu (rLess_ok x.t t _) ?_
  refine ax0 (fun hc5 => ?_) (fun hc5 => ?_)
  ·
   have hls : Ix.lessR x.t t = false := by have h := hc5; simpa using h
   refine axn 2 ?_
   refine Ej.blkOther rfl ?_
   refine axn 4 ?_
   have hpos : epos es t = y := epos_at hall (fun z hz => by rw [hget] at hz; cases hz; exact hls) hy
   have hth := ethere_at hpos hget
   refine Cj.drawSel [0] [] 22 (by kernel_rfl) ?_
   refine axn 9 ?_
   refine JA.split 37 rfl (fun hg7 => ?_) (fun hg7 => ?_)
   rotate_left
   ·
    have hg7p := of_decide_eq_false hg7
    omega
   have hg7p := of_decide_eq_true hg7
   refine axn 5 ?_
   refine JA.fix fxA (fun fx6 => ?_)
   refine JA.tkG 14 8 37 true _ rfl fx6 rfl rfl hg7 (yl_indexAddr (off' := eo + y * 5) rfl rfl rfl underlying48 sizeOf59 (by omega) (by omega) (by simp)) ?_
   refine axn 1 ?_
   refine JA.fix fxA (fun fx6 => ?_)
   refine JA.tkG 16 8 37 true _ rfl fx6 rfl rfl hg7 (yl_loadAgg rfl rfl isAgg54 sizeOf54 (Blk.immC heb) (ent_rec hed hget) rfl) ?_
   refine axn 1 ?_
   refine JA.fix fxA (fun fx6 => ?_)
   refine JA.tkG 18 8 37 true _ rfl fx6 rfl rfl hg7 (yl_eqlK (kv := recA) (a := x.t) (b := t) rfl rfl rfl rfl rfl eqRec (by kernel_rfl)) ?_
   refine axr ?_
   rw [hpos, hth]
   exact ⟨rfl, rfl⟩
  have hls : Ix.lessR x.t t = true := by have h := hc5; simpa using h
  refine axn 8 ?_
  refine Ej.round (y + 1) ⟨by omega, take_all hall hget hls⟩ (by omega) ⟨rfl, rfl, rfl, trivial⟩ rfl rfl
 refine axn 6 ?_
 have hpos : epos es t = y := epos_at hall (fun x hx => absurd (List.getElem?_eq_some_iff.1 hx).1 (by omega)) hy
 have hth := ethere_no hpos (by omega)
 refine Cj.drawSel [0] [] 22 (by kernel_rfl) ?_
 refine axn 9 ?_
 refine JA.split 37 rfl (fun hg9 => ?_) (fun hg9 => ?_)
 ·
  have hg9p := of_decide_eq_true hg9
  omega
 have hg9p := of_decide_eq_false hg9
 refine axr ?_
 rw [hpos, hth]
 exact ⟨rfl, rfl⟩
theorem rfind_own (rb : Nat) (w : Value) (es : List Ent) (t : Ix.Rec) (hl : es.length ≤ 1000000) (I : Heap) (hE : EntsS I es w) : Ctr Tryz.prog 92 [ptr rb 0, kvR t] I [(rb, cel 50 [w])] (fun e _ H' => e = .returned (.tuple #[i64 (epos es t : Int), .bool (ethere es t)]) ∧ H' = [(rb, cel 50 [w])]) :=
  Pure.borrow (Enters.of func92 (by decide) rfl) fun J hle hJ => rfind_ok rb w es t hl J (hJ (rb, _) (.head _)) (hE.mono hle)
theorem RowS.from {α : Type} {f : α → List Value} {sz : Nat} (hf : ∀ x, (f x).length = sz) {I : Heap} {l : List α} {a : Option Addr} {c : Nat} (h : RowS f I l (.slice a l.length c)) {j : Nat} (hj : j ≤ l.length) : RowS f I (l.drop j) (.slice (cutA a c j sz) (l.length - j) (c - j)) := by
  have h1 := RowS.cut hf h hj (Nat.le_refl _)
  rwa [List.take_of_length_le (by rw [List.length_drop]; omega)] at h1
theorem three_flat (a b : List Ent) (e : Ent) : ((([] : List Value) ++ a.flatMap entC) ++ entC e) ++ b.flatMap entC = (a ++ [e] ++ b).flatMap entC := by simp
theorem two_flat (a b : List Ent) : (([] : List Value) ++ a.flatMap entC) ++ b.flatMap entC = (a ++ b).flatMap entC := by simp
theorem EntsS.put {I I' : Heap} {es : List Ent} {e : Ent} {w v : Value} (h : EntsS I es w) (he : RecS I e.fs e.v) (hle : Le I I') (hr : RowS entC I' (eput es e) v) : EntsS I' (eput es e) v := ⟨hr, fun x hx => by
  rcases eput_mem hx with rfl | g
  · exact he.mono hle
  exact (h.2 x g).mono hle⟩
theorem EntsS.drop {I I' : Heap} {es : List Ent} {t : Ix.Rec} {w v : Value} (h : EntsS I es w) (hle : Le I I') (hr : RowS entC I' (edrop es t) v) : EntsS I' (edrop es t) v := ⟨hr, fun x hx => (h.2 x (edrop_mem hx)).mono hle⟩
theorem rPut_ok (rb : Nat) (w : Value) (es : List Ent) (e : Ent) (hl : es.length ≤ 1000000) (I : Heap) (hE : EntsS I es w) (hr : RecS I e.fs e.v) : Ctr Tryz.prog 99 [ptr rb 0, .agg (entC e).toArray] I [(rb, cel 50 [w])] (fun ev I' H' => ∃ w', ev = .returned (.tuple #[]) ∧ EntsS I' (eput es e) w' ∧ H' = [(rb, cel 50 [w'])]) := by
 have hrow := hE.1
 obtain ⟨p, c, rfl, hc⟩ := hE.len
 obtain ⟨vp, vc, hev, -, -⟩ := id hr.1
 have hpl := epos_le es e.t
 have htl : (es.take (epos es e.t)).length = epos es e.t := by rw [List.length_take]; omega
 refine xob func99 fun w0 hw0 => ?_
 refine axn 3 ?_
 intro b1 hb1
 refine axn 7 ?_
 refine J.pull (Pull.s Pull.z) ?_
 refine xca (rfind_own rb _ es e.t hl _ hE) ?_
 intro v2 I3 H4 hle5 hp6
 have hE := hE.mono hle5
 have hr := hr.mono hle5
 have hrow := hrow.mono hle5
 obtain ⟨h, rfl⟩ := hp6; cases h
 refine axn 20 ?_
 refine J.z (yl_slice0 (k := epos es e.t) rfl rfl rfl underlying48 sizeOf59 rfl (by omega)) ?_
 refine J.op rfl (op_append (by' := 47) (n := 0) (g := none) (xs := []) [_, _] rfl rfl rfl rfl rfl underlying48 (.inr ⟨_, underlying48⟩) (by kernel_rfl) sizeOf59 zeroValue59 rfl ⟨rfl, rfl⟩ rfl (Src.row entC_len (RowS.take hrow hpl) (ents_one hE (fun x hx => List.mem_of_mem_take hx))) (by omega) ?_)
 intro g7 hg7
 refine axn 8 ?_
 intro b8 hb8
 refine J.op rfl (op_append (by' := 47) [_, _, _] rfl rfl rfl rfl rfl underlying48 (.inr ⟨_, underlying48⟩) (by kernel_rfl) sizeOf59 zeroValue59 rfl hg7 rfl (Src.slice (Blk.at 0 rfl) rfl rfl (ent_one hev)) (by omega) ?_)
 intro g9 hg9
 refine ax0 (fun hc10 => ?_) (fun hc10 => ?_)
 ·
  have hth : ethere es e.t = true := hc10
  have hlt := ethere_lt hth
  have hpj : epos es e.t + 1 ≤ es.length := hlt
  have hdl : (es.drop (epos es e.t + 1)).length = es.length - (epos es e.t + 1) := List.length_drop
  refine axn 14 ?_
  refine J.z (yl_slice1 (j := (epos es e.t + 1)) rfl rfl rfl underlying48 sizeOf59 rfl (by omega) (by omega)) ?_
  refine J.op rfl (op_append (by' := 47) [_, _, _] rfl rfl rfl rfl rfl underlying48 (.inr ⟨_, underlying48⟩) (by kernel_rfl) sizeOf59 zeroValue59 rfl hg9 rfl (Src.row entC_len (RowS.from entC_len hrow (j := epos es e.t + 1) hpj) (ents_one hE (fun x hx => List.mem_of_mem_drop hx))) (by omega) ?_)
  intro g11 hg11
  refine axn 4 ?_
  refine Ej.keep (Keeps.d (Keeps.k (Keeps.d Keeps.r))) ?_
  have hes : es.take (epos es e.t) ++ [e] ++ es.drop (epos es e.t + 1) = eput es e := by unfold eput; rw [hth]; rfl
  have hfl := (three_flat (es.take (epos es e.t)) (es.drop (epos es e.t + 1)) e).trans (congrArg (List.flatMap entC) hes)
  refine Ej.perm (H' := gH 59 ((eput es e).flatMap entC) g11 ++ [(rb, _)]) (by rw [← hfl]; exact List.perm_append_comm) ?_
  refine Ej.keepR entC_len (by decide) (by rw [← hfl]; exact hg11) (by rw [← hes]; simp only [List.length_append, List.length_singleton]; omega) (fun I8 hle8 hw8 => ?_)
  refine Ej.end0 rfl rfl ?_
  exact ⟨_, rfl, hE.put hr hle8 hw8, rfl⟩
 have hth : ethere es e.t = false := hc10
 have hpj := hpl
 have hdl : (es.drop (epos es e.t)).length = es.length - epos es e.t := List.length_drop
 refine axn 10 ?_
 refine J.z (yl_slice1 (j := (epos es e.t)) rfl rfl rfl underlying48 sizeOf59 rfl (by omega) (by omega)) ?_
 refine J.op rfl (op_append (by' := 47) [_, _, _] rfl rfl rfl rfl rfl underlying48 (.inr ⟨_, underlying48⟩) (by kernel_rfl) sizeOf59 zeroValue59 rfl hg9 rfl (Src.row entC_len (RowS.from entC_len hrow (j := epos es e.t) hpj) (ents_one hE (fun x hx => List.mem_of_mem_drop hx))) (by omega) ?_)
 intro g12 hg12
 refine axn 4 ?_
 refine Ej.keep (Keeps.d (Keeps.k (Keeps.d Keeps.r))) ?_
 have hes : es.take (epos es e.t) ++ [e] ++ es.drop (epos es e.t) = eput es e := by unfold eput; rw [hth]; rfl
 have hfl := (three_flat (es.take (epos es e.t)) (es.drop (epos es e.t)) e).trans (congrArg (List.flatMap entC) hes)
 refine Ej.perm (H' := gH 59 ((eput es e).flatMap entC) g12 ++ [(rb, _)]) (by rw [← hfl]; exact List.perm_append_comm) ?_
 refine Ej.keepR entC_len (by decide) (by rw [← hfl]; exact hg12) (by rw [← hes]; simp only [List.length_append, List.length_singleton]; omega) (fun I8 hle8 hw8 => ?_)
 refine Ej.end0 rfl rfl ?_
 exact ⟨_, rfl, hE.put hr hle8 hw8, rfl⟩
theorem rDrop_ok (rb : Nat) (w : Value) (es : List Ent) (t : Ix.Rec) (hl : es.length ≤ 1000000) (I : Heap) (hE : EntsS I es w) : Ctr Tryz.prog 44 [ptr rb 0, kvR t] I [(rb, cel 50 [w])] (fun ev I' H' => ∃ w', ev = .returned (.tuple #[]) ∧ EntsS I' (edrop es t) w' ∧ H' = [(rb, cel 50 [w'])]) := by
 have hrow := hE.1
 obtain ⟨p, c, rfl, hc⟩ := hE.len
 have hpl := epos_le es t
 have htl : (es.take (epos es t)).length = epos es t := by rw [List.length_take]; omega
 refine xob func44 fun w0 hw0 => ?_
 refine axn 3 ?_
 intro b1 hb1
 refine axn 6 ?_
 refine J.pull (Pull.s Pull.z) ?_
 refine xca (rfind_own rb _ es t hl _ hE) ?_
 intro v2 I3 H4 hle5 hp6
 have hE := hE.mono hle5
 have hrow := hrow.mono hle5
 obtain ⟨h, rfl⟩ := hp6; cases h
 refine ax0 (fun hc7 => ?_) (fun hc7 => ?_)
 ·
  have hth : ethere es t = true := hc7
  have hlt := ethere_lt hth
  have hpj : epos es t + 1 ≤ es.length := hlt
  have hdl : (es.drop (epos es t + 1)).length = es.length - (epos es t + 1) := List.length_drop
  refine axn 13 ?_
  refine J.z (yl_slice0 (k := epos es t) rfl rfl rfl underlying48 sizeOf59 rfl (by omega)) ?_
  refine J.op rfl (op_append (by' := 47) (n := 0) (g := none) (xs := []) [_, _] rfl rfl rfl rfl rfl underlying48 (.inr ⟨_, underlying48⟩) (by kernel_rfl) sizeOf59 zeroValue59 rfl ⟨rfl, rfl⟩ rfl (Src.row entC_len (RowS.take hrow hpl) (ents_one hE (fun x hx => List.mem_of_mem_take hx))) (by omega) ?_)
  intro g8 hg8
  refine axn 12 ?_
  refine J.z (yl_slice1 (j := (epos es t + 1)) rfl rfl rfl underlying48 sizeOf59 rfl (by omega) (by omega)) ?_
  refine J.op rfl (op_append (by' := 47) [_, _] rfl rfl rfl rfl rfl underlying48 (.inr ⟨_, underlying48⟩) (by kernel_rfl) sizeOf59 zeroValue59 rfl hg8 rfl (Src.row entC_len (RowS.from entC_len hrow (j := epos es t + 1) hpj) (ents_one hE (fun x hx => List.mem_of_mem_drop hx))) (by omega) ?_)
  intro g9 hg9
  refine axn 4 ?_
  refine Ej.keep (Keeps.k (Keeps.d Keeps.r)) ?_
  have hes : es.take (epos es t) ++ es.drop (epos es t + 1) = edrop es t := by unfold edrop; rw [hth]; rfl
  have hfl := (two_flat (es.take (epos es t)) (es.drop (epos es t + 1))).trans (congrArg (List.flatMap entC) hes)
  refine Ej.perm (H' := gH 59 ((edrop es t).flatMap entC) g9 ++ [(rb, _)]) (by rw [← hfl]; exact List.perm_append_comm) ?_
  refine Ej.keepR entC_len (by decide) (by rw [← hfl]; exact hg9) (by rw [← hes]; simp only [List.length_append]; omega) (fun I8 hle8 hw8 => ?_)
  refine Ej.end0 rfl rfl ?_
  exact ⟨_, rfl, hE.drop hle8 hw8, rfl⟩
 have hth : ethere es t = false := hc7
 refine axn 1 ?_
 refine Ej.keep (Keeps.k (Keeps.d Keeps.n)) ?_
 refine Ej.end0 rfl rfl ?_
 exact ⟨_, rfl, (show edrop es t = es from by unfold edrop; rw [hth]; rfl).symm ▸ hE, rfl⟩
end Go.Proofs.YtekmeaoblpfnpaaGreatDoor
end
section
set_option maxHeartbeats 40000000
namespace Go.Proofs.YtekmeaoblpfnpaaGreatDoor
open _root_.Go.Proofs.Tryz
open Go Go.Sx
def rn (s : List UInt8) : List UInt8 := (s.takeWhile Ke.okb).filter Ke.nb
theorem up_X {c : UInt8} (h : c.toNat = 88 ∨ c.toNat = 120) : Ke.up c = 88 := by
  rcases h with h | h
  · rw [show c = 88 from UInt8.toNat_inj.1 (by rw [h]; rfl)]; rfl
  rw [show c = 120 from UInt8.toNat_inj.1 (by rw [h]; rfl)]; rfl
theorem up_same {c : UInt8} (h : Ke.digit c = true) : Ke.up c = c := (Ke.digit_ok h).2.2
theorem val_digit {c : UInt8} (h : Ke.digit c = true) : Ke.val c = c.toNat - 48 := by
  have := Ke.digit_iff.1 h
  unfold Ke.val
  rw [if_neg fun e => by rw [e] at this; exact absurd this.2 (by decide)]
theorem ch_ok {c : UInt8} (h : (48 ≤ c.toNat ∧ c.toNat ≤ 57) ∨ c.toNat = 88 ∨ c.toNat = 120) : Ke.okb c = true ∧ Ke.nb c = true := by
  revert h
  exact Ke.byte_all (p := fun c => (48 ≤ c.toNat ∧ c.toNat ≤ 57) ∨ c.toNat = 88 ∨ c.toNat = 120 → Ke.okb c = true ∧ Ke.nb c = true) (by decide +kernel) c
theorem sp_ok {c : UInt8} (h : c.toNat = 32 ∨ c.toNat = 45) : Ke.okb c = true ∧ Ke.nb c = false := by
  revert h
  exact Ke.byte_all (p := fun c => c.toNat = 32 ∨ c.toNat = 45 → Ke.okb c = true ∧ Ke.nb c = false) (by decide +kernel) c
theorem bad_ok {c : UInt8} (h : ¬ ((48 ≤ c.toNat ∧ c.toNat ≤ 57) ∨ c.toNat = 88 ∨ c.toNat = 120 ∨ c.toNat = 32 ∨ c.toNat = 45)) : Ke.okb c = false := by
  revert h
  exact Ke.byte_all (p := fun c => ¬ ((48 ≤ c.toNat ∧ c.toNat ≤ 57) ∨ c.toNat = 88 ∨ c.toNat = 120 ∨ c.toNat = 32 ∨ c.toNat = 45) → Ke.okb c = false) (by decide +kernel) c
theorem rn_chars (s : List UInt8) : ∀ c ∈ rn s, Ke.digit c = true ∨ c.toNat = 88 ∨ c.toNat = 120 := fun c hc => by
  obtain ⟨h1, h2⟩ := List.mem_filter.1 hc
  have h3 : Ke.okb c = true := List.all_eq_true.1 (List.all_takeWhile (p := Ke.okb)) c h1
  revert h2 h3
  exact Ke.byte_all (p := fun d => Ke.nb d = true → Ke.okb d = true → Ke.digit d = true ∨ d.toNat = 88 ∨ d.toNat = 120) (by decide +kernel) c
theorem rn_len (s : List UInt8) : (rn s).length ≤ s.length := Nat.le_trans (List.length_filter_le _ _) (List.takeWhile_prefix _).length_le
theorem fil_next {s : List UInt8} {k : Nat} {c : UInt8} (h : s[k]? = some c) : (s.take (k + 1)).filter Ke.nb = (s.take k).filter Ke.nb ++ (if Ke.nb c then [c] else []) := by
  obtain ⟨hlt, hg⟩ := List.getElem?_eq_some_iff.1 h
  rw [List.take_succ_eq_append_getElem hlt, hg, List.filter_append]
  cases hn : Ke.nb c <;> simp [hn]
theorem digits_up {t : List UInt8} (h : ∀ c ∈ t, Ke.digit c = true ∨ c.toNat = 88 ∨ c.toNat = 120) : Ke.digits (t.map Ke.up) = Ke.digits t := by
  induction t with
  | nil => rfl
  | cons c r ih =>
    rw [List.map_cons, Ke.digits_cons, Ke.digits_cons, ih fun d hd => h d (.tail _ hd)]
    rcases h c (.head _) with e | e
    · rw [up_same e]
    rw [up_X e]
    have : Ke.digit c = false := by
      rcases hd : Ke.digit c with _ | _
      · rfl
      have := Ke.digit_iff.1 hd; omega
    rw [this]; rfl
theorem up_digits {t : List UInt8} (h : Ke.digits t = true) : t.map Ke.up = t := Ke.digits_val h
theorem not_digits_at {s : List UInt8} {j : Nat} {c : UInt8} (hj : j < 9) (hget : s[j]? = some c) (hx : c.toNat = 88 ∨ c.toNat = 120) : Ke.rightShort (s.map Ke.up) = false := by
  have h1 : ((s.map Ke.up).take 9)[j]? = some (Ke.up c) := by rw [List.getElem?_take, if_pos hj, List.getElem?_map, hget]; rfl
  have h2 : Ke.digits ((s.map Ke.up).take 9) = false := by
    refine not_all h1 ?_
    rw [up_X hx]; decide
  unfold Ke.rightShort; rw [h2, Bool.and_false]
theorem rCheck_ok (s : List UInt8) (h12 : 12 ≤ s.length) (hs : s.length ≤ 1000000000) (hd : Ke.digits (s.take 12) = true) (I : Heap) : Pure Tryz.prog 120 [str s] I (u8 (Ke.check s)) := by
 refine xob func120 fun w0 hw0 => ?_
 refine axn 17 ?_
 refine Cj.loop (ι := Nat) (fun j => j ≤ 12) (fun j => 12 - j) (fun j => [(0, str s), (3, i64 ((Ke.csum 0 ((s.take 12).take j) : Nat) : Int)), (4, i64 (j : Int))]) (fun j => I) (fun j => []) 0 (Nat.zero_le _) ⟨rfl, rfl, rfl, trivial⟩ rfl rfl ?_
 intro j hj
 have hsl := csum_le ((s.take 12).take j) 0
 rw [List.length_take, List.length_take] at hsl
 refine axc (fun hc1 hc1p => ?_) (fun hc1 hc1p => ?_)
 ·
  have hlt : j < s.length := by omega
  obtain ⟨c, hget⟩ : ∃ c, s[j]? = some c := ⟨_, List.getElem?_eq_getElem hlt⟩
  have hgu : (s.take 12)[j]? = some c := by rw [List.getElem?_take, if_pos (by omega)]; exact hget
  have hc := digits_at hd hgu
  refine axn 8 ?_
  refine J.z (q4 underlying9 hget) ?_
  refine J.z (yl_sub rfl rfl rfl (w8 (by omega))) ?_
  refine axn 1 ?_
  refine J.ev 14 (i64 ((c.toNat - 48 : Nat) : Int)) rfl (congrArg i64 ((w64 (by omega)).trans (by omega))) ?_
  refine axn 8 ?_
  refine J.ev 16 (i64 ((j % 2 : Nat) : Int)) rfl rfl ?_
  refine axc (fun hc2 hc2p => ?_) (fun hc2 hc2p => ?_)
  ·
   have h2 : j % 2 = 1 := by have h := eq_of_beq hc2; omega
   refine axn 19 ?_
   refine Ej.round (j + 1) (by omega) (by omega) ⟨rfl, by rw [csum_next hgu, h2]; exact congrArg (fun z => some (Value.int .i64 z)) (by omega), rfl, trivial⟩ rfl rfl
  have h2 : j % 2 = 0 := by have h := ne_of_beq_false hc2; omega
  refine axn 15 ?_
  refine Ej.round (j + 1) (by omega) (by omega) ⟨rfl, by rw [csum_next hgu, h2]; exact congrArg (fun z => some (Value.int .i64 z)) (by omega), rfl, trivial⟩ rfl rfl
 have hfull : (s.take 12).take j = s.take 12 := List.take_of_length_le (by rw [List.length_take]; omega)
 refine axn 9 ?_
 refine J.ev 24 (i64 ((Ke.csum 0 (s.take 12) % 10 : Nat) : Int)) rfl (by rw [hfull]; rfl) ?_
 refine axn 1 ?_
 refine J.ev 25 (i64 ((10 - Ke.csum 0 (s.take 12) % 10 : Nat) : Int)) rfl (congrArg i64 (by omega)) ?_
 refine axn 1 ?_
 refine J.ev 26 (i64 (((10 - Ke.csum 0 (s.take 12) % 10) % 10 : Nat) : Int)) rfl rfl ?_
 refine axn 1 ?_
 refine J.ev 27 (i64 ((48 + (10 - Ke.csum 0 (s.take 12) % 10) % 10 : Nat) : Int)) rfl (congrArg i64 (by omega)) ?_
 refine axn 1 ?_
 refine J.ev 28 (u8 (Ke.check s)) rfl (congrArg (Value.int .u8) (conv8 (by omega))) ?_
 refine axe ?_
 exact ⟨rfl, rfl, rfl⟩
theorem beq_cast (a b : Nat) : ((a : Int) == (b : Int)) = (a == b) := by
  rw [Bool.eq_iff_iff, beq_iff_eq, beq_iff_eq]; omega
theorem ten_next {s : List UInt8} {j : Nat} {c : UInt8} (hj : j ≤ 10) (hall : (s.take (min j 9)).all Ke.digit = true) (hget : s[j]? = some c) (hd : Ke.digit c = true) : (s.take (min (j + 1) 9)).all Ke.digit = true := by
  rcases Nat.lt_or_ge j 9 with h | h
  · rw [Nat.min_eq_left (by omega)] at hall ⊢; exact all_at hall hget hd
  rw [Nat.min_eq_right (by omega)] at hall ⊢; exact hall
theorem ten_ok (s : List UInt8) (h10 : s.length = 10) (hx : ∀ c ∈ s, Ke.digit c = true ∨ c.toNat = 88 ∨ c.toNat = 120) (I : Heap) : Pure Tryz.prog 119 [str s] I (.bool (Ke.rightShort (s.map Ke.up))) := by
 refine xob func119 fun w0 hw0 => ?_
 refine axn 17 ?_
 refine Cj.loop (ι := Nat) (fun j => j ≤ 10 ∧ (s.take (min j 9)).all Ke.digit = true) (fun j => 10 - j) (fun j => [(0, str s), (3, i64 ((Ke.rsum 0 ((s.map Ke.up).take j) : Nat) : Int)), (4, i64 (j : Int))]) (fun j => I) (fun j => []) 0 ⟨Nat.zero_le _, rfl⟩ ⟨rfl, rfl, rfl, trivial⟩ rfl rfl ?_
 rintro j ⟨hj, hall⟩
 have hsl := rsum_le ((s.map Ke.up).take j) 0
 rw [List.length_take, List.length_map, h10] at hsl
 refine axc (fun hc1 hc1p => ?_) (fun hc1 hc1p => ?_)
 ·
  have hlt : j < s.length := by omega
  obtain ⟨c, hget⟩ : ∃ c, s[j]? = some c := ⟨_, List.getElem?_eq_getElem hlt⟩
  have hgu : (s.map Ke.up)[j]? = some (Ke.up c) := by rw [List.getElem?_map, hget]; rfl
  have hxc := hx c (List.mem_of_getElem? hget)
  have hcl := c.toNat_lt
  have h48 : 48 ≤ c.toNat := hxc.elim (fun h => (Ke.digit_iff.1 h).1) (fun h => by omega)
  have hm : (10 - j) * Ke.val (Ke.up c) ≤ 10 * 255 := Nat.mul_le_mul (by omega) (val_le _)
  refine axn 8 ?_
  refine J.z (q4 underlying9 hget) ?_
  refine axn 1 ?_
  refine J.ev 13 (i64 (c.toNat : Int)) rfl (congrArg i64 (w64 (by omega))) ?_
  refine axn 1 ?_
  refine J.ev 14 (i64 ((c.toNat - 48 : Nat) : Int)) rfl (congrArg i64 (by omega)) ?_
  refine axn 8 ?_
  refine J.z (q4 underlying9 hget) ?_
  refine axh (fun hg2 => ?_) (fun hg2 => ?_)
  ·
   have h19 := eq_of_beq hg2
   refine axn 9 ?_
   have hX : c.toNat = 88 ∨ c.toNat = 120 := by omega
   have hcv : Ke.val (Ke.up c) = 10 := by rw [up_X hX]; rfl
   refine axc (fun hc4 hc4p => ?_) (fun hc4 hc4p => ?_)
   ·
    have h26 := of_decide_eq_true hc4
    refine axe ?_
    rw [not_digits_at (by omega) hget hX]
    exact ⟨rfl, rfl, rfl⟩
   have h26 := of_decide_eq_false hc4
   refine axn 6 ?_
   refine J.ev 29 (i64 ((10 - j : Nat) : Int)) rfl (congrArg i64 (by omega)) ?_
   refine axn 1 ?_
   refine J.ev 30 (i64 ((Ke.val (Ke.up c) : Nat) : Int)) rfl (congrArg i64 (by omega)) ?_
   refine J.z (yl_mul rfl rfl rfl (w64 (by rw [← Int.natCast_mul]; omega))) ?_
   refine J.ev 31 (i64 (((10 - j) * Ke.val (Ke.up c) : Nat) : Int)) rfl (congrArg i64 (Int.natCast_mul _ _).symm) ?_
   refine axn 10 ?_
   refine Ej.round (j + 1) ⟨by omega, by rw [Nat.min_eq_right (by omega)] at hall ⊢; exact hall⟩ (by omega) ⟨rfl, by rw [rsum_next hgu]; exact congrArg (fun z => some (Value.int .i64 z)) (by omega), rfl, trivial⟩ rfl rfl
  have h19 := ne_of_beq_false hg2
  refine axn 2 ?_
  refine J.zg (q4 underlying9 hget) ?_
  refine axc (fun hc5 hc5p => ?_) (fun hc5 hc5p => ?_)
  ·
   have h24 := eq_of_beq hc5
   refine axn 1 ?_
   have hX : c.toNat = 88 ∨ c.toNat = 120 := by omega
   have hcv : Ke.val (Ke.up c) = 10 := by rw [up_X hX]; rfl
   refine axc (fun hc6 hc6p => ?_) (fun hc6 hc6p => ?_)
   ·
    have h26 := of_decide_eq_true hc6
    refine axe ?_
    rw [not_digits_at (by omega) hget hX]
    exact ⟨rfl, rfl, rfl⟩
   have h26 := of_decide_eq_false hc6
   refine axn 6 ?_
   refine J.ev 29 (i64 ((10 - j : Nat) : Int)) rfl (congrArg i64 (by omega)) ?_
   refine axn 1 ?_
   refine J.ev 30 (i64 ((Ke.val (Ke.up c) : Nat) : Int)) rfl (congrArg i64 (by omega)) ?_
   refine J.z (yl_mul rfl rfl rfl (w64 (by rw [← Int.natCast_mul]; omega))) ?_
   refine J.ev 31 (i64 (((10 - j) * Ke.val (Ke.up c) : Nat) : Int)) rfl (congrArg i64 (Int.natCast_mul _ _).symm) ?_
   refine axn 10 ?_
   refine Ej.round (j + 1) ⟨by omega, by rw [Nat.min_eq_right (by omega)] at hall ⊢; exact hall⟩ (by omega) ⟨rfl, by rw [rsum_next hgu]; exact congrArg (fun z => some (Value.int .i64 z)) (by omega), rfl, trivial⟩ rfl rfl
  have h24 := ne_of_beq_false hc5
  have hdc : Ke.digit c = true := hxc.resolve_right (by omega)
  have hcv : Ke.val (Ke.up c) = c.toNat - 48 := by rw [up_same hdc]; exact val_digit hdc
  refine axn 6 ?_
  refine J.ev 29 (i64 ((10 - j : Nat) : Int)) rfl (congrArg i64 (by omega)) ?_
  refine axn 1 ?_
  refine J.ev 30 (i64 ((Ke.val (Ke.up c) : Nat) : Int)) rfl (congrArg i64 (by omega)) ?_
  refine J.z (yl_mul rfl rfl rfl (w64 (by rw [← Int.natCast_mul]; omega))) ?_
  refine J.ev 31 (i64 (((10 - j) * Ke.val (Ke.up c) : Nat) : Int)) rfl (congrArg i64 (Int.natCast_mul _ _).symm) ?_
  refine axn 10 ?_
  refine Ej.round (j + 1) ⟨by omega, by exact ten_next hj hall hget hdc⟩ (by omega) ⟨rfl, by rw [rsum_next hgu]; exact congrArg (fun z => some (Value.int .i64 z)) (by omega), rfl, trivial⟩ rfl rfl
 have hfull : (s.map Ke.up).take j = s.map Ke.up := List.take_of_length_le (by rw [List.length_map]; omega)
 refine axn 9 ?_
 refine J.ev 34 (i64 ((Ke.rsum 0 (s.map Ke.up) % 11 : Nat) : Int)) rfl (by rw [hfull]; rfl) ?_
 refine axe ?_
 have hr : Ke.rightShort (s.map Ke.up) = (Ke.rsum 0 (s.map Ke.up) % 11 == 0) := by
   unfold Ke.rightShort
   rw [← List.map_take, up_digits (show Ke.digits (s.take 9) = true by rw [Nat.min_eq_right (by omega)] at hall; exact hall), show Ke.digits (s.take 9) = true by rw [Nat.min_eq_right (by omega)] at hall; exact hall, Bool.and_true]
 rw [hr]
 exact ⟨congrArg (fun b => Ending.returned (.bool b)) (beq_cast _ _), rfl, rfl⟩
theorem rn_full {s : List UInt8} {j : Nat} (hj : ¬ j < s.length) (hall : (s.take j).all Ke.okb = true) : (s.take j).filter Ke.nb = rn s := by
  rw [List.take_of_length_le (by omega)] at hall ⊢
  unfold rn; rw [take_while_all hall]
theorem rn_cut {s : List UInt8} {j : Nat} {c : UInt8} (hall : (s.take j).all Ke.okb = true) (hget : s[j]? = some c) (hb : Ke.okb c = false) : (s.take j).filter Ke.nb = rn s := by
  unfold rn; rw [take_while hall hget hb]
theorem rIsbn_ok (s : List UInt8) (hs : s.length ≤ 100000000) (I : Heap) : Pure Tryz.prog 67 [str s] I (.tuple #[str (Ke.isbn s).1, .bool (Ke.isbn s).2]) := by
 refine Ctr.toPure ?_
 refine xob func67 fun w0 hw0 => ?_
 refine axn 18 ?_
 refine Cj.loop (ι := Nat) (fun j => j ≤ s.length ∧ (s.take j).all Ke.okb = true) (fun j => s.length - j) (fun j => [(0, str s), (4, str ((s.take j).filter Ke.nb)), (5, i64 (j : Int))]) (fun j => _) (fun j => []) 0 ⟨Nat.zero_le _, rfl⟩ ⟨rfl, rfl, rfl, trivial⟩ rfl rfl ?_
 rintro j ⟨hj, hall⟩
 have hfl := List.length_filter_le Ke.nb (s.take j)
 rw [List.length_take, Nat.min_eq_left hj] at hfl
 refine axc (fun hc1 hc1p => ?_) (fun hc1 hc1p => ?_)
 ·
  have hlt : j < s.length := by omega
  obtain ⟨c, hget⟩ : ∃ c, s[j]? = some c := ⟨_, List.getElem?_eq_getElem hlt⟩
  refine axn 8 ?_
  refine J.z (q4 underlying9 hget) ?_
  refine axh (fun hg2 => ?_) (fun hg2 => ?_)
  ·
   have h20 := of_decide_eq_true hg2
   refine axh (fun hg3 => ?_) (fun hg3 => ?_)
   ·
    have h24 := of_decide_eq_true hg3
    refine axn 10 ?_
    have hk := ch_ok (c := c) (by omega)
    refine axn 4 ?_
    intro b5 hb5
    refine J.z (yl_toStr [c] rfl rfl rfl underlying192 underlying9 underlying5 (Blk.at 0 rfl) rfl) ?_
    refine J.z (yl_cat rfl rfl rfl (by first | omega | (simp only [List.length_append]; omega) | (simp; omega))) ?_
    refine axn 4 ?_
    have hnx := fil_next hget
    rw [hk.2, if_pos rfl] at hnx
    refine axn 5 ?_
    refine Ej.keep (Keeps.d Keeps.n) ?_
    refine Ej.round (j + 1) ⟨by omega, all_next hall hget hk.1⟩ (by omega) ⟨rfl, by rw [hnx]; rfl, rfl, trivial⟩ rfl rfl
   have h24 := of_decide_eq_false hg3
   refine axh (fun hg6 => ?_) (fun hg6 => ?_)
   ·
    have h28 := eq_of_beq hg6
    refine axn 6 ?_
    have hk := ch_ok (c := c) (by omega)
    refine axn 4 ?_
    intro b8 hb8
    refine J.z (yl_toStr [c] rfl rfl rfl underlying192 underlying9 underlying5 (Blk.at 0 rfl) rfl) ?_
    refine J.z (yl_cat rfl rfl rfl (by first | omega | (simp only [List.length_append]; omega) | (simp; omega))) ?_
    refine axn 4 ?_
    have hnx := fil_next hget
    rw [hk.2, if_pos rfl] at hnx
    refine axn 5 ?_
    refine Ej.keep (Keeps.d Keeps.n) ?_
    refine Ej.round (j + 1) ⟨by omega, all_next hall hget hk.1⟩ (by omega) ⟨rfl, by rw [hnx]; rfl, rfl, trivial⟩ rfl rfl
   have h28 := ne_of_beq_false hg6
   refine axc (fun hc9 hc9p => ?_) (fun hc9 hc9p => ?_)
   ·
    have h31 := eq_of_beq hc9
    have hk := ch_ok (c := c) (by omega)
    refine axn 4 ?_
    intro b10 hb10
    refine J.z (yl_toStr [c] rfl rfl rfl underlying192 underlying9 underlying5 (Blk.at 0 rfl) rfl) ?_
    refine J.z (yl_cat rfl rfl rfl (by first | omega | (simp only [List.length_append]; omega) | (simp; omega))) ?_
    refine axn 4 ?_
    have hnx := fil_next hget
    rw [hk.2, if_pos rfl] at hnx
    refine axn 5 ?_
    refine Ej.keep (Keeps.d Keeps.n) ?_
    refine Ej.round (j + 1) ⟨by omega, all_next hall hget hk.1⟩ (by omega) ⟨rfl, by rw [hnx]; rfl, rfl, trivial⟩ rfl rfl
   have h31 := ne_of_beq_false hc9
   refine axh (fun hg11 => ?_) (fun hg11 => ?_)
   ·
    have h39 := bne_iff_ne.1 hg11
    refine axc (fun hc12 hc12p => ?_) (fun hc12 hc12p => ?_)
    ·
     have h42 := bne_iff_ne.1 hc12
     have hout := rn_cut hall hget (bad_ok (by omega))
     rw [hout]
     have hnl := rn_len s
     have hnc := rn_chars s
     have hiN : Ke.isbn s = Ke.isbnN ((rn s).map Ke.up) := rfl
     have hml : ((rn s).map Ke.up).length = (rn s).length := List.length_map _
     refine axn 1 ?_
     refine Ej.blkOther rfl ?_
     refine axc (fun hc13 hc13p => ?_) (fun hc13 hc13p => ?_)
     ·
      have h10 : (rn s).length = 10 := by have h := eq_of_beq hc13; omega
      refine xpu (ten_ok (rn s) h10 hnc _) ?_
      refine ax0 (fun hc14 => ?_) (fun hc14 => ?_)
      ·
       have hrs : Ke.rightShort ((rn s).map Ke.up) = true := hc14
       have hd9 : Ke.digits ((rn s).take 9) = true := by rw [← digits_up (fun c hc => hnc c (List.mem_of_mem_take hc)), List.map_take]; exact (Bool.and_eq_true_iff.1 hrs).2
       have htk9 : ((rn s).map Ke.up).take 9 = (rn s).take 9 := by rw [← List.map_take, up_digits hd9]
       have hd12 := digits_12 (b := []) hd9 (by rw [List.length_take]; omega)
       rw [List.append_nil] at hd12
       refine axn 3 ?_
       refine J.z (yl_sliceStr (p := 0) (q := 9) rfl rfl underlying9 rfl ⟨_, rfl⟩ (by omega) (by omega)) ?_
       refine J.ev 50 (str ((rn s).take 9)) rfl (by rw [List.drop_zero]) ?_
       refine J.z (yl_cat rfl rfl rfl (by first | omega | (simp only [List.length_append]; omega) | (simp; omega))) ?_
       refine xpu (rCheck_ok _ (by simp; omega) (by simp; omega) hd12 _) ?_
       refine axn 1 ?_
       intro b15 hb15
       refine J.z (yl_toStr [Ke.check ([57, 55, 56] ++ (rn s).take 9)] rfl rfl rfl underlying192 underlying9 underlying5 (Blk.at 0 rfl) rfl) ?_
       refine J.z (yl_cat rfl rfl rfl (by first | omega | (simp only [List.length_append]; omega) | (simp; omega))) ?_
       refine axr ?_
       have he : Ke.isbn s = ([57, 55, 56] ++ (rn s).take 9 ++ [Ke.check ([57, 55, 56] ++ (rn s).take 9)], true) := by rw [hiN]; unfold Ke.isbnN; rw [if_pos ⟨hml.trans h10, hrs⟩, htk9]
       rw [he]
       exact ⟨rfl, rfl⟩
      have hno : ¬ (((rn s).map Ke.up).length = 10 ∧ Ke.rightShort ((rn s).map Ke.up) = true) := fun e => Bool.noConfusion (e.2.symm.trans hc14)
      refine xpu (rdigits_ok (rn s) (by omega) _) ?_
      refine axn 5 ?_
      refine Cj.drawSel [] [] 13 (by kernel_rfl) ?_
      refine axn 4 ?_
      refine JA.split 63 rfl (fun hg17 => ?_) (fun hg17 => ?_)
      rotate_left
      ·
       have hno2 : ¬ (((rn s).map Ke.up).length = 13 ∧ Ke.digits ((rn s).map Ke.up) = true ∧ Ke.check ((rn s).map Ke.up) = ((rn s).map Ke.up).getD 12 0) := fun e => ne_of_beq_false hg17 (by rw [← hml, e.1]; rfl)
       refine axe ?_
       have he : Ke.isbn s = ([], false) := by rw [hiN]; unfold Ke.isbnN; rw [if_neg hno, if_neg hno2]
       rw [he]
       exact ⟨rfl, rfl⟩
      have h13 : (rn s).length = 13 := by have h := eq_of_beq hg17; omega
      refine axn 3 ?_
      refine JA.split 66 rfl (fun hg18 => ?_) (fun hg18 => ?_)
      ·
       have hdg : Ke.digits (rn s) = true := hg18
       have hd13 : Ke.digits ((rn s).take 12) = true := List.all_eq_true.2 fun c hc => List.all_eq_true.1 hdg c (List.mem_of_mem_take hc)
       obtain ⟨d, hg12⟩ : ∃ c, (rn s)[12]? = some c := ⟨_, List.getElem?_eq_getElem (by omega)⟩
       have hgd : ((rn s).map Ke.up).getD 12 0 = d := by rw [up_digits hdg, List.getD, hg12]; rfl
       refine axn 2 ?_
       refine JA.fix fxA (fun fx16 => ?_)
       refine JA.tkG 10 6 66 true _ rfl fx16 rfl rfl hg18 (q4 underlying9 hg12) ?_
       refine xpu (rCheck_ok (rn s) (by omega) (by omega) hd13 _) ?_
       refine axc (fun hc20 hc20p => ?_) (fun hc20 hc20p => ?_)
       ·
        have hck : Ke.check ((rn s).map Ke.up) = ((rn s).map Ke.up).getD 12 0 := by have h := eq_of_beq hc20; rw [hgd, up_digits hdg]; exact UInt8.toNat_inj.1 (by omega)
        refine axe ?_
        have he : Ke.isbn s = (rn s, true) := by rw [hiN]; unfold Ke.isbnN; rw [if_neg hno, if_pos ⟨hml.trans h13, (digits_up hnc).trans hdg, hck⟩, up_digits hdg]
        rw [he]
        exact ⟨rfl, rfl⟩
       ·
        have hno2 : ¬ (((rn s).map Ke.up).length = 13 ∧ Ke.digits ((rn s).map Ke.up) = true ∧ Ke.check ((rn s).map Ke.up) = ((rn s).map Ke.up).getD 12 0) := fun e => ne_of_beq_false hc20 (by have h := e.2.2; rw [hgd, up_digits hdg] at h; rw [h])
        refine axe ?_
        have he : Ke.isbn s = ([], false) := by rw [hiN]; unfold Ke.isbnN; rw [if_neg hno, if_neg hno2]
        rw [he]
        exact ⟨rfl, rfl⟩
      ·
       have hno2 : ¬ (((rn s).map Ke.up).length = 13 ∧ Ke.digits ((rn s).map Ke.up) = true ∧ Ke.check ((rn s).map Ke.up) = ((rn s).map Ke.up).getD 12 0) := fun e => Bool.noConfusion (((digits_up hnc).symm.trans e.2.1).symm.trans hg18)
       refine axe ?_
       have he : Ke.isbn s = ([], false) := by rw [hiN]; unfold Ke.isbnN; rw [if_neg hno, if_neg hno2]
       rw [he]
       exact ⟨rfl, rfl⟩
     have hno : ¬ (((rn s).map Ke.up).length = 10 ∧ Ke.rightShort ((rn s).map Ke.up) = true) := fun e => ne_of_beq_false hc13 (by rw [← hml, e.1]; rfl)
     refine xpu (rdigits_ok (rn s) (by omega) _) ?_
     refine axn 5 ?_
     refine Cj.drawSel [] [] 13 (by kernel_rfl) ?_
     refine axn 4 ?_
     refine JA.split 63 rfl (fun hg24 => ?_) (fun hg24 => ?_)
     rotate_left
     ·
      have hno2 : ¬ (((rn s).map Ke.up).length = 13 ∧ Ke.digits ((rn s).map Ke.up) = true ∧ Ke.check ((rn s).map Ke.up) = ((rn s).map Ke.up).getD 12 0) := fun e => ne_of_beq_false hg24 (by rw [← hml, e.1]; rfl)
      refine axe ?_
      have he : Ke.isbn s = ([], false) := by rw [hiN]; unfold Ke.isbnN; rw [if_neg hno, if_neg hno2]
      rw [he]
      exact ⟨rfl, rfl⟩
     have h13 : (rn s).length = 13 := by have h := eq_of_beq hg24; omega
     refine axn 3 ?_
     refine JA.split 66 rfl (fun hg25 => ?_) (fun hg25 => ?_)
     ·
      have hdg : Ke.digits (rn s) = true := hg25
      have hd13 : Ke.digits ((rn s).take 12) = true := List.all_eq_true.2 fun c hc => List.all_eq_true.1 hdg c (List.mem_of_mem_take hc)
      obtain ⟨d, hg12⟩ : ∃ c, (rn s)[12]? = some c := ⟨_, List.getElem?_eq_getElem (by omega)⟩
      have hgd : ((rn s).map Ke.up).getD 12 0 = d := by rw [up_digits hdg, List.getD, hg12]; rfl
      refine axn 2 ?_
      refine JA.fix fxA (fun fx23 => ?_)
      refine JA.tkG 10 6 66 true _ rfl fx23 rfl rfl hg25 (q4 underlying9 hg12) ?_
      refine xpu (rCheck_ok (rn s) (by omega) (by omega) hd13 _) ?_
      refine axc (fun hc27 hc27p => ?_) (fun hc27 hc27p => ?_)
      ·
       have hck : Ke.check ((rn s).map Ke.up) = ((rn s).map Ke.up).getD 12 0 := by have h := eq_of_beq hc27; rw [hgd, up_digits hdg]; exact UInt8.toNat_inj.1 (by omega)
       refine axe ?_
       have he : Ke.isbn s = (rn s, true) := by rw [hiN]; unfold Ke.isbnN; rw [if_neg hno, if_pos ⟨hml.trans h13, (digits_up hnc).trans hdg, hck⟩, up_digits hdg]
       rw [he]
       exact ⟨rfl, rfl⟩
      ·
       have hno2 : ¬ (((rn s).map Ke.up).length = 13 ∧ Ke.digits ((rn s).map Ke.up) = true ∧ Ke.check ((rn s).map Ke.up) = ((rn s).map Ke.up).getD 12 0) := fun e => ne_of_beq_false hc27 (by have h := e.2.2; rw [hgd, up_digits hdg] at h; rw [h])
       refine axe ?_
       have he : Ke.isbn s = ([], false) := by rw [hiN]; unfold Ke.isbnN; rw [if_neg hno, if_neg hno2]
       rw [he]
       exact ⟨rfl, rfl⟩
     ·
      have hno2 : ¬ (((rn s).map Ke.up).length = 13 ∧ Ke.digits ((rn s).map Ke.up) = true ∧ Ke.check ((rn s).map Ke.up) = ((rn s).map Ke.up).getD 12 0) := fun e => Bool.noConfusion (((digits_up hnc).symm.trans e.2.1).symm.trans hg25)
      refine axe ?_
      have he : Ke.isbn s = ([], false) := by rw [hiN]; unfold Ke.isbnN; rw [if_neg hno, if_neg hno2]
      rw [he]
      exact ⟨rfl, rfl⟩
    have h42 : (c.toNat : Int) = 45 := by have h := hc12; rw [bne_eq_false_iff_eq] at h; exact h
    refine axn 3 ?_
    have hk := sp_ok (c := c) (by omega)
    have hnx := fil_next hget
    rw [hk.2, if_neg (by decide), List.append_nil] at hnx
    refine axn 5 ?_
    refine Ej.round (j + 1) ⟨by omega, all_next hall hget hk.1⟩ (by omega) ⟨rfl, by rw [hnx]; rfl, rfl, trivial⟩ rfl rfl
   have h39 : (c.toNat : Int) = 32 := by have h := hg11; rw [bne_eq_false_iff_eq] at h; exact h
   refine axn 9 ?_
   have hk := sp_ok (c := c) (by omega)
   have hnx := fil_next hget
   rw [hk.2, if_neg (by decide), List.append_nil] at hnx
   refine axn 5 ?_
   refine Ej.round (j + 1) ⟨by omega, all_next hall hget hk.1⟩ (by omega) ⟨rfl, by rw [hnx]; rfl, rfl, trivial⟩ rfl rfl
  have h20 := of_decide_eq_false hg2
  refine axh (fun hg31 => ?_) (fun hg31 => ?_)
  ·
   have h28 := eq_of_beq hg31
   refine axn 6 ?_
   have hk := ch_ok (c := c) (by omega)
   refine axn 4 ?_
   intro b33 hb33
   refine J.z (yl_toStr [c] rfl rfl rfl underlying192 underlying9 underlying5 (Blk.at 0 rfl) rfl) ?_
   refine J.z (yl_cat rfl rfl rfl (by first | omega | (simp only [List.length_append]; omega) | (simp; omega))) ?_
   refine axn 4 ?_
   have hnx := fil_next hget
   rw [hk.2, if_pos rfl] at hnx
   refine axn 5 ?_
   refine Ej.keep (Keeps.d Keeps.n) ?_
   refine Ej.round (j + 1) ⟨by omega, all_next hall hget hk.1⟩ (by omega) ⟨rfl, by rw [hnx]; rfl, rfl, trivial⟩ rfl rfl
  have h28 := ne_of_beq_false hg31
  refine axc (fun hc34 hc34p => ?_) (fun hc34 hc34p => ?_)
  ·
   have h31 := eq_of_beq hc34
   have hk := ch_ok (c := c) (by omega)
   refine axn 4 ?_
   intro b35 hb35
   refine J.z (yl_toStr [c] rfl rfl rfl underlying192 underlying9 underlying5 (Blk.at 0 rfl) rfl) ?_
   refine J.z (yl_cat rfl rfl rfl (by first | omega | (simp only [List.length_append]; omega) | (simp; omega))) ?_
   refine axn 4 ?_
   have hnx := fil_next hget
   rw [hk.2, if_pos rfl] at hnx
   refine axn 5 ?_
   refine Ej.keep (Keeps.d Keeps.n) ?_
   refine Ej.round (j + 1) ⟨by omega, all_next hall hget hk.1⟩ (by omega) ⟨rfl, by rw [hnx]; rfl, rfl, trivial⟩ rfl rfl
  have h31 := ne_of_beq_false hc34
  refine axh (fun hg36 => ?_) (fun hg36 => ?_)
  ·
   have h39 := bne_iff_ne.1 hg36
   refine axc (fun hc37 hc37p => ?_) (fun hc37 hc37p => ?_)
   ·
    have h42 := bne_iff_ne.1 hc37
    have hout := rn_cut hall hget (bad_ok (by omega))
    rw [hout]
    have hnl := rn_len s
    have hnc := rn_chars s
    have hiN : Ke.isbn s = Ke.isbnN ((rn s).map Ke.up) := rfl
    have hml : ((rn s).map Ke.up).length = (rn s).length := List.length_map _
    refine axn 1 ?_
    refine Ej.blkOther rfl ?_
    refine axc (fun hc38 hc38p => ?_) (fun hc38 hc38p => ?_)
    ·
     have h10 : (rn s).length = 10 := by have h := eq_of_beq hc38; omega
     refine xpu (ten_ok (rn s) h10 hnc _) ?_
     refine ax0 (fun hc39 => ?_) (fun hc39 => ?_)
     ·
      have hrs : Ke.rightShort ((rn s).map Ke.up) = true := hc39
      have hd9 : Ke.digits ((rn s).take 9) = true := by rw [← digits_up (fun c hc => hnc c (List.mem_of_mem_take hc)), List.map_take]; exact (Bool.and_eq_true_iff.1 hrs).2
      have htk9 : ((rn s).map Ke.up).take 9 = (rn s).take 9 := by rw [← List.map_take, up_digits hd9]
      have hd12 := digits_12 (b := []) hd9 (by rw [List.length_take]; omega)
      rw [List.append_nil] at hd12
      refine axn 3 ?_
      refine J.z (yl_sliceStr (p := 0) (q := 9) rfl rfl underlying9 rfl ⟨_, rfl⟩ (by omega) (by omega)) ?_
      refine J.ev 50 (str ((rn s).take 9)) rfl (by rw [List.drop_zero]) ?_
      refine J.z (yl_cat rfl rfl rfl (by first | omega | (simp only [List.length_append]; omega) | (simp; omega))) ?_
      refine xpu (rCheck_ok _ (by simp; omega) (by simp; omega) hd12 _) ?_
      refine axn 1 ?_
      intro b40 hb40
      refine J.z (yl_toStr [Ke.check ([57, 55, 56] ++ (rn s).take 9)] rfl rfl rfl underlying192 underlying9 underlying5 (Blk.at 0 rfl) rfl) ?_
      refine J.z (yl_cat rfl rfl rfl (by first | omega | (simp only [List.length_append]; omega) | (simp; omega))) ?_
      refine axr ?_
      have he : Ke.isbn s = ([57, 55, 56] ++ (rn s).take 9 ++ [Ke.check ([57, 55, 56] ++ (rn s).take 9)], true) := by rw [hiN]; unfold Ke.isbnN; rw [if_pos ⟨hml.trans h10, hrs⟩, htk9]
      rw [he]
      exact ⟨rfl, rfl⟩
     have hno : ¬ (((rn s).map Ke.up).length = 10 ∧ Ke.rightShort ((rn s).map Ke.up) = true) := fun e => Bool.noConfusion (e.2.symm.trans hc39)
     refine xpu (rdigits_ok (rn s) (by omega) _) ?_
     refine axn 5 ?_
     refine Cj.drawSel [] [] 13 (by kernel_rfl) ?_
     refine axn 4 ?_
     refine JA.split 63 rfl (fun hg42 => ?_) (fun hg42 => ?_)
     rotate_left
     ·
      have hno2 : ¬ (((rn s).map Ke.up).length = 13 ∧ Ke.digits ((rn s).map Ke.up) = true ∧ Ke.check ((rn s).map Ke.up) = ((rn s).map Ke.up).getD 12 0) := fun e => ne_of_beq_false hg42 (by rw [← hml, e.1]; rfl)
      refine axe ?_
      have he : Ke.isbn s = ([], false) := by rw [hiN]; unfold Ke.isbnN; rw [if_neg hno, if_neg hno2]
      rw [he]
      exact ⟨rfl, rfl⟩
     have h13 : (rn s).length = 13 := by have h := eq_of_beq hg42; omega
     refine axn 3 ?_
     refine JA.split 66 rfl (fun hg43 => ?_) (fun hg43 => ?_)
     ·
      have hdg : Ke.digits (rn s) = true := hg43
      have hd13 : Ke.digits ((rn s).take 12) = true := List.all_eq_true.2 fun c hc => List.all_eq_true.1 hdg c (List.mem_of_mem_take hc)
      obtain ⟨d, hg12⟩ : ∃ c, (rn s)[12]? = some c := ⟨_, List.getElem?_eq_getElem (by omega)⟩
      have hgd : ((rn s).map Ke.up).getD 12 0 = d := by rw [up_digits hdg, List.getD, hg12]; rfl
      refine axn 2 ?_
      refine JA.fix fxA (fun fx41 => ?_)
      refine JA.tkG 10 6 66 true _ rfl fx41 rfl rfl hg43 (q4 underlying9 hg12) ?_
      refine xpu (rCheck_ok (rn s) (by omega) (by omega) hd13 _) ?_
      refine axc (fun hc45 hc45p => ?_) (fun hc45 hc45p => ?_)
      ·
       have hck : Ke.check ((rn s).map Ke.up) = ((rn s).map Ke.up).getD 12 0 := by have h := eq_of_beq hc45; rw [hgd, up_digits hdg]; exact UInt8.toNat_inj.1 (by omega)
       refine axe ?_
       have he : Ke.isbn s = (rn s, true) := by rw [hiN]; unfold Ke.isbnN; rw [if_neg hno, if_pos ⟨hml.trans h13, (digits_up hnc).trans hdg, hck⟩, up_digits hdg]
       rw [he]
       exact ⟨rfl, rfl⟩
      ·
       have hno2 : ¬ (((rn s).map Ke.up).length = 13 ∧ Ke.digits ((rn s).map Ke.up) = true ∧ Ke.check ((rn s).map Ke.up) = ((rn s).map Ke.up).getD 12 0) := fun e => ne_of_beq_false hc45 (by have h := e.2.2; rw [hgd, up_digits hdg] at h; rw [h])
       refine axe ?_
       have he : Ke.isbn s = ([], false) := by rw [hiN]; unfold Ke.isbnN; rw [if_neg hno, if_neg hno2]
       rw [he]
       exact ⟨rfl, rfl⟩
     ·
      have hno2 : ¬ (((rn s).map Ke.up).length = 13 ∧ Ke.digits ((rn s).map Ke.up) = true ∧ Ke.check ((rn s).map Ke.up) = ((rn s).map Ke.up).getD 12 0) := fun e => Bool.noConfusion (((digits_up hnc).symm.trans e.2.1).symm.trans hg43)
      refine axe ?_
      have he : Ke.isbn s = ([], false) := by rw [hiN]; unfold Ke.isbnN; rw [if_neg hno, if_neg hno2]
      rw [he]
      exact ⟨rfl, rfl⟩
    have hno : ¬ (((rn s).map Ke.up).length = 10 ∧ Ke.rightShort ((rn s).map Ke.up) = true) := fun e => ne_of_beq_false hc38 (by rw [← hml, e.1]; rfl)
    refine xpu (rdigits_ok (rn s) (by omega) _) ?_
    refine axn 5 ?_
    refine Cj.drawSel [] [] 13 (by kernel_rfl) ?_
    refine axn 4 ?_
    refine JA.split 63 rfl (fun hg49 => ?_) (fun hg49 => ?_)
    rotate_left
    ·
     have hno2 : ¬ (((rn s).map Ke.up).length = 13 ∧ Ke.digits ((rn s).map Ke.up) = true ∧ Ke.check ((rn s).map Ke.up) = ((rn s).map Ke.up).getD 12 0) := fun e => ne_of_beq_false hg49 (by rw [← hml, e.1]; rfl)
     refine axe ?_
     have he : Ke.isbn s = ([], false) := by rw [hiN]; unfold Ke.isbnN; rw [if_neg hno, if_neg hno2]
     rw [he]
     exact ⟨rfl, rfl⟩
    have h13 : (rn s).length = 13 := by have h := eq_of_beq hg49; omega
    refine axn 3 ?_
    refine JA.split 66 rfl (fun hg50 => ?_) (fun hg50 => ?_)
    ·
     have hdg : Ke.digits (rn s) = true := hg50
     have hd13 : Ke.digits ((rn s).take 12) = true := List.all_eq_true.2 fun c hc => List.all_eq_true.1 hdg c (List.mem_of_mem_take hc)
     obtain ⟨d, hg12⟩ : ∃ c, (rn s)[12]? = some c := ⟨_, List.getElem?_eq_getElem (by omega)⟩
     have hgd : ((rn s).map Ke.up).getD 12 0 = d := by rw [up_digits hdg, List.getD, hg12]; rfl
     refine axn 2 ?_
     refine JA.fix fxA (fun fx48 => ?_)
     refine JA.tkG 10 6 66 true _ rfl fx48 rfl rfl hg50 (q4 underlying9 hg12) ?_
     refine xpu (rCheck_ok (rn s) (by omega) (by omega) hd13 _) ?_
     refine axc (fun hc52 hc52p => ?_) (fun hc52 hc52p => ?_)
     ·
      have hck : Ke.check ((rn s).map Ke.up) = ((rn s).map Ke.up).getD 12 0 := by have h := eq_of_beq hc52; rw [hgd, up_digits hdg]; exact UInt8.toNat_inj.1 (by omega)
      refine axe ?_
      have he : Ke.isbn s = (rn s, true) := by rw [hiN]; unfold Ke.isbnN; rw [if_neg hno, if_pos ⟨hml.trans h13, (digits_up hnc).trans hdg, hck⟩, up_digits hdg]
      rw [he]
      exact ⟨rfl, rfl⟩
     ·
      have hno2 : ¬ (((rn s).map Ke.up).length = 13 ∧ Ke.digits ((rn s).map Ke.up) = true ∧ Ke.check ((rn s).map Ke.up) = ((rn s).map Ke.up).getD 12 0) := fun e => ne_of_beq_false hc52 (by have h := e.2.2; rw [hgd, up_digits hdg] at h; rw [h])
      refine axe ?_
      have he : Ke.isbn s = ([], false) := by rw [hiN]; unfold Ke.isbnN; rw [if_neg hno, if_neg hno2]
      rw [he]
      exact ⟨rfl, rfl⟩
    ·
     have hno2 : ¬ (((rn s).map Ke.up).length = 13 ∧ Ke.digits ((rn s).map Ke.up) = true ∧ Ke.check ((rn s).map Ke.up) = ((rn s).map Ke.up).getD 12 0) := fun e => Bool.noConfusion (((digits_up hnc).symm.trans e.2.1).symm.trans hg50)
     refine axe ?_
     have he : Ke.isbn s = ([], false) := by rw [hiN]; unfold Ke.isbnN; rw [if_neg hno, if_neg hno2]
     rw [he]
     exact ⟨rfl, rfl⟩
   have h42 : (c.toNat : Int) = 45 := by have h := hc37; rw [bne_eq_false_iff_eq] at h; exact h
   refine axn 3 ?_
   have hk := sp_ok (c := c) (by omega)
   have hnx := fil_next hget
   rw [hk.2, if_neg (by decide), List.append_nil] at hnx
   refine axn 5 ?_
   refine Ej.round (j + 1) ⟨by omega, all_next hall hget hk.1⟩ (by omega) ⟨rfl, by rw [hnx]; rfl, rfl, trivial⟩ rfl rfl
  have h39 : (c.toNat : Int) = 32 := by have h := hg36; rw [bne_eq_false_iff_eq] at h; exact h
  refine axn 9 ?_
  have hk := sp_ok (c := c) (by omega)
  have hnx := fil_next hget
  rw [hk.2, if_neg (by decide), List.append_nil] at hnx
  refine axn 5 ?_
  refine Ej.round (j + 1) ⟨by omega, all_next hall hget hk.1⟩ (by omega) ⟨rfl, by rw [hnx]; rfl, rfl, trivial⟩ rfl rfl
 have hout := rn_full (s := s) (j := j) (by omega) hall
 rw [hout]
 have hnl := rn_len s
 have hnc := rn_chars s
 have hiN : Ke.isbn s = Ke.isbnN ((rn s).map Ke.up) := rfl
 have hml : ((rn s).map Ke.up).length = (rn s).length := List.length_map _
 refine axc (fun hc56 hc56p => ?_) (fun hc56 hc56p => ?_)
 ·
  have h10 : (rn s).length = 10 := by have h := eq_of_beq hc56; omega
  refine xpu (ten_ok (rn s) h10 hnc _) ?_
  refine ax0 (fun hc57 => ?_) (fun hc57 => ?_)
  ·
   have hrs : Ke.rightShort ((rn s).map Ke.up) = true := hc57
   have hd9 : Ke.digits ((rn s).take 9) = true := by rw [← digits_up (fun c hc => hnc c (List.mem_of_mem_take hc)), List.map_take]; exact (Bool.and_eq_true_iff.1 hrs).2
   have htk9 : ((rn s).map Ke.up).take 9 = (rn s).take 9 := by rw [← List.map_take, up_digits hd9]
   have hd12 := digits_12 (b := []) hd9 (by rw [List.length_take]; omega)
   rw [List.append_nil] at hd12
   refine axn 3 ?_
   refine J.z (yl_sliceStr (p := 0) (q := 9) rfl rfl underlying9 rfl ⟨_, rfl⟩ (by omega) (by omega)) ?_
   refine J.ev 50 (str ((rn s).take 9)) rfl (by rw [List.drop_zero]) ?_
   refine J.z (yl_cat rfl rfl rfl (by first | omega | (simp only [List.length_append]; omega) | (simp; omega))) ?_
   refine xpu (rCheck_ok _ (by simp; omega) (by simp; omega) hd12 _) ?_
   refine axn 1 ?_
   intro b58 hb58
   refine J.z (yl_toStr [Ke.check ([57, 55, 56] ++ (rn s).take 9)] rfl rfl rfl underlying192 underlying9 underlying5 (Blk.at 0 rfl) rfl) ?_
   refine J.z (yl_cat rfl rfl rfl (by first | omega | (simp only [List.length_append]; omega) | (simp; omega))) ?_
   refine axr ?_
   have he : Ke.isbn s = ([57, 55, 56] ++ (rn s).take 9 ++ [Ke.check ([57, 55, 56] ++ (rn s).take 9)], true) := by rw [hiN]; unfold Ke.isbnN; rw [if_pos ⟨hml.trans h10, hrs⟩, htk9]
   rw [he]
   exact ⟨rfl, rfl⟩
  have hno : ¬ (((rn s).map Ke.up).length = 10 ∧ Ke.rightShort ((rn s).map Ke.up) = true) := fun e => Bool.noConfusion (e.2.symm.trans hc57)
  refine xpu (rdigits_ok (rn s) (by omega) _) ?_
  refine axn 5 ?_
  refine Cj.drawSel [] [] 13 (by kernel_rfl) ?_
  refine axn 4 ?_
  refine JA.split 63 rfl (fun hg60 => ?_) (fun hg60 => ?_)
  rotate_left
  ·
   have hno2 : ¬ (((rn s).map Ke.up).length = 13 ∧ Ke.digits ((rn s).map Ke.up) = true ∧ Ke.check ((rn s).map Ke.up) = ((rn s).map Ke.up).getD 12 0) := fun e => ne_of_beq_false hg60 (by rw [← hml, e.1]; rfl)
   refine axe ?_
   have he : Ke.isbn s = ([], false) := by rw [hiN]; unfold Ke.isbnN; rw [if_neg hno, if_neg hno2]
   rw [he]
   exact ⟨rfl, rfl⟩
  have h13 : (rn s).length = 13 := by have h := eq_of_beq hg60; omega
  refine axn 3 ?_
  refine JA.split 66 rfl (fun hg61 => ?_) (fun hg61 => ?_)
  ·
   have hdg : Ke.digits (rn s) = true := hg61
   have hd13 : Ke.digits ((rn s).take 12) = true := List.all_eq_true.2 fun c hc => List.all_eq_true.1 hdg c (List.mem_of_mem_take hc)
   obtain ⟨d, hg12⟩ : ∃ c, (rn s)[12]? = some c := ⟨_, List.getElem?_eq_getElem (by omega)⟩
   have hgd : ((rn s).map Ke.up).getD 12 0 = d := by rw [up_digits hdg, List.getD, hg12]; rfl
   refine axn 2 ?_
   refine JA.fix fxA (fun fx59 => ?_)
   refine JA.tkG 10 6 66 true _ rfl fx59 rfl rfl hg61 (q4 underlying9 hg12) ?_
   refine xpu (rCheck_ok (rn s) (by omega) (by omega) hd13 _) ?_
   refine axc (fun hc63 hc63p => ?_) (fun hc63 hc63p => ?_)
   ·
    have hck : Ke.check ((rn s).map Ke.up) = ((rn s).map Ke.up).getD 12 0 := by have h := eq_of_beq hc63; rw [hgd, up_digits hdg]; exact UInt8.toNat_inj.1 (by omega)
    refine axe ?_
    have he : Ke.isbn s = (rn s, true) := by rw [hiN]; unfold Ke.isbnN; rw [if_neg hno, if_pos ⟨hml.trans h13, (digits_up hnc).trans hdg, hck⟩, up_digits hdg]
    rw [he]
    exact ⟨rfl, rfl⟩
   ·
    have hno2 : ¬ (((rn s).map Ke.up).length = 13 ∧ Ke.digits ((rn s).map Ke.up) = true ∧ Ke.check ((rn s).map Ke.up) = ((rn s).map Ke.up).getD 12 0) := fun e => ne_of_beq_false hc63 (by have h := e.2.2; rw [hgd, up_digits hdg] at h; rw [h])
    refine axe ?_
    have he : Ke.isbn s = ([], false) := by rw [hiN]; unfold Ke.isbnN; rw [if_neg hno, if_neg hno2]
    rw [he]
    exact ⟨rfl, rfl⟩
  ·
   have hno2 : ¬ (((rn s).map Ke.up).length = 13 ∧ Ke.digits ((rn s).map Ke.up) = true ∧ Ke.check ((rn s).map Ke.up) = ((rn s).map Ke.up).getD 12 0) := fun e => Bool.noConfusion (((digits_up hnc).symm.trans e.2.1).symm.trans hg61)
   refine axe ?_
   have he : Ke.isbn s = ([], false) := by rw [hiN]; unfold Ke.isbnN; rw [if_neg hno, if_neg hno2]
   rw [he]
   exact ⟨rfl, rfl⟩
 have hno : ¬ (((rn s).map Ke.up).length = 10 ∧ Ke.rightShort ((rn s).map Ke.up) = true) := fun e => ne_of_beq_false hc56 (by rw [← hml, e.1]; rfl)
 refine xpu (rdigits_ok (rn s) (by omega) _) ?_
 refine axn 5 ?_
 refine Cj.drawSel [] [] 13 (by kernel_rfl) ?_
 refine axn 4 ?_
 refine JA.split 63 rfl (fun hg67 => ?_) (fun hg67 => ?_)
 rotate_left
 ·
  have hno2 : ¬ (((rn s).map Ke.up).length = 13 ∧ Ke.digits ((rn s).map Ke.up) = true ∧ Ke.check ((rn s).map Ke.up) = ((rn s).map Ke.up).getD 12 0) := fun e => ne_of_beq_false hg67 (by rw [← hml, e.1]; rfl)
  refine axe ?_
  have he : Ke.isbn s = ([], false) := by rw [hiN]; unfold Ke.isbnN; rw [if_neg hno, if_neg hno2]
  rw [he]
  exact ⟨rfl, rfl⟩
 have h13 : (rn s).length = 13 := by have h := eq_of_beq hg67; omega
 refine axn 3 ?_
 refine JA.split 66 rfl (fun hg68 => ?_) (fun hg68 => ?_)
 ·
  have hdg : Ke.digits (rn s) = true := hg68
  have hd13 : Ke.digits ((rn s).take 12) = true := List.all_eq_true.2 fun c hc => List.all_eq_true.1 hdg c (List.mem_of_mem_take hc)
  obtain ⟨d, hg12⟩ : ∃ c, (rn s)[12]? = some c := ⟨_, List.getElem?_eq_getElem (by omega)⟩
  have hgd : ((rn s).map Ke.up).getD 12 0 = d := by rw [up_digits hdg, List.getD, hg12]; rfl
  refine axn 2 ?_
  refine JA.fix fxA (fun fx66 => ?_)
  refine JA.tkG 10 6 66 true _ rfl fx66 rfl rfl hg68 (q4 underlying9 hg12) ?_
  refine xpu (rCheck_ok (rn s) (by omega) (by omega) hd13 _) ?_
  refine axc (fun hc70 hc70p => ?_) (fun hc70 hc70p => ?_)
  ·
   have hck : Ke.check ((rn s).map Ke.up) = ((rn s).map Ke.up).getD 12 0 := by have h := eq_of_beq hc70; rw [hgd, up_digits hdg]; exact UInt8.toNat_inj.1 (by omega)
   refine axe ?_
   have he : Ke.isbn s = (rn s, true) := by rw [hiN]; unfold Ke.isbnN; rw [if_neg hno, if_pos ⟨hml.trans h13, (digits_up hnc).trans hdg, hck⟩, up_digits hdg]
   rw [he]
   exact ⟨rfl, rfl⟩
  ·
   have hno2 : ¬ (((rn s).map Ke.up).length = 13 ∧ Ke.digits ((rn s).map Ke.up) = true ∧ Ke.check ((rn s).map Ke.up) = ((rn s).map Ke.up).getD 12 0) := fun e => ne_of_beq_false hc70 (by have h := e.2.2; rw [hgd, up_digits hdg] at h; rw [h])
   refine axe ?_
   have he : Ke.isbn s = ([], false) := by rw [hiN]; unfold Ke.isbnN; rw [if_neg hno, if_neg hno2]
   rw [he]
   exact ⟨rfl, rfl⟩
 ·
  have hno2 : ¬ (((rn s).map Ke.up).length = 13 ∧ Ke.digits ((rn s).map Ke.up) = true ∧ Ke.check ((rn s).map Ke.up) = ((rn s).map Ke.up).getD 12 0) := fun e => Bool.noConfusion (((digits_up hnc).symm.trans e.2.1).symm.trans hg68)
  refine axe ?_
  have he : Ke.isbn s = ([], false) := by rw [hiN]; unfold Ke.isbnN; rw [if_neg hno, if_neg hno2]
  rw [he]
  exact ⟨rfl, rfl⟩
end Go.Proofs.YtekmeaoblpfnpaaGreatDoor
end
section
namespace Ke
open Go.Lib (decodeL decodeN)
def opens (t : Bs) : Prop := t = [] ∨ ∃ b r, t = b :: r ∧ b.toNat / 64 ≠ 2
theorem opens_cons {b : UInt8} {r : Bs} (h : b.toNat / 64 ≠ 2) : opens (b :: r) := .inr ⟨b, r, rfl, h⟩
theorem opens_nil : opens [] := .inl rfl
theorem opens_app {s t : Bs} (h : opens s) (hs : s ≠ []) : opens (s ++ t) := by
  rcases h with h | ⟨b, r, rfl, h⟩
  · exact absurd h hs
  exact .inr ⟨b, r ++ t, rfl, h⟩
theorem opens_app' {s t : Bs} (h : opens s) (ht : opens t) : opens (s ++ t) := by grind [opens_app]
theorem decodeL_app (l t : Bs) (hl : l ≠ []) (ht : opens t) : decodeL (l ++ t) = decodeL l := by
  rw [Go.Lib.decodeL_N, Go.Lib.decodeL_N]
  rcases ht with rfl | ⟨b, r, rfl, hb⟩
  · rw [List.append_nil]
  rcases l with _ | ⟨a0, _ | ⟨a1, _ | ⟨a2, _ | ⟨a3, l⟩⟩⟩⟩
  · exact absurd rfl hl
  all_goals
    simp only [List.cons_append, List.nil_append, List.length_cons, List.length_nil, List.length_append, List.getD_cons_zero, List.getD_cons_succ, List.getD_nil]
    unfold decodeN
    first
      | (have e1 : (0 + 1 < 0 + 1) = False := by simp
         simp [hb, Nat.lt_irrefl])
      | (simp [hb, Nat.lt_irrefl]; done)
      | skip
theorem runes_app_n : ∀ (n : Nat) (s t : Bs), s.length ≤ n → opens t → runes (s ++ t) = runes s ++ runes t
  | _, [], t, _, _ => by simp [runes_nil]
  | 0, a :: r, t, h, _ => by simp at h
  | n + 1, a :: r, t, h, ht => by
    have hne : a :: r ≠ [] := by simp
    have hw := Go.Lib.decodeL_width (a :: r)
    have hl := Go.Lib.decodeL_le (a :: r) hne
    rw [runes_cons (s := (a :: r) ++ t) (by simp), runes_cons hne, decodeL_app _ _ hne ht, List.drop_append_of_le_length hl, runes_app_n n _ t (by simp only [List.length_drop]; simp only [List.length_cons] at h; simp only [List.length_cons]; omega) ht]
    rfl
theorem runes_app (s t : Bs) (h : opens t) : runes (s ++ t) = runes s ++ runes t := runes_app_n _ s t (Nat.le_refl _) h
theorem runes_ascii {c : UInt8} (r : Bs) (h : c.toNat < 128) : runes (c :: r) = c.toNat :: runes r := by
  rw [runes_cons (by simp), Go.Lib.decodeL_ascii c r h]; rfl
theorem toByte {n : Nat} (h : n < 256) : (UInt8.ofNat n).toNat = n := by simp; omega
theorem enc1 {c : Nat} (h : c < 128) : enc c = [UInt8.ofNat c] := by
  unfold enc; rw [if_pos h]
theorem enc2 {c : Nat} (h1 : 128 ≤ c) (h : c < 2048) : enc c = [UInt8.ofNat (192 + c / 64), UInt8.ofNat (128 + c % 64)] := by
  unfold enc; rw [if_neg (by omega), if_pos h]
theorem enc3 {c : Nat} (h1 : 2048 ≤ c) (h : okc c) : enc c = [UInt8.ofNat (224 + c / 4096), UInt8.ofNat (128 + c / 64 % 64), UInt8.ofNat (128 + c % 64)] := by grind [okc, enc]
theorem enc_opens {c : Nat} (h : okc c) : opens (enc c) ∧ enc c ≠ [] := by
  by_cases h1 : c < 128
  · rw [enc1 h1]; exact ⟨opens_cons (by rw [toByte (by omega)]; omega), by simp⟩
  by_cases h2 : c < 2048
  · rw [enc2 (by omega) h2]; exact ⟨opens_cons (by rw [toByte (by omega)]; omega), by simp⟩
  rw [enc3 (by omega) h]; unfold okc at h; exact ⟨opens_cons (by rw [toByte (by omega)]; omega), by simp⟩
theorem decodeL_enc {c : Nat} (h : okc c) : decodeL (enc c) = (c, (enc c).length) := by
  rw [Go.Lib.decodeL_N]
  by_cases h1 : c < 128
  · rw [enc1 h1]
    simp only [List.length_cons, List.length_nil, List.getD_cons_zero, List.getD_cons_succ, List.getD_nil]
    rw [toByte (by omega)]
    unfold decodeN
    rw [if_pos h1]
  by_cases h2 : c < 2048
  · rw [enc2 (by omega) h2]
    simp only [List.length_cons, List.length_nil, List.getD_cons_zero, List.getD_cons_succ, List.getD_nil]
    rw [toByte (by omega), toByte (by omega)]
    unfold decodeN
    rw [if_neg (by omega), if_pos ⟨by omega, by omega, by omega⟩, if_pos (by omega)]
    refine Prod.ext ?_ rfl
    show _ = c
    simp only
    omega
  rw [enc3 (by omega) h]
  unfold okc at h
  simp only [List.length_cons, List.length_nil, List.getD_cons_zero, List.getD_cons_succ, List.getD_nil]
  rw [toByte (by omega), toByte (by omega), toByte (by omega)]
  unfold decodeN
  rw [if_neg (by omega), if_neg (by omega), if_pos ⟨by omega, ⟨by omega, by omega⟩, by omega, by omega⟩, if_pos ⟨by omega, by omega⟩]
  refine Prod.ext ?_ rfl
  show _ = c
  simp only
  omega
theorem runes_enc {c : Nat} (h : okc c) : runes (enc c) = [c] := by
  rw [runes_cons (enc_opens h).2, decodeL_enc h, List.drop_eq_nil_of_le (Nat.le_refl _)]; rfl
def encs (l : List Nat) : Bs := l.flatMap enc
theorem encs_opens : ∀ (l : List Nat), (∀ c ∈ l, okc c) → opens (encs l)
  | [], _ => opens_nil
  | c :: _r, h => opens_app (enc_opens (h c (.head _))).1 (enc_opens (h c (.head _))).2
theorem runes_encs : ∀ (l : List Nat), (∀ c ∈ l, okc c) → runes (encs l) = l
  | [], _ => rfl
  | c :: r, h => by
    show runes (enc c ++ encs r) = _
    rw [runes_app _ _ (encs_opens r fun d hd => h d (.tail _ hd)), runes_enc (h c (.head _)), runes_encs r fun d hd => h d (.tail _ hd)]
    rfl
end Ke
end
section
namespace Ke
end Ke
end
