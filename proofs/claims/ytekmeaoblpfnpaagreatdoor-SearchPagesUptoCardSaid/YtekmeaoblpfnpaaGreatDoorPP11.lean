/-
  Own texts on the laws of the seat, joined: the logic, and contracts of functions. Conditions: none.
-/
import Derived.Test.YtekmeaoblpfnpaaGreatDoorNmP
import Derived.Test.YtekmeaoblpfnpaaGreatDoorPP10
set_option maxRecDepth 100000
set_option maxHeartbeats 40000000
set_option maxRecDepth 100000
set_option maxHeartbeats 40000000
namespace Go.Proofs.YtekmeaoblpfnpaaGreatDoor
open _root_.Go.Proofs.Tryz
open Go Go.Sx
theorem sort_no {I : Heap} {L : Ix.Ix} {t : Ix.Rec} {xs : List VW} (hX : ValsX I xs ((Ix.rget L t).getD [])) (h : xs.find? (fun x => decide (x.1.name = Ix.nTitle)) = none) : Ix.sortOf L t = [] := by
  rw [sortOf_at, ← hX.1, find_map, h]; rfl
theorem sort_at {I : Heap} {L : Ix.Ix} {t : Ix.Rec} {xs : List VW} {x : VW} (hX : ValsX I xs ((Ix.rget L t).getD [])) (h : xs.find? (fun x => decide (x.1.name = Ix.nTitle)) = some x) : Ix.sortOf L t = x.1.key := by
  rw [sortOf_at, ← hX.1, find_map, h]; rfl
abbrev isT (x : VW) : Bool := decide (x.1.name = Ix.nTitle)
abbrev lineI (x : List UInt8 × Nat) : List UInt8 × Int := (x.1, (x.2 : Int))
abbrev OwnL (l : List (List UInt8 × Nat)) (v : Value) (H : HL) : Prop := OwnR 268 lineC (l.map lineI) v H
def selK (n b : List UInt8) (p : Ix.Pl) : Bool := decide (p.1 = n) && !decide (p.2 < b)
def lns (L : Ix.Ix) (n b : List UInt8) (vis : ML Ix.Pl) : List (List UInt8 × Nat) := (vis.filter fun x => selK n b x.1).map fun x => (x.1.2, (Ix.withK L n x.1.2).length)
theorem lns_next (L : Ix.Ix) (n b : List UInt8) (vis : ML Ix.Pl) (x : Ix.Pl × Value × Nat) : lns L n b (vis ++ [x]) = lns L n b vis ++ if selK n b x.1 = true then [(x.1.2, (Ix.withK L n x.1.2).length)] else [] := by
  unfold lns
  rw [List.filter_append, List.map_append]
  by_cases h : selK n b x.1 = true
  · rw [if_pos h]; simp [h]
  rw [if_neg h]; simp [h]
theorem lns_len (L : Ix.Ix) (n b : List UInt8) (vis : ML Ix.Pl) : (lns L n b vis).length ≤ vis.length := by
  unfold lns; rw [List.length_map]; exact List.length_filter_le _ _
structure TB where
  vis : ML Ix.Pl
  rest : ML Ix.Pl
  g : Gs
theorem nest_at {I : Heap} {b : Nat} {l : ML Ix.Pl} {c : Nat} {N : Nest Ix.Pl Ix.Rec} {f : Ix.Pl → Ix.Rec → Nat} (h : NestS l c N f) (hI : ∀ q ∈ setH b l c N, I q.1 = some q.2) {x : Ix.Pl × Value × Nat} (hx : x ∈ l) : ∃ mb m k, x.2.1 = .map (some mb) ∧ I mb = some (mobj kvR m k) ∧ MS m k ∧ m ≠ [] ∧ ∀ t, mget m t = cv (f x.1 t) := by
  have h1 : kvp x ∈ N.map nvp := by rw [← h.vals]; exact List.mem_map_of_mem hx
  obtain ⟨⟨a, mb, m, k⟩, he, hv⟩ := List.mem_map.1 h1
  have e1 : a = x.1 := congrArg (·.1) hv
  have e2 : Value.map (some mb) = x.2.1 := congrArg (·.2) hv
  subst e1
  obtain ⟨g1, g2, g3⟩ := h.inn _ he
  exact ⟨mb, m, k, e2.symm, hI (mb, _) (.tail _ (List.mem_map.2 ⟨_, he, rfl⟩)), g1, g2, g3⟩
theorem nest_in {l : ML Ix.Pl} {c : Nat} {N : Nest Ix.Pl Ix.Rec} {f : Ix.Pl → Ix.Rec → Nat} (h : NestS l c N f) (p : Ix.Pl) : p ∈ l.map (·.1) ↔ ∃ t, f p t ≠ 0 := by
  rw [h.keys]
  constructor
  · intro hp
    obtain ⟨e, he, rfl⟩ := List.mem_map.1 hp
    obtain ⟨g1, g2, g3⟩ := h.inn e he
    obtain ⟨⟨t, v, n⟩, r, hr⟩ := List.exists_cons_of_ne_nil g2
    refine ⟨t, fun hz => ?_⟩
    have h2 := g3 t
    rw [hz] at h2
    have h3 : mget e.2.2.1 t = none := h2
    exact mget_none.1 h3 (by rw [hr]; exact .head _)
  rintro ⟨t, ht⟩
  exact Classical.byContradiction fun g => ht (h.out p g t)
theorem keys_le {L : Ix.Ix} {l : ML Ix.Pl} {c : Nat} {N : Nest Ix.Pl Ix.Rec} (h : NestS l c N (Ix.cnt Ix.plK L)) (hs : Ix.Srt L) (hL : L.length ≤ 100000) (hv : ∀ e ∈ L, VOK e.2) : l.length ≤ 1000000000000 := by
  have h1 : (l.map (·.1)).length ≤ (L.flatMap fun e => Ix.plK e.2).length := by
    refine sub_lenG h.ms.1 fun p hp => ?_
    obtain ⟨e, he, hpe⟩ := (Ix.cnt_pos hs).1 ((nest_in h p).1 hp)
    exact List.mem_flatMap.2 ⟨e, he, hpe⟩
  have h2 : ∀ M : Ix.Ix, (∀ e ∈ M, VOK e.2) → (M.flatMap fun e => Ix.plK e.2).length ≤ M.length * 10000000 := by
    intro M
    induction M with
    | nil => intro _; simp
    | cons a r ih =>
      intro hM
      have := ih fun e he => hM e (.tail _ he)
      have h3 := (hM a (.head _)).k
      rw [List.flatMap_cons, List.length_append, List.length_cons, Nat.add_mul]; omega
  rw [List.length_map] at h1
  exact nlt (nlt h1 (h2 L hv)) (Nat.mul_le_mul_right 10000000 hL)
theorem lt_of_ne {a b : List UInt8} (h : ¬ b < a) (hne : a ≠ b) : a < b := Std.lt_of_le_of_ne (Std.not_lt.1 h) hne
theorem scan_end {L : Ix.Ix} {l : ML Ix.Pl} {c : Nat} {N : Nest Ix.Pl Ix.Rec} (h : NestS l c N (Ix.cnt Ix.plK L)) (hs : Ix.Srt L) {n b : List UInt8} {vis : ML Ix.Pl} (hp : vis.Perm l) {ls : List (List UInt8 × Int)} (hpl : ls.Perm ((lns L n b vis).map lineI)) (ho : ls.Pairwise fun p q => ¬ q.1 < p.1) : ls = ((Ix.keysAll L n b).map fun k => (k, (Ix.withK L n k).length)).map lineI := by
  have hsel : ∀ x ∈ vis.filter (fun x => selK n b x.1), x.1.1 = n ∧ ¬ x.1.2 < b := fun x hx => by
    have := (List.mem_filter.1 hx).2
    unfold selK at this
    rw [Bool.and_eq_true, decide_eq_true_eq, Bool.not_eq_true', decide_eq_false_iff_not] at this
    exact this
  have hnd : ((lns L n b vis).map (·.1)).Nodup := by
    unfold lns
    rw [List.map_map]
    have h1 : ((vis.filter fun x => selK n b x.1).map (·.1)).Nodup := ((hp.map _).nodup_iff.2 h.ms.1).sublist (List.filter_sublist.map _)
    rw [List.nodup_iff_pairwise_ne, List.pairwise_map] at h1 ⊢
    refine (List.pairwise_iff_forall_sublist.2 fun {x y} hxy => ?_)
    have hx := hsel x (hxy.subset (.head _))
    have hy := hsel y (hxy.subset (.tail _ (.head _)))
    have hne := List.pairwise_iff_forall_sublist.1 h1 hxy
    exact fun e => hne (Prod.ext (hx.1.trans hy.1.symm) e)
  have hlen : ∀ x ∈ ls, x.2 = ((Ix.withK L n x.1).length : Int) := fun x hx => by
    obtain ⟨y, hy, rfl⟩ := List.mem_map.1 (hpl.mem_iff.1 hx)
    obtain ⟨z, _, rfl⟩ := List.mem_map.1 hy
    rfl
  have hk : (ls.map (·.1)).Perm ((lns L n b vis).map (·.1)) := by
    have := hpl.map (·.1)
    rwa [List.map_map] at this
  have hinc : Ke.Inc (ls.map (·.1)) := by
    unfold Ke.Inc
    have h1 := hk.nodup_iff.2 hnd
    rw [List.nodup_iff_pairwise_ne, List.pairwise_map] at h1
    rw [List.pairwise_map]
    exact (List.pairwise_and_iff.2 ⟨ho, h1⟩).imp fun {x y} ⟨h2, h3⟩ => lt_of_ne h2 h3
  have hall := Ix.scan_all hs (n := n) (b := b) (ls := ls.map fun x => (x.1, x.2.toNat)) (by rw [List.map_map]; exact hinc) (fun k => ?_) (fun x hx => ?_)
  · rw [← hall, List.map_map]
    conv => lhs; rw [← List.map_id ls]
    refine List.map_congr_left fun x hx => ?_
    have := hlen x hx
    show x = (x.1, ((x.2.toNat : Nat) : Int))
    refine Prod.ext rfl ?_
    show x.2 = _
    omega
  · rw [List.map_map]
    show k ∈ ls.map (·.1) ↔ _
    rw [hk.mem_iff, ← nest_in h]
    unfold lns
    rw [List.map_map]
    constructor
    · intro hm
      obtain ⟨x, hx, rfl⟩ := List.mem_map.1 hm
      obtain ⟨h1, h2⟩ := hsel x hx
      refine ⟨h2, ?_⟩
      show (n, x.1.2) ∈ _
      rw [← h1, ← (hp.map (·.1)).mem_iff]
      exact List.mem_map_of_mem (List.mem_filter.1 hx).1
    rintro ⟨h1, h2⟩
    rw [← (hp.map (·.1)).mem_iff] at h2
    obtain ⟨x, hx, he⟩ := List.mem_map.1 h2
    refine List.mem_map.2 ⟨x, List.mem_filter.2 ⟨hx, ?_⟩, ?_⟩
    · unfold selK
      rw [he, decide_eq_true rfl, Bool.true_and, decide_eq_false h1]; rfl
    show x.1.2 = k
    rw [he]
  obtain ⟨y, hy, rfl⟩ := List.mem_map.1 hx
  have := hlen y hy
  show y.2.toNat = _
  rw [this]; rfl
theorem Sort_some (ib : Nat) (mb : Nat) (m : ML Ix.Rec) (k0 : Nat) (wm km : Option Nat) (L : Ix.Ix) (t : Ix.Rec) (I : Heap) (hvk : VOK ((Ix.rget L t).getD [])) (hib : I ib = some (cel 114 [.map (some mb), .map wm, .map km])) (hmb : I mb = some (mobj kvR m k0)) (_hms : MS m k0) (hmv : ValMap I m L) : Pure Tryz.prog 28 [ptr ib 0, kvR t] I (str (Ix.sortOf L t)) := by
 refine Ctr.toPure ?_
 obtain ⟨vv, hvv, xs, hrow, hX⟩ := hmv.at t
 have hxl := hX.len
 have hv1 := hvk.1
 refine Ctr.ob func28 ?_
 intro w0 hw0
 refine Cj.sr (J.op rfl (q15 ?_))
 intro b1 hb1
 refine J.z q1 ?_
 refine J.nsss (Cj.region (J.z q0 ?_))
 refine J.z (yl_eqlNil _ rfl rfl rfl tU26 (by kernel_rfl)) ?_
 refine J.c0 (fun hc2 => ?_)
 refine Cj.skip (Ej.seq (Cj.seq (Cj.drawSel [0] [] 8 (by kernel_rfl) ?_)))
 have hib_3 := hib
 have hmb_3 := hmb
 refine JA.fix ⟨(HSub.c 0 rfl HSub.n), CSub.n, (Le.refl _)⟩ (fun fx3 => ?_)
 refine JA.tk 0 rfl fx3 q0 ?_
 refine JA.tk 1 rfl fx3 q6 ?_
 refine JA.tk 2 rfl fx3 (q2 (off' := 0) tU114 tS110) ?_
 refine JA.tk 3 rfl fx3 (q3 isAgg110 (Blk.immC hib_3)) ?_
 refine JA.tk 4 rfl fx3 (q10 tA54 tS54 (Blk.atC 0 rfl)) ?_
 refine JA.tk 5 rfl fx3 (yl_lookup1 (kv := kvR) (l := m) (a := t) rfl rfl rfl rfl tU110 keyR tZ140 (Blk.immC hmb_3)) ?_
 refine JA.eqv 13 rfl (show _ = vv from hvv) ?_
 refine q4 6 rfl (op_pure rfl rfl rfl rfl rfl (IndexFuncV_ok xs _ isT _ [] (by omega) _ hrow.row hX.2 (fun x hx => by obtain ⟨p9, c9, h9⟩ := StrS_sl (hX.2 x hx); exact sort1_ok x p9 _ c9 h9 _)) ?_)
 refine ⟨⟨(Le.refl _), (HSub.c 0 rfl HSub.n), CSub.n⟩, ?_⟩
 refine JA.fix ⟨(HSub.c 0 rfl HSub.n), CSub.n, (Le.refl _)⟩ (fun fx4 => ?_)
 refine JA.tk 7 rfl fx4 q1 ?_
 refine q8 ?_
 refine Ej.seq (Cj.seq (Cj.sr (J.z q0 ?_)))
 refine J.z q18 ?_
 refine J.cd (fun hc5 => ?_) (fun hc5 => ?_)
 ·have hc5p := odt hc5
  have hfind : xs.find? isT = none := ((idxI_cases isT xs).resolve_right (fun ⟨k, x, h, _⟩ => by have h9 := odt hc5; rw [h] at h9; omega)).2
  refine Cj.sr (J.z q1 ?_)
  refine J.ns (Cj.ret (Ej.seqRet (Ej.bare ?_)))
  refine q5 ?_
  rw [sort_no hX hfind]
  exact ⟨rfl, rfl⟩
 have hc5p := odf hc5
 obtain ⟨k, x, hkk, hget, hfind⟩ := (idxI_cases isT xs).resolve_left (fun h => by have h9 := odf hc5; rw [h.1] at h9; exact h9 (by decide))
 have hklt := (List.getElem?_eq_some_iff.1 hget).1
 obtain ⟨vp1, vc1, hve, hvc1, hvb⟩ := id hrow
 rw [hve] at hvv ⊢
 obtain ⟨rb, rsp, rfl, hrb⟩ := hvb (ne_nil_of hklt)
 rw [hkk]
 refine Cj.skip (Ej.seq (Cj.seq (Cj.drawSel [0] [] 11 (by kernel_rfl) ?_)))
 refine JA.fix ⟨(HSub.c 0 rfl HSub.n), CSub.n, (Le.refl _)⟩ (fun fx6 => ?_)
 refine JA.tk 0 rfl fx6 q0 ?_
 refine JA.tk 1 rfl fx6 q6 ?_
 refine JA.tk 2 rfl fx6 (q2 (off' := 0) tU114 tS110) ?_
 refine JA.tk 3 rfl fx6 (q3 isAgg110 (Blk.immC hib)) ?_
 refine JA.tk 4 rfl fx6 (q10 tA54 tS54 (Blk.atC 0 rfl)) ?_
 refine JA.tk 5 rfl fx6 (yl_lookup1 (kv := kvR) (l := m) (a := t) rfl rfl rfl rfl tU110 keyR tZ140 (Blk.immC hmb)) ?_
 refine JA.eqv 22 rfl (show _ = .slice (some ⟨rb, 0, none⟩) xs.length vc1 from hvv) ?_
 refine JA.tk 6 rfl fx6 q0 ?_
 refine JA.tk 7 rfl fx6 (q16 (off' := 0 + k * 3) tU140 tS142) ?_
 refine JA.tk 8 rfl fx6 (q2 (off' := 0 + k * 3 + 1) tU142 tS9) ?_
 refine JA.tk 9 rfl fx6 (yl_load rfl rfl tA9 (Blk.immC hrb) (row_fcell vwC_len (o := 0) rfl hget 1 (by decide))) ?_
 refine JA.tk 10 rfl fx6 q1 ?_
 refine q8 ?_
 refine Ej.seq (Cj.ret (Ej.bare ?_))
 refine q5 ?_
 rw [sort_at hX hfind]
 exact ⟨rfl, rfl⟩
theorem Sort_none (ib : Nat) (wm km : Option Nat) (t : Ix.Rec) (I : Heap) (hib : I ib = some (cel 114 [.map none, .map wm, .map km])) : Pure Tryz.prog 28 [ptr ib 0, kvR t] I (str []) := by
 refine Ctr.toPure ?_
 refine Ctr.ob func28 ?_
 intro w0 hw0
 refine Cj.sr (J.op rfl (q15 ?_))
 intro b1 hb1
 refine J.z q1 ?_
 refine J.nsss (Cj.region (J.z q0 ?_))
 refine J.z (yl_eqlNil _ rfl rfl rfl tU26 (by kernel_rfl)) ?_
 refine J.c0 (fun hc2 => ?_)
 refine Cj.skip (Ej.seq (Cj.seq (Cj.drawSel [0] [] 8 (by kernel_rfl) ?_)))
 have hib_3 := hib
 refine JA.fix ⟨(HSub.c 0 rfl HSub.n), CSub.n, (Le.refl _)⟩ (fun fx3 => ?_)
 refine JA.tk 0 rfl fx3 q0 ?_
 refine JA.tk 1 rfl fx3 q6 ?_
 refine JA.tk 2 rfl fx3 (q2 (off' := 0) tU114 tS110) ?_
 refine JA.tk 3 rfl fx3 (q3 isAgg110 (Blk.immC hib_3)) ?_
 refine JA.tk 4 rfl fx3 (q10 tA54 tS54 (Blk.atC 0 rfl)) ?_
 refine JA.tk 5 rfl fx3 (yl_lookupNil1 (kv := kvR) (a := t) rfl rfl rfl rfl tU110 keyR tZ140) ?_
 refine q4 6 rfl (op_pure rfl rfl rfl rfl rfl (IndexFuncV_ok [] _ isT _ [] (by decide) _ RowS.nil (fun x hx => by cases hx) (fun x hx => by cases hx)) ?_)
 refine ⟨⟨(Le.refl _), (HSub.c 0 rfl HSub.n), CSub.n⟩, ?_⟩
 refine JA.eqv 14 rfl (show _ = i64 (-1) from rfl) ?_
 refine JA.fix ⟨(HSub.c 0 rfl HSub.n), CSub.n, (Le.refl _)⟩ (fun fx4 => ?_)
 refine JA.tk 7 rfl fx4 q1 ?_
 refine q8 ?_
 refine Ej.seq (Cj.seq (Cj.sr (J.z q0 ?_)))
 refine J.z q18 ?_
 refine J.c1 (fun hc5 => ?_)
 refine Cj.sr (J.z q1 ?_)
 refine J.ns (Cj.ret (Ej.seqRet (Ej.bare ?_)))
 refine q5 ?_
 exact ⟨rfl, rfl⟩
theorem Sort_ok' (ib : Nat) (L : Ix.Ix) (t : Ix.Rec) (I : Heap) (hx : IxP I ib L) : Pure Tryz.prog 28 [ptr ib 0, kvR t] I (str (Ix.sortOf L t)) := by
  obtain ⟨vm, wm, km, hI, hV, -, -⟩ := hx.parts
  rcases hV with ⟨rfl, rfl⟩ | ⟨b, l, c, rfl, hms, hvm, hb⟩
  · exact Sort_none ib wm km t I hI
  exact Sort_some ib b l c wm km L t I (ixp_parts hx t) hI hb hms hvm
theorem Clip_ok (a : Option Addr) (n c : Nat) (hnc : n ≤ c) (I : Heap) : Pure Tryz.prog 222 [.slice a n c] I (.slice a n n) := by
 refine Ctr.toPure ?_
 refine Ctr.ob func222 ?_
 intro w0 hw0
 refine Cj.sr (J.z q1 ?_)
 refine J.nssr (J.z q0 ?_)
 refine J.z q0 ?_
 refine J.z (q14 tU228) ?_
 refine J.z q0 ?_
 refine J.z (q14 tU228) ?_
 refine J.z (yl_slice3 (k := n) (m := n) rfl rfl rfl rfl tU228 tS268 (Nat.le_refl _) hnc) ?_
 refine J.z q1 ?_
 refine J.ns (Cj.ret (q5 ?_))
 exact ⟨rfl, rfl⟩
theorem own_sl {α : Type} {T : TypeId} {f : α → List Value} {l : List α} {v : Value} {H : HL} (h : OwnR T f l v H) : ∃ a c, v = .slice a l.length c ∧ l.length ≤ c := by
  rcases h with ⟨rfl, rfl, rfl⟩ | ⟨b, c, sp, rfl, hc, rfl⟩
  · exact ⟨none, 0, rfl, Nat.le_refl _⟩
  exact ⟨_, c, rfl, hc⟩
theorem own_take {α : Type} {T : TypeId} {f : α → List Value} {l : List α} {a : Option Addr} {c : Nat} {H : HL} (h : OwnR T f l (.slice a l.length c) H) {k : Nat} (hk : k ≤ l.length) : OwnR T f (l.take k) (.slice a k k) H := by
  rcases h with ⟨rfl, hv, rfl⟩ | ⟨b, c, sp, hv, hc, rfl⟩
  · cases hv
    have : k = 0 := by simpa using hk
    subst this
    exact .inl ⟨rfl, rfl, rfl⟩
  cases hv
  refine .inr ⟨b, k, (l.drop k).flatMap f ++ sp, by rw [List.length_take, Nat.min_eq_left hk], by rw [List.length_take]; omega, ?_⟩
  rw [← List.append_assoc, ← List.flatMap_append, List.take_append_drop]
theorem scan_own {L : Ix.Ix} {n s : List UInt8} {most : Int} {ls : List (List UInt8 × Int)} {a : Option Addr} {c : Nat} {v : Value} {H : HL} (hls : ls = ((Ix.keysAll L n (Ix.keyOf n s)).map fun k => (k, (Ix.withK L n k).length)).map lineI) (h : OwnR 268 lineC ls v H) (hv : v = .slice a ls.length c) : OwnL (Ix.scan L n s most) (.slice a (min ls.length most.toNat) (min ls.length most.toNat)) H := by
  subst hv
  have h1 := own_take h (Nat.min_le_left ls.length most.toNat)
  have h2 : ls.take (min ls.length most.toNat) = (Ix.scan L n s most).map lineI := by
    rw [← Ix.scan_take, List.map_take, ← hls]
    rcases Nat.le_total ls.length most.toNat with g | g
    · rw [Nat.min_eq_left g, List.take_length, List.take_of_length_le g]
    rw [Nat.min_eq_right g]
  rw [h2] at h1
  exact h1
theorem many_of {L : Ix.Ix} (hs : Ix.Srt L) {m : ML Ix.Rec} {k : Nat} (hm : MS m k) {p : Ix.Pl} (hv : ∀ t, mget m t = cv (Ix.cnt Ix.plK L p t)) {n : List UInt8} (hn : p.1 = n) : ((m.length : Nat) : Int) = ((Ix.withK L n p.2).length : Int) := by
  subst hn
  have h := Ix.with_len hs (n := p.1) (k := p.2) (ts := m.map (·.1)) hm.1 fun t => by
    constructor
    · intro h1
      have h2 : mget m t ≠ none := fun g => mget_none.1 g h1
      rw [hv] at h2
      exact fun g => h2 (by rw [show Ix.cnt Ix.plK L p t = 0 from g]; rfl)
    intro h1
    refine Classical.byContradiction fun g => ?_
    have h2 := mget_none.2 g
    rw [hv, cv_pos h1] at h2; cases h2
  rw [List.length_map] at h
  rw [h]
theorem min_of (n : Nat) (most : Int) : (if (if (0 : Int) > most then (0 : Int) else most) < (n : Int) then (if (0 : Int) > most then (0 : Int) else most) else (n : Int)) = ((min n most.toNat : Nat) : Int) := by
  repeat (first | omega | split)
theorem Scan_some (ib kb : Nat) (vm wm : Option Nat) (l : ML Ix.Pl) (c : Nat) (N : Nest Ix.Pl Ix.Rec) (L : Ix.Ix) (n s : List UInt8) (hs : s.length ≤ 100000000) (most : Int) (I : Heap) (hsrt : Ix.Srt L) (hN : NestS l c N (Ix.cnt Ix.plK L)) (hll0 : l.length ≤ 1000000000000) (hib : I ib = some (cel 114 [.map vm, .map wm, .map (some kb)])) (hI : ∀ q ∈ setH kb l c N, I q.1 = some q.2) : Ctr Tryz.prog 160 [ptr ib 0, str n, str s, i64 most] I [] (fun e _ H' => ∃ v, e = .returned v ∧ OwnL (Ix.scan L n s most) v H') := by
 have hkb : I kb = some (mobj kvP l c) := hI (kb, _) (.head _)
 refine Ctr.ob func160 ?_
 intro w0 hw0
 refine Cj.sr (J.z q1 ?_)
 refine J.nsss (Cj.region (J.z q0 ?_))
 refine J.z (yl_eqlNil _ rfl rfl rfl tU26 (by kernel_rfl)) ?_
 refine J.c0 (fun hc1 => ?_)
 refine Cj.skip (Ej.seq (Cj.sr (J.z q0 ?_)))
 refine J.z q0 ?_
 refine J.op rfl (op_pure rfl rfl rfl rfl rfl (keyOf_ok n s hs _) ?_)
 refine J.z q1 ?_
 refine J.nssr (J.z q1 ?_)
 refine J.nsss (Cj.region (J.z q0 ?_))
 refine J.z q6 ?_
 refine J.z (q2 (off' := 2) tU114 tS112) ?_
 refine J.z (q3 isAgg112 (Blk.imm hib)) ?_
 refine J.op rfl (op_rangeMap (kv := kvP) (l := l) rfl rfl rfl rfl tU112 (Blk.imm hkb) ?_)
 intro b2 hb2
 refine J.ns (Cj.block (Cj.loop (ι := TB) (fun y => (y.vis ++ y.rest).Perm l ∧ gOk w0.heap.size 2 (lns L n (Ix.keyOf n s) y.vis).length (((lns L n (Ix.keyOf n s) y.vis).map lineI).flatMap lineC) y.g) (fun y => y.rest.length) (fun y => [(1, str n), (3, i64 most), (9, str (Ix.keyOf n s)), (10, gV (lns L n (Ix.keyOf n s) y.vis).length y.g), (22, ptr b2 0)]) (fun y => _) (fun y => (b2, mit kb c y.vis c) :: gH 268 (((lns L n (Ix.keyOf n s) y.vis).map lineI).flatMap lineC) y.g) ⟨[], l, none⟩ ⟨.refl _, rfl, rfl⟩ ⟨rfl, rfl, rfl, rfl, rfl, trivial⟩ rfl rfl ?_))
 rintro ⟨vis, rest, g⟩ ⟨hp, hg⟩
 dsimp only at hp hg ⊢
 have hpl0 := hp.length_eq
 rw [List.length_append] at hpl0
 have hlns := lns_len L n (Ix.keyOf n s) vis
 refine Cj.sr (J.op rfl (op_nextMap (kv := kvP) (l := l) 0 rfl rfl rfl rfl rfl (Blk.imm hkb) hN.ms.2.2 (Nat.le_refl _) hN.ms.2.1 hp ?_ ?_))
 ·rintro x rest2 H9 hrx hpx ⟨-, hset⟩; simp only [List.set_cons_zero] at hset; subst hset
  obtain ⟨mb, m, k, hxv, hmb, hms, hmne, hmv⟩ := nest_at hN hI (hpx.mem_iff.1 (List.mem_append_left _ (List.mem_append_right _ (.head _))))
  refine J.z q11 ?_
  refine J.nss (Cj.cond rfl (fun hc3 => ?_) (fun hc3 => Bool.noConfusion (Eq.trans (Eq.symm rfl) hc3)))
  refine Cj.skip (Ej.seq (Cj.block (Cj.sr (J.z (yl_entry (kv := kvP) (l := l) rfl rfl (Blk.at 0 rfl) (Blk.imm hkb) (hpx.mem_iff.1 (List.mem_append_left _ (List.mem_append_right _ (.head _)))) hN.ms.2.1) ?_))))
  refine J.z q11 ?_
  refine J.z q11 ?_
  refine J.eqv 27 rfl (show _ = .map (some mb) from hxv) ?_
  refine J.op rfl (q21 tZ152 ?_)
  intro b4 hb4
  refine J.op rfl (q9 0 tS152 (LSpl.c (LSpl.c LSpl.z)) LSet.z ?_)
  refine J.z q1 ?_
  refine J.nssr (J.z (q2 (off' := 0) tU152 tS9) ?_)
  refine J.z (q3 tA9 (Blk.at 0 rfl)) ?_
  refine J.z q0 ?_
  refine J.z (yl_eqlStr rfl rfl rfl) ?_
  refine J.z q0 ?_
  refine J.split 32 rfl (fun hg5 => ?_) (fun hg5 => ?_)
  rotate_left
  ·have hg5p := nbf hg5
   have hsel : ¬ selK n (Ix.keyOf n s) x.1 = true := by unfold selK; rw [decide_eq_false (nbf hg5)]; exact Bool.false_ne_true
   refine q12 4 32 33 true hg5 ?_
   refine q12 4 32 34 true hg5 ?_
   refine q12 4 32 35 true hg5 ?_
   refine q12 4 32 36 true hg5 ?_
   refine J.z (q23 hg5) ?_
   refine J.c0 (fun hc9 => ?_)
   refine Cj.skip (Ej.blkNormal (Ej.keep (Keeps.d (Keeps.k Keeps.r)) ?_))
   refine Ej.round ⟨vis ++ [x], rest2, g⟩ ⟨hpx, by dsimp only; rw [lns_next, if_neg hsel, List.append_nil]; exact hg⟩ (by have h := hrx.length_eq; simp only [List.length_cons] at h; dsimp only; omega) ⟨rfl, rfl, rfl, by dsimp only; rw [lns_next, if_neg hsel, List.append_nil]; rfl, rfl, trivial⟩ rfl (by dsimp only; rw [lns_next, if_neg hsel, List.append_nil])
  have hg5p := ebq hg5
  have hxn : x.1.1 = n := ebq hg5
  refine q13 4 32 true hg5 (q7 (q2 (off' := 1) tU152 tS9) ?_)
  refine q13 4 32 true hg5 (q7 (q3 tA9 (Blk.at 0 rfl)) ?_)
  refine q13 4 32 true hg5 (q7 q0 ?_)
  refine q13 4 32 true hg5 (q7 (yl_geqStr rfl rfl rfl) ?_)
  refine J.z (q22 hg5) ?_
  refine J.cd (fun hc6 => ?_) (fun hc6 => ?_)
  ·have hsel : selK n (Ix.keyOf n s) x.1 = true := by unfold selK; rw [decide_eq_true hxn, Bool.true_and]; exact hc6
   refine Cj.region (J.z q0 ?_)
   refine J.z (q2 (off' := 1) tU152 tS9) ?_
   refine J.z (q3 tA9 (Blk.at 0 rfl)) ?_
   refine J.z q0 ?_
   refine J.z (yl_lenMap (kv := kvR) (l := m) rfl rfl tU213 (Blk.imm hmb)) ?_
   refine J.eqv 42 rfl (show _ = i64 ((Ix.withK L n x.1.2).length : Int) from (congrArg i64 (many_of hsrt hms hmv hxn))) ?_
   refine J.z (yl_buildS (pl := #[(0, 1), (1, 1)]) rfl rfl zeroValue268 rfl tU268 (fun w => by simp []) (LBld.part rfl rfl rfl (LSpl.c LSpl.z) (LBld.part rfl rfl rfl (LSpl.s (LSpl.c LSpl.z)) LBld.none))) ?_
   refine J.op rfl (q17 tU228 tS268 zeroValue268 (LCat.agg rfl LCat.none) ?_)
   intro b7 hb7
   refine J.op rfl (op_append (by' := 23) [_, _, _] rfl rfl rfl rfl rfl tU228 (.inr ⟨_, tU228⟩) (by kernel_rfl) tS268 zeroValue268 rfl hg rfl (Src.slice (Blk.at 0 rfl) rfl rfl rfl) (by omega) ?_)
   intro g8 hg8
   refine J.z q1 ?_
   refine J.nil (Ej.blkNormal (Ej.keep (Keeps.d (Keeps.d (Keeps.k Keeps.r))) ?_))
   refine Ej.round ⟨vis ++ [x], rest2, g8⟩ ⟨hpx, by dsimp only; rw [lns_next, if_pos hsel, List.length_append, List.map_append, List.flatMap_append]; exact hg8⟩ (by have h := hrx.length_eq; simp only [List.length_cons] at h; dsimp only; omega) ⟨rfl, rfl, rfl, by dsimp only; rw [lns_next, if_pos hsel, List.length_append]; rfl, rfl, trivial⟩ rfl (by dsimp only; rw [lns_next, if_pos hsel, List.map_append, List.flatMap_append]; rfl)
  have hsel : ¬ selK n (Ix.keyOf n s) x.1 = true := by unfold selK; rw [decide_eq_true hxn, Bool.true_and]; exact fun e => Bool.noConfusion (e.symm.trans hc6)
  refine Cj.skip (Ej.blkNormal (Ej.keep (Keeps.d (Keeps.k Keeps.r)) ?_))
  refine Ej.round ⟨vis ++ [x], rest2, g⟩ ⟨hpx, by dsimp only; rw [lns_next, if_neg hsel, List.append_nil]; exact hg⟩ (by have h := hrx.length_eq; simp only [List.length_cons] at h; dsimp only; omega) ⟨rfl, rfl, rfl, by dsimp only; rw [lns_next, if_neg hsel, List.append_nil]; rfl, rfl, trivial⟩ rfl (by dsimp only; rw [lns_next, if_neg hsel, List.append_nil])
 intro hend
 refine J.z q11 ?_
 refine J.nss (Cj.cond rfl (fun hc10 => Bool.noConfusion (Eq.trans (Eq.symm rfl) hc10)) (fun hc10 => ?_))
 refine Cj.exit (Ej.seqExit (Ej.loopExit (Ej.blkExit (Ej.seq (Cj.seq ?_)))))
 have hpv : vis.Perm l := by rw [hend, List.append_nil] at hp; exact hp
 have hg2 : gOk w0.heap.size 2 ((lns L n (Ix.keyOf n s) vis).map lineI).length (((lns L n (Ix.keyOf n s) vis).map lineI).flatMap lineC) g := by rw [List.length_map]; exact hg
 refine Cj.region (J.z q0 ?_)
 refine J.eqv 46 rfl (show _ = gV ((lns L n (Ix.keyOf n s) vis).map lineI).length g from (by rw [List.length_map])) ?_
 refine J.op rfl (op_callR (H1 := gH 268 (((lns L n (Ix.keyOf n s) vis).map lineI).flatMap lineC) g) [_] rfl rfl rfl rfl rfl rfl (SortLine_ok ((lns L n (Ix.keyOf n s) vis).map lineI) g hg2 (by rw [List.length_map]; omega) _) ?_ (fun _ _ _ _ ⟨_, _, _, h, _⟩ => by cases h) (fun _ _ ⟨_, _, _, h, _⟩ => by cases h))
 rintro v9 I9 H9 hle9 ⟨ls, hpp, hpo, h, rfl⟩; cases h
 have hls := scan_end hN hsrt hpv hpp hpo
 have hll : ((lns L n (Ix.keyOf n s) vis).map lineI).length = ls.length := hpp.length_eq.symm
 have hgl : gOk w0.heap.size 2 ls.length (ls.flatMap lineC) g := by rw [← hll]; exact gOk_len hg2 (by rw [flat_len lineC_len, flat_len lineC_len, hll])
 refine J.nss ?_
 obtain ⟨hown⟩ : Nonempty (OwnR 268 lineC ls (gV ls.length g) (gH 268 (ls.flatMap lineC) g)) := ⟨OwnR.of_g lineC_len (by decide) rfl hgl⟩
 obtain ⟨sa, sc, hsv, hsc⟩ : ∃ a c, gV ls.length g = .slice a ls.length c ∧ ls.length ≤ c := own_sl hown
 have hgv : gV (lns L n (Ix.keyOf n s) vis).length g = .slice sa ls.length sc := by rw [← hsv, ← hll, List.length_map]
 refine Cj.region (J.z q0 ?_)
 refine J.eqv 48 rfl (show _ = .slice sa ls.length sc from hgv) ?_
 refine J.z q0 ?_
 refine J.eqv 49 rfl (show _ = .slice sa ls.length sc from hgv) ?_
 refine J.z (q14 tU228) ?_
 refine J.z q0 ?_
 refine J.z (yl_max2 rfl rfl rfl) ?_
 refine J.z (yl_min2 rfl rfl rfl) ?_
 refine J.eqv 53 rfl (show _ = i64 ((min ls.length most.toNat : Nat) : Int) from (congrArg i64 (min_of _ _))) ?_
 refine J.z (yl_slice0 (k := (min ls.length most.toNat)) rfl rfl rfl tU228 tS268 rfl (nlt (Nat.min_le_left _ _) hsc)) ?_
 refine J.op rfl (op_pure rfl rfl rfl rfl rfl (Clip_ok sa (min ls.length most.toNat) sc (nlt (Nat.min_le_left _ _) hsc) _) ?_)
 refine J.z q1 ?_
 refine J.ns (Cj.ret (Ej.keep (H' := gH 268 (ls.flatMap lineC) g) (List.sublist_append_right [_] _) ?_))
 refine q5 ?_
 exact ⟨_, rfl, scan_own hls hown hsv⟩
theorem Scan_none (ib : Nat) (vm wm : Option Nat) (n s : List UInt8) (hs : s.length ≤ 100000000) (most : Int) (I : Heap) (hib : I ib = some (cel 114 [.map vm, .map wm, .map none])) : Ctr Tryz.prog 160 [ptr ib 0, str n, str s, i64 most] I [] (fun e _ H' => e = .returned (.slice none 0 0) ∧ H' = []) := by
 refine Ctr.ob func160 ?_
 intro w0 hw0
 refine Cj.sr (J.z q1 ?_)
 refine J.nsss (Cj.region (J.z q0 ?_))
 refine J.z (yl_eqlNil _ rfl rfl rfl tU26 (by kernel_rfl)) ?_
 refine J.c0 (fun hc1 => ?_)
 refine Cj.skip (Ej.seq (Cj.sr (J.z q0 ?_)))
 refine J.z q0 ?_
 refine J.op rfl (op_pure rfl rfl rfl rfl rfl (keyOf_ok n s hs _) ?_)
 refine J.z q1 ?_
 refine J.nssr (J.z q1 ?_)
 refine J.nsss (Cj.region (J.z q0 ?_))
 refine J.z q6 ?_
 refine J.z (q2 (off' := 2) tU114 tS112) ?_
 refine J.z (q3 isAgg112 (Blk.imm hib)) ?_
 refine J.op rfl (op_rangeNil rfl rfl rfl rfl tU112 ?_)
 intro b2 hb2
 refine J.ns (Cj.block (Cj.rounds 1 ?_))
 refine Rj.succ ?_
 refine Cj.sr (J.op rfl (op_nextNil 0 rfl rfl rfl rfl rfl ?_))
 refine J.z q11 ?_
 refine J.nss (Cj.cond rfl (fun hc3 => Bool.noConfusion (Eq.trans (Eq.symm rfl) hc3)) (fun hc3 => ?_))
 refine Cj.exit (Ej.seqExit (Ej.seqExit (Ej.blkExit (Ej.seq (Cj.sr (J.z q0 ?_))))))
 refine J.op rfl (op_callR (H1 := []) [_] rfl rfl rfl rfl rfl rfl (SortLine_ok (base := 0) [] none ⟨rfl, rfl⟩ (by decide) _) ?_ (fun _ _ _ _ ⟨_, _, _, h, _⟩ => by cases h) (fun _ _ ⟨_, _, _, h, _⟩ => by cases h))
 rintro v9 I9 H9 hle9 ⟨ts, hpp, hpo, h, rfl⟩; cases h
 have hts := hpp.eq_nil
 subst hts
 refine J.nssr (J.z q0 ?_)
 refine J.z q0 ?_
 refine J.z (q14 tU228) ?_
 refine J.z q0 ?_
 refine J.z (yl_max2 rfl rfl rfl) ?_
 refine J.z (yl_min2 rfl rfl rfl) ?_
 refine J.eqv 53 rfl (show _ = i64 ((0 : Nat) : Int) from (congrArg i64 (min_of 0 most |>.trans (by rw [Nat.zero_min])))) ?_
 refine J.z (yl_slice0 (k := 0) rfl rfl rfl tU228 tS268 rfl (Nat.le_refl _)) ?_
 refine J.op rfl (op_pure rfl rfl rfl rfl rfl (Clip_ok none 0 0 (Nat.le_refl _) _) ?_)
 refine J.z q1 ?_
 refine J.ns (Cj.ret (Ej.bare ?_))
 refine q5 ?_
 exact ⟨rfl, rfl⟩
theorem scan_zero {L : Ix.Ix} (hs : Ix.Srt L) (hz : ∀ p t, Ix.cnt Ix.plK L p t = 0) (n s : List UInt8) (most : Int) : Ix.scan L n s most = [] := by
  have h := Ix.scan_all hs (n := n) (b := Ix.keyOf n s) (ls := []) List.Pairwise.nil (fun k => ⟨fun h => (by cases h), fun ⟨_, t, ht⟩ => absurd (hz _ t) ht⟩) (fun x hx => by cases hx)
  rw [← Ix.scan_take, ← h, List.take_nil]
theorem Scan_ok (ib : Nat) (L : Ix.Ix) (n s : List UInt8) (hs : s.length ≤ 100000000) (most : Int) (I : Heap) (hx : IxP I ib L) : Ctr Tryz.prog 160 [ptr ib 0, str n, str s, i64 most] I [] (fun e _ H' => ∃ v, e = .returned v ∧ OwnL (Ix.scan L n s most) v H') := by
  obtain ⟨vm, wm, km, hI, -, -, hK⟩ := hx.parts
  have hv : ∀ e ∈ L, VOK e.2 := by
    obtain ⟨o, h1, _⟩ := hx
    cases o with
    | none => rw [show L = [] from h1]; intro e he; cases he
    | some s => exact IstOk.vok h1
  rcases hK with ⟨rfl, hz⟩ | ⟨b, l, c, N, rfl, hN, hq⟩
  · rw [scan_zero hx.srt hz]
    exact (Scan_none ib vm wm n s hs most I hI).mono fun e I' H' _ ⟨h1, h2⟩ => ⟨_, h1, .inl ⟨rfl, rfl, h2⟩⟩
  exact Scan_some ib b vm wm l c N L n s hs most I hx.srt hN (keys_le hN hx.srt hx.big hv) hI hq
theorem Word_nil (n s : List UInt8) (hs : s.length ≤ 100000000) (I : Heap) : Ctr Tryz.prog 32 [.pointer none, str n, str s] I [] (fun e _ H' => e = .returned (.slice none 0 0) ∧ H' = []) := by
 refine Ctr.ob func32 ?_
 intro w0 hw0
 refine Cj.sr (J.z q1 ?_)
 refine J.nssr (J.z q0 ?_)
 refine J.op rfl (op_call (H1 := []) rfl rfl rfl rfl rfl (Words_ok s (by omega) _) ?_ (fun _ _ _ _ ⟨_, h, _⟩ => by cases h) (fun _ _ ⟨_, h, _⟩ => by cases h))
 intro v1 I2 H3 hle4 hp5
 obtain ⟨wv, h, hw, rfl⟩ := hp5; cases h
 obtain ⟨wp, wc, rfl⟩ := StrS_sl hw
 refine J.z q1 ?_
 refine J.nsss (Cj.region (J.z q0 ?_))
 refine J.z (yl_eqlNil _ rfl rfl rfl tU26 (by kernel_rfl)) ?_
 refine J.z q0 ?_
 refine q25 2 12 13 false ?_
 refine q25 2 12 14 false ?_
 refine q25 2 12 15 false ?_
 refine J.z (yl_pick1 rfl rfl rfl rfl) ?_
 refine J.c1 (fun hc6 => ?_)
 refine Cj.sr (J.z q1 ?_)
 refine J.ns (Cj.ret (Ej.seqRet (q5 ?_)))
 exact ⟨rfl, rfl⟩
theorem Phrase_nil (n s : List UInt8) (hs : s.length ≤ 100000000) (I : Heap) : Ctr Tryz.prog 33 [.pointer none, str n, str s] I [] (fun e _ H' => e = .returned (.slice none 0 0) ∧ H' = []) := by
 refine Ctr.ob func33 ?_
 intro w0 hw0
 refine Cj.sr (J.op rfl (q15 ?_))
 intro b1 hb1
 refine J.op rfl (q15 ?_)
 intro b2 hb2
 refine J.z q1 ?_
 refine J.nssr (J.z q0 ?_)
 refine J.op rfl (op_call (H1 := []) rfl rfl rfl rfl rfl (Words_ok s (by omega) _) ?_ (fun _ _ _ _ ⟨_, h, _⟩ => by cases h) (fun _ _ ⟨_, h, _⟩ => by cases h))
 intro v3 I4 H5 hle6 hp7
 obtain ⟨wv, h, hw, rfl⟩ := hp7; cases h
 obtain ⟨wp, wc, rfl⟩ := StrS_sl hw
 refine J.op rfl (q21 tZ69 ?_)
 intro b8 hb8
 refine J.op rfl (q9 0 tS69 (LSpl.c LSpl.z) LSet.z ?_)
 refine J.nsss (Cj.region (J.z (q3 tA26 (Blk.at 2 rfl)) ?_))
 refine J.z (yl_eqlNil _ rfl rfl rfl tU26 (by kernel_rfl)) ?_
 refine J.z q0 ?_
 refine q25 2 12 13 false ?_
 refine q25 2 12 14 false ?_
 refine q25 2 12 15 false ?_
 refine J.z (yl_pick1 rfl rfl rfl rfl) ?_
 refine J.c1 (fun hc9 => ?_)
 refine Cj.sr (J.z q1 ?_)
 refine J.ns (Cj.ret (Ej.seqRet (Ej.bare ?_)))
 refine q5 ?_
 exact ⟨rfl, rfl⟩
theorem Key_nil (n s : List UInt8) (I : Heap) : Ctr Tryz.prog 34 [.pointer none, str n, str s] I [] (fun e _ H' => e = .returned (.slice none 0 0) ∧ H' = []) := by
 refine Ctr.ob func34 ?_
 intro w0 hw0
 refine Cj.sr (J.z q1 ?_)
 refine J.nsss (Cj.region (J.z q0 ?_))
 refine J.z (yl_eqlNil _ rfl rfl rfl tU26 (by kernel_rfl)) ?_
 refine J.c1 (fun hc1 => ?_)
 refine Cj.sr (J.z q1 ?_)
 refine J.ns (Cj.ret (Ej.seqRet (q5 ?_)))
 exact ⟨rfl, rfl⟩
theorem Scan_nil (n s : List UInt8) (most : Int) (I : Heap) : Ctr Tryz.prog 160 [.pointer none, str n, str s, i64 most] I [] (fun e _ H' => e = .returned (.slice none 0 0) ∧ H' = []) := by
 refine Ctr.ob func160 ?_
 intro w0 hw0
 refine Cj.sr (J.z q1 ?_)
 refine J.nsss (Cj.region (J.z q0 ?_))
 refine J.z (yl_eqlNil _ rfl rfl rfl tU26 (by kernel_rfl)) ?_
 refine J.c1 (fun hc1 => ?_)
 refine Cj.sr (J.z q1 ?_)
 refine J.ns (Cj.ret (Ej.seqRet (q5 ?_)))
 exact ⟨rfl, rfl⟩
theorem Sort_nil (t : Ix.Rec) (I : Heap) : Pure Tryz.prog 28 [.pointer none, kvR t] I (str []) := by
 refine Ctr.toPure ?_
 refine Ctr.ob func28 ?_
 intro w0 hw0
 refine Cj.sr (J.op rfl (q15 ?_))
 intro b1 hb1
 refine J.z q1 ?_
 refine J.nsss (Cj.region (J.z q0 ?_))
 refine J.z (yl_eqlNil _ rfl rfl rfl tU26 (by kernel_rfl)) ?_
 refine J.c1 (fun hc2 => ?_)
 refine Cj.sr (J.z q1 ?_)
 refine J.ns (Cj.ret (Ej.seqRet (Ej.bare ?_)))
 refine q5 ?_
 exact ⟨rfl, rfl⟩
abbrev entL (e : Ent) : Ix.Rec × List Ix.V := (e.t, Ix.vals e.fs)
theorem rputs_next {es : List Ent} {i : Nat} {e : Ent} (h : es[i]? = some e) : Ix.rputs ((es.take (i + 1)).map entL) [] = Ix.rput e.t (Ix.vals e.fs) (Ix.rputs ((es.take i).map entL) []) := by
  rw [map_next entL h]
  unfold Ix.rputs
  rw [List.foldl_append]; rfl
def EntsS (I : Heap) (es : List Ent) (v : Value) : Prop := RowS entC I es v ∧ ∀ e ∈ es, RecS I e.fs e.v
theorem EntsS.mono {I I' : Heap} {es : List Ent} {v : Value} (h : EntsS I es v) (hle : Le I I') : EntsS I' es v := ⟨h.1.mono hle, fun e he => (h.2 e he).mono hle⟩
structure BA where
  i : Nat
  J : Heap
  o : Option Ist
theorem ent_one {e : Ent} {p : Option Addr} {n c : Nat} (h : e.v = .slice p n c) : (entC e).all Value.oneCell' = true := by unfold entC; rw [h]; rfl
theorem Build_ok (es : List Ent) (v : Value) (hel : es.length ≤ 1000) (hek : ∀ e ∈ es, EOK e.fs) (I : Heap) (hE0 : EntsS I es v) : Ctr Tryz.prog 48 [v] I [] (fun e I' H' => ∃ ib o, e = .returned (ptr ib 0) ∧ IxOk I' o (Ix.rputs (es.map entL) []) ∧ H' = ixH ib o) := by
 obtain ⟨p, c, rfl, hc, -⟩ := id hE0.1
 refine Ctr.ob func48 ?_
 intro w0 hw0
 refine Cj.sr (J.z q1 ?_)
 refine J.nssr (J.z (yl_buildS (pl := #[(0, 1), (1, 1), (2, 1)]) rfl rfl zeroValue114 rfl tU114 (fun w => by simp []) LBld.none) ?_)
 refine J.op rfl (q15 ?_)
 intro b1 hb1
 refine J.z q1 ?_
 refine J.nsss (Cj.region (J.z q0 ?_))
 refine J.z (q14 tU48) ?_
 refine J.z q0 ?_
 refine J.ns (Cj.block (Cj.loop (ι := BA) (fun y => y.i ≤ es.length ∧ Le I y.J ∧ IxOk y.J y.o (Ix.rputs ((es.take y.i).map entL) []) ∧ (Ix.rputs ((es.take y.i).map entL) []).length ≤ y.i) (fun y => es.length - y.i) (fun y => [(3, ptr b1 0), (8, .slice p es.length c), (9, i64 (es.length : Int)), (10, i64 (y.i : Int))]) (fun y => y.J) (fun y => ixH b1 y.o) ⟨0, _, none⟩ ⟨Nat.zero_le _, Le.refl _, rfl, Nat.le_refl _⟩ ⟨rfl, rfl, rfl, rfl, trivial⟩ rfl rfl ?_))
 rintro ⟨i, Jh, o⟩ ⟨hi, hIJ, hok, hlen⟩
 dsimp only at hi hIJ hok hlen ⊢
 have hE := hE0.mono hIJ
 refine Cj.sr (J.z q18 ?_)
 refine J.nss (Cj.cond rfl (fun hc2 => ?_) (fun hc2 => ?_))
 ·have hc2p := odt hc2
  have hlt : i < es.length := by omega
  obtain ⟨e0, hget⟩ : ∃ e, es[i]? = some e := ⟨_, lgg hlt⟩
  have hem := lmg hget
  obtain ⟨⟨p1, c1, hpe, hc1, hp⟩, hrecs⟩ := id hE
  cases hpe
  obtain ⟨eb, eo, ecs, ety, efr, esp, rfl, heb, hed⟩ := hp (ne_nil_of hlt)
  have hrec := hrecs e0 hem
  clear hrecs
  obtain ⟨vp0, vc0, hev, -, -⟩ := id hrec.1
  refine Cj.skip (Ej.seq (Cj.seq (Cj.block (Cj.sr (J.z (q16 (off' := eo + i * 5) tU48 tS59) ?_)))))
  refine J.z (yl_loadAgg rfl rfl isAgg59 tS59 (Blk.imm heb) (row_from entC_len hed hget) rfl) ?_
  refine J.op rfl (q21 tZ59 ?_)
  intro b3 hb3
  refine J.op rfl (op_store 0 rfl rfl rfl rfl rfl (ent_one hev) tS59 rfl rfl (LSpl.c (LSpl.c (LSpl.c (LSpl.c (LSpl.c LSpl.z))))) LSet.z ?_)
  refine J.nsr (J.z q0 ?_)
  refine J.z (q10 isAgg59 tS59 (Blk.at 0 rfl)) ?_
  refine J.op rfl (op_callR (H1 := ixH _ _) [_] rfl rfl rfl rfl rfl rfl (Put_ok b1 o (Ix.rputs ((es.take i).map entL) []) e0 _ hok (by omega) (hek e0 hem) hrec) ?_ (fun _ _ _ _ ⟨_, h, _⟩ => by cases h) (fun _ _ ⟨_, h, _⟩ => by cases h))
  intro v4 I5 H6 hle7 hp8
  have hIJ := hIJ.mono hle7
  obtain ⟨o1, h, hok1, rfl⟩ := hp8; cases h
  refine J.nil (Ej.blkNormal (Ej.seq (Cj.region (J.z (yl_add rfl rfl rfl (w64 (by omega))) ?_))))
  refine J.z q0 ?_
  refine J.nil (Ej.keep (Keeps.d Keeps.r) ?_)
  refine Ej.round ⟨i + 1, _, o1⟩ ⟨by dsimp only; omega, hIJ, by dsimp only; rw [rputs_next hget]; exact hok1, by dsimp only; rw [rputs_next hget]; have := rput_len e0.t (Ix.vals e0.fs) (Ix.rputs ((es.take i).map entL) []); omega⟩ (by dsimp only; omega) ⟨rfl, rfl, rfl, rfl, trivial⟩ rfl rfl
 have hc2p := odf hc2
 rw [List.take_of_length_le (by omega : es.length ≤ i)] at hok
 refine Cj.exit (Ej.seqExit (Ej.loopExit (Ej.blkExit (Ej.seq (Cj.sr (J.z q0 ?_))))))
 refine J.z q1 ?_
 refine J.ns (Cj.ret (q5 ?_))
 exact ⟨_, o, rfl, hok, rfl⟩
end Go.Proofs.YtekmeaoblpfnpaaGreatDoor
namespace Go.Sx
open Go
section
variable {P : Program} {K i j : TypeId} {f0 f1 : Field}
def EqK {α : Type} [BEq α] (P : Program) (K : TypeId) (kv : α → Array Value) : Prop := ∀ a b w, (Op.equalIn 10000 K (.agg (kv a)) (.agg (kv b))).run P w = .ok (a == b) w
theorem EqK.ints2 (hu : P.underlying K = some (.struct #[f0, f1])) (hp : P.stoodInHeld K = false) (n0 : f0.name ≠ "_") (n1 : f1.name ≠ "_") (o0 : f0.offset = 0) (o1 : f1.offset = 1) (t0 : f0.type = i) (t1 : f1.type = i) (hi : P.underlying i = some (.int .i64)) (ha : ∀ w, (isAgg i).run P w = .ok false w) :
    EqK P K (fun a : Int × Int => #[i64 a.1, i64 a.2]) := by
  subst t0
  exact fun a b w => stru_equal2 hu hp n0 n1 o0 o1 ha (t1 ▸ ha) (x0 := i64 a.1) (x1 := i64 a.2) (y0 := i64 b.1) (y1 := i64 b.2) w (fun d w => run_equalIn_int w d _ .i64 .i64 a.1 b.1 hi) (fun d w => run_equalIn_int w d _ .i64 .i64 a.2 b.2 (t1 ▸ hi)) 9998
end
section
variable {cx : Cx} {S : World → Prop} {ev0 : Env} {o : Oper} {α : Type} [BEq α] {t : TypeId} {kv : α → Array Value}
theorem yl_eqlK {x y : Operand} {U : Nat} {a b : α} {vs us : List Value} (ho : o.op = .binOp .eql t x y U) (hx : ev ev0 x = some (.agg vs.toArray)) (hy : ev ev0 y = some (.agg us.toArray)) (hvs : vs.toArray = kv a) (hus : us.toArray = kv b)
    (hK : EqK cx.P t kv) (hq : cx.P.eqGuardType cx.P.depth t = false) : Yld cx o ev0 S (.bool (a == b)) := by
  intro w0 w hw _
  have hg : (eqGuard .eql t x y (.agg vs.toArray) (.agg us.toArray)).run cx.P w = .ok () w := by
    simp [eqGuard, hq]
  have h1 := run_eql_struct (P := cx.P) w t vs.toArray us.toArray
  rw [hvs] at h1 hg hx
  rw [hus] at h1 hg hy
  rw [hK a b w] at h1
  simp [execOp, ho, hw.eval hx, hw.eval hy, hg, h1]
theorem yl_neqK {x y : Operand} {U : Nat} {a b : α} {vs us : List Value} (ho : o.op = .binOp .neq t x y U) (hx : ev ev0 x = some (.agg vs.toArray)) (hy : ev ev0 y = some (.agg us.toArray)) (hvs : vs.toArray = kv a) (hus : us.toArray = kv b)
    (hK : EqK cx.P t kv) (hq : cx.P.eqGuardType cx.P.depth t = false) : Yld cx o ev0 S (.bool (a != b)) := by
  intro w0 w hw _
  have hg : (eqGuard .neq t x y (.agg vs.toArray) (.agg us.toArray)).run cx.P w = .ok () w := by
    simp [eqGuard, hq]
  have h1 := run_neq_struct (P := cx.P) w t vs.toArray us.toArray
  rw [hvs] at h1 hg hx
  rw [hus] at h1 hg hy
  rw [hK a b w] at h1
  simp [execOp, ho, hw.eval hx, hw.eval hy, hg, h1, bne]
end
section
variable {cx : Cx} {S : World → Prop} {ev0 : Env} {o : Oper}
theorem yl_fieldR {x : Operand} {T k : Nat} {v0 v : Value} (ho : o.op = .field T x k) (hx : ev ev0 x = some v0) (hr : ∀ w, (Instr.field T v0 k).run cx.P w = .ok v w) : Yld cx o ev0 S v := by
  intro w0 w hw _
  simp [execOp, ho, hw.eval hx, hr]
end
theorem Pure.borrow {P : Program} {f : FuncId} {args : List Value} {I : Heap} {B : HL} {v : Value} (he : Enters P f) (h : ∀ J, Le I J → (∀ p ∈ B, J p.1 = some p.2) → Pure P f args J v) : Ctr P f args I B (fun e _ H' => e = .returned v ∧ H' = B) := by
  refine Ctr.withReady he fun hn hf => ?_
  refine (Ctr.borrow (h (hputs B I) (hputs_le hf) (hputs_at hn))).mono fun e I' H' _ ⟨J, K, ⟨h1, h2, h3⟩, h4, h5, h6⟩ => ⟨h1, ?_⟩
  subst h3; rw [h4, List.append_nil]
end Go.Sx
namespace Go.Proofs.YtekmeaoblpfnpaaGreatDoor
open _root_.Go.Proofs.Tryz
open Go Go.Sx
abbrev recA (t : Ix.Rec) : Array Value := #[i64 t.1, i64 t.2]
theorem eqRec : EqK Tryz.prog 54 recA := EqK.ints2 tU54 (by kernel_rfl) (by decide) (by decide) rfl rfl rfl rfl tU3 tA3
theorem ent_rec {cs sp : List Value} {o k : Nat} {es : List Ent} {x : Ent} (h : cs.drop o = es.flatMap entC ++ sp) (hx : es[k]? = some x) : (cs.drop (o + k * 5)).take 2 = recC x.t := by
  have h1 := row_from entC_len h hx
  rw [show (cs.drop (o + k * 5)).take 2 = ((cs.drop (o + k * 5)).take 5).take 2 by rw [List.take_take, show min 2 5 = 2 from rfl], h1]; rfl
theorem lessR_ne {a b : Ix.Rec} (h : a.1 ≠ b.1) : Ix.lessR a b = decide (a.1 < b.1) := by unfold Ix.lessR; rw [decide_eq_false (p := a.1 = b.1) h]; simp
theorem lessR_eq {a b : Ix.Rec} (h : a.1 = b.1) : Ix.lessR a b = decide (a.2 < b.2) := by unfold Ix.lessR; rw [decide_eq_true h, h, decide_eq_false (Int.lt_irrefl _)]; simp
def epos (es : List Ent) (t : Ix.Rec) : Nat := (es.takeWhile fun x => Ix.lessR x.t t).length
def ethere (es : List Ent) (t : Ix.Rec) : Bool := match es[epos es t]? with
  | none => false
  | some x => x.t == t
def eput (es : List Ent) (e : Ent) : List Ent := es.take (epos es e.t) ++ [e] ++ es.drop (if ethere es e.t then epos es e.t + 1 else epos es e.t)
def edrop (es : List Ent) (t : Ix.Rec) : List Ent := if ethere es t then es.take (epos es t) ++ es.drop (epos es t + 1) else es
theorem epos_cons (x : Ent) (es : List Ent) (t : Ix.Rec) : epos (x :: es) t = if Ix.lessR x.t t then epos es t + 1 else 0 := by
  unfold epos; rw [List.takeWhile_cons]; split <;> simp_all
theorem epos_le : ∀ (es : List Ent) (t : Ix.Rec), epos es t ≤ es.length
  | [], _ => Nat.zero_le _
  | x :: r, t => by rw [epos_cons]; have := epos_le r t; split <;> simp <;> omega
theorem epos_at : ∀ {es : List Ent} {t : Ix.Rec} {k : Nat}, (∀ x ∈ es.take k, Ix.lessR x.t t = true) → (∀ x, es[k]? = some x → Ix.lessR x.t t = false) → k ≤ es.length → epos es t = k
  | [], _, k, _, _, hk => by have : k = 0 := by simpa using hk
                             subst this; rfl
  | x :: r, t, 0, _, h2, _ => by rw [epos_cons, if_neg (by rw [h2 x rfl]; decide)]
  | x :: r, t, k + 1, h1, h2, hk => by
    rw [epos_cons, if_pos (h1 x (by rw [List.take_succ_cons]; exact .head _)), epos_at (k := k) (fun y hy => h1 y (by rw [List.take_succ_cons]; exact .tail _ hy)) (fun y hy => h2 y (by rw [List.getElem?_cons_succ]; exact hy)) (by simpa using hk)]
theorem ethere_at {es : List Ent} {t : Ix.Rec} {k : Nat} {x : Ent} (h : epos es t = k) (hx : es[k]? = some x) : ethere es t = (x.t == t) := by unfold ethere; rw [h, hx]
theorem ethere_no {es : List Ent} {t : Ix.Rec} {k : Nat} (h : epos es t = k) (hk : es.length ≤ k) : ethere es t = false := by unfold ethere; rw [h, List.getElem?_eq_none hk]
theorem take_all {es : List Ent} {t : Ix.Rec} {k : Nat} {x : Ent} (h : ∀ y ∈ es.take k, Ix.lessR y.t t = true) (hg : es[k]? = some x) (hx : Ix.lessR x.t t = true) : ∀ y ∈ es.take (k + 1), Ix.lessR y.t t = true := by
  obtain ⟨hlt, hg⟩ := List.getElem?_eq_some_iff.1 hg
  rw [List.take_succ_eq_append_getElem hlt, hg]
  intro y hy
  rcases List.mem_append.1 hy with g | g
  · exact h y g
  rw [List.mem_singleton.1 g]; exact hx
theorem ethere_cons (x : Ent) (es : List Ent) (t : Ix.Rec) : ethere (x :: es) t = if Ix.lessR x.t t then ethere es t else x.t == t := by
  unfold ethere; rw [epos_cons]
  by_cases h : Ix.lessR x.t t = true
  · rw [if_pos h, if_pos h]; rfl
  rw [if_neg h, if_neg h]; rfl
theorem eput_put (e : Ent) : ∀ es : List Ent, (eput es e).map entL = Ix.rput e.t (Ix.vals e.fs) (es.map entL)
  | [] => rfl
  | x :: r => by
    have ih := eput_put e r
    unfold eput at ih ⊢
    rw [epos_cons, ethere_cons, List.map_cons]
    unfold Ix.rput
    by_cases h : Ix.lessR x.t e.t = true
    · rw [if_pos h, if_pos h, if_pos h, ← ih]
      have e1 : (if ethere r e.t = true then epos r e.t + 1 + 1 else epos r e.t + 1) = (if ethere r e.t = true then epos r e.t + 1 else epos r e.t) + 1 := by split <;> rfl
      rw [e1]; rfl
    rw [if_neg h, if_neg h, if_neg h]
    by_cases h2 : x.t = e.t
    · rw [if_pos h2, if_pos (by simpa using h2)]; rfl
    rw [if_neg h2, if_neg (by simpa using h2)]; rfl
theorem edrop_id {t : Ix.Rec} {L : List Ent} (h : ∀ x ∈ L, x.t ≠ t) : Ix.rdrop t (L.map entL) = L.map entL := by
  unfold Ix.rdrop
  rw [List.filter_eq_self]
  intro y hy
  obtain ⟨x, hx, rfl⟩ := List.mem_map.1 hy
  exact decide_eq_true (h x hx)
theorem edrop_drop (t : Ix.Rec) : ∀ es : List Ent, Ix.Srt (es.map entL) → (edrop es t).map entL = Ix.rdrop t (es.map entL)
  | [], _ => rfl
  | x :: r, hs => by
    have h' := List.pairwise_cons.1 hs
    have ih := edrop_drop t r h'.2
    unfold edrop at ih ⊢
    rw [epos_cons, ethere_cons, List.map_cons]
    have hd : Ix.rdrop t (entL x :: r.map entL) = if x.t = t then Ix.rdrop t (r.map entL) else entL x :: Ix.rdrop t (r.map entL) := by
      unfold Ix.rdrop
      rw [List.filter_cons]
      by_cases g : x.t = t
      · rw [if_pos g, if_neg (by simp [g])]
      rw [if_neg g, if_pos (by simp [g])]
    have hbig : ∀ u : Ix.Rec, Ix.lessR u x.t = false → u ≠ x.t → True := fun _ _ _ => trivial
    rw [hd]
    by_cases h : Ix.lessR x.t t = true
    · have hne : x.t ≠ t := fun g => by rw [g, Ix.lessR_irr] at h; cases h
      rw [if_pos h, if_pos h, if_neg hne, ← ih]
      split <;> rfl
    rw [if_neg h, if_neg h]
    by_cases g : x.t = t
    · rw [if_pos g, if_pos (by simpa using g), edrop_id fun y hy he => by
        have := h'.1 (entL y) (List.mem_map_of_mem hy)
        simp only [] at this
        rw [he, ← g, Ix.lessR_irr] at this; cases this]
      rfl
    rw [if_neg g, if_neg (by simpa using g), edrop_id fun y hy he => by
      have h1 := h'.1 (entL y) (List.mem_map_of_mem hy)
      simp only [] at h1
      rw [he] at h1; exact h h1]
    rfl
theorem eput_len (es : List Ent) (e : Ent) : (eput es e).length ≤ es.length + 1 := by
  unfold eput
  have := epos_le es e.t
  simp only [List.length_append, List.length_take, List.length_drop, List.length_singleton]
  split <;> omega
theorem edrop_len (es : List Ent) (t : Ix.Rec) : (edrop es t).length ≤ es.length := by
  unfold edrop
  split
  · have := epos_le es t
    simp only [List.length_append, List.length_take, List.length_drop]; omega
  exact Nat.le_refl _
theorem eput_mem {es : List Ent} {e x : Ent} (h : x ∈ eput es e) : x = e ∨ x ∈ es := by
  unfold eput at h
  rcases List.mem_append.1 h with g | g
  · rcases List.mem_append.1 g with g | g
    · exact .inr (List.mem_of_mem_take g)
    exact .inl (List.mem_singleton.1 g)
  exact .inr (List.mem_of_mem_drop g)
theorem edrop_mem {es : List Ent} {t : Ix.Rec} {x : Ent} (h : x ∈ edrop es t) : x ∈ es := by
  unfold edrop at h
  split at h
  · rcases List.mem_append.1 h with g | g
    · exact List.mem_of_mem_take g
    exact List.mem_of_mem_drop g
  exact h
theorem ethere_lt {es : List Ent} {t : Ix.Rec} (h : ethere es t = true) : epos es t < es.length := by
  rcases Nat.lt_or_ge (epos es t) es.length with g | g
  · exact g
  rw [ethere_no rfl g] at h; cases h
theorem ents_one {I : Heap} {es : List Ent} {v : Value} (h : EntsS I es v) {l : List Ent} (hl : ∀ x ∈ l, x ∈ es) : ∀ x ∈ l, (entC x).all Value.oneCell' = true := fun x hx => by
  obtain ⟨p, c, he, -⟩ := (h.2 x (hl x hx)).1
  exact ent_one he
theorem EntsS.nil {I : Heap} : EntsS I [] (.slice none 0 0) := ⟨RowS.nil, fun _ h => by cases h⟩
theorem EntsS.len {I : Heap} {es : List Ent} {v : Value} (h : EntsS I es v) : ∃ p c, v = .slice p es.length c ∧ es.length ≤ c := let ⟨p, c, h, hc, _⟩ := h.1; ⟨p, c, h, hc⟩
theorem rLess_ok (a b : Ix.Rec) (I : Heap) : Pure Tryz.prog 29 [kvR a, kvR b] I (.bool (Ix.lessR a b)) := by
 refine Ctr.toPure ?_
 refine Ctr.ob func29 ?_
 intro w0 hw0
 refine Cj.sr (J.op rfl (q15 ?_))
 intro b1 hb1
 refine J.op rfl (q15 ?_)
 intro b2 hb2
 refine J.z q1 ?_
 refine J.nsss (Cj.region (J.z (q2 (off' := 0) tU54 tS3) ?_))
 refine J.z (q3 tA3 (Blk.at 1 rfl)) ?_
 refine J.z (q2 (off' := 0) tU54 tS3) ?_
 refine J.z (q3 tA3 (Blk.at 0 rfl)) ?_
 refine J.z (yl_neq rfl rfl rfl) ?_
 refine J.cd (fun hc3 => ?_) (fun hc3 => ?_)
 ·have hc3p := bne_iff_ne.1 hc3
  have hl := lessR_ne (bne_iff_ne.1 hc3)
  refine Cj.sr (J.z (q2 (off' := 0) tU54 tS3) ?_)
  refine J.z (q3 tA3 (Blk.at 1 rfl)) ?_
  refine J.z (q2 (off' := 0) tU54 tS3) ?_
  refine J.z (q3 tA3 (Blk.at 0 rfl)) ?_
  refine J.z q18 ?_
  refine J.z q1 ?_
  refine J.ns (Cj.ret (Ej.seqRet (Ej.bare ?_)))
  refine q5 ?_
  rw [hl]
  exact ⟨rfl, rfl⟩
 have hc3p := bne_f hc3
 have hl := lessR_eq (bne_f hc3)
 refine Cj.skip (Ej.seq (Cj.sr (J.z (q2 (off' := 1) tU54 tS3) ?_)))
 refine J.z (q3 tA3 (Blk.at 1 rfl)) ?_
 refine J.z (q2 (off' := 1) tU54 tS3) ?_
 refine J.z (q3 tA3 (Blk.at 0 rfl)) ?_
 refine J.z q18 ?_
 refine J.z q1 ?_
 refine J.ns (Cj.ret (Ej.bare ?_))
 refine q5 ?_
 rw [hl]
 exact ⟨rfl, rfl⟩
theorem rfind_ok (rb : Nat) (w : Value) (es : List Ent) (t : Ix.Rec) (hl : es.length ≤ 1000000) (I : Heap) (hrb : I rb = some (cel 50 [w])) (hE : EntsS I es w) : Pure Tryz.prog 92 [ptr rb 0, kvR t] I (.tuple #[i64 (epos es t : Int), .bool (ethere es t)]) := by
 refine Ctr.toPure ?_
 obtain ⟨p, c, rfl, hc, hp⟩ := id hE.1
 refine Ctr.ob func92 ?_
 intro w0 hw0
 refine Cj.sr (J.op rfl (q15 ?_))
 intro b1 hb1
 refine J.z q1 ?_
 refine J.z q1 ?_
 refine J.nssr (J.z q1 ?_)
 refine J.nss (Cj.block (Cj.loop (ι := Nat) (fun y => y ≤ es.length ∧ ∀ x ∈ es.take y, Ix.lessR x.t t = true) (fun y => es.length - y) (fun y => [(0, ptr rb 0), (3, ptr b1 0), (6, i64 (y : Int))]) (fun y => _) (fun y => [(b1, cel 54 [i64 t.1, i64 t.2])]) 0 ⟨Nat.zero_le _, fun x hx => by simp at hx⟩ ⟨rfl, rfl, rfl, trivial⟩ rfl rfl ?_))
 rintro y ⟨hy, hall⟩
 refine Cj.seq (Cj.sr (J.z q0 ?_))
 refine J.z q0 ?_
 refine J.z q6 ?_
 refine J.z (q2 (off' := 0) tU50 tS48) ?_
 refine J.z (q3 tA48 (Blk.imm hrb)) ?_
 refine J.z (q14 tU48) ?_
 refine J.z q18 ?_
 refine J.cd (fun hc2 => ?_) (fun hc2 => ?_)
 ·have hc2p := odt hc2
  have hlt : y < es.length := by omega
  obtain ⟨x, hget⟩ : ∃ x, es[y]? = some x := ⟨_, lgg hlt⟩
  obtain ⟨eb, eo, ecs, ety, efr, esp, rfl, heb, hed⟩ := hp (ne_nil_of hlt)
  refine Cj.skip (Ej.seq (Cj.block (Cj.seq (Cj.drawSel [0] [] 11 (by kernel_rfl) ?_))))
  have hrb_3 := hrb
  have heb_3 := heb
  refine JA.fix ⟨(HSub.c 0 rfl HSub.n), CSub.n, (Le.refl _)⟩ (fun fx3 => ?_)
  refine JA.tk 0 rfl fx3 q0 ?_
  refine JA.tk 1 rfl fx3 q6 ?_
  refine JA.tk 2 rfl fx3 (q2 (off' := 0) tU50 tS48) ?_
  refine JA.tk 3 rfl fx3 (q3 tA48 (Blk.immC hrb_3)) ?_
  refine JA.tk 4 rfl fx3 q0 ?_
  refine JA.tk 5 rfl fx3 (q16 (off' := eo + y * 5) tU48 tS59) ?_
  refine JA.tk 6 rfl fx3 (q2 tU59 tS54) ?_
  refine JA.tk 7 rfl fx3 (yl_loadAgg rfl rfl tA54 tS54 (Blk.immC heb_3) (ent_rec hed hget) rfl) ?_
  refine JA.tk 8 rfl fx3 (q10 tA54 tS54 (Blk.atC 0 rfl)) ?_
  refine q4 9 rfl (op_pure rfl rfl rfl rfl rfl (rLess_ok x.t t _) ?_)
  refine ⟨⟨(Le.refl _), (HSub.c 0 rfl HSub.n), CSub.n⟩, ?_⟩
  refine JA.fix ⟨(HSub.c 0 rfl HSub.n), CSub.n, (Le.refl _)⟩ (fun fx4 => ?_)
  refine JA.tk 10 rfl fx4 q1 ?_
  refine q8 ?_
  refine Ej.seq (Cj.seq (Cj.sr (J.z q0 ?_)))
  refine J.z (yl_not rfl rfl) ?_
  refine J.cd (fun hc5 => ?_) (fun hc5 => ?_)
  ·have hls : Ix.lessR x.t t = false := by have h := hc5; simpa using h
   refine Cj.exit (Ej.seqExit (Ej.blkOther rfl ?_))
   refine Ej.loopExit (Ej.blkExit (Ej.seq (Cj.seq ?_)))
   have hpos : epos es t = y := epos_at hall (fun z hz => by rw [hget] at hz; cases hz; exact hls) hy
   have hth := ethere_at hpos hget
   refine Cj.drawSel [0] [] 22 (by kernel_rfl) ?_
   refine JA.fix ⟨(HSub.c 0 rfl HSub.n), CSub.n, (Le.refl _)⟩ (fun fx6 => ?_)
   refine JA.tk 0 rfl fx6 q0 ?_
   refine JA.tk 1 rfl fx6 q0 ?_
   refine JA.tk 2 rfl fx6 q0 ?_
   refine JA.tk 3 rfl fx6 q6 ?_
   refine JA.tk 4 rfl fx6 (q2 (off' := 0) tU50 tS48) ?_
   refine JA.tk 5 rfl fx6 (q3 tA48 (Blk.immC hrb)) ?_
   refine JA.tk 6 rfl fx6 (q14 tU48) ?_
   refine JA.tk 7 rfl fx6 q18 ?_
   refine JA.tk 8 rfl fx6 q0 ?_
   refine JA.split 37 rfl (fun hg7 => ?_) (fun hg7 => ?_)
   rotate_left
   ·have hg7p := odf hg7
    omega
   have hg7p := odt hg7
   refine JA.tkG 9 8 37 true _ rfl fx6 rfl rfl hg7 q0 ?_
   refine JA.tkG 10 8 37 true _ rfl fx6 rfl rfl hg7 q6 ?_
   refine JA.tkG 11 8 37 true _ rfl fx6 rfl rfl hg7 (q2 (off' := 0) tU50 tS48) ?_
   refine JA.tkG 12 8 37 true _ rfl fx6 rfl rfl hg7 (q3 tA48 (Blk.immC hrb)) ?_
   refine JA.tkG 13 8 37 true _ rfl fx6 rfl rfl hg7 q0 ?_
   refine JA.tkG 14 8 37 true _ rfl fx6 rfl rfl hg7 (q16 (off' := eo + y * 5) tU48 tS59) ?_
   refine JA.tkG 15 8 37 true _ rfl fx6 rfl rfl hg7 (q2 tU59 tS54) ?_
   refine JA.tkG 16 8 37 true _ rfl fx6 rfl rfl hg7 (yl_loadAgg rfl rfl tA54 tS54 (Blk.immC heb) (ent_rec hed hget) rfl) ?_
   refine JA.tkG 17 8 37 true _ rfl fx6 rfl rfl hg7 (q10 tA54 tS54 (Blk.atC 0 rfl)) ?_
   refine JA.tkG 18 8 37 true _ rfl fx6 rfl rfl hg7 (yl_eqlK (kv := recA) (a := x.t) (b := t) rfl rfl rfl rfl rfl eqRec (by kernel_rfl)) ?_
   refine JA.tk 19 rfl fx6 (q22 hg7) ?_
   refine JA.tk 20 rfl fx6 q1 ?_
   refine JA.tk 21 rfl fx6 q1 ?_
   refine q8 ?_
   refine Ej.seq (Cj.ret (Ej.bare ?_))
   refine q20 ?_
   rw [hpos, hth]
   exact ⟨rfl, rfl⟩
  have hls : Ix.lessR x.t t = true := by have h := hc5; simpa using h
  refine Cj.skip (Ej.seq (Cj.region (J.z q0 ?_)))
  refine J.z (yl_add rfl rfl rfl (w64 (by omega))) ?_
  refine J.z q1 ?_
  refine J.nil (Ej.blkNormal (Ej.round (y + 1) ⟨by omega, take_all hall hget hls⟩ (by omega) ⟨rfl, rfl, rfl, trivial⟩ rfl rfl))
 have hc2p := odf hc2
 refine Cj.exit (Ej.seqExit (Ej.loopExit (Ej.blkExit (Ej.seq (Cj.seq ?_)))))
 have hpos : epos es t = y := epos_at hall (fun x hx => absurd (List.getElem?_eq_some_iff.1 hx).1 (by omega)) hy
 have hth := ethere_no hpos (by omega)
 refine Cj.drawSel [0] [] 22 (by kernel_rfl) ?_
 refine JA.fix ⟨(HSub.c 0 rfl HSub.n), CSub.n, (Le.refl _)⟩ (fun fx8 => ?_)
 refine JA.tk 0 rfl fx8 q0 ?_
 refine JA.tk 1 rfl fx8 q0 ?_
 refine JA.tk 2 rfl fx8 q0 ?_
 refine JA.tk 3 rfl fx8 q6 ?_
 refine JA.tk 4 rfl fx8 (q2 (off' := 0) tU50 tS48) ?_
 refine JA.tk 5 rfl fx8 (q3 tA48 (Blk.immC hrb)) ?_
 refine JA.tk 6 rfl fx8 (q14 tU48) ?_
 refine JA.tk 7 rfl fx8 q18 ?_
 refine JA.tk 8 rfl fx8 q0 ?_
 refine JA.split 37 rfl (fun hg9 => ?_) (fun hg9 => ?_)
 ·have hg9p := odt hg9
  omega
 have hg9p := odf hg9
 refine JA.tkS 9 8 37 true _ rfl fx8 rfl rfl (.inl (congrArg Value.bool hg9)) ?_
 refine JA.tkS 10 8 37 true _ rfl fx8 rfl rfl (.inl (congrArg Value.bool hg9)) ?_
 refine JA.tkS 11 8 37 true _ rfl fx8 rfl rfl (.inl (congrArg Value.bool hg9)) ?_
 refine JA.tkS 12 8 37 true _ rfl fx8 rfl rfl (.inl (congrArg Value.bool hg9)) ?_
 refine JA.tkS 13 8 37 true _ rfl fx8 rfl rfl (.inl (congrArg Value.bool hg9)) ?_
 refine JA.tkS 14 8 37 true _ rfl fx8 rfl rfl (.inl (congrArg Value.bool hg9)) ?_
 refine JA.tkS 15 8 37 true _ rfl fx8 rfl rfl (.inl (congrArg Value.bool hg9)) ?_
 refine JA.tkS 16 8 37 true _ rfl fx8 rfl rfl (.inl (congrArg Value.bool hg9)) ?_
 refine JA.tkS 17 8 37 true _ rfl fx8 rfl rfl (.inl (congrArg Value.bool hg9)) ?_
 refine JA.tkS 18 8 37 true _ rfl fx8 rfl rfl (.inl (congrArg Value.bool hg9)) ?_
 refine JA.tk 19 rfl fx8 (q23 hg9) ?_
 refine JA.tk 20 rfl fx8 q1 ?_
 refine JA.tk 21 rfl fx8 q1 ?_
 refine q8 ?_
 refine Ej.seq (Cj.ret (Ej.bare ?_))
 refine q20 ?_
 rw [hpos, hth]
 exact ⟨rfl, rfl⟩
theorem rfind_own (rb : Nat) (w : Value) (es : List Ent) (t : Ix.Rec) (hl : es.length ≤ 1000000) (I : Heap) (hE : EntsS I es w) : Ctr Tryz.prog 92 [ptr rb 0, kvR t] I [(rb, cel 50 [w])] (fun e _ H' => e = .returned (.tuple #[i64 (epos es t : Int), .bool (ethere es t)]) ∧ H' = [(rb, cel 50 [w])]) :=
  Pure.borrow (Enters.of func92 (by decide) rfl) fun J hle hJ => rfind_ok rb w es t hl J (hJ (rb, _) (.head _)) (hE.mono hle)
theorem RowS.from {α : Type} {f : α → List Value} {sz : Nat} (hf : ∀ x, (f x).length = sz) {I : Heap} {l : List α} {a : Option Addr} {c : Nat} (h : RowS f I l (.slice a l.length c)) {j : Nat} (hj : j ≤ l.length) : RowS f I (l.drop j) (.slice (cutA a c j sz) (l.length - j) (c - j)) := by
  have h1 := RowS.cut hf h hj (Nat.le_refl _)
  rwa [List.take_of_length_le (by rw [List.length_drop]; omega)] at h1
theorem three_flat (a b : List Ent) (e : Ent) : ((([] : List Value) ++ a.flatMap entC) ++ entC e) ++ b.flatMap entC = (a ++ [e] ++ b).flatMap entC := by simp
theorem two_flat (a b : List Ent) : (([] : List Value) ++ a.flatMap entC) ++ b.flatMap entC = (a ++ b).flatMap entC := by simp
theorem EntsS.put {I I' : Heap} {es : List Ent} {e : Ent} {w v : Value} (h : EntsS I es w) (he : RecS I e.fs e.v) (hle : Le I I') (hr : RowS entC I' (eput es e) v) : EntsS I' (eput es e) v := ⟨hr, fun x hx => by
  rcases eput_mem hx with rfl | g
  · exact he.mono hle
  exact (h.2 x g).mono hle⟩
theorem EntsS.drop {I I' : Heap} {es : List Ent} {t : Ix.Rec} {w v : Value} (h : EntsS I es w) (hle : Le I I') (hr : RowS entC I' (edrop es t) v) : EntsS I' (edrop es t) v := ⟨hr, fun x hx => (h.2 x (edrop_mem hx)).mono hle⟩
theorem rPut_ok (rb : Nat) (w : Value) (es : List Ent) (e : Ent) (hl : es.length ≤ 1000000) (I : Heap) (hE : EntsS I es w) (hr : RecS I e.fs e.v) : Ctr Tryz.prog 99 [ptr rb 0, .agg (entC e).toArray] I [(rb, cel 50 [w])] (fun ev I' H' => ∃ w', ev = .returned (.tuple #[]) ∧ EntsS I' (eput es e) w' ∧ H' = [(rb, cel 50 [w'])]) := by
 have hrow := hE.1
 obtain ⟨p, c, rfl, hc⟩ := hE.len
 obtain ⟨vp, vc, hev, -, -⟩ := id hr.1
 have hpl := epos_le es e.t
 have htl : (es.take (epos es e.t)).length = epos es e.t := by rw [List.length_take]; omega
 refine Ctr.ob func99 ?_
 intro w0 hw0
 refine Cj.sr (J.op rfl (q15 ?_))
 intro b1 hb1
 refine J.nssr (J.z q0 ?_)
 refine J.z (q2 (off' := 0) tU59 tS54) ?_
 refine J.z (q10 tA54 tS54 (Blk.at 0 rfl)) ?_
 refine J.pull (Pull.s Pull.z) ?_
 refine J.op rfl (op_call (H1 := [_]) rfl rfl rfl rfl rfl (rfind_own rb _ es e.t hl _ hE) ?_ (fun _ _ _ _ h => by cases h.1) (fun _ _ h => by cases h.1))
 intro v2 I3 H4 hle5 hp6
 have hE := hE.mono hle5
 have hr := hr.mono hle5
 have hrow := hrow.mono hle5
 obtain ⟨h, rfl⟩ := hp6; cases h
 refine J.z q0 ?_
 refine J.z q11 ?_
 refine J.z q11 ?_
 refine J.z q1 ?_
 refine J.z q1 ?_
 refine J.nssr (J.z q1 ?_)
 refine J.nssr (J.z q0 ?_)
 refine J.z q0 ?_
 refine J.z q6 ?_
 refine J.z (q2 (off' := 0) tU50 tS48) ?_
 refine J.z (q3 tA48 (Blk.at 0 rfl)) ?_
 refine J.z q0 ?_
 refine J.z (yl_slice0 (k := epos es e.t) rfl rfl rfl tU48 tS59 rfl (by omega)) ?_
 refine J.op rfl (op_append (by' := 47) (n := 0) (g := none) (xs := []) [_, _] rfl rfl rfl rfl rfl tU48 (.inr ⟨_, tU48⟩) (by kernel_rfl) tS59 tZ59 rfl ⟨rfl, rfl⟩ rfl (Src.row entC_len (RowS.take hrow hpl) (ents_one hE (fun x hx => List.mem_of_mem_take hx))) (by omega) ?_)
 intro g7 hg7
 refine J.z q1 ?_
 refine J.nssr (J.z q0 ?_)
 refine J.z (q10 isAgg59 tS59 (Blk.at 1 rfl)) ?_
 refine J.op rfl (q17 tU48 tS59 tZ59 (LCat.agg rfl LCat.none) ?_)
 intro b8 hb8
 refine J.op rfl (op_append (by' := 47) [_, _, _] rfl rfl rfl rfl rfl tU48 (.inr ⟨_, tU48⟩) (by kernel_rfl) tS59 tZ59 rfl hg7 rfl (Src.slice (Blk.at 0 rfl) rfl rfl (ent_one hev)) (by omega) ?_)
 intro g9 hg9
 refine J.z q1 ?_
 refine J.nsss (Cj.region (J.z q0 ?_))
 refine J.cd (fun hc10 => ?_) (fun hc10 => ?_)
 ·have hth : ethere es e.t = true := hc10
  have hlt := ethere_lt hth
  have hpj : epos es e.t + 1 ≤ es.length := hlt
  have hdl : (es.drop (epos es e.t + 1)).length = es.length - (epos es e.t + 1) := List.length_drop
  refine Cj.region (J.z q0 ?_)
  refine J.z (yl_add rfl rfl rfl (w64 (by omega))) ?_
  refine J.z q1 ?_
  refine J.nsr (J.z q0 ?_)
  refine J.z q0 ?_
  refine J.z q0 ?_
  refine J.z q6 ?_
  refine J.z (q2 (off' := 0) tU50 tS48) ?_
  refine J.z (q3 tA48 (Blk.at 1 rfl)) ?_
  refine J.z q0 ?_
  refine J.z (yl_slice1 (j := (epos es e.t + 1)) rfl rfl rfl tU48 tS59 rfl (by omega) (by omega)) ?_
  refine J.op rfl (op_append (by' := 47) [_, _, _] rfl rfl rfl rfl rfl tU48 (.inr ⟨_, tU48⟩) (by kernel_rfl) tS59 tZ59 rfl hg9 rfl (Src.row entC_len (RowS.from entC_len hrow (j := epos es e.t + 1) hpj) (ents_one hE (fun x hx => List.mem_of_mem_drop hx))) (by omega) ?_)
  intro g11 hg11
  refine J.z q6 ?_
  refine J.z (q2 (off' := 0) tU50 tS48) ?_
  refine J.op rfl (op_store 1 rfl rfl rfl rfl (gV_cells _ _) (gV_one _ _) tS48 rfl rfl (LSpl.c LSpl.z) (LSet.s LSet.z) ?_)
  refine J.nil (Ej.keep (Keeps.d (Keeps.k (Keeps.d Keeps.r))) ?_)
  have hes : es.take (epos es e.t) ++ [e] ++ es.drop (epos es e.t + 1) = eput es e := by unfold eput; rw [hth]; rfl
  have hfl := (three_flat (es.take (epos es e.t)) (es.drop (epos es e.t + 1)) e).trans (congrArg (List.flatMap entC) hes)
  refine Ej.perm (H' := gH 59 ((eput es e).flatMap entC) g11 ++ [(rb, _)]) (by rw [← hfl]; exact List.perm_append_comm) ?_
  refine Ej.keepR entC_len (by decide) (by rw [← hfl]; exact hg11) (by rw [← hes]; simp only [List.length_append, List.length_singleton]; omega) (fun I8 hle8 hw8 => ?_)
  refine Ej.end0 rfl rfl ?_
  exact ⟨_, rfl, hE.put hr hle8 hw8, rfl⟩
 have hth : ethere es e.t = false := hc10
 have hpj := hpl
 have hdl : (es.drop (epos es e.t)).length = es.length - epos es e.t := List.length_drop
 refine Cj.skip (Ej.seq (Cj.region (J.z q0 ?_)))
 refine J.z q0 ?_
 refine J.z q0 ?_
 refine J.z q6 ?_
 refine J.z (q2 (off' := 0) tU50 tS48) ?_
 refine J.z (q3 tA48 (Blk.at 1 rfl)) ?_
 refine J.z q0 ?_
 refine J.z (yl_slice1 (j := (epos es e.t)) rfl rfl rfl tU48 tS59 rfl (by omega) (by omega)) ?_
 refine J.op rfl (op_append (by' := 47) [_, _, _] rfl rfl rfl rfl rfl tU48 (.inr ⟨_, tU48⟩) (by kernel_rfl) tS59 tZ59 rfl hg9 rfl (Src.row entC_len (RowS.from entC_len hrow (j := epos es e.t) hpj) (ents_one hE (fun x hx => List.mem_of_mem_drop hx))) (by omega) ?_)
 intro g12 hg12
 refine J.z q6 ?_
 refine J.z (q2 (off' := 0) tU50 tS48) ?_
 refine J.op rfl (op_store 1 rfl rfl rfl rfl (gV_cells _ _) (gV_one _ _) tS48 rfl rfl (LSpl.c LSpl.z) (LSet.s LSet.z) ?_)
 refine J.nil (Ej.keep (Keeps.d (Keeps.k (Keeps.d Keeps.r))) ?_)
 have hes : es.take (epos es e.t) ++ [e] ++ es.drop (epos es e.t) = eput es e := by unfold eput; rw [hth]; rfl
 have hfl := (three_flat (es.take (epos es e.t)) (es.drop (epos es e.t)) e).trans (congrArg (List.flatMap entC) hes)
 refine Ej.perm (H' := gH 59 ((eput es e).flatMap entC) g12 ++ [(rb, _)]) (by rw [← hfl]; exact List.perm_append_comm) ?_
 refine Ej.keepR entC_len (by decide) (by rw [← hfl]; exact hg12) (by rw [← hes]; simp only [List.length_append, List.length_singleton]; omega) (fun I8 hle8 hw8 => ?_)
 refine Ej.end0 rfl rfl ?_
 exact ⟨_, rfl, hE.put hr hle8 hw8, rfl⟩
theorem rDrop_ok (rb : Nat) (w : Value) (es : List Ent) (t : Ix.Rec) (hl : es.length ≤ 1000000) (I : Heap) (hE : EntsS I es w) : Ctr Tryz.prog 44 [ptr rb 0, kvR t] I [(rb, cel 50 [w])] (fun ev I' H' => ∃ w', ev = .returned (.tuple #[]) ∧ EntsS I' (edrop es t) w' ∧ H' = [(rb, cel 50 [w'])]) := by
 have hrow := hE.1
 obtain ⟨p, c, rfl, hc⟩ := hE.len
 have hpl := epos_le es t
 have htl : (es.take (epos es t)).length = epos es t := by rw [List.length_take]; omega
 refine Ctr.ob func44 ?_
 intro w0 hw0
 refine Cj.sr (J.op rfl (q15 ?_))
 intro b1 hb1
 refine J.nssr (J.z q0 ?_)
 refine J.z (q10 tA54 tS54 (Blk.at 0 rfl)) ?_
 refine J.pull (Pull.s Pull.z) ?_
 refine J.op rfl (op_call (H1 := [_]) rfl rfl rfl rfl rfl (rfind_own rb _ es t hl _ hE) ?_ (fun _ _ _ _ h => by cases h.1) (fun _ _ h => by cases h.1))
 intro v2 I3 H4 hle5 hp6
 have hE := hE.mono hle5
 have hrow := hrow.mono hle5
 obtain ⟨h, rfl⟩ := hp6; cases h
 refine J.z q0 ?_
 refine J.z q11 ?_
 refine J.z q11 ?_
 refine J.z q1 ?_
 refine J.z q1 ?_
 refine J.nssr (J.z q0 ?_)
 refine J.cd (fun hc7 => ?_) (fun hc7 => ?_)
 ·have hth : ethere es t = true := hc7
  have hlt := ethere_lt hth
  have hpj : epos es t + 1 ≤ es.length := hlt
  have hdl : (es.drop (epos es t + 1)).length = es.length - (epos es t + 1) := List.length_drop
  refine Cj.sr (J.z q1 ?_)
  refine J.nssr (J.z q0 ?_)
  refine J.z q0 ?_
  refine J.z q6 ?_
  refine J.z (q2 (off' := 0) tU50 tS48) ?_
  refine J.z (q3 tA48 (Blk.at 0 rfl)) ?_
  refine J.z q0 ?_
  refine J.z (yl_slice0 (k := epos es t) rfl rfl rfl tU48 tS59 rfl (by omega)) ?_
  refine J.op rfl (op_append (by' := 47) (n := 0) (g := none) (xs := []) [_, _] rfl rfl rfl rfl rfl tU48 (.inr ⟨_, tU48⟩) (by kernel_rfl) tS59 tZ59 rfl ⟨rfl, rfl⟩ rfl (Src.row entC_len (RowS.take hrow hpl) (ents_one hE (fun x hx => List.mem_of_mem_take hx))) (by omega) ?_)
  intro g8 hg8
  refine J.z q1 ?_
  refine J.nsr (J.z q0 ?_)
  refine J.z q0 ?_
  refine J.z q0 ?_
  refine J.z q6 ?_
  refine J.z (q2 (off' := 0) tU50 tS48) ?_
  refine J.z (q3 tA48 (Blk.at 0 rfl)) ?_
  refine J.z q0 ?_
  refine J.z (yl_add rfl rfl rfl (w64 (by omega))) ?_
  refine J.z (yl_slice1 (j := (epos es t + 1)) rfl rfl rfl tU48 tS59 rfl (by omega) (by omega)) ?_
  refine J.op rfl (op_append (by' := 47) [_, _] rfl rfl rfl rfl rfl tU48 (.inr ⟨_, tU48⟩) (by kernel_rfl) tS59 tZ59 rfl hg8 rfl (Src.row entC_len (RowS.from entC_len hrow (j := epos es t + 1) hpj) (ents_one hE (fun x hx => List.mem_of_mem_drop hx))) (by omega) ?_)
  intro g9 hg9
  refine J.z q6 ?_
  refine J.z (q2 (off' := 0) tU50 tS48) ?_
  refine J.op rfl (op_store 0 rfl rfl rfl rfl (gV_cells _ _) (gV_one _ _) tS48 rfl rfl (LSpl.c LSpl.z) LSet.z ?_)
  refine J.nil (Ej.keep (Keeps.k (Keeps.d Keeps.r)) ?_)
  have hes : es.take (epos es t) ++ es.drop (epos es t + 1) = edrop es t := by unfold edrop; rw [hth]; rfl
  have hfl := (two_flat (es.take (epos es t)) (es.drop (epos es t + 1))).trans (congrArg (List.flatMap entC) hes)
  refine Ej.perm (H' := gH 59 ((edrop es t).flatMap entC) g9 ++ [(rb, _)]) (by rw [← hfl]; exact List.perm_append_comm) ?_
  refine Ej.keepR entC_len (by decide) (by rw [← hfl]; exact hg9) (by rw [← hes]; simp only [List.length_append]; omega) (fun I8 hle8 hw8 => ?_)
  refine Ej.end0 rfl rfl ?_
  exact ⟨_, rfl, hE.drop hle8 hw8, rfl⟩
 have hth : ethere es t = false := hc7
 refine Cj.skip (Ej.keep (Keeps.k (Keeps.d Keeps.n)) ?_)
 refine Ej.end0 rfl rfl ?_
 exact ⟨_, rfl, (show edrop es t = es from by unfold edrop; rw [hth]; rfl).symm ▸ hE, rfl⟩
end Go.Proofs.YtekmeaoblpfnpaaGreatDoor
section
set_option maxHeartbeats 4000000
namespace Go.Proofs.YtekmeaoblpfnpaaGreatDoor
open Go Go.Sx
end Go.Proofs.YtekmeaoblpfnpaaGreatDoor
end
namespace Ke
open Go.Lib (decodeL decodeN)
def opens (t : Bs) : Prop := t = [] ∨ ∃ b r, t = b :: r ∧ b.toNat / 64 ≠ 2
theorem opens_cons {b : UInt8} {r : Bs} (h : b.toNat / 64 ≠ 2) : opens (b :: r) := .inr ⟨b, r, rfl, h⟩
theorem opens_nil : opens [] := .inl rfl
theorem opens_app {s t : Bs} (h : opens s) (hs : s ≠ []) : opens (s ++ t) := by
  rcases h with h | ⟨b, r, rfl, h⟩
  · exact absurd h hs
  exact .inr ⟨b, r ++ t, rfl, h⟩
theorem opens_app' {s t : Bs} (h : opens s) (ht : opens t) : opens (s ++ t) := by grind [opens_app]
theorem decodeL_app (l t : Bs) (hl : l ≠ []) (ht : opens t) : decodeL (l ++ t) = decodeL l := by
  rw [Go.Lib.decodeL_N, Go.Lib.decodeL_N]
  rcases ht with rfl | ⟨b, r, rfl, hb⟩
  · rw [List.append_nil]
  rcases l with _ | ⟨a0, _ | ⟨a1, _ | ⟨a2, _ | ⟨a3, l⟩⟩⟩⟩
  · exact absurd rfl hl
  all_goals
    simp only [List.cons_append, List.nil_append, List.length_cons, List.length_nil, List.length_append, List.getD_cons_zero, List.getD_cons_succ, List.getD_nil]
    unfold decodeN
    first
      | (have e1 : (0 + 1 < 0 + 1) = False := by simp
         simp [hb, Nat.lt_irrefl])
      | (simp [hb, Nat.lt_irrefl]; done)
      | skip
theorem runes_app_n : ∀ (n : Nat) (s t : Bs), s.length ≤ n → opens t → runes (s ++ t) = runes s ++ runes t
  | _, [], t, _, _ => by simp [runes_nil]
  | 0, a :: r, t, h, _ => by simp at h
  | n + 1, a :: r, t, h, ht => by
    have hne : a :: r ≠ [] := by simp
    have hw := Go.Lib.decodeL_width (a :: r)
    have hl := Go.Lib.decodeL_le (a :: r) hne
    rw [runes_cons (s := (a :: r) ++ t) (by simp), runes_cons hne, decodeL_app _ _ hne ht, List.drop_append_of_le_length hl, runes_app_n n _ t (by simp only [List.length_drop]; simp only [List.length_cons] at h; simp only [List.length_cons]; omega) ht]
    rfl
theorem runes_app (s t : Bs) (h : opens t) : runes (s ++ t) = runes s ++ runes t := runes_app_n _ s t (Nat.le_refl _) h
theorem runes_ascii {c : UInt8} (r : Bs) (h : c.toNat < 128) : runes (c :: r) = c.toNat :: runes r := by
  rw [runes_cons (by simp), Go.Lib.decodeL_ascii c r h]; rfl
theorem toByte {n : Nat} (h : n < 256) : (UInt8.ofNat n).toNat = n := by simp; omega
theorem enc1 {c : Nat} (h : c < 128) : enc c = [UInt8.ofNat c] := by
  unfold enc; rw [if_pos h]
theorem enc2 {c : Nat} (h1 : 128 ≤ c) (h : c < 2048) : enc c = [UInt8.ofNat (192 + c / 64), UInt8.ofNat (128 + c % 64)] := by
  unfold enc; rw [if_neg (by omega), if_pos h]
theorem enc3 {c : Nat} (h1 : 2048 ≤ c) (h : okc c) : enc c = [UInt8.ofNat (224 + c / 4096), UInt8.ofNat (128 + c / 64 % 64), UInt8.ofNat (128 + c % 64)] := by grind [okc, enc]
theorem enc_opens {c : Nat} (h : okc c) : opens (enc c) ∧ enc c ≠ [] := by
  by_cases h1 : c < 128
  · rw [enc1 h1]; exact ⟨opens_cons (by rw [toByte (by omega)]; omega), by simp⟩
  by_cases h2 : c < 2048
  · rw [enc2 (by omega) h2]; exact ⟨opens_cons (by rw [toByte (by omega)]; omega), by simp⟩
  rw [enc3 (by omega) h]; unfold okc at h; exact ⟨opens_cons (by rw [toByte (by omega)]; omega), by simp⟩
theorem decodeL_enc {c : Nat} (h : okc c) : decodeL (enc c) = (c, (enc c).length) := by
  rw [Go.Lib.decodeL_N]
  by_cases h1 : c < 128
  · rw [enc1 h1]
    simp only [List.length_cons, List.length_nil, List.getD_cons_zero, List.getD_cons_succ, List.getD_nil]
    rw [toByte (by omega)]
    unfold decodeN
    rw [if_pos h1]
  by_cases h2 : c < 2048
  · rw [enc2 (by omega) h2]
    simp only [List.length_cons, List.length_nil, List.getD_cons_zero, List.getD_cons_succ, List.getD_nil]
    rw [toByte (by omega), toByte (by omega)]
    unfold decodeN
    rw [if_neg (by omega), if_pos ⟨by omega, by omega, by omega⟩, if_pos (by omega)]
    refine Prod.ext ?_ rfl
    show _ = c
    simp only
    omega
  rw [enc3 (by omega) h]
  unfold okc at h
  simp only [List.length_cons, List.length_nil, List.getD_cons_zero, List.getD_cons_succ, List.getD_nil]
  rw [toByte (by omega), toByte (by omega), toByte (by omega)]
  unfold decodeN
  rw [if_neg (by omega), if_neg (by omega), if_pos ⟨by omega, ⟨by omega, by omega⟩, by omega, by omega⟩, if_pos ⟨by omega, by omega⟩]
  refine Prod.ext ?_ rfl
  show _ = c
  simp only
  omega
theorem runes_enc {c : Nat} (h : okc c) : runes (enc c) = [c] := by
  rw [runes_cons (enc_opens h).2, decodeL_enc h, List.drop_eq_nil_of_le (Nat.le_refl _)]; rfl
def encs (l : List Nat) : Bs := l.flatMap enc
theorem encs_opens : ∀ (l : List Nat), (∀ c ∈ l, okc c) → opens (encs l)
  | [], _ => opens_nil
  | c :: _r, h => opens_app (enc_opens (h c (.head _))).1 (enc_opens (h c (.head _))).2
theorem runes_encs : ∀ (l : List Nat), (∀ c ∈ l, okc c) → runes (encs l) = l
  | [], _ => rfl
  | c :: r, h => by
    show runes (enc c ++ encs r) = _
    rw [runes_app _ _ (encs_opens r fun d hd => h d (.tail _ hd)), runes_enc (h c (.head _)), runes_encs r fun d hd => h d (.tail _ hd)]
    rfl
end Ke
namespace Ke
end Ke
section
set_option maxHeartbeats 40000000
namespace Go.Proofs.YtekmeaoblpfnpaaGreatDoor
open Go Go.Sx
theorem mod_eq (n : Int) {m : Int} (hm : 0 < m) : (n.tmod m + m).tmod m = n % m := by
  have h1 := Int.tmod_lt_of_pos n hm
  have h2 : -m < n.tmod m := by
    have := Int.lt_tmod_of_pos n hm
    omega
  rw [Int.tmod_eq_emod_of_nonneg (by omega), Int.add_emod_right, Int.tmod_def, Int.sub_mul_emod_self_left]
end Go.Proofs.YtekmeaoblpfnpaaGreatDoor
end
namespace Go.Proofs.YtekmeaoblpfnpaaGreatDoor
open Go Go.Sx
end Go.Proofs.YtekmeaoblpfnpaaGreatDoor
section
set_option maxHeartbeats 40000000
namespace Go.Proofs.YtekmeaoblpfnpaaGreatDoor
open Go Go.Sx
end Go.Proofs.YtekmeaoblpfnpaaGreatDoor
end
namespace Go.Proofs.YtekmeaoblpfnpaaGreatDoor
open _root_.Go.Proofs.Tryz
open Go Go.Sx
theorem take_eqR {α : Type} {a b : List α} {k : Nat} {x y : α} (h : a.take k = b.take k) (hx : a[k]? = some x) (hy : b[k]? = some y) (he : x = y) : a.take (k + 1) = b.take (k + 1) := by
  obtain ⟨h1, e1⟩ := List.getElem?_eq_some_iff.1 hx
  obtain ⟨h2, e2⟩ := List.getElem?_eq_some_iff.1 hy
  rw [List.take_succ_eq_append_getElem h1, List.take_succ_eq_append_getElem h2, h, e1, e2, he]
theorem rRecs_ok (a b : List Ix.Rec) (va vb : Value) (hal : a.length ≤ 100000000000000) (I : Heap) (ha : RowS recC I a va) (hb : RowS recC I b vb) : Pure Tryz.prog 20 [va, vb] I (.bool (decide (a = b))) := by
 refine Ctr.toPure ?_
 obtain ⟨p1, c1, rfl, hc1, hp1⟩ := ha
 obtain ⟨p2, c2, rfl, hc2, hp2⟩ := hb
 refine Ctr.ob func20 ?_
 intro w0 hw0
 refine Cj.sr (J.z q1 ?_)
 refine J.nsss (Cj.region (J.z q0 ?_))
 refine J.z (q14 tU36) ?_
 refine J.z q0 ?_
 refine J.z (q14 tU36) ?_
 refine J.z (yl_neq rfl rfl rfl) ?_
 refine J.cd (fun hc1 => ?_) (fun hc1 => ?_)
 ·have hc1p := bne_iff_ne.1 hc1
  have hln : a.length ≠ b.length := by have h := bne_iff_ne.1 hc1; omega
  refine Cj.sr (J.z q1 ?_)
  refine J.ns (Cj.ret (Ej.seqRet (q5 ?_)))
  rw [decide_eq_false (fun e => hln (by rw [e]))]
  exact ⟨rfl, rfl⟩
 have hc1p := bne_f hc1
 have hlen : a.length = b.length := by have h := bne_f hc1; omega
 refine Cj.skip (Ej.seq (Cj.seq (Cj.sr (J.z q1 ?_))))
 refine J.ns (Cj.block (Cj.loop (ι := Nat) (fun j => j ≤ a.length ∧ a.take j = b.take j) (fun j => a.length - j) (fun j => [(0, .slice p1 a.length c1), (1, .slice p2 b.length c2), (5, i64 (j : Int))]) (fun j => _) (fun j => []) 0 ⟨Nat.zero_le _, rfl⟩ ⟨rfl, rfl, rfl, trivial⟩ rfl rfl ?_))
 rintro j ⟨hj, hall⟩
 refine Cj.seq (Cj.sr (J.z q0 ?_))
 refine J.z q0 ?_
 refine J.z (q14 tU36) ?_
 refine J.z q18 ?_
 refine J.cd (fun hc2 => ?_) (fun hc2 => ?_)
 ·have hc2p := odt hc2
  have hlt : j < a.length := by omega
  obtain ⟨x, hx⟩ : ∃ x, a[j]? = some x := ⟨_, lgg hlt⟩
  obtain ⟨y, hy⟩ : ∃ y, b[j]? = some y := ⟨_, lgg (by omega)⟩
  obtain ⟨fa, oa, acs, aty, afr, asp, rfl, hfa, had⟩ := hp1 (ne_nil_of hlt)
  obtain ⟨fb, ob, bcs, bty, bfr, bsp, rfl, hfb, hbd⟩ := hp2 (ne_nil_of (by omega : j < b.length))
  refine Cj.skip (Ej.seq (Cj.seq (Cj.block (Cj.seq (Cj.drawSel [] [] 9 (by kernel_rfl) ?_)))))
  refine JA.fix fx1 (fun fx3 => ?_)
  refine JA.tk 0 rfl fx3 q0 ?_
  refine JA.tk 1 rfl fx3 q0 ?_
  refine JA.tk 2 rfl fx3 (q16 (off' := oa + j * 2) tU36 tS54) ?_
  refine JA.tk 3 rfl fx3 (yl_loadAgg rfl rfl tA54 tS54 (Blk.immC hfa) (row_from recC_len had hx) rfl) ?_
  refine JA.tk 4 rfl fx3 q0 ?_
  refine JA.tk 5 rfl fx3 q0 ?_
  refine JA.tk 6 rfl fx3 (q16 (off' := ob + j * 2) tU36 tS54) ?_
  refine JA.tk 7 rfl fx3 (yl_loadAgg rfl rfl tA54 tS54 (Blk.immC hfb) (row_from recC_len hbd hy) rfl) ?_
  refine JA.tk 8 rfl fx3 (yl_neqK (kv := recA) (a := x) (b := y) rfl rfl rfl rfl rfl eqRec (by kernel_rfl)) ?_
  refine q8 ?_
  refine Ej.seq (Cj.cond rfl (fun hc4 => ?_) (fun hc4 => ?_))
  ·have hc4p := bne_iff_ne.1 hc4
   have hxy : x ≠ y := bne_iff_ne.1 hc4
   refine Cj.sr (J.z q1 ?_)
   refine J.ns (Cj.ret (Ej.blkRet (Ej.seqRet (Ej.loopRet (Ej.blkRet (Ej.seqRet (q5 ?_)))))))
   rw [decide_eq_false (fun e => hxy (by rw [e, hy] at hx; exact (Option.some.inj hx).symm))]
   exact ⟨rfl, rfl⟩
  have hc4p := bne_f hc4
  have hxy : x = y := bne_f hc4
  refine Cj.skip (Ej.blkNormal (Ej.seq (Cj.region (J.z q0 ?_))))
  refine J.z (yl_add rfl rfl rfl (w64 (by omega))) ?_
  refine J.z q1 ?_
  refine J.nil (Ej.round (j + 1) ⟨by omega, take_eqR hall hx hy hxy⟩ (by omega) ⟨rfl, rfl, rfl, trivial⟩ rfl rfl)
 have hc2p := odf hc2
 refine Cj.exit (Ej.seqExit (Ej.loopExit (Ej.blkExit (Ej.seq (Cj.sr (J.z q1 ?_))))))
 refine J.ns (Cj.ret (q5 ?_))
 rw [List.take_of_length_le (by omega : a.length ≤ j), List.take_of_length_le (by omega : b.length ≤ j)] at hall
 rw [decide_eq_true hall]
 exact ⟨rfl, rfl⟩
end Go.Proofs.YtekmeaoblpfnpaaGreatDoor
namespace Go.Proofs.YtekmeaoblpfnpaaGreatDoor
open Go Go.Sx
theorem RowS.len {α : Type} {f : α → List Value} {I : Heap} {l : List α} {v : Value} (h : RowS f I l v) : ∃ p c, v = .slice p l.length c := let ⟨p, c, h1, _⟩ := h; ⟨p, c, h1⟩
theorem flat_next {α β : Type} (f : α → List β) {l : List α} {k : Nat} {x : α} (h : l[k]? = some x) : (l.take (k + 1)).flatMap f = (l.take k).flatMap f ++ f x := by
  obtain ⟨hlt, h⟩ := List.getElem?_eq_some_iff.1 h
  rw [List.take_succ_eq_append_getElem hlt, h, List.flatMap_append]; simp
end Go.Proofs.YtekmeaoblpfnpaaGreatDoor
namespace Ke
def nrm1 (f : Fld) : Fld := { f with sv := .slice none 0 0 }
def nrm (fs : List Fld) : List Fld := fs.map nrm1
end Ke
namespace Go.Sx
open Go
theorem Ready.dom {I : Heap} {H : HL} {w : World} (h : Ready I H w) {b : Nat} (hb : w.heap.size ≤ b) : I b = none := by
  cases hI : I b with
  | none => rfl
  | some o =>
    have := h.1 b o hI
    rw [Array.getElem?_eq_none hb] at this; cases this
section
variable {cx : Cx} {Q : Qt} {e : Env} {I : Heap} {H : HL}
end
section
variable {cx : Cx} {Q : Qt} {e : Env} {I : Heap} {H : HL}
end
def RowN {α : Type} (N : Nat → Prop) (T : TypeId) (f : α → List Value) (I : Heap) (l : List α) (v : Value) : Prop :=
  ∃ p c, v = .slice p l.length c ∧ l.length ≤ c ∧ (l ≠ [] → ∃ b sp, p = some ⟨b, 0, none⟩ ∧ N b ∧ I b = some (cel T (l.flatMap f ++ sp)))
section
variable {α : Type} {N M : Nat → Prop} {T : TypeId} {f : α → List Value} {I I' : Heap} {l : List α} {v : Value}
theorem RowN.mono (h : RowN N T f I l v) (hle : Le I I') : RowN N T f I' l v :=
  let ⟨p, c, h1, h2, h3⟩ := h; ⟨p, c, h1, h2, fun hn => let ⟨b, sp, h4, h5, h6⟩ := h3 hn; ⟨b, sp, h4, h5, hle _ _ h6⟩⟩
theorem RowN.imp (h : RowN N T f I l v) (hm : ∀ b, N b → M b) : RowN M T f I l v :=
  let ⟨p, c, h1, h2, h3⟩ := h; ⟨p, c, h1, h2, fun hn => let ⟨b, sp, h4, h5, h6⟩ := h3 hn; ⟨b, sp, h4, hm b h5, h6⟩⟩
theorem RowN.rowT (h : RowN N T f I l v) : RowT T f I l v :=
  let ⟨p, c, h1, h2, h3⟩ := h; ⟨p, c, h1, h2, fun hn => let ⟨b, sp, h4, _, h6⟩ := h3 hn; ⟨b, sp, h4, h6⟩⟩
theorem RowN.row (h : RowN N T f I l v) : RowS f I l v := h.rowT.row
theorem RowN.nil : RowN N T f I ([] : List α) (.slice none 0 0) := ⟨none, 0, rfl, Nat.le_refl _, fun h => absurd rfl h⟩
end
section
variable {cx : Cx} {Q : Qt} {e : Env} {I : Heap} {R : HL} {T : TypeId} {α : Type} {l : List α} {f : α → List Value} {sz n base : Nat} {g : Gs}
theorem gN_cases {X : Heap → HL → Prop} (hf : ∀ x, (f x).length = sz) (hpos : 0 < sz) (hg : gOk base sz n (l.flatMap f) g) (hn : n = l.length) (hp : ∀ b o, base ≤ b → (∀ I', Le I I' → I' b = some o → X I' R) → X I ((b, o) :: R)) (k : ∀ I', Le I I' → RowN (base ≤ ·) T f I' l (gV n g) → X I' R) : X I (gH T (l.flatMap f) g ++ R) := by
  subst hn
  cases g with
  | none =>
    obtain ⟨h1, h2⟩ := hg
    have : l = [] := List.length_eq_zero_iff.1 h1
    subst this
    exact k I (Le.refl _) RowN.nil
  | some q =>
    obtain ⟨b, c, sp⟩ := q
    obtain ⟨h1, h2, h3⟩ := hg
    have hc : l.length ≤ c := by
      rw [flat_len hf] at h3
      exact Nat.le_of_mul_le_mul_right (by omega : l.length * sz ≤ c * sz) hpos
    exact hp b _ h1 fun I' hle hb => k I' hle ⟨_, c, rfl, hc, fun _ => ⟨b, sp, rfl, h1, hb⟩⟩
theorem Cj.keepN {c : Code} (hf : ∀ x, (f x).length = sz) (hpos : 0 < sz) (hg : gOk cx.w0.heap.size sz n (l.flatMap f) g) (hn : n = l.length) (k : ∀ I', Le I I' → RowN (cx.w0.heap.size ≤ ·) T f I' l (gV n g) → Cj cx Q c e I' R) : Cj cx Q c e I (gH T (l.flatMap f) g ++ R) :=
  gN_cases (X := fun I H => Cj cx Q c e I H) hf hpos hg hn (fun _ _ hb k => Cj.persist hb k) k
theorem Ej.keepN {x : Exit} (hf : ∀ x, (f x).length = sz) (hpos : 0 < sz) (hg : gOk cx.w0.heap.size sz n (l.flatMap f) g) (hn : n = l.length) (k : ∀ I', Le I I' → RowN (cx.w0.heap.size ≤ ·) T f I' l (gV n g) → Ej cx Q x e I' R) : Ej cx Q x e I (gH T (l.flatMap f) g ++ R) :=
  gN_cases (X := fun I H => Ej cx Q x e I H) hf hpos hg hn (fun _ _ hb k => Ej.persist hb k) k
end
section
variable {cx : Cx} {Q : Qt} {e : Env} {I I1 : Heap} {H A : HL} {Z : CL} {z : Nat} {l : List Oper} {fuel : Nat} {listed : Array Bool}
end
section
variable {cx : Cx} {Q : Qt} {e : Env} {I I1 : Heap} {R H1 A : HL} {Z : CL} {z : Nat} {ops : List Oper} {fuel : Nat} {listed : Array Bool} {T : TypeId} {α : Type} {l : List α} {f : α → List Value} {v : Value} {sz n : Nat} {g : Gs}
theorem JA.keepO (h : OwnR T f l v H1) (hb : ∀ p ∈ H1, cx.w0.heap.size ≤ p.1) (k : ∀ I', Le I I' → RowT T f I' l v → JA cx Q ops I1 A Z z fuel listed e I' R) : JA cx Q ops I1 A Z z fuel listed e I (H1 ++ R) :=
  own_cases (X := fun I H => JA cx Q ops I1 A Z z fuel listed e I H) h hb (fun _ _ hb k => JA.persist hb k) k
