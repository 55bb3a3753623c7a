/-
  Own texts on the laws of the seat, joined: the logic, and contracts of functions. Conditions: none.
-/
import Derived.Test.YtekmeaoblpfnpaaGreatDoorPG11
set_option maxRecDepth 100000
set_option maxHeartbeats 40000000
section
namespace Go.Sx
open Cq
def QC (I : Heap) : Qs → List Value → Prop
  | .nil, _ => True
  | .cons k i r t ps rest, cs => ∃ p c tl, cs = i64 k :: str i :: str r :: str t :: .slice p ps.len c :: tl ∧
      (ps = .nil ∨ ∃ (b off : Nat) (cs' : List Value) (T : TypeId) (fr : Nat × Nat), p = some ⟨b, off, none⟩ ∧ I b = some (.cells cs'.toArray T fr) ∧ QC I ps (cs'.drop off)) ∧ QC I rest tl
theorem QC.mono {I I' : Heap} (hle : Le I I') : ∀ {q : Qs} {cs : List Value}, QC I q cs → QC I' q cs
  | .nil, _, _ => trivial
  | .cons _ _ _ _ _ps _rest, _, ⟨p, c, tl, h1, h2, h3⟩ => ⟨p, c, tl, h1, h2.imp id fun ⟨b, off, cs', T, fr, g1, g2, g3⟩ => ⟨b, off, cs', T, fr, g1, hle _ _ g2, QC.mono hle g3⟩, QC.mono hle h3⟩
def PS (I : Heap) (ps : Qs) (p : Option Addr) : Prop := ps = .nil ∨ ∃ (b off : Nat) (cs' : List Value) (T : TypeId) (fr : Nat × Nat), p = some ⟨b, off, none⟩ ∧ I b = some (.cells cs'.toArray T fr) ∧ QC I ps (cs'.drop off)
theorem PS.mono {I I' : Heap} {ps : Qs} {p : Option Addr} (h : PS I ps p) (hle : Le I I') : PS I' ps p :=
  h.imp id fun ⟨b, off, cs', T, fr, g1, g2, g3⟩ => ⟨b, off, cs', T, fr, g1, hle _ _ g2, QC.mono hle g3⟩
abbrev qCells (q : Qn) (p : Option Addr) (c : Nat) : List Value := [i64 q.k, str q.i, str q.r, str q.t, .slice p q.ps.len c]
theorem PS.two {I : Heap} {a b : Qn} {pa pb : Option Addr} {ca cb : Nat} {bl T : Nat} (ha : PS I a.ps pa) (hb : PS I b.ps pb) (h : I bl = some (cel T (qCells a pa ca ++ (qCells b pb cb ++ [])))) : PS I (a.push (b.push .nil)) (some ⟨bl, 0, none⟩) :=
  .inr ⟨bl, 0, _, T, (0, 0), rfl, h, pa, ca, _, rfl, ha, pb, cb, _, rfl, hb, trivial⟩
theorem PS.two_at {I : Heap} {q a b : Qn} {p : Option Addr} (h : PS I q.ps p) (ht : q.Two a b) :
    ∃ bl off cs' T fr pa ca pb cb, p = some ⟨bl, off, none⟩ ∧ I bl = some (.cells (List.toArray cs') T fr) ∧ (cs'.drop off).take 5 = qCells a pa ca ∧ (cs'.drop (off + 5)).take 5 = qCells b pb cb ∧ cs'[off + 5]? = some (i64 b.k) ∧ PS I a.ps pa ∧ PS I b.ps pb := by
  rw [show q.ps = _ from ht] at h
  rcases h with h | ⟨bl, off, cs', T, fr, rfl, hI, pa, ca, tl, hcs, hpa, pb, cb, tl2, htl, hpb, _⟩
  · cases h
  subst htl
  refine ⟨bl, off, cs', T, fr, pa, ca, pb, cb, rfl, hI, ?_, ?_, ?_, hpa, hpb⟩
  · rw [hcs]; rfl
  · rw [← List.drop_drop, hcs]; rfl
  rw [← List.getElem?_drop, hcs]; rfl
end Go.Sx
end
section
set_option maxHeartbeats 40000000
namespace Go.Proofs.YtekmeaoblpfnpaaGreatDoor
open Go Go.Sx
structure VL where
  i : Nat
  J : Heap
  ls : List LR
  g : Gs
theorem map_take_next {α β : Type} (f : α → β) {l : List α} {k : Nat} {x : α} (h : l[k]? = some x) : (l.take (k + 1)).map f = (l.take k).map f ++ [f x] := by
  obtain ⟨hlt, hg⟩ := List.getElem?_eq_some_iff.1 h
  rw [List.take_succ_eq_append_getElem hlt, hg, List.map_append]; rfl
theorem lls_add {J : Heap} {ls : List LR} (h : ∀ x ∈ ls, RowS recC J x.1 x.2) {l : List Ix.Rec} {w : Value} (hw : RowS recC J l w) : ∀ x ∈ ls ++ [(l, w)], RowS recC J x.1 x.2 := fun x hx => by
  rcases List.mem_append.1 hx with g | g
  · exact h x g
  rw [List.mem_singleton.1 g]; exact hw
theorem lr_flat {ls : List LR} {l : List (List Ix.Rec)} (h : ls.map (·.1) = l) : ls.flatMap (·.1) = l.flatMap id := by
  rw [← h, List.flatMap_map]; rfl
theorem word_le (L : Ix.Ix) (n s : List UInt8) : (Ix.word L n s).length ≤ L.length := by
  unfold Ix.word Ix.phrase
  split
  · split
    · exact Nat.zero_le _
    rw [List.length_map]; exact List.length_filter_le _ _
  exact Nat.zero_le _
theorem phrase_le' (L : Ix.Ix) (n : List UInt8) (w : Ke.Row) : (Ix.phrase L n w).length ≤ L.length := by
  unfold Ix.phrase
  split
  · exact Nat.zero_le _
  rw [List.length_map]; exact List.length_filter_le _ _
theorem swords_ok (xv : Value) (L : Ix.Ix) (q : Cq.Qn) (p : Option Addr) (c : Nat) (hq : q.t.length ≤ 10000000) (I : Heap) (hx : IxV I xv L) : Ctr Tryz.prog 155 [xv, .agg (qCells q p c).toArray] I [] (fun e I' H' => ∃ w ls, e = .returned w ∧ ls.map (·.1) = (Ke.words q.t).map (Ix.word L q.i) ∧ LLS I' ls w ∧ H' = []) := by
 have hwl := Ke.words_len q.t
 refine xob Tryz.func155 fun w0 hw0 => ?_
 refine axn 3 ?_
 intro b1 hb1
 refine xca (Words_ok q.t (by omega) _) ?_
 intro v2 I3 H4 hle5 hp6
 have hx := hx.mono hle5
 obtain ⟨wv, h, hw, rfl⟩ := hp6; cases h
 obtain ⟨pw, cw, rfl⟩ := StrS_sl hw
 refine axn 5 ?_
 refine Cj.loop (ι := VL) (fun y => y.i ≤ (Ke.words q.t).length ∧ Le I3 y.J ∧ y.ls.map (·.1) = ((Ke.words q.t).take y.i).map (Ix.word L q.i) ∧ (∀ x ∈ y.ls, RowS recC y.J x.1 x.2) ∧ gOk w0.heap.size 1 y.ls.length (y.ls.flatMap lrC) y.g) (fun y => (Ke.words q.t).length - y.i) (fun y => [(5, gV y.ls.length y.g), (0, xv), (3, ptr b1 0), (10, .slice pw (Ke.words q.t).length cw), (11, i64 ((Ke.words q.t).length : Int)), (12, i64 (y.i : Int))]) (fun y => y.J) (fun y => (b1, cel 32 (qCells q p c)) :: gH 36 (y.ls.flatMap lrC) y.g) ⟨0, _, [], none⟩ ⟨Nat.zero_le _, Le.refl _, rfl, (fun x hx => by cases hx), rfl, rfl⟩ ⟨rfl, rfl, rfl, rfl, rfl, rfl, trivial⟩ rfl rfl ?_
 rintro ⟨i, J1, ls, g⟩ ⟨hi, hIJ, hmp, hR, hg⟩
 dsimp only at hi hIJ hmp hR hg ⊢
 have hx := hx.mono hIJ
 have hw := hw.mono hIJ
 have hll : ls.length = i := by have h := congrArg List.length hmp; rw [List.length_map, List.length_map, List.length_take] at h; omega
 refine axc (fun hc7 hc7p => ?_) (fun hc7 hc7p => ?_)
 ·
  have hlt : i < (Ke.words q.t).length := by omega
  obtain ⟨x, hget⟩ : ∃ x, (Ke.words q.t)[i]? = some x := ⟨_, List.getElem?_eq_getElem hlt⟩
  have hxl := Ke.words_each _ x (List.mem_of_getElem? hget)
  obtain ⟨wb, wc1, wsp, hwe, hwb⟩ := hw.some (ne_nil_of hlt)
  cases hwe
  refine xix i ?_
  refine J.z (yl_load rfl rfl Tryz.isAgg9 (Blk.imm hwb) (str_get hget)) ?_
  refine xcn (WordV_ok xv L q.i x (by omega) _ hx) ?_
  intro v9 I10 H11 hle12 hn8 hp13
  have hx := hx.mono hle12
  have hw := hw.mono hle12
  have hIJ := hIJ.mono hle12
  have hR := fun x9 hx9 => (hR x9 hx9).mono hle12
  have hwb := hle12 _ _ hwb
  obtain ⟨wa, h, hoa⟩ := hp13; cases h
  refine J.keepO hoa hn8 (fun Ia hlea hra => ?_)
  have hx := hx.mono hlea
  have hw := hw.mono hlea
  have hIJ := hIJ.mono hlea
  have hR := fun x9 hx9 => (hR x9 hx9).mono hlea
  have hwb := hlea _ _ hwb
  replace hra := hra.row
  obtain ⟨pa, ca, rfl⟩ := rowS_len hra
  refine axn 1 ?_
  intro b14 hb14
  refine xap 23 [_, _] hg ?_
  intro g15 hg15
  refine axn 8 ?_
  refine Ej.keep (Keeps.d (Keeps.k Keeps.r)) ?_
  refine Ej.round ⟨i + 1, _, ls ++ [(Ix.word L q.i x, _)], g15⟩ ⟨by dsimp only; omega, hIJ, by dsimp only; rw [List.map_append, hmp, map_take_next _ hget]; rfl, lls_add hR hra, by dsimp only; rw [List.length_append, List.flatMap_append]; exact hg15⟩ (by dsimp only; omega) ⟨by dsimp only; rw [List.length_append]; rfl, rfl, rfl, rfl, rfl, rfl, trivial⟩ rfl (by dsimp only; rw [List.flatMap_append]; rfl)
 refine axn 6 ?_
 rw [List.take_of_length_le (by omega : (Ke.words q.t).length ≤ i)] at hmp
 refine Cj.perm (H' := gH 36 (ls.flatMap lrC) g ++ [_]) List.perm_append_comm ?_
 refine Cj.keepR (f := lrC) (fun _ => rfl) (by decide) hg rfl (fun I8 hle8 hv => ?_)
 have hx := hx.mono hle8
 have hw := hw.mono hle8
 have hIJ := hIJ.mono hle8
 have hR := fun x9 hx9 => (hR x9 hx9).mono hle8
 refine axr ?_
 exact ⟨_, ls, rfl, hmp, ⟨hv, hR⟩, rfl⟩
theorem keyed_ok (xv : Value) (L : Ix.Ix) (n : List UInt8) (ks : List (List UInt8 × Int)) (v : Value) (hk : ∀ x ∈ ks, Ke.KeyT x.1) (hkl : ks.length ≤ 1000000000000) (I : Heap) (hx : IxV I xv L) (hT : STab I) (hr : RowS lineC I ks v) : Ctr Tryz.prog 159 [xv, str n, v] I [] (fun e _ H' => ∃ w, e = .returned w ∧ OwnS w (inL (Ix.keyed L n (ks.map (·.1)))) H') := by
 have hbig := hx.big
 obtain ⟨p, c, rfl⟩ := rowS_len hr
 refine xob Tryz.func159 fun w0 hw0 => ?_
 refine axn 19 ?_
 refine Cj.loop (ι := VL) (fun y => y.i ≤ ks.length ∧ Le I y.J ∧ y.ls.map (·.1) = (ks.take y.i).map (fun x => Ix.withK L n (Ix.keyOf n (Ke.plainK x.1))) ∧ (∀ x ∈ y.ls, RowS recC y.J x.1 x.2) ∧ gOk w0.heap.size 1 y.ls.length (y.ls.flatMap lrC) y.g) (fun y => ks.length - y.i) (fun y => [(7, gV y.ls.length y.g), (0, xv), (1, str n), (10, .slice p ks.length c), (11, i64 (ks.length : Int)), (12, i64 (y.i : Int))]) (fun y => y.J) (fun y => gH 36 (y.ls.flatMap lrC) y.g) ⟨0, _, [], none⟩ ⟨Nat.zero_le _, Le.refl _, rfl, (fun x hx => by cases hx), rfl, rfl⟩ ⟨rfl, rfl, rfl, rfl, rfl, rfl, trivial⟩ rfl rfl ?_
 rintro ⟨i, J1, ls, g⟩ ⟨hi, hIJ, hmp, hR, hg⟩
 dsimp only at hi hIJ hmp hR hg ⊢
 have hx := hx.mono hIJ
 have hT := hT.mono hIJ
 have hr := hr.mono hIJ
 have hll : ls.length = i := by have h := congrArg List.length hmp; rw [List.length_map, List.length_map, List.length_take] at h; omega
 refine axc (fun hc1 hc1p => ?_) (fun hc1 hc1p => ?_)
 ·
  have hlt : i < ks.length := by omega
  obtain ⟨x, hget⟩ : ∃ x, ks[i]? = some x := ⟨_, List.getElem?_eq_getElem hlt⟩
  have hkx := hk x (List.mem_of_getElem? hget)
  have hkx2 := hkx.2.2.1
  obtain ⟨p1, c1, hpe, hc1, hp⟩ := id hr
  cases hpe
  obtain ⟨fb, fo, fcs, fty, ffr, fsp, rfl, hfb, hfd⟩ := hp (ne_nil_of hlt)
  refine xix (fo + i * 2) ?_
  refine J.z (yl_loadAgg rfl rfl Tryz.isAgg268 Tryz.sizeOf268 (Blk.imm hfb) (row_from lineC_len hfd hget) rfl) ?_
  refine axn 1 ?_
  intro b2 hb2
  refine xpu (plain_ok x.1 hkx _ hT) ?_
  refine xcn (KeyV_ok xv L n (Ke.plainK x.1) (by omega) _ hx) ?_
  intro v4 I5 H6 hle7 hn3 hp8
  have hx := hx.mono hle7
  have hT := hT.mono hle7
  have hr := hr.mono hle7
  have hIJ := hIJ.mono hle7
  have hR := fun x9 hx9 => (hR x9 hx9).mono hle7
  have hfb := hle7 _ _ hfb
  obtain ⟨wa, h, hoa⟩ := hp8; cases h
  refine J.keepO hoa hn3 (fun Ia hlea hra => ?_)
  have hx := hx.mono hlea
  have hT := hT.mono hlea
  have hr := hr.mono hlea
  have hIJ := hIJ.mono hlea
  have hR := fun x9 hx9 => (hR x9 hx9).mono hlea
  have hfb := hlea _ _ hfb
  replace hra := hra.row
  obtain ⟨pa, ca, rfl⟩ := rowS_len hra
  refine axn 1 ?_
  intro b9 hb9
  refine xap 23 [_, _] hg ?_
  intro g10 hg10
  refine axn 8 ?_
  refine Ej.keep (Keeps.d (Keeps.d Keeps.r)) ?_
  refine Ej.round ⟨i + 1, _, ls ++ [(Ix.withK L n (Ix.keyOf n (Ke.plainK x.1)), _)], g10⟩ ⟨by dsimp only; omega, hIJ, by dsimp only; rw [List.map_append, hmp, map_take_next _ hget]; rfl, lls_add hR hra, by dsimp only; rw [List.length_append, List.flatMap_append]; exact hg10⟩ (by dsimp only; omega) ⟨by dsimp only; rw [List.length_append]; rfl, rfl, rfl, rfl, rfl, rfl, trivial⟩ rfl (by dsimp only; rw [List.flatMap_append]; rfl)
 refine axn 6 ?_
 rw [List.take_of_length_le (by omega : ks.length ≤ i)] at hmp
 refine Cj.perm (H' := gH 36 (ls.flatMap lrC) g ++ []) (.of_eq (List.append_nil _)) ?_
 refine Cj.keepR (f := lrC) (fun _ => rfl) (by decide) hg rfl (fun I8 hle8 hv => ?_)
 have hx := hx.mono hle8
 have hT := hT.mono hle8
 have hr := hr.mono hle8
 have hIJ := hIJ.mono hle8
 have hR := fun x9 hx9 => (hR x9 hx9).mono hle8
 have hlen : ∀ x ∈ ls, x.1.length ≤ 1000000 := fun x hx => by
   have h9 : x.1 ∈ ls.map (·.1) := List.mem_map_of_mem hx
   rw [hmp] at h9
   obtain ⟨y, _, hy⟩ := List.mem_map.1 h9
   rw [← hy]
   exact Nat.le_trans (Ix.withK_le _ _ _) (by omega)
 refine xca (of_ok ls _ (by omega) hlen _ ⟨hv, hR⟩) ?_
 intro v11 I12 H13 hle14 hp15
 have hx := hx.mono hle14
 have hT := hT.mono hle14
 have hr := hr.mono hle14
 have hIJ := hIJ.mono hle14
 have hR := fun x9 hx9 => (hR x9 hx9).mono hle14
 have hv := hv.mono hle14
 obtain ⟨wb, h, ob, mb, kb, rfl, hmb, rfl⟩ := hp15; cases h
 refine axn 4 ?_
 refine Ej.keep (Keeps.k Keeps.n) ?_
 refine axe ?_
 refine ⟨_, rfl, ob, mb, kb, rfl, hmb.congr fun t => ?_, rfl⟩
 rw [show Ix.keyed L n (ks.map (·.1)) = ls.flatMap (·.1) from ?_]
 rw [lr_flat hmp, List.flatMap_map]
 unfold Ix.keyed
 rw [List.flatMap_map]
 rfl
end Go.Proofs.YtekmeaoblpfnpaaGreatDoor
end
section
set_option maxHeartbeats 40000000
namespace Go.Proofs.YtekmeaoblpfnpaaGreatDoor
open _root_.Go.Proofs.Tryz
open Go Go.Sx
theorem IxV.vok {I : Heap} {v : Value} {L : Ix.Ix} (h : IxV I v L) : ∀ e ∈ L, VOK e.2 := by
  rcases h with ⟨_, rfl⟩ | ⟨ib, _, o, h, _⟩
  · exact fun e he => by cases he
  cases o with
  | none => rw [show L = [] from h]; exact fun e he => by cases he
  | some s => exact IstOk.vok h
theorem keysAll_len {L : Ix.Ix} (hs : Ix.Srt L) (hv : ∀ e ∈ L, VOK e.2) (hL : L.length ≤ 100000) (n b : List UInt8) : (Ix.keysAll L n b).length ≤ 1000000000000 := by
  have h1 : ((Ix.keysAll L n b).map fun k => (n, k)).length ≤ (L.flatMap fun e => Ix.plK e.2).length := by
    refine sub_lenG ?_ fun p hp => ?_
    · rw [List.nodup_iff_pairwise_ne, List.pairwise_map]
      refine (Ix.keysAll_inc L n b).imp fun {x y} h e => ?_
      have := congrArg Prod.snd e
      dsimp only at this
      rw [this] at h
      exact List.lt_irrefl _ h
    obtain ⟨k, hk, rfl⟩ := List.mem_map.1 hp
    obtain ⟨e, he, hpe⟩ := (Ix.cnt_pos hs).1 ((Ix.keysAll_mem hs).1 hk).2
    exact List.mem_flatMap.2 ⟨e, he, hpe⟩
  have h2 : ∀ M : Ix.Ix, (∀ e ∈ M, VOK e.2) → (M.flatMap fun e => Ix.plK e.2).length ≤ M.length * 10000000 := by
    intro M
    induction M with
    | nil => intro _; simp
    | cons a r ih =>
      intro hM
      have := ih fun e he => hM e (.tail _ he)
      have h3 := (hM a (.head _)).k
      rw [List.flatMap_cons, List.length_append, List.length_cons, Nat.add_mul]; omega
  rw [List.length_map] at h1
  exact Nat.le_trans (Nat.le_trans h1 (h2 L hv)) (Nat.mul_le_mul_right 10000000 hL)
abbrev mostI : Int := 9223372036854775807
theorem scan_all {L : Ix.Ix} (hs : Ix.Srt L) (hv : ∀ e ∈ L, VOK e.2) (hL : L.length ≤ 100000) (n s : List UInt8) : ((Ix.scan L n s mostI).map lineI).map (·.1) = Ix.keysAll L n (Ix.keyOf n s) := by
  have h := keysAll_len hs hv hL n (Ix.keyOf n s)
  rw [List.map_map]
  exact Ix.scan_keys (by show _ ≤ 9223372036854775807; omega)
theorem scan_lens {L : Ix.Ix} (hs : Ix.Srt L) (hv : ∀ e ∈ L, VOK e.2) (hL : L.length ≤ 100000) (n s : List UInt8) : ((Ix.scan L n s mostI).map lineI).length = (Ix.keysAll L n (Ix.keyOf n s)).length ∧ (Ix.keysAll L n (Ix.keyOf n s)).length ≤ 1000000000000 := by
  have h1 := congrArg List.length (scan_all hs hv hL n s)
  rw [List.length_map] at h1
  exact ⟨h1, keysAll_len hs hv hL n _⟩
theorem scan_keyT {L : Ix.Ix} (ht : Ix.TOK L) (hs : Ix.Srt L) (hv : ∀ e ∈ L, VOK e.2) (hL : L.length ≤ 100000) (n s : List UInt8) : ∀ x ∈ (Ix.scan L n s mostI).map lineI, Ke.KeyT x.1 := fun x hx => by
  have h : x.1 ∈ ((Ix.scan L n s mostI).map lineI).map (·.1) := List.mem_map_of_mem hx
  rw [scan_all hs hv hL] at h
  exact ht.key hs h
theorem keys_le2 {L : Ix.Ix} (hs : Ix.Srt L) (n b : List UInt8) : (Ix.keysAll L n b).length ≤ (Ix.keysAll L n []).length := by
  rw [Ix.keysAll_from hs n b]; exact List.length_filter_le _ _
theorem flat_one (l : List Ix.Rec) (v : Value) : ([((l, v) : LR)].flatMap (·.1)) = l := List.append_nil l
def relM (kb : Nat) : ML (List UInt8) := [([61], .func (.func 153) #[] #[ptr kb 0], 0), ([61, 61], .func (.func 151) #[] #[], 1), ([97, 110, 121], .func (.func 154) #[] #[], 2), ([97, 108, 108], .func (.func 156) #[] #[], 3), ([62, 61], .func (.func 158) #[] #[], 4), ([60], .func (.func 161) #[] #[], 5)]
theorem anyL {ls : List LR} {L : Ix.Ix} {i : List UInt8} {ws : Ke.Row} (h : ls.map (·.1) = ws.map (Ix.word L i)) (t : Ix.Rec) : inL (ls.flatMap (·.1)) t = ws.any fun w => decide (t ∈ Ix.word L i w) := by
  unfold inL
  rw [lr_flat h, Bool.eq_iff_iff, decide_eq_true_eq, List.mem_flatMap, List.any_eq_true]
  constructor
  · rintro ⟨l, hl, ht⟩
    obtain ⟨w, hw, rfl⟩ := List.mem_map.1 hl
    exact ⟨w, hw, decide_eq_true ht⟩
  rintro ⟨w, hw, ht⟩
  exact ⟨_, List.mem_map_of_mem hw, of_decide_eq_true ht⟩
def allS (ls : List LR) (t : Ix.Rec) : Bool := ls.all fun x => decide (t ∈ x.1)
theorem allS_next {ls : List LR} {i : Nat} {x : LR} (h : ls[i]? = some x) (t : Ix.Rec) : allS (ls.take (i + 1)) t = (allS (ls.take i) t && decide (t ∈ x.1)) := by
  obtain ⟨hlt, hg⟩ := List.getElem?_eq_some_iff.1 h
  unfold allS
  rw [List.take_succ_eq_append_getElem hlt, hg, List.all_append, List.all_cons, List.all_nil, Bool.and_true]
theorem allL {ls : List LR} {L : Ix.Ix} {i : List UInt8} {ws : Ke.Row} (h : ls.map (·.1) = ws.map (Ix.word L i)) (t : Ix.Rec) : allS ls t = ws.all fun w => decide (t ∈ Ix.word L i w) := by
  have : allS ls t = (ls.map (·.1)).all fun l => decide (t ∈ l) := by unfold allS; rw [List.all_map]; rfl
  rw [this, h, List.all_map]; rfl
theorem rel1_ok (xv : Value) (L : Ix.Ix) (q : Cq.Qn) (p : Option Addr) (c : Nat) (hq : q.t.length ≤ 10000000) (I : Heap) (hx : IxV I xv L) : Ctr Tryz.prog 151 [xv, .agg (qCells q p c).toArray] I [] (fun e _ H' => ∃ w, e = .returned w ∧ OwnS w (inL (Ix.withK L q.i (Ix.keyOf q.i q.t))) H') := by
 have hbig := hx.big
 refine xob func151 fun w0 hw0 => ?_
 refine axn 3 ?_
 intro b1 hb1
 refine xcn (KeyV_ok xv L q.i q.t (by omega) _ hx) ?_
 intro v3 I4 H5 hle6 hn2 hp7
 have hx := hx.mono hle6
 obtain ⟨wa, h, hoa⟩ := hp7; cases h
 refine J.keepO hoa hn2 (fun Ia hlea hra => ?_)
 have hx := hx.mono hlea
 replace hra := hra.row
 obtain ⟨pa, ca, rfl⟩ := rowS_len hra
 refine axn 1 ?_
 intro b8 hb8
 refine J.persist hb8 (fun I10 hle9 hb8i => ?_)
 have hx := hx.mono hle9
 have hra := hra.mono hle9
 have hls : LLS _ [((Ix.withK L q.i (Ix.keyOf q.i q.t)), .slice pa _ ca)] (.slice (some ⟨b8, 0, none⟩) 1 1) := ⟨RowS.of (l := [(((Ix.withK L q.i (Ix.keyOf q.i q.t)), .slice pa _ ca) : LR)]) (sp := []) (Nat.le_refl _) hb8i, fun x hx => by rw [List.mem_singleton.1 hx]; exact hra⟩
 refine xca (of_ok [((Ix.withK L q.i (Ix.keyOf q.i q.t)), _)] _ (by show 1 ≤ _; decide) (fun x hx => by rw [List.mem_singleton.1 hx]; exact Nat.le_trans (Ix.withK_le _ _ _) (by omega)) _ hls) ?_
 intro v11 I12 H13 hle14 hp15
 have hx := hx.mono hle14
 have hra := hra.mono hle14
 have hb8i := hle14 _ _ hb8i
 have hls := hls.mono hle14
 obtain ⟨wb, h, ob, mb, kb, rfl, hmb, rfl⟩ := hp15; cases h
 refine axn 4 ?_
 refine Ej.keep (Keeps.k (Keeps.d Keeps.n)) ?_
 refine axe ?_
 exact ⟨_, rfl, ob, mb, kb, rfl, hmb.congr fun t => congrArg (fun l => inL l t) (flat_one _ _), rfl⟩
theorem rel2_ok (xv : Value) (L : Ix.Ix) (q : Cq.Qn) (p : Option Addr) (c : Nat) (hq : q.t.length ≤ 10000000) (I : Heap) (hx : IxV I xv L) (kb' : Nat) (hkb : I kb' = some (cel 121 [.func (.func 151) #[] #[]])) : Ctr Tryz.prog 153 [xv, .agg (qCells q p c).toArray, ptr kb' 0] I [] (fun e _ H' => ∃ w, e = .returned w ∧ OwnS w (fun t => if q.i = Ix.nIsbn then inL (Ix.withK L q.i (Ix.keyOf q.i q.t)) t else inL (Ix.phrase L q.i (Ke.words q.t)) t) H') := by
 have hbig := hx.big
 refine xob func153 fun w0 hw0 => ?_
 refine axn 3 ?_
 intro b1 hb1
 refine axc (fun hc2 hc2p => ?_) (fun hc2 hc2p => ?_)
 ·
  refine xca (rel1_ok xv L q p c hq _ hx) ?_
  intro v3 I4 H5 hle6 hp7
  have hx := hx.mono hle6
  have hkb := hle6 _ _ hkb
  obtain ⟨wb, h, ob, mb, kb, rfl, hmb, rfl⟩ := hp7; cases h
  refine axn 5 ?_
  refine Ej.keep (Keeps.k (Keeps.d Keeps.n)) ?_
  have hi : q.i = Ix.nIsbn := eq_of_beq hc2
  refine axe ?_
  exact ⟨_, rfl, ob, mb, kb, rfl, hmb.congr fun t => by rw [if_pos hi], rfl⟩
 refine xcn (PhraseV_ok xv L q.i q.t (by omega) _ hx) ?_
 intro v9 I10 H11 hle12 hn8 hp13
 have hx := hx.mono hle12
 have hkb := hle12 _ _ hkb
 obtain ⟨wa, h, hoa⟩ := hp13; cases h
 refine J.keepO hoa hn8 (fun Ia hlea hra => ?_)
 have hx := hx.mono hlea
 have hkb := hlea _ _ hkb
 replace hra := hra.row
 obtain ⟨pa, ca, rfl⟩ := rowS_len hra
 refine axn 1 ?_
 intro b14 hb14
 refine J.persist hb14 (fun I16 hle15 hb14i => ?_)
 have hx := hx.mono hle15
 have hkb := hle15 _ _ hkb
 have hra := hra.mono hle15
 have hls : LLS _ [((Ix.phrase L q.i (Ke.words q.t)), .slice pa _ ca)] (.slice (some ⟨b14, 0, none⟩) 1 1) := ⟨RowS.of (l := [(((Ix.phrase L q.i (Ke.words q.t)), .slice pa _ ca) : LR)]) (sp := []) (Nat.le_refl _) hb14i, fun x hx => by rw [List.mem_singleton.1 hx]; exact hra⟩
 refine xca (of_ok [((Ix.phrase L q.i (Ke.words q.t)), _)] _ (by show 1 ≤ _; decide) (fun x hx => by rw [List.mem_singleton.1 hx]; exact Nat.le_trans (phrase_le' _ _ _) (by omega)) _ hls) ?_
 intro v17 I18 H19 hle20 hp21
 have hx := hx.mono hle20
 have hkb := hle20 _ _ hkb
 have hra := hra.mono hle20
 have hb14i := hle20 _ _ hb14i
 have hls := hls.mono hle20
 obtain ⟨wb, h, ob, mb, kb, rfl, hmb, rfl⟩ := hp21; cases h
 refine axn 4 ?_
 refine Ej.keep (Keeps.k (Keeps.d Keeps.n)) ?_
 have hi : q.i ≠ Ix.nIsbn := ne_of_beq_false hc2
 refine axe ?_
 exact ⟨_, rfl, ob, mb, kb, rfl, hmb.congr fun t => by rw [if_neg hi]; exact congrArg (fun l => inL l t) (flat_one _ _), rfl⟩
theorem rel3_ok (xv : Value) (L : Ix.Ix) (q : Cq.Qn) (p : Option Addr) (c : Nat) (hq : q.t.length ≤ 10000000) (I : Heap) (hx : IxV I xv L) : Ctr Tryz.prog 154 [xv, .agg (qCells q p c).toArray] I [] (fun e _ H' => ∃ w, e = .returned w ∧ OwnS w (fun t => (Ke.words q.t).any fun w => decide (t ∈ Ix.word L q.i w)) H') := by
 have hbig := hx.big
 have hwl := Ke.words_len q.t
 refine xob func154 fun w0 hw0 => ?_
 refine axn 3 ?_
 intro b1 hb1
 refine xca (swords_ok xv L q p c hq _ hx) ?_
 intro v2 I3 H4 hle5 hp6
 have hx := hx.mono hle5
 obtain ⟨wl, ls, h, hmp, hls, rfl⟩ := hp6; cases h
 have hlen : ∀ x ∈ ls, x.1.length ≤ 1000000 := fun x hx => by
   have h9 : x.1 ∈ ls.map (·.1) := List.mem_map_of_mem hx
   rw [hmp] at h9
   obtain ⟨y, _, hy⟩ := List.mem_map.1 h9
   rw [← hy]
   exact Nat.le_trans (word_le _ _ _) (by omega)
 have hll : ls.length = (Ke.words q.t).length := by have h := congrArg List.length hmp; rw [List.length_map, List.length_map] at h; exact h
 obtain ⟨pl, cl, hpcl, hcl, -⟩ := id hls.1
 subst hpcl
 refine xca (of_ok ls _ (by omega) hlen _ hls) ?_
 intro v7 I8 H9 hle10 hp11
 have hx := hx.mono hle10
 have hls := hls.mono hle10
 obtain ⟨wb, h, ob, mb, kb, rfl, hmb, rfl⟩ := hp11; cases h
 refine axn 4 ?_
 refine Ej.keep (Keeps.k (Keeps.d Keeps.n)) ?_
 refine axe ?_
 exact ⟨_, rfl, ob, mb, kb, rfl, hmb.congr (anyL hmp), rfl⟩
theorem SetV.congr {I : Heap} {v : Value} {S S' : Ix.Rec → Bool} (h : SetV I v S) (he : ∀ t, S t = S' t) : SetV I v S' :=
  h.imp (fun ⟨h1, h2⟩ => ⟨h1, fun t => by rw [← he t]; exact h2 t⟩) fun ⟨b, m, k, h1, h2, h3⟩ => ⟨b, m, k, h1, h2.congr he, h3⟩
theorem allS_one {ls : List LR} {x : LR} (h : ls[0]? = some x) (t : Ix.Rec) : allS (ls.take (0 + 1)) t = inL x.1 t := by
  rw [allS_next h t]; rfl
theorem rel4_ok (xv : Value) (L : Ix.Ix) (q : Cq.Qn) (p : Option Addr) (c : Nat) (hq : q.t.length ≤ 10000000) (I : Heap) (hx : IxV I xv L) : Ctr Tryz.prog 156 [xv, .agg (qCells q p c).toArray] I [] (fun e I' H' => ∃ w, e = .returned w ∧ SetV I' w (fun t => !(Ke.words q.t).isEmpty && (Ke.words q.t).all fun w => decide (t ∈ Ix.word L q.i w)) ∧ H' = []) := by
 have hbig := hx.big
 have hwl := Ke.words_len q.t
 refine xob func156 fun w0 hw0 => ?_
 refine axn 3 ?_
 intro b1 hb1
 refine xca (swords_ok xv L q p c hq _ hx) ?_
 intro v2 I3 H4 hle5 hp6
 have hx := hx.mono hle5
 obtain ⟨wl, ls, h, hmp, hls, rfl⟩ := hp6; cases h
 have hlen : ∀ x ∈ ls, x.1.length ≤ 1000000 := fun x hx => by
   have h9 : x.1 ∈ ls.map (·.1) := List.mem_map_of_mem hx
   rw [hmp] at h9
   obtain ⟨y, _, hy⟩ := List.mem_map.1 h9
   rw [← hy]
   exact Nat.le_trans (word_le _ _ _) (by omega)
 have hll : ls.length = (Ke.words q.t).length := by have h := congrArg List.length hmp; rw [List.length_map, List.length_map] at h; exact h
 obtain ⟨pl, cl, hpcl, hcl, -⟩ := id hls.1
 subst hpcl
 refine axc (fun hc7 hc7p => ?_) (fun hc7 hc7p => ?_)
 ·
  refine axr ?_
  exact ⟨_, rfl, .inl ⟨rfl, fun t => by rw [show Ke.words q.t = [] from List.length_eq_zero_iff.1 (by have h := eq_of_beq hc7; omega)]; rfl⟩, rfl⟩
 have hl0 : 0 < ls.length := by have h := ne_of_beq_false hc7; omega
 obtain ⟨⟨xs0, xv0⟩, hget0⟩ : ∃ x, ls[0]? = some x := ⟨_, List.getElem?_eq_getElem hl0⟩
 obtain ⟨p1, c1, hpe, hc1, hp⟩ := id hls.1
 cases hpe
 obtain ⟨lb, lo, lcs, lty, lfr, lsp, rfl, hlb, hld⟩ := hp (ne_nil_of hl0)
 have hra := hls.2 _ (List.mem_of_getElem? hget0)
 dsimp only at hra
 have hxl0 := hlen _ (List.mem_of_getElem? hget0)
 dsimp only at hxl0
 obtain ⟨pa, ca, rfl⟩ := rowS_len hra
 have hts := RowS.cut (f := lrC) (sz := 1) (fun _ => rfl) hls.1 (j := 1) (k := ls.length) hl0 (Nat.le_refl _)
 rw [List.take_of_length_le (by simp)] at hts
 obtain ⟨p4, c4, he4⟩ := rowS_len hts
 rw [he4] at hts
 refine xix (lo + 0) ?_
 refine J.z (yl_load rfl rfl isAgg36 (Blk.imm hlb) (sl_of_row hld hget0)) ?_
 refine axn 1 ?_
 intro b8 hb8
 refine J.persist hb8 (fun I10 hle9 hb8i => ?_)
 have hx := hx.mono hle9
 have hls := hls.mono hle9
 have hlb := hle9 _ _ hlb
 have hra := hra.mono hle9
 have hts := hts.mono hle9
 have hls1 : LLS _ [(xs0, .slice pa _ ca)] (.slice (some ⟨b8, 0, none⟩) 1 1) := ⟨RowS.of (l := [((xs0, .slice pa _ ca) : LR)]) (sp := []) (Nat.le_refl _) hb8i, fun x hx => by rw [List.mem_singleton.1 hx]; exact hra⟩
 refine xca (of_ok [(xs0, _)] _ (by show 1 ≤ _; decide) (fun x hx => by rw [List.mem_singleton.1 hx]; exact hxl0) _ hls1) ?_
 intro v11 I12 H13 hle14 hp15
 have hx := hx.mono hle14
 have hlb := hle14 _ _ hlb
 have hra := hra.mono hle14
 have hts := hts.mono hle14
 have hb8i := hle14 _ _ hb8i
 have hls1 := hls1.mono hle14
 have hls := hls.mono hle14
 obtain ⟨wb, h, ob, mb, kb, rfl, hmb, rfl⟩ := hp15; cases h
 refine axn 5 ?_
 refine Cj.isNew rfl (fun hnew7 => ?_)
 refine Cj.persist (hnew7 _ (.head _)) (fun I7 hle7 hb7 => ?_)
 have hx := hx.mono hle7
 have hlb := hle7 _ _ hlb
 have hra := hra.mono hle7
 have hts := hts.mono hle7
 have hb8i := hle7 _ _ hb8i
 have hls1 := hls1.mono hle7
 have hls := hls.mono hle7
 have hset : SetV I7 (.map (some ob)) (allS (ls.take (0 + 1))) := .inr ⟨ob, mb, kb, rfl, hmb.congr (fun t => by rw [allS_one hget0 t, flat_one]), hb7⟩
 refine axn 2 ?_
 refine J.z (yl_slice1 (j := 1) rfl rfl rfl underlying225 sizeOf36 rfl hl0 hcl) ?_
 refine J.ev 22 (.slice p4 (ls.drop 1).length c4) rfl he4 ?_
 refine axn 5 ?_
 refine Cj.loop (ι := Nat × Heap × Value) (fun y => y.1 + 1 ≤ ls.length ∧ Le I7 y.2.1 ∧ SetV y.2.1 y.2.2 (allS (ls.take (y.1 + 1)))) (fun y => ls.length - y.1) (fun y => [(3, ptr b1 0), (6, y.2.2), (22, .slice p4 (ls.drop 1).length c4), (23, i64 ((ls.drop 1).length : Int)), (24, i64 (y.1 : Int))]) (fun y => y.2.1) (fun y => [(b1, cel 32 (qCells q p c))]) (0, _, _) ⟨hl0, Le.refl _, hset⟩ ⟨rfl, rfl, rfl, rfl, rfl, trivial⟩ rfl rfl ?_
 clear hset
 rintro ⟨i, J1, sv⟩ ⟨hi, hIJ, hset⟩
 dsimp only at hi hIJ hset ⊢
 have hls := hls.mono hIJ
 have hts := hts.mono hIJ
 have hdl : (ls.drop 1).length = ls.length - 1 := List.length_drop
 refine axc (fun hc16 hc16p => ?_) (fun hc16 hc16p => ?_)
 ·
  have hlt : i + 1 < ls.length := by omega
  obtain ⟨⟨xs, xv1⟩, hget⟩ : ∃ x, ls[i + 1]? = some x := ⟨_, List.getElem?_eq_getElem hlt⟩
  have hgd : (ls.drop 1)[i]? = some (xs, xv1) := by rw [List.getElem?_drop, Nat.add_comm]; exact hget
  obtain ⟨p5, c5, hpe5, hc5, hp5⟩ := id hts
  cases hpe5
  obtain ⟨tb, tof, tcs, tty, tfr, tsp, rfl, htb, htd⟩ := hp5 (ne_nil_of (by omega : i < (ls.drop 1).length))
  have hrb := hls.2 _ (List.mem_of_getElem? hget)
  dsimp only at hrb
  have hxl := hlen _ (List.mem_of_getElem? hget)
  dsimp only at hxl
  obtain ⟨pb, cb, rfl⟩ := rowS_len hrb
  have hnx := allS_next hget
  refine xix (tof + i) ?_
  refine J.z (yl_load rfl rfl isAgg36 (Blk.imm htb) (sl_of_row htd hgd)) ?_
  refine axn 7 ?_
  intro b17 hb17
  refine J.persist hb17 (fun I19 hle18 hb17i => ?_)
  have hls := hls.mono hle18
  have hts := hts.mono hle18
  have hset := hset.mono hle18
  have hIJ := hIJ.mono hle18
  have htb := hle18 _ _ htb
  have hrb := hrb.mono hle18
  have hls2 : LLS _ [(xs, .slice pb _ cb)] (.slice (some ⟨b17, 0, none⟩) 1 1) := ⟨RowS.of (l := [((xs, .slice pb _ cb) : LR)]) (sp := []) (Nat.le_refl _) hb17i, fun x hx => by rw [List.mem_singleton.1 hx]; exact hrb⟩
  refine xca (of_ok [(xs, _)] _ (by show 1 ≤ _; decide) (fun x hx => by rw [List.mem_singleton.1 hx]; exact hxl) _ hls2) ?_
  intro v20 I21 H22 hle23 hp24
  have hts := hts.mono hle23
  have hset := hset.mono hle23
  have hIJ := hIJ.mono hle23
  have htb := hle23 _ _ htb
  have hrb := hrb.mono hle23
  have hb17i := hle23 _ _ hb17i
  have hls2 := hls2.mono hle23
  have hls := hls.mono hle23
  obtain ⟨wc, h, oc, mc, kc, rfl, hmc, rfl⟩ := hp24; cases h
  refine axn 1 ?_
  intro b25 hb25
  refine axn 3 ?_
  refine Cj.pull (Pull.s Pull.z) ?_
  refine Cj.isNew rfl (fun hnew6 => ?_)
  refine Cj.persist (hnew6 _ (.head _)) (fun I6 hle6 hb6 => ?_)
  have hts := hts.mono hle6
  have hset := hset.mono hle6
  have hIJ := hIJ.mono hle6
  have htb := hle6 _ _ htb
  have hrb := hrb.mono hle6
  have hb17i := hle6 _ _ hb17i
  have hls2 := hls2.mono hle6
  have hls := hls.mono hle6
  have hset2 : SetV I6 (.map (some oc)) (inL xs) := .inr ⟨oc, mc, kc, rfl, hmc.congr (fun t => congrArg (fun l => inL l t) (flat_one _ _)), hb6⟩
  refine Cj.persist hb25 (fun I27 hle26 hb25i => ?_)
  have hts := hts.mono hle26
  have hset := hset.mono hle26
  have hIJ := hIJ.mono hle26
  have htb := hle26 _ _ htb
  have hrb := hrb.mono hle26
  have hb17i := hle26 _ _ hb17i
  have hls2 := hls2.mono hle26
  have hls := hls.mono hle26
  have hset2 := hset2.mono hle26
  refine xca (only_ok _ (allS (ls.take (i + 1))) (inL xs) _ [ptr b25 0] _ hset (fun t _ => shas_ok b25 _ (inL xs) t _ hb25i hset2)) ?_
  intro v28 I29 H30 hle31 hp32
  have hts := hts.mono hle31
  have hset := hset.mono hle31
  have hIJ := hIJ.mono hle31
  have htb := hle31 _ _ htb
  have hrb := hrb.mono hle31
  have hb17i := hle31 _ _ hb17i
  have hls2 := hls2.mono hle31
  have hls := hls.mono hle31
  have hset2 := hset2.mono hle31
  have hb25i := hle31 _ _ hb25i
  obtain ⟨wd, h, od, md, kd, rfl, hmd, rfl⟩ := hp32; cases h
  refine axn 4 ?_
  refine Cj.isNew rfl (fun hnew8 => ?_)
  refine Cj.persist (hnew8 _ (.head _)) (fun I8 hle8 hb8 => ?_)
  have hts := hts.mono hle8
  have hset := hset.mono hle8
  have hIJ := hIJ.mono hle8
  have htb := hle8 _ _ htb
  have hrb := hrb.mono hle8
  have hb17i := hle8 _ _ hb17i
  have hls2 := hls2.mono hle8
  have hls := hls.mono hle8
  have hset2 := hset2.mono hle8
  have hb25i := hle8 _ _ hb25i
  have hset3 : SetV I8 (.map (some od)) (allS (ls.take (i + 1 + 1))) := .inr ⟨od, md, kd, rfl, hmd.congr (fun t => (hnx t).symm), hb8⟩
  refine axn 4 ?_
  refine Ej.round (i + 1, _, _) ⟨by dsimp only; omega, hIJ, hset3⟩ (by dsimp only; omega) ⟨rfl, rfl, rfl, rfl, rfl, trivial⟩ rfl rfl
 refine axr ?_
 refine ⟨_, rfl, ?_, rfl⟩
 rw [List.take_of_length_le (by omega : ls.length ≤ i + 1)] at hset
 refine hset.congr fun t => ?_
 rw [allL hmp]
 rw [show (Ke.words q.t).isEmpty = false from by
   cases hw : Ke.words q.t with
   | nil => rw [hw] at hll; rw [hll] at hl0; exact absurd hl0 (Nat.lt_irrefl 0)
   | cons a r => rfl]
 rfl
theorem rel5_ok (xv : Value) (L : Ix.Ix) (q : Cq.Qn) (p : Option Addr) (c : Nat) (hq : q.t.length ≤ 10000000) (I : Heap) (hx : IxV I xv L) (hT : STab I) (htk : Ix.TOK L) : Ctr Tryz.prog 158 [xv, .agg (qCells q p c).toArray] I [] (fun e _ H' => ∃ w, e = .returned w ∧ OwnS w (fun t => decide (t ∈ Ix.keyed L q.i (Ix.keysAll L q.i (Ix.keyOf q.i q.t)))) H') := by
 have hbig := hx.big
 have hsrt := hx.srt
 have hvok := hx.vok
 obtain ⟨hsl, hsl2⟩ := scan_lens hsrt hvok hbig q.i q.t
 refine xob func158 fun w0 hw0 => ?_
 refine axn 3 ?_
 intro b1 hb1
 refine axn 4 ?_
 refine Cj.persist hb1 (fun I3 hle2 hb1i => ?_)
 have hx := hx.mono hle2
 have hT := hT.mono hle2
 refine Cj.drawSel [] [] 11 (by kernel_rfl) ?_
 have hb1i_1 := hb1i
 refine xcn (ScanV_ok xv L q.i q.t (by omega) mostI _ hx) ?_
 intro v6 I7 H8 hle9 hn5 hp10
 have hx := hx.mono hle9
 have hT := hT.mono hle9
 have hb1i := hle9 _ _ hb1i
 obtain ⟨wa, h, hoa⟩ := hp10; cases h
 have hna := hn5
 refine axn 1 ?_
 refine JA.keepO hoa hna (fun Ia hlea hra => ?_)
 have hx := hx.mono hlea
 have hT := hT.mono hlea
 have hb1i := hlea _ _ hb1i
 replace hra := hra.row
 obtain ⟨pa, ca, hpa, hca, -⟩ := id hra
 subst hpa
 refine xca (keyed_ok xv L q.i ((Ix.scan L q.i q.t mostI).map lineI) _ (scan_keyT htk hsrt hvok hbig q.i q.t) (by omega) _ hx hT hra) ?_
 intro v11 I12 H13 hle14 hp15
 have hx := hx.mono hle14
 have hT := hT.mono hle14
 have hb1i := hle14 _ _ hb1i
 have hra := hra.mono hle14
 obtain ⟨wb, h, ob, mb, kb, rfl, hmb, rfl⟩ := hp15; cases h
 refine axn 5 ?_
 refine Ej.keep (Keeps.k Keeps.n) ?_
 refine axe ?_
 exact ⟨_, rfl, ob, mb, kb, rfl, hmb.congr fun t => congrArg (fun l => inL (Ix.keyed L q.i l) t) (scan_all hsrt hvok hbig q.i q.t), rfl⟩
theorem rel6_ok (xv : Value) (L : Ix.Ix) (q : Cq.Qn) (p : Option Addr) (c : Nat) (hq : q.t.length ≤ 10000000) (I : Heap) (hx : IxV I xv L) (hT : STab I) (htk : Ix.TOK L) : Ctr Tryz.prog 161 [xv, .agg (qCells q p c).toArray] I [] (fun e _ H' => ∃ w, e = .returned w ∧ OwnS w (fun t => decide (t ∈ Ix.keyed L q.i ((Ix.keysAll L q.i []).take ((Ix.keysAll L q.i []).length - (Ix.keysAll L q.i (Ix.keyOf q.i q.t)).length)))) H') := by
 have hbig := hx.big
 have hsrt := hx.srt
 have hvok := hx.vok
 obtain ⟨hsl, hsl2⟩ := scan_lens hsrt hvok hbig q.i q.t
 obtain ⟨hsm, hsm2⟩ := scan_lens hsrt hvok hbig q.i []
 rw [Ix.keyOf_nil] at hsm hsm2
 have hkl := keys_le2 hsrt q.i (Ix.keyOf q.i q.t)
 refine xob func161 fun w0 hw0 => ?_
 refine axn 3 ?_
 intro b1 hb1
 refine axn 4 ?_
 refine Cj.persist hb1 (fun I3 hle2 hb1i => ?_)
 have hx := hx.mono hle2
 have hT := hT.mono hle2
 refine Cj.drawSel [] [] 12 (by kernel_rfl) ?_
 have hb1i_1 := hb1i
 refine xcn (ScanV_ok xv L q.i [] (by decide) mostI _ hx) ?_
 intro v6 I7 H8 hle9 hn5 hp10
 have hx := hx.mono hle9
 have hT := hT.mono hle9
 have hb1i := hle9 _ _ hb1i
 obtain ⟨wa, h, hoa⟩ := hp10; cases h
 have hna := hn5
 refine axn 1 ?_
 refine JA.keepO hoa hna (fun Ia hlea hra => ?_)
 have hx := hx.mono hlea
 have hT := hT.mono hlea
 have hb1i := hlea _ _ hb1i
 replace hra := hra.row
 obtain ⟨pa, ca, hpa, hca, -⟩ := id hra
 subst hpa
 refine xcn (ScanV_ok xv L q.i q.t (by omega) mostI _ hx) ?_
 intro v12 I13 H14 hle15 hn11 hp16
 have hx := hx.mono hle15
 have hT := hT.mono hle15
 have hb1i := hle15 _ _ hb1i
 have hra := hra.mono hle15
 obtain ⟨wd, h, hod⟩ := hp16; cases h
 have hnd := hn11
 refine axn 1 ?_
 refine JA.keepO hod hnd (fun Id hled hrd => ?_)
 have hx := hx.mono hled
 have hT := hT.mono hled
 have hb1i := hled _ _ hb1i
 have hra := hra.mono hled
 replace hrd := hrd.row
 obtain ⟨pd, cd, hpd, hcd, -⟩ := id hrd
 subst hpd
 refine axn 5 ?_
 refine Cj.drawSel [] [] 12 (by kernel_rfl) ?_
 have hb1i_2 := hb1i
 refine axn 9 ?_
 refine JA.ev 25 (i64 ((((Ix.scan L q.i [] mostI).map lineI).length - ((Ix.scan L q.i q.t mostI).map lineI).length) : Nat)) rfl (congrArg i64 (by omega)) ?_
 refine JA.zt 9 rfl (yl_sliceTo rfl rfl rfl underlying228 sizeOf268 (by omega)) ?_
 refine xca (keyed_ok xv L q.i (((Ix.scan L q.i [] mostI).map lineI).take (((Ix.scan L q.i [] mostI).map lineI).length - ((Ix.scan L q.i q.t mostI).map lineI).length)) _ (fun x hx => scan_keyT htk hsrt hvok hbig q.i [] x (List.mem_of_mem_take hx)) (by rw [List.length_take]; omega) _ hx hT (RowS.take hra (Nat.sub_le _ _))) ?_
 intro v19 I20 H21 hle22 hp23
 have hx := hx.mono hle22
 have hT := hT.mono hle22
 have hb1i := hle22 _ _ hb1i
 have hra := hra.mono hle22
 have hrd := hrd.mono hle22
 obtain ⟨wb, h, ob, mb, kb, rfl, hmb, rfl⟩ := hp23; cases h
 refine axn 5 ?_
 refine Ej.keep (Keeps.k Keeps.n) ?_
 refine axe ?_
 exact ⟨_, rfl, ob, mb, kb, rfl, hmb.congr fun t => by rw [List.map_take, scan_all hsrt hvok hbig q.i [], hsl, hsm, Ix.keyOf_nil]; rfl, rfl⟩
theorem relations_ok (I : Heap) : Ctr Tryz.prog 102 [] I [] (fun e I' H' => ∃ kb mb, e = .returned (.map (some mb)) ∧ I' kb = some (cel 121 [.func (.func 151) #[] #[]]) ∧ I' mb = some (mobj (fun a : List UInt8 => str a) (relM kb) 6) ∧ H' = []) := by
 refine xob func102 fun w0 hw0 => ?_
 refine axn 8 ?_
 intro b1 hb1
 refine axn 5 ?_
 refine J.op rfl (op_makeMap rfl rfl rfl ?_)
 intro b2 hb2
 refine axn 1 ?_
 refine J.op rfl (op_insert (kv := (fun a : List UInt8 => str a)) (l := []) (c := 0) (a := [61]) 0 (.inl rfl) rfl rfl rfl rfl rfl underlying183 (KeyK.text underlying9) rfl LSet.z ?_)
 refine axn 1 ?_
 refine J.op rfl (op_insert (kv := (fun a : List UInt8 => str a)) (a := [61, 61]) 0 (.inl rfl) rfl rfl rfl rfl rfl underlying183 (KeyK.text underlying9) rfl LSet.z ?_)
 refine J.op rfl (op_insert (kv := (fun a : List UInt8 => str a)) (a := [97, 110, 121]) 0 (.inl rfl) rfl rfl rfl rfl rfl underlying183 (KeyK.text underlying9) rfl LSet.z ?_)
 refine J.op rfl (op_insert (kv := (fun a : List UInt8 => str a)) (a := [97, 108, 108]) 0 (.inl rfl) rfl rfl rfl rfl rfl underlying183 (KeyK.text underlying9) rfl LSet.z ?_)
 refine J.op rfl (op_insert (kv := (fun a : List UInt8 => str a)) (a := [62, 61]) 0 (.inl rfl) rfl rfl rfl rfl rfl underlying183 (KeyK.text underlying9) rfl LSet.z ?_)
 refine J.op rfl (op_insert (kv := (fun a : List UInt8 => str a)) (a := [60]) 0 (.inl rfl) rfl rfl rfl rfl rfl underlying183 (KeyK.text underlying9) rfl LSet.z ?_)
 refine axn 5 ?_
 refine Ej.pull (Pull.s Pull.z) ?_
 refine Ej.persist hb1 (fun I4 hle3 hb1i => ?_)
 refine Ej.persist hb2 (fun I6 hle5 hb2i => ?_)
 have hb1i := hle5 _ _ hb1i
 refine axr ?_
 exact ⟨b1, b2, rfl, hb1i, hb2i, rfl⟩
end Go.Proofs.YtekmeaoblpfnpaaGreatDoor
end
section
namespace Ix
open Ke
def termQ (i r s : Bs) : Cq.Qn := ⟨1, i, r, s, .nil⟩
def bothQ (k : Int) (a b : Cq.Qn) : Cq.Qn := ⟨k, [], [], [], a.push (b.push .nil)⟩
theorem sat_in (L : Ix) {t : Rec} : ∀ (n : Nat) (q : Cq.Qn), q.size < n → Cq.form q = true → sat L q t = true → t ∈ L.map (·.1)
  | 0, _, h, _, _ => absurd h (Nat.not_lt_zero _)
  | n + 1, q, hn, hf, h => by
    rcases Cq.form_tree hf with hk | ⟨hk, h2, h4, a, b, htw, ha, hb⟩
    · rw [sat_term hk] at h; exact satT_in h
    rw [sat_two hk htw] at h
    have hs := htw.size
    unfold comb at h
    split at h
    · rw [Bool.and_eq_true] at h; exact sat_in L n a (by omega) ha h.1
    split at h
    · rw [Bool.or_eq_true] at h
      exact h.elim (sat_in L n a (by omega) ha) (sat_in L n b (by omega) hb)
    rw [Bool.and_eq_true] at h; exact sat_in L n a (by omega) ha h.1
theorem isRun_of {L : Ix} {q : Cq.Qn} (hf : Cq.form q = true) {l : List Rec} (hp : l.Pairwise (lessS L)) (hm : ∀ t, t ∈ l ↔ sat L q t = true) : IsRun L q l :=
  ⟨hp, fun t => ⟨fun h => ⟨sat_in L _ q (Nat.lt_succ_self _) hf ((hm t).1 h), (hm t).1 h⟩, fun h => (hm t).2 h.2⟩⟩
theorem IsRun.mem {L : Ix} {q : Cq.Qn} {l : List Rec} (h : IsRun L q l) {t : Rec} (ht : t ∈ L.map (·.1)) : decide (t ∈ l) = sat L q t := by
  rw [Bool.eq_iff_iff, decide_eq_true_eq, h.2 t]
  exact ⟨fun g => g.2, fun g => ⟨ht, g⟩⟩
end Ix
namespace Ix
open Ke
theorem termQ_wide (i r s : Bs) : (termQ i r s).wide = i.length + r.length + s.length := by simp [termQ, Cq.Qn.wide, Cq.Qs.wide]
theorem termQ_form {i r : Bs} (hi : i ∈ Cq.indexes) (hr : r ∈ Cq.relations) (s : Bs) : Cq.form (termQ i r s) = true := by
  rw [Cq.form_term (q := termQ i r s) rfl, Bool.and_eq_true, Bool.and_eq_true]
  exact ⟨⟨List.contains_iff_mem.2 hi, List.contains_iff_mem.2 hr⟩, rfl⟩
theorem bothQ_form {k : Int} (h2 : 2 ≤ k) (h4 : k ≤ 4) {a b : Cq.Qn} (ha : Cq.form a = true) (hb : Cq.form b = true) : Cq.form (bothQ k a b) = true := by
  rw [Cq.form_two (q := bothQ k a b) (a := a) (b := b) (by show k ≠ 1; omega) (by show ¬ (k < 2 ∨ k > 4 ∨ ([] : Bs) ≠ [] ∨ ([] : Bs) ≠ [] ∨ ([] : Bs) ≠ [] ∨ (a.push (b.push .nil)).len ≠ 2); simp [Cq.Qn.push, Cq.Qs.len]; omega) rfl, ha, hb]
  rfl
theorem right_of {q : Cq.Qn} (h : Cq.form q = true) (hd : Cq.depth q ≤ 50) : Cq.right q = true := by
  unfold Cq.right; rw [h, decide_eq_true hd]; rfl
theorem right_term {i r : Bs} (hi : i ∈ Cq.indexes) (hr : r ∈ Cq.relations) (s : Bs) : Cq.right (termQ i r s) = true :=
  right_of (termQ_form hi hr s) (by rw [Cq.depth_term (q := termQ i r s) rfl]; exact Nat.zero_le _)
theorem bothQ_depth {k : Int} (hk : k ≠ 1) (a b : Cq.Qn) : Cq.depth (bothQ k a b) ≤ max (Cq.depth b + 1) (Cq.depth a) := by
  rw [Cq.depth_two (q := bothQ k a b) (a := a) (b := b) hk rfl]
  have : Cq.up b.k ≤ 1 := by unfold Cq.up; split <;> omega
  omega
theorem right_both {k : Int} (h2 : 2 ≤ k) (h4 : k ≤ 4) {a b : Cq.Qn} (ha : Cq.form a = true) (hb : Cq.form b = true) (da : Cq.depth a ≤ 49) (db : Cq.depth b ≤ 49) : Cq.right (bothQ k a b) = true := by grind [right_of, bothQ_form, Nat.le_trans, bothQ_depth]
theorem isRun_by {L : Ix} {q : Cq.Qn} {l : List Rec} (h1 : l.Pairwise (lessS L)) (h2 : ∀ t ∈ L.map (·.1), (t ∈ l ↔ sat L q t = true)) (h3 : ∀ t ∈ l, t ∈ L.map (·.1)) : IsRun L q l :=
  ⟨h1, fun t => ⟨fun h => ⟨h3 t h, (h2 t (h3 t h)).1 h⟩, fun h => (h2 t h.1).2 h.2⟩⟩
end Ix
end
section
set_option maxHeartbeats 40000000
namespace Go.Proofs.YtekmeaoblpfnpaaGreatDoor
open _root_.Go.Proofs.Tryz
open Go Go.Sx
theorem Ctr.setOut {f : FuncId} {args : List Value} {I : Heap} {S : Ix.Rec → Bool} (h : Ctr Tryz.prog f args I [] (fun e I' H' => ∃ w, e = .returned w ∧ (OwnS w S H' ∨ (SetV I' w S ∧ H' = [])))) : Ctr Tryz.prog f args I [] (fun e I' H' => ∃ w, e = .returned w ∧ SetV I' w S ∧ H' = []) := by
  refine ⟨h.1, fun w hw => (h.2 w hw).mono ?_⟩
  rintro e w' ⟨I', H', hst, u, rfl, ho | ⟨hv, rfl⟩⟩
  · obtain ⟨b, m, k, rfl, hm, rfl⟩ := ho
    have hb : w.heap.size ≤ b := (hst.new _ (.head _)).resolve_left (by simp)
    exact ⟨_, _, hst.persist hb, _, rfl, .inr ⟨b, m, k, rfl, hm, hput_at _ _ _⟩, rfl⟩
  exact ⟨_, _, hst, _, rfl, hv, rfl⟩
theorem Ctr.setOwn {f : FuncId} {args : List Value} {I : Heap} {S S' : Ix.Rec → Bool} (h : Ctr Tryz.prog f args I [] (fun e _ H' => ∃ w, e = .returned w ∧ OwnS w S H')) (he : ∀ t, S t = S' t) : Ctr Tryz.prog f args I [] (fun e I' H' => ∃ w, e = .returned w ∧ SetV I' w S' ∧ H' = []) :=
  Ctr.setOut (h.mono fun _ _ _ _ ⟨w, h1, b, m, k, h2, h3, h4⟩ => ⟨w, h1, .inl ⟨b, m, k, h2, h3.congr he, h4⟩⟩)
theorem rel_all (xv : Value) (L : Ix.Ix) (q : Cq.Qn) (p : Option Addr) (c kb : Nat) (hq : q.t.length ≤ 10000000) (htk : Ix.TOK L) (hr : Cq.relations.contains q.r = true) (I : Heap) (hx : IxV I xv L) (hT : STab I) (hkb : I kb = some (cel 121 [.func (.func 151) #[] #[]])) :
    ∃ F caps, (mget (relM kb) q.r).getD .nilFunc = .func (.func F) #[] (List.toArray caps) ∧ Ctr Tryz.prog F (xv :: .agg (qCells q p c).toArray :: caps) I [] (fun e I' H' => ∃ w, e = .returned w ∧ SetV I' w (fun t => Ix.satT L q.i q.r q.t t) ∧ H' = []) := by
  have hm : q.r ∈ Cq.relations := List.contains_iff_mem.1 hr
  simp only [Cq.relations, List.mem_cons, List.not_mem_nil, or_false] at hm
  rcases hm with h | h | h | h | h | h <;> rw [h]
  · exact ⟨_, [ptr kb 0], rfl, Ctr.setOwn (rel2_ok xv L q p c hq I hx kb hkb) fun t => rfl⟩
  · exact ⟨_, [], rfl, Ctr.setOwn (rel1_ok xv L q p c hq I hx) fun t => rfl⟩
  · exact ⟨_, [], rfl, Ctr.setOwn (rel6_ok xv L q p c hq I hx hT htk) fun t => rfl⟩
  · exact ⟨_, [], rfl, Ctr.setOwn (rel5_ok xv L q p c hq I hx hT htk) fun t => rfl⟩
  · exact ⟨_, [], rfl, Ctr.setOwn (rel3_ok xv L q p c hq I hx) fun t => rfl⟩
  exact ⟨_, [], rfl, rel4_ok xv L q p c hq I hx⟩
def SatSpec (xv : Value) (L : Ix.Ix) (q : Cq.Qn) : Prop := ∀ (p : Option Addr) (c : Nat) (I : Heap), PS I q.ps p → IxV I xv L → STab I → q.wide ≤ 10000000 → Cq.form q = true → Ctr Tryz.prog 54 [xv, .agg (qCells q p c).toArray] I [] (fun e I' H' => ∃ w, e = .returned w ∧ SetV I' w (Ix.sat L q) ∧ H' = [])
theorem satisfy_step (xv : Value) (L : Ix.Ix) (htk : Ix.TOK L) (q : Cq.Qn) (ih : ∀ q', Cq.Qn.size q' < q.size → SatSpec xv L q') : SatSpec xv L q := by
 intro p c I hps hx hT hwd hform
 refine Ctr.setOut ?_
 refine xob func54 fun w0 hw0 => ?_
 refine axn 3 ?_
 intro b1 hb1
 refine axc (fun hc2 hc2p => ?_) (fun hc2 hc2p => ?_)
 ·
  have hk : q.k = 1 := by omega
  have hrel : Cq.relations.contains q.r = true := by
    rw [Cq.form_term hk, Bool.and_eq_true, Bool.and_eq_true] at hform
    exact hform.1.2
  have htl : q.t.length ≤ 10000000 := by unfold Cq.Qn.wide at hwd; omega
  refine axn 1 ?_
  refine Cj.drawSel [0] [] 8 (by kernel_rfl) ?_
  refine xca (relations_ok _) ?_
  intro v4 I5 H6 hle7 hp8
  have hps := hps.mono hle7
  have hx := hx.mono hle7
  have hT := hT.mono hle7
  obtain ⟨kb1, mb1, h, hkb1, hmb1, rfl⟩ := hp8; cases h
  obtain ⟨F, caps, hF, hcl⟩ := rel_all xv L q p c kb1 htl htk hrel _ hx hT hkb1
  refine axn 1 ?_
  refine q0 3 rfl (op_yld (yl_lookup1 (kv := (fun a : List UInt8 => str a)) (l := (relM kb1)) (a := q.r) rfl rfl rfl rfl underlying183 (KeyK.text underlying9) zeroValue121 (Blk.imm hmb1)) rfl rfl ?_)
  refine axn 1 ?_
  refine JA.ev 15 (.func (.func F) #[] caps.toArray) rfl hF ?_
  refine xca (hcl) ?_
  intro v9 I10 H11 hle12 hp13
  have hps := hps.mono hle12
  have hx := hx.mono hle12
  have hT := hT.mono hle12
  have hkb1 := hle12 _ _ hkb1
  have hmb1 := hle12 _ _ hmb1
  obtain ⟨wt, h, hset, rfl⟩ := hp13; cases h
  refine axr ?_
  exact ⟨_, rfl, .inr ⟨hset.congr fun t => (Ix.sat_term hk).symm, rfl⟩⟩
 have hk : q.k ≠ 1 := by omega
 obtain ⟨_, hk2, hk4, qa, qb, htw, hfa, hfb⟩ := (Cq.form_tree hform).resolve_left hk
 obtain ⟨bl, off, cs', T, fr, pa, ca, pb, cb, rfl, hbl, hca, hcb, hkb, hpa, hpb⟩ := hps.two_at htw
 have hsz2 := htw.size
 have hwd2 := htw.wide
 have hln := htw.len
 have hsat : ∀ t, Ix.sat L q t = Ix.comb q.k (Ix.sat L qa t) (Ix.sat L qb t) := fun t => Ix.sat_two hk htw
 refine xix off ?_
 refine J.z (yl_loadAgg rfl rfl isAgg32 sizeOf32 (Blk.imm hbl) hca rfl) ?_
 refine xca (ih qa hsz2.1 pa ca _ hpa hx hT (by omega) hfa) ?_
 intro v15 I16 H17 hle18 hp19
 have hx := hx.mono hle18
 have hT := hT.mono hle18
 have hbl := hle18 _ _ hbl
 have hpa := hpa.mono hle18
 have hpb := hpb.mono hle18
 obtain ⟨wa, h, hsa, rfl⟩ := hp19; cases h
 rcases id hsa with ⟨rfl, hSa⟩ | ⟨ab, am, ak, rfl, hma, hab⟩
 ·
  have hz : ∀ t, Ix.sat L qa t = false := hSa
  refine axn 7 ?_
  refine J.z (yl_lenMapNil rfl rfl underlying120) ?_
  refine axc (fun hc20 hc20p => ?_) (fun hc20 hc20p => ?_)
  ·
   refine axn 7 ?_
   have hk3 : q.k ≠ 3 := bne_iff_ne.1 hc20
   refine axr ?_
   exact ⟨_, rfl, .inr ⟨.inl ⟨rfl, fun t => by rw [hsat t, hz t]; unfold Ix.comb; rw [if_neg hk3]; split <;> rfl⟩, rfl⟩⟩
  refine xix (off + 5) ?_
  refine J.z (yl_loadAgg rfl rfl isAgg32 sizeOf32 (Blk.imm hbl) hcb rfl) ?_
  refine xca (ih qb hsz2.2 pb cb _ hpb hx hT (by omega) hfb) ?_
  intro v21 I22 H23 hle24 hp25
  have hx := hx.mono hle24
  have hT := hT.mono hle24
  have hbl := hle24 _ _ hbl
  have hpa := hpa.mono hle24
  have hpb := hpb.mono hle24
  have hsa := hsa.mono hle24
  obtain ⟨wb, h, hsb, rfl⟩ := hp25; cases h
  obtain ⟨bo, rfl⟩ := hsb.shape
  refine axn 1 ?_
  intro b26 hb26
  refine axc (fun hc27 hc27p => ?_) (fun hc27 hc27p => ?_)
  ·
   have hk9 : q.k = 2 := eq_of_beq hc27
   refine axn 1 ?_
   refine Cj.persist hb26 (fun I29 hle28 hb26i => ?_)
   have hx := hx.mono hle28
   have hT := hT.mono hle28
   have hbl := hle28 _ _ hbl
   have hpa := hpa.mono hle28
   have hpb := hpb.mono hle28
   have hsa := hsa.mono hle28
   have hsb := hsb.mono hle28
   refine xca (only_ok _ (Ix.sat L qa) (Ix.sat L qb) _ [ptr b26 0] _ hsa (fun t _ => and1_ok b26 _ (Ix.sat L qb) t _ hb26i hsb)) ?_
   intro v30 I31 H32 hle33 hp34
   have hx := hx.mono hle33
   have hT := hT.mono hle33
   have hbl := hle33 _ _ hbl
   have hpa := hpa.mono hle33
   have hpb := hpb.mono hle33
   have hsa := hsa.mono hle33
   have hsb := hsb.mono hle33
   have hb26i := hle33 _ _ hb26i
   obtain ⟨wd, h, od, md, kd, rfl, hmd, rfl⟩ := hp34; cases h
   refine axn 6 ?_
   refine Ej.keep (Keeps.k (Keeps.d Keeps.n)) ?_
   refine axe ?_
   exact ⟨_, rfl, .inl ⟨od, md, kd, rfl, hmd.congr fun t => by rw [hsat t, hk9]; rfl, rfl⟩⟩
  have hkn2 : q.k ≠ 2 := ne_of_beq_false hc27
  refine axc (fun hc35 hc35p => ?_) (fun hc35 hc35p => ?_)
  ·
   have hk9 : q.k = 4 := eq_of_beq hc35
   refine axn 1 ?_
   refine Cj.persist hb26 (fun I37 hle36 hb26i => ?_)
   have hx := hx.mono hle36
   have hT := hT.mono hle36
   have hbl := hle36 _ _ hbl
   have hpa := hpa.mono hle36
   have hpb := hpb.mono hle36
   have hsa := hsa.mono hle36
   have hsb := hsb.mono hle36
   refine xca (only_ok _ (Ix.sat L qa) (fun t => !Ix.sat L qb t) _ [ptr b26 0] _ hsa (fun t _ => not1_ok b26 _ (Ix.sat L qb) t _ hb26i hsb)) ?_
   intro v38 I39 H40 hle41 hp42
   have hx := hx.mono hle41
   have hT := hT.mono hle41
   have hbl := hle41 _ _ hbl
   have hpa := hpa.mono hle41
   have hpb := hpb.mono hle41
   have hsa := hsa.mono hle41
   have hsb := hsb.mono hle41
   have hb26i := hle41 _ _ hb26i
   obtain ⟨wd, h, od, md, kd, rfl, hmd, rfl⟩ := hp42; cases h
   refine axn 6 ?_
   refine Ej.keep (Keeps.k (Keeps.d Keeps.n)) ?_
   refine axe ?_
   exact ⟨_, rfl, .inl ⟨od, md, kd, rfl, hmd.congr fun t => by rw [hsat t, hk9]; rfl, rfl⟩⟩
  have hkn4 : q.k ≠ 4 := ne_of_beq_false hc35
  refine axn 4 ?_
  refine Cj.persist hb26 (fun I44 hle43 hb26i => ?_)
  have hx := hx.mono hle43
  have hT := hT.mono hle43
  have hbl := hle43 _ _ hbl
  have hpa := hpa.mono hle43
  have hpb := hpb.mono hle43
  have hsa := hsa.mono hle43
  have hsb := hsb.mono hle43
  refine xca (only_ok _ (Ix.sat L qa) (fun _ => true) _ [] _ hsa (fun t _ => yes_ok t _)) ?_
  intro v45 I46 H47 hle48 hp49
  have hx := hx.mono hle48
  have hT := hT.mono hle48
  have hbl := hle48 _ _ hbl
  have hpa := hpa.mono hle48
  have hpb := hpb.mono hle48
  have hsa := hsa.mono hle48
  have hsb := hsb.mono hle48
  have hb26i := hle48 _ _ hb26i
  obtain ⟨wd, h, od, md, kd, rfl, hmd, rfl⟩ := hp49; cases h
  refine axn 7 ?_
  rcases id hsb with ⟨hbo, hSb⟩ | ⟨bb, bm, bk, hbo, hmbb, hbb⟩
  ·
   cases hbo
   refine J.op rfl (op_rangeNil rfl rfl rfl rfl underlying120 ?_)
   intro b50 hb50
   refine axn 3 ?_
   refine Cj.rounds 1 ?_
   refine Rj.succ ?_
   refine axn 2 ?_
   refine J.op rfl (op_nextNil 0 rfl rfl rfl rfl rfl ?_)
   refine axn 17 ?_
   refine Ej.keep (Keeps.d (Keeps.k (Keeps.d Keeps.n))) ?_
   have hk9 : q.k = 3 := by omega
   refine axe ?_
   exact ⟨_, rfl, .inl ⟨od, md, kd, rfl, hmd.congr fun t => by rw [hsat t, hk9, Bool.and_true]; show _ = (_ || _); rw [hSb t, Bool.or_false], rfl⟩⟩
  cases hbo
  refine J.op rfl (op_rangeMap (kv := kvR) (l := bm) rfl rfl rfl rfl underlying120 (Blk.imm hbb) ?_)
  intro b52 hb52
  refine axn 3 ?_
  refine Cj.keep (Keeps.k (Keeps.k (Keeps.d Keeps.n))) ?_
  refine Cj.loop (ι := TC) (fun y => (y.vis ++ y.rest).Perm bm ∧ SetM y.l y.c (withS y.vis (fun t => Ix.sat L qa t && true))) (fun y => y.rest.length) (fun y => [(7, .map (some od)), (54, ptr b52 0)]) (fun y => _) (fun y => [(b52, mit bb bk y.vis bk), (od, mobj kvR y.l y.c)]) ⟨[], bm, md, kd⟩ ⟨.refl _, hmd.congr fun t => by unfold withS; simp⟩ ⟨rfl, rfl, trivial⟩ rfl rfl ?_
  rintro ⟨vis, rest, l, cc⟩ ⟨hp, hM⟩
  dsimp only at hp hM ⊢
  refine axn 2 ?_
  refine J.op rfl (op_nextMap (kv := kvR) (l := bm) 0 rfl rfl rfl rfl rfl (Blk.imm hbb) hmbb.1.2.2 (Nat.le_refl _) hmbb.1.2.1 hp ?_ ?_)
  ·
   rintro x rest2 H9 hrx hpx ⟨-, hset⟩; simp only [List.set_cons_zero] at hset; subst hset
   have hxm : x ∈ bm := hpx.mem_iff.1 (List.mem_append_left _ (List.mem_append_right _ (.head _)))
   refine axn 10 ?_
   refine J.z (yl_entry (kv := kvR) (l := bm) rfl rfl (Blk.at 0 rfl) (Blk.imm hbb) hxm hmbb.1.2.1) ?_
   refine axn 2 ?_
   intro b54 hb54
   refine axn 6 ?_
   refine J.op rfl (op_insert (kv := kvR) (a := x.1) 2 (.inr rfl) rfl rfl rfl rfl rfl underlying120 keyR rfl (LSet.s (LSet.s LSet.z)) ?_)
   refine axn 2 ?_
   refine Ej.keep (Keeps.d (Keeps.k (Keeps.k Keeps.n))) ?_
   refine Ej.round ⟨vis ++ [x], rest2, _, _⟩ ⟨hpx, hM.add x.1 withS_next⟩ (by have h := hrx.length_eq; simp only [List.length_cons] at h; dsimp only; omega) ⟨rfl, rfl, trivial⟩ rfl rfl
  intro hend
  have hpv : vis.Perm bm := by rw [hend, List.append_nil] at hp; exact hp
  refine axn 17 ?_
  refine Ej.keep (Keeps.d (Keeps.k Keeps.n)) ?_
  have hk9 : q.k = 3 := by omega
  refine axe ?_
  exact ⟨_, rfl, .inl ⟨od, l, cc, rfl, hM.congr fun t => by rw [hsat t, hk9, withS_all hmbb hpv, Bool.and_true]; rfl, rfl⟩⟩
   
 refine axn 7 ?_
 refine J.z (yl_lenMap (kv := kvR) (l := am) rfl rfl underlying120 (Blk.imm hab)) ?_
 refine axg (fun hg56 hg56p => ?_) (fun hg56 hg56p => ?_)
 ·
  refine axc (fun hc57 hc57p => ?_) (fun hc57 hc57p => ?_)
  ·
   refine axn 7 ?_
   have hz : ∀ t, Ix.sat L qa t = false := hma.empty (by have h := eq_of_beq hg56; omega)
   have hk3 : q.k ≠ 3 := bne_iff_ne.1 hc57
   refine axr ?_
   exact ⟨_, rfl, .inr ⟨.inl ⟨rfl, fun t => by rw [hsat t, hz t]; unfold Ix.comb; rw [if_neg hk3]; split <;> rfl⟩, rfl⟩⟩
  refine xix (off + 5) ?_
  refine J.z (yl_loadAgg rfl rfl isAgg32 sizeOf32 (Blk.imm hbl) hcb rfl) ?_
  refine xca (ih qb hsz2.2 pb cb _ hpb hx hT (by omega) hfb) ?_
  intro v58 I59 H60 hle61 hp62
  have hx := hx.mono hle61
  have hT := hT.mono hle61
  have hbl := hle61 _ _ hbl
  have hpa := hpa.mono hle61
  have hpb := hpb.mono hle61
  have hsa := hsa.mono hle61
  have hab := hle61 _ _ hab
  obtain ⟨wb, h, hsb, rfl⟩ := hp62; cases h
  obtain ⟨bo, rfl⟩ := hsb.shape
  refine axn 1 ?_
  intro b63 hb63
  refine axc (fun hc64 hc64p => ?_) (fun hc64 hc64p => ?_)
  ·
   have hk9 : q.k = 2 := eq_of_beq hc64
   refine axn 1 ?_
   refine Cj.persist hb63 (fun I66 hle65 hb63i => ?_)
   have hx := hx.mono hle65
   have hT := hT.mono hle65
   have hbl := hle65 _ _ hbl
   have hpa := hpa.mono hle65
   have hpb := hpb.mono hle65
   have hsa := hsa.mono hle65
   have hab := hle65 _ _ hab
   have hsb := hsb.mono hle65
   refine xca (only_ok _ (Ix.sat L qa) (Ix.sat L qb) _ [ptr b63 0] _ hsa (fun t _ => and1_ok b63 _ (Ix.sat L qb) t _ hb63i hsb)) ?_
   intro v67 I68 H69 hle70 hp71
   have hx := hx.mono hle70
   have hT := hT.mono hle70
   have hbl := hle70 _ _ hbl
   have hpa := hpa.mono hle70
   have hpb := hpb.mono hle70
   have hsa := hsa.mono hle70
   have hab := hle70 _ _ hab
   have hsb := hsb.mono hle70
   have hb63i := hle70 _ _ hb63i
   obtain ⟨wd, h, od, md, kd, rfl, hmd, rfl⟩ := hp71; cases h
   refine axn 6 ?_
   refine Ej.keep (Keeps.k (Keeps.d Keeps.n)) ?_
   refine axe ?_
   exact ⟨_, rfl, .inl ⟨od, md, kd, rfl, hmd.congr fun t => by rw [hsat t, hk9]; rfl, rfl⟩⟩
  have hkn2 : q.k ≠ 2 := ne_of_beq_false hc64
  refine axc (fun hc72 hc72p => ?_) (fun hc72 hc72p => ?_)
  ·
   have hk9 : q.k = 4 := eq_of_beq hc72
   refine axn 1 ?_
   refine Cj.persist hb63 (fun I74 hle73 hb63i => ?_)
   have hx := hx.mono hle73
   have hT := hT.mono hle73
   have hbl := hle73 _ _ hbl
   have hpa := hpa.mono hle73
   have hpb := hpb.mono hle73
   have hsa := hsa.mono hle73
   have hab := hle73 _ _ hab
   have hsb := hsb.mono hle73
   refine xca (only_ok _ (Ix.sat L qa) (fun t => !Ix.sat L qb t) _ [ptr b63 0] _ hsa (fun t _ => not1_ok b63 _ (Ix.sat L qb) t _ hb63i hsb)) ?_
   intro v75 I76 H77 hle78 hp79
   have hx := hx.mono hle78
   have hT := hT.mono hle78
   have hbl := hle78 _ _ hbl
   have hpa := hpa.mono hle78
   have hpb := hpb.mono hle78
   have hsa := hsa.mono hle78
   have hab := hle78 _ _ hab
   have hsb := hsb.mono hle78
   have hb63i := hle78 _ _ hb63i
   obtain ⟨wd, h, od, md, kd, rfl, hmd, rfl⟩ := hp79; cases h
   refine axn 6 ?_
   refine Ej.keep (Keeps.k (Keeps.d Keeps.n)) ?_
   refine axe ?_
   exact ⟨_, rfl, .inl ⟨od, md, kd, rfl, hmd.congr fun t => by rw [hsat t, hk9]; rfl, rfl⟩⟩
  have hkn4 : q.k ≠ 4 := ne_of_beq_false hc72
  refine axn 4 ?_
  refine Cj.persist hb63 (fun I81 hle80 hb63i => ?_)
  have hx := hx.mono hle80
  have hT := hT.mono hle80
  have hbl := hle80 _ _ hbl
  have hpa := hpa.mono hle80
  have hpb := hpb.mono hle80
  have hsa := hsa.mono hle80
  have hab := hle80 _ _ hab
  have hsb := hsb.mono hle80
  refine xca (only_ok _ (Ix.sat L qa) (fun _ => true) _ [] _ hsa (fun t _ => yes_ok t _)) ?_
  intro v82 I83 H84 hle85 hp86
  have hx := hx.mono hle85
  have hT := hT.mono hle85
  have hbl := hle85 _ _ hbl
  have hpa := hpa.mono hle85
  have hpb := hpb.mono hle85
  have hsa := hsa.mono hle85
  have hab := hle85 _ _ hab
  have hsb := hsb.mono hle85
  have hb63i := hle85 _ _ hb63i
  obtain ⟨wd, h, od, md, kd, rfl, hmd, rfl⟩ := hp86; cases h
  refine axn 7 ?_
  rcases id hsb with ⟨hbo, hSb⟩ | ⟨bb, bm, bk, hbo, hmbb, hbb⟩
  ·
   cases hbo
   refine J.op rfl (op_rangeNil rfl rfl rfl rfl underlying120 ?_)
   intro b87 hb87
   refine axn 3 ?_
   refine Cj.rounds 1 ?_
   refine Rj.succ ?_
   refine axn 2 ?_
   refine J.op rfl (op_nextNil 0 rfl rfl rfl rfl rfl ?_)
   refine axn 17 ?_
   refine Ej.keep (Keeps.d (Keeps.k (Keeps.d Keeps.n))) ?_
   have hk9 : q.k = 3 := by omega
   refine axe ?_
   exact ⟨_, rfl, .inl ⟨od, md, kd, rfl, hmd.congr fun t => by rw [hsat t, hk9, Bool.and_true]; show _ = (_ || _); rw [hSb t, Bool.or_false], rfl⟩⟩
  cases hbo
  refine J.op rfl (op_rangeMap (kv := kvR) (l := bm) rfl rfl rfl rfl underlying120 (Blk.imm hbb) ?_)
  intro b89 hb89
  refine axn 3 ?_
  refine Cj.keep (Keeps.k (Keeps.k (Keeps.d Keeps.n))) ?_
  refine Cj.loop (ι := TC) (fun y => (y.vis ++ y.rest).Perm bm ∧ SetM y.l y.c (withS y.vis (fun t => Ix.sat L qa t && true))) (fun y => y.rest.length) (fun y => [(7, .map (some od)), (54, ptr b89 0)]) (fun y => _) (fun y => [(b89, mit bb bk y.vis bk), (od, mobj kvR y.l y.c)]) ⟨[], bm, md, kd⟩ ⟨.refl _, hmd.congr fun t => by unfold withS; simp⟩ ⟨rfl, rfl, trivial⟩ rfl rfl ?_
  rintro ⟨vis, rest, l, cc⟩ ⟨hp, hM⟩
  dsimp only at hp hM ⊢
  refine axn 2 ?_
  refine J.op rfl (op_nextMap (kv := kvR) (l := bm) 0 rfl rfl rfl rfl rfl (Blk.imm hbb) hmbb.1.2.2 (Nat.le_refl _) hmbb.1.2.1 hp ?_ ?_)
  ·
   rintro x rest2 H9 hrx hpx ⟨-, hset⟩; simp only [List.set_cons_zero] at hset; subst hset
   have hxm : x ∈ bm := hpx.mem_iff.1 (List.mem_append_left _ (List.mem_append_right _ (.head _)))
   refine axn 10 ?_
   refine J.z (yl_entry (kv := kvR) (l := bm) rfl rfl (Blk.at 0 rfl) (Blk.imm hbb) hxm hmbb.1.2.1) ?_
   refine axn 2 ?_
   intro b91 hb91
   refine axn 6 ?_
   refine J.op rfl (op_insert (kv := kvR) (a := x.1) 2 (.inr rfl) rfl rfl rfl rfl rfl underlying120 keyR rfl (LSet.s (LSet.s LSet.z)) ?_)
   refine axn 2 ?_
   refine Ej.keep (Keeps.d (Keeps.k (Keeps.k Keeps.n))) ?_
   refine Ej.round ⟨vis ++ [x], rest2, _, _⟩ ⟨hpx, hM.add x.1 withS_next⟩ (by have h := hrx.length_eq; simp only [List.length_cons] at h; dsimp only; omega) ⟨rfl, rfl, trivial⟩ rfl rfl
  intro hend
  have hpv : vis.Perm bm := by rw [hend, List.append_nil] at hp; exact hp
  refine axn 17 ?_
  refine Ej.keep (Keeps.d (Keeps.k Keeps.n)) ?_
  have hk9 : q.k = 3 := by omega
  refine axe ?_
  exact ⟨_, rfl, .inl ⟨od, l, cc, rfl, hM.congr fun t => by rw [hsat t, hk9, withS_all hmbb hpv, Bool.and_true]; rfl, rfl⟩⟩
 refine xix (off + 5) ?_
 refine J.z (yl_loadAgg rfl rfl isAgg32 sizeOf32 (Blk.imm hbl) hcb rfl) ?_
 refine xca (ih qb hsz2.2 pb cb _ hpb hx hT (by omega) hfb) ?_
 intro v94 I95 H96 hle97 hp98
 have hx := hx.mono hle97
 have hT := hT.mono hle97
 have hbl := hle97 _ _ hbl
 have hpa := hpa.mono hle97
 have hpb := hpb.mono hle97
 have hsa := hsa.mono hle97
 have hab := hle97 _ _ hab
 obtain ⟨wb, h, hsb, rfl⟩ := hp98; cases h
 obtain ⟨bo, rfl⟩ := hsb.shape
 refine axn 1 ?_
 intro b99 hb99
 refine axc (fun hc100 hc100p => ?_) (fun hc100 hc100p => ?_)
 ·
  have hk9 : q.k = 2 := eq_of_beq hc100
  refine axn 1 ?_
  refine Cj.persist hb99 (fun I102 hle101 hb99i => ?_)
  have hx := hx.mono hle101
  have hT := hT.mono hle101
  have hbl := hle101 _ _ hbl
  have hpa := hpa.mono hle101
  have hpb := hpb.mono hle101
  have hsa := hsa.mono hle101
  have hab := hle101 _ _ hab
  have hsb := hsb.mono hle101
  refine xca (only_ok _ (Ix.sat L qa) (Ix.sat L qb) _ [ptr b99 0] _ hsa (fun t _ => and1_ok b99 _ (Ix.sat L qb) t _ hb99i hsb)) ?_
  intro v103 I104 H105 hle106 hp107
  have hx := hx.mono hle106
  have hT := hT.mono hle106
  have hbl := hle106 _ _ hbl
  have hpa := hpa.mono hle106
  have hpb := hpb.mono hle106
  have hsa := hsa.mono hle106
  have hab := hle106 _ _ hab
  have hsb := hsb.mono hle106
  have hb99i := hle106 _ _ hb99i
  obtain ⟨wd, h, od, md, kd, rfl, hmd, rfl⟩ := hp107; cases h
  refine axn 6 ?_
  refine Ej.keep (Keeps.k (Keeps.d Keeps.n)) ?_
  refine axe ?_
  exact ⟨_, rfl, .inl ⟨od, md, kd, rfl, hmd.congr fun t => by rw [hsat t, hk9]; rfl, rfl⟩⟩
 have hkn2 : q.k ≠ 2 := ne_of_beq_false hc100
 refine axc (fun hc108 hc108p => ?_) (fun hc108 hc108p => ?_)
 ·
  have hk9 : q.k = 4 := eq_of_beq hc108
  refine axn 1 ?_
  refine Cj.persist hb99 (fun I110 hle109 hb99i => ?_)
  have hx := hx.mono hle109
  have hT := hT.mono hle109
  have hbl := hle109 _ _ hbl
  have hpa := hpa.mono hle109
  have hpb := hpb.mono hle109
  have hsa := hsa.mono hle109
  have hab := hle109 _ _ hab
  have hsb := hsb.mono hle109
  refine xca (only_ok _ (Ix.sat L qa) (fun t => !Ix.sat L qb t) _ [ptr b99 0] _ hsa (fun t _ => not1_ok b99 _ (Ix.sat L qb) t _ hb99i hsb)) ?_
  intro v111 I112 H113 hle114 hp115
  have hx := hx.mono hle114
  have hT := hT.mono hle114
  have hbl := hle114 _ _ hbl
  have hpa := hpa.mono hle114
  have hpb := hpb.mono hle114
  have hsa := hsa.mono hle114
  have hab := hle114 _ _ hab
  have hsb := hsb.mono hle114
  have hb99i := hle114 _ _ hb99i
  obtain ⟨wd, h, od, md, kd, rfl, hmd, rfl⟩ := hp115; cases h
  refine axn 6 ?_
  refine Ej.keep (Keeps.k (Keeps.d Keeps.n)) ?_
  refine axe ?_
  exact ⟨_, rfl, .inl ⟨od, md, kd, rfl, hmd.congr fun t => by rw [hsat t, hk9]; rfl, rfl⟩⟩
 have hkn4 : q.k ≠ 4 := ne_of_beq_false hc108
 refine axn 4 ?_
 refine Cj.persist hb99 (fun I117 hle116 hb99i => ?_)
 have hx := hx.mono hle116
 have hT := hT.mono hle116
 have hbl := hle116 _ _ hbl
 have hpa := hpa.mono hle116
 have hpb := hpb.mono hle116
 have hsa := hsa.mono hle116
 have hab := hle116 _ _ hab
 have hsb := hsb.mono hle116
 refine xca (only_ok _ (Ix.sat L qa) (fun _ => true) _ [] _ hsa (fun t _ => yes_ok t _)) ?_
 intro v118 I119 H120 hle121 hp122
 have hx := hx.mono hle121
 have hT := hT.mono hle121
 have hbl := hle121 _ _ hbl
 have hpa := hpa.mono hle121
 have hpb := hpb.mono hle121
 have hsa := hsa.mono hle121
 have hab := hle121 _ _ hab
 have hsb := hsb.mono hle121
 have hb99i := hle121 _ _ hb99i
 obtain ⟨wd, h, od, md, kd, rfl, hmd, rfl⟩ := hp122; cases h
 refine axn 7 ?_
 rcases id hsb with ⟨hbo, hSb⟩ | ⟨bb, bm, bk, hbo, hmbb, hbb⟩
 ·
  cases hbo
  refine J.op rfl (op_rangeNil rfl rfl rfl rfl underlying120 ?_)
  intro b123 hb123
  refine axn 3 ?_
  refine Cj.rounds 1 ?_
  refine Rj.succ ?_
  refine axn 2 ?_
  refine J.op rfl (op_nextNil 0 rfl rfl rfl rfl rfl ?_)
  refine axn 17 ?_
  refine Ej.keep (Keeps.d (Keeps.k (Keeps.d Keeps.n))) ?_
  have hk9 : q.k = 3 := by omega
  refine axe ?_
  exact ⟨_, rfl, .inl ⟨od, md, kd, rfl, hmd.congr fun t => by rw [hsat t, hk9, Bool.and_true]; show _ = (_ || _); rw [hSb t, Bool.or_false], rfl⟩⟩
 cases hbo
 refine J.op rfl (op_rangeMap (kv := kvR) (l := bm) rfl rfl rfl rfl underlying120 (Blk.imm hbb) ?_)
 intro b125 hb125
 refine axn 3 ?_
 refine Cj.keep (Keeps.k (Keeps.k (Keeps.d Keeps.n))) ?_
 refine Cj.loop (ι := TC) (fun y => (y.vis ++ y.rest).Perm bm ∧ SetM y.l y.c (withS y.vis (fun t => Ix.sat L qa t && true))) (fun y => y.rest.length) (fun y => [(7, .map (some od)), (54, ptr b125 0)]) (fun y => _) (fun y => [(b125, mit bb bk y.vis bk), (od, mobj kvR y.l y.c)]) ⟨[], bm, md, kd⟩ ⟨.refl _, hmd.congr fun t => by unfold withS; simp⟩ ⟨rfl, rfl, trivial⟩ rfl rfl ?_
 rintro ⟨vis, rest, l, cc⟩ ⟨hp, hM⟩
 dsimp only at hp hM ⊢
 refine axn 2 ?_
 refine J.op rfl (op_nextMap (kv := kvR) (l := bm) 0 rfl rfl rfl rfl rfl (Blk.imm hbb) hmbb.1.2.2 (Nat.le_refl _) hmbb.1.2.1 hp ?_ ?_)
 ·
  rintro x rest2 H9 hrx hpx ⟨-, hset⟩; simp only [List.set_cons_zero] at hset; subst hset
  have hxm : x ∈ bm := hpx.mem_iff.1 (List.mem_append_left _ (List.mem_append_right _ (.head _)))
  refine axn 10 ?_
  refine J.z (yl_entry (kv := kvR) (l := bm) rfl rfl (Blk.at 0 rfl) (Blk.imm hbb) hxm hmbb.1.2.1) ?_
  refine axn 2 ?_
  intro b127 hb127
  refine axn 6 ?_
  refine J.op rfl (op_insert (kv := kvR) (a := x.1) 2 (.inr rfl) rfl rfl rfl rfl rfl underlying120 keyR rfl (LSet.s (LSet.s LSet.z)) ?_)
  refine axn 2 ?_
  refine Ej.keep (Keeps.d (Keeps.k (Keeps.k Keeps.n))) ?_
  refine Ej.round ⟨vis ++ [x], rest2, _, _⟩ ⟨hpx, hM.add x.1 withS_next⟩ (by have h := hrx.length_eq; simp only [List.length_cons] at h; dsimp only; omega) ⟨rfl, rfl, trivial⟩ rfl rfl
 intro hend
 have hpv : vis.Perm bm := by rw [hend, List.append_nil] at hp; exact hp
 refine axn 17 ?_
 refine Ej.keep (Keeps.d (Keeps.k Keeps.n)) ?_
 have hk9 : q.k = 3 := by omega
 refine axe ?_
 exact ⟨_, rfl, .inl ⟨od, l, cc, rfl, hM.congr fun t => by rw [hsat t, hk9, withS_all hmbb hpv, Bool.and_true]; rfl, rfl⟩⟩
theorem satisfy_ok (xv : Value) (L : Ix.Ix) (htk : Ix.TOK L) (q : Cq.Qn) : SatSpec xv L q := by
  suffices ∀ n (q : Cq.Qn), q.size < n → SatSpec xv L q from this _ q (Nat.lt_succ_self _)
  intro n
  induction n with
  | zero => intro q h; omega
  | succ n ih => intro q h; exact satisfy_step xv L htk q fun q' h' => ih q' (by omega)
end Go.Proofs.YtekmeaoblpfnpaaGreatDoor
end
section
namespace Go.Proofs.YtekmeaoblpfnpaaGreatDoor
open _root_.Go.Proofs.Tryz
open Go Go.Sx
attribute [local instance] yesDR
section
open Go.Shelf Go.RowKit Go.Lib
theorem or3_ok (b : Nat) (r0 r1 r2 : Int) (w : World) (h0 : w.cell? ⟨b, 0, none⟩ = some (.int .i64 r0)) (h1 : w.cell? ⟨b, 1, none⟩ = some (.int .i64 r1)) (h2 : w.cell? ⟨b, 2, none⟩ = some (.int .i64 r2)) :
    Calls Tryz.prog 57 #[.slice (some ⟨b, 0, none⟩) 3 3] w fun e w' => e = .returned (.int .i64 (orR r0 (orR r1 r2))) ∧ w' = w := by
  go_enter func57, Tryz.ntmps57
  go_wp2
  refine wp_loop_rounds 4 ?_
  rw [rounds_succ]
  go_wp2
  · have hr : (r0 != 0) = true := by assumption
    have hc : orR r0 (orR r1 r2) = r0 := if_pos (by simpa using hr)
    go_ret
    exact ⟨by rw [hc]; rfl, rfl⟩
  have hr : (r0 != 0) = false := by assumption
  have hc : orR r0 (orR r1 r2) = orR r1 r2 := if_neg (by simpa using hr)
  rw [rounds_succ]
  go_wp2
  · have hs : (r1 != 0) = true := by assumption
    have hd : orR r1 r2 = r1 := if_pos (by simpa using hs)
    go_ret
    exact ⟨by rw [hc, hd]; rfl, rfl⟩
  have hs : (r1 != 0) = false := by assumption
  have hd : orR r1 r2 = r2 := if_neg (by simpa using hs)
  rw [rounds_succ]
  go_wp2
  · go_ret
    exact ⟨by rw [hc, hd]; rfl, rfl⟩
  have ht : (r2 != 0) = false := by assumption
  have ht1 : r2 = 0 := by simpa using ht
  rw [rounds_succ]
  go_wp2
  go_ret
  exact ⟨by rw [hc, hd, ht1]; rfl, rfl⟩
end
theorem cmpOr3_ok (b : Nat) (r0 r1 r2 : Int) (I : Heap) : Ctr Tryz.prog 57 [.slice (some ⟨b, 0, none⟩) 3 3] I [(b, cel 3 [i64 r0, i64 r1, i64 r2])] (fun e I' H' => e = .returned (i64 (orR r0 (orR r1 r2))) ∧ I' = I ∧ H' = [(b, cel 3 [i64 r0, i64 r1, i64 r2])]) :=
  Ctr.same ⟨_, func57, by decide, rfl⟩ fun w hw => by
    have hb := hw.2.1 _ (.head _)
    refine or3_ok b r0 r1 r2 w ?_ ?_ ?_ <;> simp [World.cell?, hb, cel]
theorem compareB_eq : ∀ a b : List UInt8, Lib.compareBytes a b = cmpS a b
  | [], [] => rfl
  | [], _ :: _ => rfl
  | _ :: _, [] => rfl
  | a :: u, b :: v => by
    have ih := compareB_eq u v
    unfold Lib.compareBytes cmpS
    rw [ih]
    unfold cmpS
    by_cases h1 : a < b
    · rw [if_pos h1, if_pos (List.cons_lt_cons_iff.2 (.inl h1))]
    rw [if_neg h1]
    by_cases h2 : b < a
    · have hne : a ≠ b := fun e => by subst e; exact h1 h2
      rw [if_pos h2, if_neg (fun g => (List.cons_lt_cons_iff.1 g).elim h1 fun g => hne g.1), if_pos (List.cons_lt_cons_iff.2 (.inl h2))]
    have he : a = b := UInt8.toNat_inj.1 (by have := UInt8.not_lt.1 h1; have := UInt8.not_lt.1 h2; rw [UInt8.le_iff_toNat_le] at *; omega)
    subst he
    rw [if_neg h2]
    have e1 : (a :: u < a :: v) ↔ u < v := by rw [List.cons_lt_cons_iff]; simp [h1]
    have e2 : (a :: v < a :: u) ↔ v < u := by rw [List.cons_lt_cons_iff]; simp [h1]
    by_cases g1 : u < v
    · rw [if_pos g1, if_pos (e1.2 g1)]
    rw [if_neg g1, if_neg (fun g => g1 (e1.1 g))]
    by_cases g2 : v < u
    · rw [if_pos g2, if_pos (e2.2 g2)]
    rw [if_neg g2, if_neg (fun g => g2 (e2.1 g))]
theorem scmp_ok (a b : List UInt8) (I : Heap) : Ctr Tryz.prog 58 [str a, str b] I [] (fun e I' H' => e = .returned (i64 (cmpS a b)) ∧ I' = I ∧ H' = []) :=
  Ctr.same ⟨_, func58, by decide, rfl⟩ fun w _ => by
    have h := Tryz.strings_Compare ⟨a.toArray⟩ ⟨b.toArray⟩ w
    rw [show (⟨a.toArray⟩ : ByteArray).data.toList = a by simp, show (⟨b.toArray⟩ : ByteArray).data.toList = b by simp, compareB_eq] at h
    exact h
theorem run1D_ok (a b : List UInt8) (x0 x1 y0 y1 : Int) (I : Heap) : Ctr Tryz.prog 56 [.agg #[str a, i64 x0, i64 x1], .agg #[str b, i64 y0, i64 y1]] I [] (fun e _ H' => e = .returned (i64 (orR (cmpS a b) (orR (Lib.compareInt x0 y0) (Lib.compareInt x1 y1)))) ∧ H' = []) := by
 refine Ctr.ob func56 ?_
 intro w0 hw0
 refine Cj.sr (J.op rfl (op_box rfl rfl rfl rfl rfl ?_))
 intro b1 hb1
 refine J.op rfl (op_box rfl rfl rfl rfl rfl ?_)
 intro b2 hb2
 refine J.as ?_
 refine J.nss (Cj.drawSel [0, 1] [] 22 (by kernel_rfl) ?_)
 refine JA.fix ⟨(HSub.c 0 rfl (HSub.c 1 rfl HSub.n)), CSub.n, (Le.refl _)⟩ (fun fx3 => ?_)
 refine JA.tk 0 rfl fx3 (q1 (off' := 0) underlying123 sizeOf9) ?_
 refine JA.tk 1 rfl fx3 (yl_load rfl rfl isAgg9 (Blk.atC 1 rfl) rfl) ?_
 refine JA.tk 2 rfl fx3 (q1 (off' := 0) underlying123 sizeOf9) ?_
 refine JA.tk 3 rfl fx3 (yl_load rfl rfl isAgg9 (Blk.atC 0 rfl) rfl) ?_
 refine JA.tk 5 rfl fx3 (q1 (off' := 1) underlying123 sizeOf54) ?_
 refine JA.tk 6 rfl fx3 (q1 (off' := 1) underlying54 sizeOf3) ?_
 refine JA.tk 7 rfl fx3 (yl_load rfl rfl isAgg3 (Blk.atC 1 rfl) rfl) ?_
 refine JA.tk 8 rfl fx3 (q1 (off' := 1) underlying123 sizeOf54) ?_
 refine JA.tk 9 rfl fx3 (q1 (off' := 1) underlying54 sizeOf3) ?_
 refine JA.tk 10 rfl fx3 (yl_load rfl rfl isAgg3 (Blk.atC 0 rfl) rfl) ?_
 refine JA.tk 12 rfl fx3 (q1 (off' := 1) underlying123 sizeOf54) ?_
 refine JA.tk 13 rfl fx3 (q1 (off' := 2) underlying54 sizeOf3) ?_
 refine JA.tk 14 rfl fx3 (yl_load rfl rfl isAgg3 (Blk.atC 1 rfl) rfl) ?_
 refine JA.tk 15 rfl fx3 (q1 (off' := 1) underlying123 sizeOf54) ?_
 refine JA.tk 16 rfl fx3 (q1 (off' := 2) underlying54 sizeOf3) ?_
 refine JA.tk 17 rfl fx3 (yl_load rfl rfl isAgg3 (Blk.atC 0 rfl) rfl) ?_
 refine q0 4 rfl (op_call (H1 := []) rfl rfl rfl rfl rfl (scmp_ok a b _) ?_ (fun _ _ _ _ h => by cases h.1) (fun _ _ h => by cases h.1))
 intro v4 I5 H6 hle7 hp8
 obtain ⟨h, rfl, rfl⟩ := hp8; cases h
 refine ⟨⟨(Le.trans (Le.refl _) hle7), (HSub.c 0 rfl (HSub.c 1 rfl HSub.n)), CSub.n⟩, ?_⟩
 refine q0 11 rfl (op_call (H1 := []) rfl rfl rfl rfl rfl (ceq_ok x0 y0 _) ?_ (fun _ _ _ _ h => by cases h.1) (fun _ _ h => by cases h.1))
 intro v9 I10 H11 hle12 hp13
 obtain ⟨h, rfl, rfl⟩ := hp13; cases h
 refine ⟨⟨(Le.trans (Le.trans (Le.refl _) hle7) hle12), (HSub.c 0 rfl (HSub.c 1 rfl HSub.n)), CSub.n⟩, ?_⟩
 refine q0 18 rfl (op_call (H1 := []) rfl rfl rfl rfl rfl (ceq_ok x1 y1 _) ?_ (fun _ _ _ _ h => by cases h.1) (fun _ _ h => by cases h.1))
 intro v14 I15 H16 hle17 hp18
 obtain ⟨h, rfl, rfl⟩ := hp18; cases h
 refine ⟨⟨(Le.trans (Le.trans (Le.trans (Le.refl _) hle7) hle12) hle17), (HSub.c 0 rfl (HSub.c 1 rfl HSub.n)), CSub.n⟩, ?_⟩
 refine q0 19 rfl (q3 underlying23 sizeOf3 zeroValue3 (LCat.one rfl (LCat.one rfl (LCat.one rfl LCat.none))) ?_)
 intro b19 hb19
 refine ⟨⟨(Le.trans (Le.trans (Le.trans (Le.refl _) hle7) hle12) hle17), (HSub.c 1 rfl (HSub.c 2 rfl HSub.n)), CSub.n⟩, ?_⟩
 refine JA.pull Pull.z ?_
 refine q0 20 rfl (op_call (H1 := [_]) rfl rfl rfl rfl rfl (cmpOr3_ok _ (cmpS a b) (Lib.compareInt x0 y0) (Lib.compareInt x1 y1) _) ?_ (fun _ _ _ _ h => by cases h.1) (fun _ _ h => by cases h.1))
 intro v20 I21 H22 hle23 hp24
 obtain ⟨h, rfl, rfl⟩ := hp24; cases h
 refine ⟨⟨(Le.trans (Le.trans (Le.trans (Le.trans (Le.refl _) hle7) hle12) hle17) hle23), (HSub.c 1 rfl (HSub.c 2 rfl HSub.n)), CSub.n⟩, ?_⟩
 refine JA.fix ⟨(HSub.c 1 rfl (HSub.c 2 rfl HSub.n)), CSub.n, (Le.trans (Le.trans (Le.trans (Le.trans (Le.refl _) hle7) hle12) hle17) hle23)⟩ (fun fx25 => ?_)
 refine JA.tk 21 rfl fx25 (yl_assign rfl rfl) ?_
 refine JA.done (by kernel_rfl) ?_
 refine Ej.seq (Cj.ret (Ej.bare ?_))
 refine Ej.ret1 rfl rfl rfl ?_
 exact ⟨rfl, rfl⟩
theorem run1_ok (a b : List UInt8) (x0 x1 y0 y1 : Int) (w : World) : Calls Tryz.prog 56 #[.agg #[str a, i64 x0, i64 x1], .agg #[str b, i64 y0, i64 y1]] w fun e w' => e = .returned (i64 (orR (cmpS a b) (orR (Lib.compareInt x0 y0) (Lib.compareInt x1 y1)))) ∧ ∃ q os', w' = Sort.grow (w.drewN q) os' :=
  Ctr.grows (run1D_ok a b x0 x1 y0 y1 _) (fun _ _ _ h => h.1) w
end Go.Proofs.YtekmeaoblpfnpaaGreatDoor
end
section
namespace Go.Proofs.YtekmeaoblpfnpaaGreatDoor
open Go Go.Shelf Go.RowKit Go.Lib Go.Sort
abbrev FW := List UInt8 × Ix.Rec
abbrev foundC (x : FW) : List Value := [Sx.str x.1, .int .i64 x.2.1, .int .i64 x.2.2]
theorem foundC_len (x : FW) : (foundC x).length = 3 := rfl
def cmpF (x y : FW) : Int := orR (cmpS x.1 y.1) (cmpRec x.2 y.2)
def lessF (x y : FW) : Prop := x.1 < y.1 ∨ (x.1 = y.1 ∧ Ix.lessR x.2 y.2 = true)
theorem lessF_irr (x : FW) : ¬ lessF x x := by
  rintro (h | ⟨_, h⟩)
  · exact List.lt_irrefl _ h
  rw [Ix.lessR_irr] at h; cases h
theorem lessF_trans {x y z : FW} (h1 : lessF x y) (h2 : lessF y z) : lessF x z := by
  rcases h1 with h1 | ⟨h1, h1'⟩ <;> rcases h2 with h2 | ⟨h2, h2'⟩
  · exact .inl (List.lt_trans h1 h2)
  · exact .inl (h2 ▸ h1)
  · exact .inl (h1 ▸ h2)
  exact .inr ⟨h1.trans h2, Ix.lessR_trans h1' h2'⟩
theorem lessF_tri (x y : FW) : lessF x y ∨ x = y ∨ lessF y x := by
  by_cases h : x.1 < y.1
  · exact .inl (.inl h)
  by_cases h2 : y.1 < x.1
  · exact .inr (.inr (.inl h2))
  have he : x.1 = y.1 := List.le_antisymm (List.not_lt.1 h2) (List.not_lt.1 h)
  rcases Ix.lessR_tri x.2 y.2 with g | g | g
  · exact .inl (.inr ⟨he, g⟩)
  · exact .inr (.inl (Prod.ext he g))
  exact .inr (.inr (.inr ⟨he.symm, g⟩))
theorem cmpF_lt (x y : FW) : ltOf cmpF x y = true ↔ lessF x y := by
  have hr := cmpRec_lt x.2 y.2
  unfold ltOf at hr ⊢
  unfold cmpF lessF orR cmpS
  rw [decide_eq_true_eq]
  by_cases h : x.1 < y.1
  · rw [if_pos h]; simp [h]
  rw [if_neg h]
  by_cases h2 : y.1 < x.1
  · have hne : x.1 ≠ y.1 := fun e => h (e ▸ h2)
    rw [if_pos h2]; simp [h, hne]
  have he : x.1 = y.1 := List.le_antisymm (List.not_lt.1 h2) (List.not_lt.1 h)
  rw [if_neg h2, if_neg (by simp), ← hr, decide_eq_true_eq]
  exact ⟨fun g => .inr ⟨he, g⟩, fun g => g.elim (fun g => absurd g h) fun g => g.2⟩
theorem cmpF_swo : SWO (ltOf cmpF) where
  irrefl x := Bool.eq_false_iff.2 fun h => lessF_irr x ((cmpF_lt x x).1 h)
  trans x y z h1 h2 := (cmpF_lt x z).2 (lessF_trans ((cmpF_lt x y).1 h1) ((cmpF_lt y z).1 h2))
  ntrans x y z h1 h2 := by
    rw [Bool.eq_false_iff, Ne, cmpF_lt] at *
    intro h
    rcases lessF_tri x y with g | g | g
    · exact h1 g
    · subst g; exact h2 h
    exact h2 (lessF_trans g h)
theorem SortFound_ok {base : Nat} (l : List FW) (g : Sx.Gs) (hg : Sx.gOk base 3 l.length (l.flatMap foundC) g) (hl : l.length ≤ 100000000000000) (I : Sx.Heap) : Sx.Ctr Tryz.prog 55 [Sx.gV l.length g, .func (.func 56) #[] #[]] I (Sx.gH 123 (l.flatMap foundC) g)
    (fun e _I' H' => ∃ l' : List FW, l'.Perm l ∧ l'.Pairwise (fun p q => ¬ lessF q p) ∧ e = .returned (.tuple #[]) ∧ H' = Sx.gH 123 (l'.flatMap foundC) g) := by
  cases g with
  | none =>
    obtain ⟨h1, h2⟩ := hg
    have h0 : l = [] := List.length_eq_zero_iff.1 h1
    subst h0
    exact (Sx.Pure.of_same (Sx.Enters.of Tryz.func55 (by decide) rfl) (fun w _ => AnyF.slices_SortFunc_none Tryz.sortR none 0 (.func (.func 56) #[] #[]) w)).mono fun e I' H' _ ⟨h1, _, h3⟩ => ⟨[], List.Perm.refl _, List.Pairwise.nil, h1, h3⟩
  | some q =>
    obtain ⟨b, c, sp⟩ := q
    refine ⟨Sx.Enters.of Tryz.func55 (by decide) rfl, fun w hw => ?_⟩
    have hb := hw.2.1 _ (.head _)
    have hlt : b < w.heap.size := by
      rcases Nat.lt_or_ge b w.heap.size with h | h
      · exact h
      rw [Array.getElem?_eq_none h] at hb; cases hb
    have eg : ∀ args w, (callFunc 56 args).run Tryz.prog w = .ok (.enter 56 args) w := enters_of Tryz.func56 (by kernel_rfl) rfl
    have hH : HoldsK foundC 3 w b 0 l.toArray := by
      unfold HoldsK
      rw [Sx.flatK_list foundC_len]
      exact Sx.row_holdsV hb
    have hcmp : CmpLays Tryz.prog 56 #[] foundC 3 cmpF b 0 l.toArray.size w := fun m os dk _ x y => run1_ok x.1 y.1 x.2.1 x.2.2 y.2.1 y.2.2 _
    have hcon := AnyQ.slices_SortFunc Tryz.sortR 3 Tryz.isAgg123 Tryz.sizeOf123 foundC foundC_len (fun x v hv => by
      simp only [List.mem_cons, List.not_mem_nil, or_false] at hv
      rcases hv with rfl | rfl | rfl <;> rfl) cmpF cmpF_swo 56 #[] b 0 c l.toArray w eg hcmp hH hlt (by simp; omega)
    refine hcon.mono fun e w' ⟨h1, d', n, os, h2, h3, h4⟩ => ?_
    rw [List.size_toArray] at h2 h3
    have hp := Sx.perm_in h2
    have hds : d'.size = l.length := by have := hp.length_eq; simpa using this
    rw [← hds] at h3
    refine ⟨I, _, ?_, d'.toList, hp, (Sx.sorted_in h3).imp fun h => ?_, h1, rfl⟩
    · rw [h4]
      unfold sortWorldK putRowK
      rw [show d' = d'.toList.toArray from (Array.toArray_toList (xs := d')).symm, Sx.flatK_list foundC_len]
      exact Sx.St.rowV n os hw (by rw [Sx.flat_len foundC_len, Sx.flat_len foundC_len, hp.length_eq])
    exact fun g => Bool.eq_false_iff.1 h ((cmpF_lt _ _).2 g)
theorem found_run {L : Ix.Ix} {ts : List Ix.Rec} (hn : ts.Nodup) {l : List FW} (hp : l.Perm (ts.map fun t => (Ix.sortOf L t, t))) (ho : l.Pairwise fun p q => ¬ lessF q p) : (l.map (·.2)).Pairwise (Ix.lessS L) ∧ ∀ t, t ∈ l.map (·.2) ↔ t ∈ ts := by
  have hk : ∀ x ∈ l, x.1 = Ix.sortOf L x.2 := fun x hx => by
    obtain ⟨t, _, rfl⟩ := List.mem_map.1 (hp.mem_iff.1 hx)
    rfl
  have hm : (l.map (·.2)).Perm ts := by
    have := hp.map (·.2)
    rw [List.map_map] at this
    exact this.trans (.of_eq (List.map_id _))
  refine ⟨?_, fun t => hm.mem_iff⟩
  have hnd := List.nodup_iff_pairwise_ne.1 (hm.nodup_iff.2 hn)
  rw [List.pairwise_map] at hnd ⊢
  refine (List.pairwise_iff_forall_sublist.2 fun {x y} hs => ?_)
  have h1 := List.pairwise_iff_forall_sublist.1 ho hs
  have h2 := List.pairwise_iff_forall_sublist.1 hnd hs
  have hx := hk x (hs.subset (.head _))
  have hy := hk y (hs.subset (.tail _ (.head _)))
  rcases lessF_tri x y with g | g | g
  · unfold lessF at g; unfold Ix.lessS; rwa [hx, hy] at g
  · subst g; exact absurd rfl h2
  exact absurd g h1
end Go.Proofs.YtekmeaoblpfnpaaGreatDoor
end
section
set_option maxHeartbeats 40000000
namespace Go.Proofs.YtekmeaoblpfnpaaGreatDoor
open _root_.Go.Proofs.Tryz
open Go Go.Sx
theorem Contains_ok (l : List (List UInt8)) (x : List UInt8) (v : Value) (hl : l.length ≤ 1000000) (I : Heap) (hv : StrSl 9 I l v) : Pure Tryz.prog 116 [v, str x] I (.bool (l.contains x)) := by
  obtain ⟨b, c, sp, rfl, hb⟩ := hv
  refine Pure.of_same (Enters.of func116 (by decide) rfl) fun w hw => ?_
  have h := Tryz.slices_Contains_string b 0 l.length c (l.map fun y => ⟨y.toArray⟩) ⟨x.toArray⟩ w (by simp) (by omega) (fun j hj => by
    rw [Nat.zero_add]
    simp at hj
    refine cell_of_heap (hw.1 _ _ hb) ?_
    rw [str_get (x := l[j]) (List.getElem?_eq_getElem hj)]
    simp [str, List.getElem?_eq_getElem hj])
  rw [List.take_of_length_le (by simp)] at h
  have e : Lib.containsS (l.map fun y => (⟨y.toArray⟩ : ByteArray)) ⟨x.toArray⟩ = l.contains x := by
    rw [Bool.eq_iff_iff, Lib.containsS_iff, List.contains_iff_mem, List.mem_map]
    constructor
    · rintro ⟨y, hy, he⟩
      have e : y = x := by simpa using congrArg ByteArray.data he
      exact e ▸ hy
    exact fun h => ⟨x, h, rfl⟩
  rw [e] at h
  exact h
def DeepSpec (q : Cq.Qn) : Prop := ∀ (p : Option Addr) (c : Nat) (I : Heap), PS I q.ps p → q.size ≤ 1000000000 → q.wide ≤ 1000000000 → Pure Tryz.prog 64 [.agg (qCells q p c).toArray] I (i64 (Cq.deep q))
theorem cindexes_ok (I : Heap) : Ctr Tryz.prog 117 [] I [] (fun e I' H' => (∃ v, e = .returned v ∧ StrSl 9 I' Cq.indexes v) ∧ H' = []) := by
 refine xob func117 fun w0 hw0 => ?_
 refine axn 8 ?_
 intro b1 hb1
 refine axn 4 ?_
 refine Ej.persist hb1 (fun I3 hle2 hb1i => ?_)
 refine axe ?_
 exact ⟨⟨_, rfl, b1, 6, [], rfl, hb1i⟩, rfl⟩
theorem crelations_ok (I : Heap) : Ctr Tryz.prog 118 [] I [] (fun e I' H' => (∃ v, e = .returned v ∧ StrSl 9 I' Cq.relations v) ∧ H' = []) := by
 refine xob func118 fun w0 hw0 => ?_
 refine axn 8 ?_
 intro b1 hb1
 refine axn 4 ?_
 refine Ej.persist hb1 (fun I3 hle2 hb1i => ?_)
 refine axe ?_
 exact ⟨⟨_, rfl, b1, 6, [], rfl, hb1i⟩, rfl⟩
theorem deep_step (q : Cq.Qn) (ih : ∀ q', Cq.Qn.size q' < q.size → DeepSpec q') : DeepSpec q := by
 intro p c I hps hsz hwd
 have hwi : q.i.length + q.r.length + q.t.length ≤ 1000000000 := by unfold Cq.Qn.wide at hwd; omega
 refine Ctr.toPure ?_
 refine xob func64 fun w0 hw0 => ?_
 refine axn 3 ?_
 intro b1 hb1
 refine axc (fun hc2 hc2p => ?_) (fun hc2 hc2p => ?_)
 ·
  have hk : q.k = 1 := by omega
  refine axn 2 ?_
  refine Cj.drawSel [0] [] 18 (by kernel_rfl) ?_
  refine xca (cindexes_ok _) ?_
  intro v4 I5 H6 hle7 hp8
  have hps := hps.mono hle7
  obtain ⟨⟨v4x, hv4, hsv4⟩, rfl⟩ := hp8; cases hv4
  refine xpu (Contains_ok Cq.indexes _ _ (by decide) _ hsv4) ?_
  refine axn 3 ?_
  refine JA.split 13 rfl (fun hg10 => ?_) (fun hg10 => ?_)
  ·
   refine axr ?_
   refine ⟨?_, rfl⟩
   rw [Cq.deep_term hk]
   simp_all <;> omega
  refine xca (crelations_ok _) ?_
  intro v12 I13 H14 hle15 hp16
  have hps := hps.mono hle15
  have hsv4 := hsv4.mono hle15
  obtain ⟨⟨v12x, hv12, hsv12⟩, rfl⟩ := hp16; cases hv12
  refine xpu (Contains_ok Cq.relations _ _ (by decide) _ hsv12) ?_
  refine axn 4 ?_
  refine JA.split 20 rfl (fun hg18 => ?_) (fun hg18 => ?_)
  ·
   refine axr ?_
   refine ⟨?_, rfl⟩
   rw [Cq.deep_term hk]
   simp_all <;> omega
  refine axc (fun hc20 hc20p => ?_) (fun hc20 hc20p => ?_)
  ·
   refine axr ?_
   refine ⟨?_, rfl⟩
   rw [Cq.deep_term hk]
   simp_all <;> omega
  refine axr ?_
  refine ⟨?_, rfl⟩
  rw [Cq.deep_term hk]
  simp_all <;> omega
 have hk : q.k ≠ 1 := by omega
 refine axh (fun hg21 => ?_) (fun hg21 => ?_)
 ·
  refine axr ?_
  rw [Cq.deep_bad hk (.inl (by have h := hg21; simp at h; omega))]; exact ⟨rfl, rfl⟩
 refine axh (fun hg23 => ?_) (fun hg23 => ?_)
 ·
  refine axr ?_
  rw [Cq.deep_bad hk (.inr (.inl (by have h := hg23; simp at h; omega)))]; exact ⟨rfl, rfl⟩
 refine axn 4 ?_
 refine J.zg (yl_cat rfl rfl rfl (by first | omega | (simp only [List.length_append]; omega) | (simp; omega))) ?_
 refine axn 2 ?_
 refine J.zg (yl_cat rfl rfl rfl (by first | omega | (simp only [List.length_append]; omega) | (simp; omega))) ?_
 refine axh (fun hg25 => ?_) (fun hg25 => ?_)
 ·
  refine axr ?_
  rw [Cq.deep_bad hk (.inr (.inr (.inl (bne_iff_ne.1 hg25))))]; exact ⟨rfl, rfl⟩
 refine axc (fun hc27 hc27p => ?_) (fun hc27 hc27p => ?_)
 ·
  refine axr ?_
  rw [Cq.deep_bad hk (.inr (.inr (.inr (by have h := hc27; simp at h; omega))))]; exact ⟨rfl, rfl⟩
 have hg29 := hg21
 have hg34 := hg23
 have hg45 := hg25
 have hg50 := hc27
 have hgood : ¬ (q.k < 2 ∨ q.k > 4 ∨ q.i ≠ [] ∨ q.r ≠ [] ∨ q.t ≠ [] ∨ q.ps.len ≠ 2) := by
   simp at hg29 hg34 hg45 hg50
   simp [hg45]; omega
 obtain ⟨qa, qb, htw⟩ := Cq.Qs.two_of (ps := q.ps) (by omega)
 change q.Two qa qb at htw
 have hdt := Cq.deep_two hk hgood htw
 have hsz2 := htw.size
 have hwd2 := htw.wide
 have hdb := Cq.deep_le qb
 have hda := Cq.deep_le qa
 have hga := Cq.deep_ge qa
 have hgb := Cq.deep_ge qb
 have hln := htw.len
 obtain ⟨bl, off, cs', T, fr, pa, ca, pb, cb, rfl, hbl, hca, hcb, hkb, hpa, hpb⟩ := hps.two_at htw
 refine axn 3 ?_
 refine Cj.drawSel [0] [] 12 (by kernel_rfl) ?_
 have hbl_7 := hbl
 refine axn 2 ?_
 refine JA.fix fxA (fun fx28 => ?_)
 refine JA.tk 2 rfl fx28 (yl_indexAddr (off' := off) rfl rfl rfl underlying30 sizeOf32 (by omega) (by omega) (by simp)) ?_
 refine JA.tk 3 rfl fx28 (yl_loadAgg rfl rfl isAgg32 sizeOf32 (Blk.immC hbl_7) hca rfl) ?_
 refine JA.tk 5 rfl fx28 (q1 (off' := 4) underlying32 sizeOf30) ?_
 refine JA.tk 6 rfl fx28 (yl_load rfl rfl isAgg30 (Blk.atC 0 rfl) rfl) ?_
 refine JA.tk 7 rfl fx28 (yl_indexAddr (off' := off + 5) rfl rfl rfl underlying30 sizeOf32 (by omega) (by omega) (by simp)) ?_
 refine JA.tk 8 rfl fx28 (yl_loadAgg rfl rfl isAgg32 sizeOf32 (Blk.immC hbl_7) hcb rfl) ?_
 refine q0 4 rfl (op_pure rfl rfl rfl rfl rfl (ih qa hsz2.1 pa ca _ hpa (by omega) (by omega)) ?_)
 refine ⟨⟨(Le.refl _), (HSub.c 0 rfl HSub.n), CSub.n⟩, ?_⟩
 refine q0 9 rfl (op_pure rfl rfl rfl rfl rfl (ih qb hsz2.2 pb cb _ hpb (by omega) (by omega)) ?_)
 refine ⟨⟨(Le.refl _), (HSub.c 0 rfl HSub.n), CSub.n⟩, ?_⟩
 refine JA.fix fxA (fun fx29 => ?_)
 refine JA.tk 10 rfl fx29 (yl_assign rfl rfl) ?_
 refine JA.tk 11 rfl fx29 (yl_assign rfl rfl) ?_
 refine JA.done (by kernel_rfl) ?_
 refine Ej.seq (Cj.seq (Cj.sr (J.z q2 ?_)))
 refine J.z q2 ?_
 refine J.z (yl_min2 rfl rfl rfl) ?_
 refine J.ev 63 (i64 (min (Cq.deep qa) (Cq.deep qb))) rfl (by congr 1; omega) ?_
 refine axc (fun hc30 hc30p => ?_) (fun hc30 hc30p => ?_)
 ·
  refine axr ?_
  rw [hdt, if_pos (by omega)]; exact ⟨rfl, rfl⟩
 refine xix (off + 5) ?_
 refine axn 1 ?_
 refine J.z (yl_load rfl rfl isAgg3 (Blk.imm hbl) hkb) ?_
 refine axc (fun hc31 hc31p => ?_) (fun hc31 hc31p => ?_)
 ·
  have hku : Cq.up qb.k = 1 := by have h := hc31; simp at h; simp [Cq.up, h]
  refine axn 10 ?_
  refine J.z (yl_max2 rfl rfl rfl) ?_
  refine J.ev 75 (i64 (max (Cq.deep qa) (Cq.deep qb + 1))) rfl (by congr 1; omega) ?_
  refine axr ?_
  refine ⟨?_, rfl⟩
  rw [hdt, if_neg (by omega), hku]
  simp
 have hku : Cq.up qb.k = 0 := by have h := hc31; simp at h; simp [Cq.up, h]
 refine axn 6 ?_
 refine J.z (yl_max2 rfl rfl rfl) ?_
 refine J.ev 75 (i64 (max (Cq.deep qa) (Cq.deep qb))) rfl (by congr 1; omega) ?_
 refine axr ?_
 refine ⟨?_, rfl⟩
 rw [hdt, if_neg (by omega), hku]
 simp
theorem deep_ok (q : Cq.Qn) : DeepSpec q := by
  suffices ∀ n (q : Cq.Qn), q.size < n → DeepSpec q from this _ q (Nat.lt_succ_self _)
  intro n
  induction n with
  | zero => intro q h; omega
  | succ n ih => intro q h; exact deep_step q fun q' h' => ih q' (by omega)
theorem cRight_ok (q : Cq.Qn) (p : Option Addr) (c : Nat) (hsz : q.size ≤ 1000000000) (hwd : q.wide ≤ 1000000000) (I : Heap) (hps : PS I q.ps p) : Pure Tryz.prog 21 [.agg (qCells q p c).toArray] I (.bool (Cq.right q)) := by
 refine Ctr.toPure ?_
 refine xob func21 fun w0 hw0 => ?_
 refine axn 3 ?_
 intro b1 hb1
 refine xpu (deep_ok q p c _ hps hsz hwd) ?_
 refine axh (fun hg2 => ?_) (fun hg2 => ?_)
 ·
  refine axr ?_
  refine ⟨?_, rfl⟩
  rw [← Cq.deep_right]
  simp_all <;> omega
 refine axr ?_
 refine ⟨?_, rfl⟩
 rw [← Cq.deep_right]
 simp_all <;> omega
end Go.Proofs.YtekmeaoblpfnpaaGreatDoor
end
section
set_option maxHeartbeats 40000000
namespace Go.Proofs.YtekmeaoblpfnpaaGreatDoor
open _root_.Go.Proofs.Tryz
open Go Go.Sx
structure TF where
  vis : ML Ix.Rec
  rest : ML Ix.Rec
  g : Gs
def fnd (L : Ix.Ix) (vis : ML Ix.Rec) : List FW := (vis.map (·.1)).map fun t => (Ix.sortOf L t, t)
theorem fnd_next (L : Ix.Ix) (vis : ML Ix.Rec) (x : Ix.Rec × Value × Nat) : fnd L (vis ++ [x]) = fnd L vis ++ [(Ix.sortOf L x.1, x.1)] := by
  unfold fnd; rw [List.map_append, List.map_append]; rfl
theorem fnd_len (L : Ix.Ix) (vis : ML Ix.Rec) : (fnd L vis).length = vis.length := by unfold fnd; rw [List.length_map, List.length_map]
theorem isRun_none {L : Ix.Ix} {q : Cq.Qn} (hf : Cq.form q = true) (h : ∀ t, Ix.sat L q t = false) : Ix.IsRun L q [] :=
  Ix.isRun_of hf List.Pairwise.nil fun t => by rw [h t]; simp
theorem isRun_some {L : Ix.Ix} {q : Cq.Qn} (hf : Cq.form q = true) {m : ML Ix.Rec} {k : Nat} (hm : SetM m k (Ix.sat L q)) {vis : ML Ix.Rec} (hp : vis.Perm m) {ls : List FW} (hpp : ls.Perm (fnd L vis)) (ho : ls.Pairwise fun p q => ¬ lessF q p) : Ix.IsRun L q (ls.map (·.2)) := by
  have hn : (vis.map (·.1)).Nodup := ((hp.map _).nodup_iff.2 hm.1.1)
  obtain ⟨h1, h2⟩ := found_run hn hpp ho
  exact Ix.isRun_of hf h1 fun t => by rw [h2, (hp.map _).mem_iff, hm.mem]
theorem run_next {ls : List FW} {k : Nat} {x : FW} (h : ls[k]? = some x) : (ls.take (k + 1)).map (·.2) = (ls.take k).map (·.2) ++ [x.2] := map_take_next _ h
theorem perm_nil3 {ls : List FW} (h : ls.Perm []) : ls = [] := h.eq_nil
theorem RunG_ok (xv : Value) (L : Ix.Ix) (q : Cq.Qn) (p : Option Addr) (c : Nat) (hsz : q.size ≤ 1000000000) (hwd : q.wide ≤ 10000000) (hR : Cq.right q = true) (htk : Ix.TOK L) (I : Heap) (hps : PS I q.ps p) (hx : IxV I xv L) (hT : STab I) : Ctr Tryz.prog 18 [xv, .agg (qCells q p c).toArray] I []
    (fun e _ H' => ∃ (r : List Ix.Rec) (g : Gs), Ix.IsRun L q r ∧ gOk 0 2 r.length (r.flatMap recC) g ∧ e = .returned (.tuple #[gV r.length g, i64 0]) ∧ H' = gH 54 (r.flatMap recC) g) := by
 have hform : Cq.form q = true := by unfold Cq.right at hR; rw [Bool.and_eq_true] at hR; exact hR.1
 have hbig := hx.big
 refine xob func18 fun w0 hw0 => ?_
 refine axn 3 ?_
 intro b1 hb1
 refine xpu (cRight_ok q p c hsz (by omega) _ hps) ?_
 refine J.ev 12 (.bool true) rfl (congrArg Value.bool hR) ?_
 refine xca (satisfy_ok xv L htk q p c _ hps hx hT hwd hform) ?_
 intro v3 I4 H5 hle6 hp7
 have hps := hps.mono hle6
 have hx := hx.mono hle6
 have hT := hT.mono hle6
 obtain ⟨ws, h, hset, rfl⟩ := hp7; cases h
 rcases id hset with ⟨rfl, hS⟩ | ⟨sb, sm, sk, rfl, hm, hsb⟩
 ·
  
  refine J.op rfl (op_rangeNil rfl rfl rfl rfl underlying120 ?_)
  intro b8 hb8
  refine axn 3 ?_
  refine Cj.rounds 1 ?_
  refine Rj.succ ?_
  refine axn 2 ?_
  refine J.op rfl (op_nextNil 0 rfl rfl rfl rfl rfl ?_)
  refine xcr [_, _] (SortFound_ok (base := 0) [] none ⟨rfl, rfl⟩ (by decide) _) ?_
  rintro v9 I9 H9 hle9 ⟨ls, hpp, hpo, h, rfl⟩; cases h
  have hls := perm_nil3 hpp
  subst hls
  have hrun : Ix.IsRun L q (([] : List FW).map (·.2)) := isRun_none hform hS
  have hps := hps.mono hle9
  have hx := hx.mono hle9
  have hT := hT.mono hle9
  refine axn 16 ?_
  refine Cj.rounds 1 ?_
  refine Rj.succ ?_
  refine axn 6 ?_
  refine Cj.cond rfl (fun hc10 => Bool.noConfusion (Eq.trans (Eq.symm (by first | rfl | decide)) hc10)) (fun hc10 => ?_)
  refine axr ?_
  exact ⟨_, none, hrun, ⟨rfl, rfl⟩, rfl, rfl⟩
 have hml : sm.length ≤ 100000 := by
   have h9 := hm.len (l := L.map (·.1)) fun t ht => Ix.sat_in L _ q (Nat.lt_succ_self _) hform ht
   rw [List.length_map] at h9
   omega
 refine J.op rfl (op_rangeMap (kv := kvR) (l := sm) rfl rfl rfl rfl underlying120 (Blk.imm hsb) ?_)
 intro b11 hb11
 refine axn 3 ?_
 refine Cj.keep (Keeps.k (Keeps.d Keeps.n)) ?_
 refine Cj.loop (ι := TF) (fun y => (y.vis ++ y.rest).Perm sm ∧ gOk w0.heap.size 3 (fnd L y.vis).length ((fnd L y.vis).flatMap foundC) y.g) (fun y => y.rest.length) (fun y => [(0, xv), (6, gV (fnd L y.vis).length y.g), (17, ptr b11 0)]) (fun y => _) (fun y => (b11, mit sb sk y.vis sk) :: gH 123 ((fnd L y.vis).flatMap foundC) y.g) ⟨[], sm, none⟩ ⟨.refl _, rfl, rfl⟩ ⟨rfl, rfl, rfl, trivial⟩ rfl rfl ?_
 rintro ⟨vis, rest, g⟩ ⟨hp, hg⟩
 dsimp only at hp hg ⊢
 have hpl0 := hp.length_eq
 rw [List.length_append] at hpl0
 have hfl := fnd_len L vis
 refine axn 2 ?_
 refine J.op rfl (op_nextMap (kv := kvR) (l := sm) 0 rfl rfl rfl rfl rfl (Blk.imm hsb) hm.1.2.2 (Nat.le_refl _) hm.1.2.1 hp ?_ ?_)
 ·
  rintro x rest2 H9 hrx hpx ⟨-, hset⟩; simp only [List.set_cons_zero] at hset; subst hset
  have hxm : x ∈ sm := hpx.mem_iff.1 (List.mem_append_left _ (List.mem_append_right _ (.head _)))
  refine axn 10 ?_
  refine J.z (yl_entry (kv := kvR) (l := sm) rfl rfl (Blk.at 0 rfl) (Blk.imm hsb) hxm hm.1.2.1) ?_
  refine axn 2 ?_
  intro b13 hb13
  refine axn 3 ?_
  refine Cj.drawSel [0, 1] [] 9 (by kernel_rfl) ?_
  have hsb_7 := hsb
  refine xpu (SortV_ok xv L x.1 _ hx) ?_
  refine ⟨⟨(Le.refl _), (HSub.c 0 rfl (HSub.c 1 rfl HSub.n)), CSub.n⟩, ?_⟩
  refine JA.fix fxA (fun fx15 => ?_)
  refine JA.tk 5 rfl fx15 (yl_buildS (pl := #[(0, 1), (1, 2)]) rfl rfl zeroValue123 rfl underlying123 (fun w => by simp [sizeOf54, sizeOf9]) (LBld.part rfl rfl rfl (LSpl.c LSpl.z) (LBld.part rfl rfl rfl (LSpl.s (LSpl.c (LSpl.c LSpl.z))) LBld.none))) ?_
  refine q0 6 rfl (q3 underlying118 sizeOf123 zeroValue123 (LCat.agg rfl LCat.none) ?_)
  intro b16 hb16
  refine ⟨⟨(Le.refl _), (HSub.c 1 rfl (HSub.c 2 rfl HSub.n)), CSub.n⟩, ?_⟩
  refine q0 7 rfl (op_append (by' := 31) [_, _, _] rfl rfl rfl rfl rfl underlying118 (.inr ⟨_, underlying118⟩) (by kernel_rfl) sizeOf123 zeroValue123 rfl hg rfl (Src.slice (Blk.at 0 rfl) rfl rfl rfl) (by omega) ?_)
  intro g17 hg17
  refine axn 4 ?_
  refine Ej.keep (Keeps.d (Keeps.d (Keeps.k Keeps.r))) ?_
  refine Ej.round ⟨vis ++ [x], rest2, g17⟩ ⟨hpx, by dsimp only; rw [fnd_next, List.length_append, List.flatMap_append]; exact hg17⟩ (by have h := hrx.length_eq; simp only [List.length_cons] at h; dsimp only; omega) ⟨rfl, by dsimp only; rw [fnd_next, List.length_append]; rfl, rfl, trivial⟩ rfl (by dsimp only; rw [fnd_next, List.flatMap_append]; rfl)
 intro hend
 have hpv : vis.Perm sm := by rw [hend, List.append_nil] at hp; exact hp
 refine xcr [_] (SortFound_ok (fnd L vis) g hg (by omega) _) ?_
 rintro v9 I9 H9 hle9 ⟨ls, hpp, hpo, h, rfl⟩; cases h
 have hll : (fnd L vis).length = ls.length := hpp.length_eq.symm
 have hgl : gOk w0.heap.size 3 ls.length (ls.flatMap foundC) g := by rw [← hll]; exact gOk_len hg (by rw [flat_len foundC_len, flat_len foundC_len, hll])
 have hrun := isRun_some hform hm hpv hpp hpo
 have hps := hps.mono hle9
 have hx := hx.mono hle9
 have hT := hT.mono hle9
 have hsb := hle9 _ _ hsb
 refine axn 3 ?_
 refine Cj.perm (H' := gH 123 (ls.flatMap foundC) g ++ [_]) List.perm_append_comm ?_
 refine Cj.keepR (f := foundC) foundC_len (by decide) hgl rfl (fun I8 hle8 hv => ?_)
 have hps := hps.mono hle8
 have hx := hx.mono hle8
 have hT := hT.mono hle8
 have hsb := hle8 _ _ hsb
 obtain ⟨pv, cv, hve⟩ := rowS_len hv
 refine Cj.ev 6 (.slice pv ls.length cv) rfl (by rw [hll]; exact hve) ?_
 rw [hve] at hv
 refine axn 13 ?_
 refine Cj.keep (Keeps.d Keeps.n) ?_
 refine Cj.loop (ι := Nat × Gs) (fun y => y.1 ≤ ls.length ∧ gOk w0.heap.size 2 ((ls.take y.1).map (·.2)).length (((ls.take y.1).map (·.2)).flatMap recC) y.2) (fun y => ls.length - y.1) (fun y => [(8, gV ((ls.take y.1).map (·.2)).length y.2), (32, .slice pv ls.length cv), (33, i64 (ls.length : Int)), (34, i64 (y.1 : Int))]) (fun y => _) (fun y => gH 54 (((ls.take y.1).map (·.2)).flatMap recC) y.2) (0, none) ⟨Nat.zero_le _, rfl, rfl⟩ ⟨rfl, rfl, rfl, rfl, trivial⟩ rfl rfl ?_
 clear hg
 rintro ⟨j, g⟩ ⟨hj, hg⟩
 dsimp only at hj hg ⊢
 have hrl : ((ls.take j).map (·.2)).length = j := by rw [List.length_map, List.length_take]; omega
 refine axc (fun hc20 hc20p => ?_) (fun hc20 hc20p => ?_)
 ·
  have hlt : j < ls.length := by omega
  obtain ⟨x, hget⟩ : ∃ x, ls[j]? = some x := ⟨_, List.getElem?_eq_getElem hlt⟩
  obtain ⟨p1, c1, hpe, hc1, hp1⟩ := id hv
  cases hpe
  obtain ⟨fb, fo, fcs, fty, ffr, fsp, rfl, hfb, hfd⟩ := hp1 (ne_nil_of hlt)
  refine xix (fo + j * 3) ?_
  refine J.z (yl_loadAgg rfl rfl isAgg123 sizeOf123 (Blk.imm hfb) (row_from foundC_len hfd hget) rfl) ?_
  refine axn 1 ?_
  intro b21 hb21
  refine axn 8 ?_
  intro b22 hb22
  refine xap 15 [_, _] hg ?_
  intro g23 hg23
  refine axn 8 ?_
  refine Ej.keep (Keeps.d (Keeps.d Keeps.r)) ?_
  refine Ej.round (j + 1, g23) ⟨by dsimp only; omega, by dsimp only; rw [run_next hget, List.length_append, List.flatMap_append]; exact hg23⟩ (by dsimp only; omega) ⟨by dsimp only; rw [run_next hget, List.length_append]; rfl, rfl, rfl, rfl, trivial⟩ rfl (by dsimp only; rw [run_next hget, List.flatMap_append]; rfl)
 refine axn 13 ?_
 rw [List.take_of_length_le (by omega : ls.length ≤ j)] at hg ⊢
 refine axe ?_
 exact ⟨_, g, hrun, gOk_zero hg, rfl, rfl⟩
theorem Run_ok (xv : Value) (L : Ix.Ix) (q : Cq.Qn) (p : Option Addr) (c : Nat) (hsz : q.size ≤ 1000000000) (hwd : q.wide ≤ 10000000) (hR : Cq.right q = true) (htk : Ix.TOK L) (I : Heap) (hps : PS I q.ps p) (hx : IxV I xv L) (hT : STab I) : Ctr Tryz.prog 18 [xv, .agg (qCells q p c).toArray] I []
    (fun e _ H' => ∃ (w : Value) (r : List Ix.Rec), e = .returned (.tuple #[w, i64 0]) ∧ Ix.IsRun L q r ∧ OwnT r w H') :=
  (RunG_ok xv L q p c hsz hwd hR htk I hps hx hT).mono fun _ _ _ _ ⟨r, g, h1, h2, h3, h4⟩ => ⟨_, r, h3, h1, by rw [h4]; exact own_g rfl h2⟩
end Go.Proofs.YtekmeaoblpfnpaaGreatDoor
end
