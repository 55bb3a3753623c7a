/-
  Own texts on the laws of the seat, joined: the logic, and contracts of functions. Conditions: none.
-/
import Derived.Test.YtekmeaoblpfnpaaGreatDoorNmS
import Derived.Test.YtekmeaoblpfnpaaGreatDoorPS10
import Derived.Lib.FieldsU
set_option linter.all false
set_option maxRecDepth 100000
set_option maxHeartbeats 40000000
section
namespace Go.Proofs.YtekmeaoblpfnpaaGreatDoor
open _root_.Go.Proofs.Tryz
open Go Go.Sx
def RxS (I : Heap) (rb : Nat) (es : List nM) (p : Option Addr) (c : Nat) : Prop := I rb = some (jM 50 [.slice p es.length c]) ∧ nO I es (.slice p es.length c)
theorem RxS.mono {I I' rb es p c} (h : RxS I rb es p c) (hle : Le I I') : RxS I' rb es p c := ⟨hle _ _ h.1, h.2.mono hle⟩
structure AO (I : Heap) (rb : Nat) (es : List nM) : Prop where
  ex : ∃ p c, RxS I rb es p c
  len : es.length ≤ 1000
  IV : ∀ e ∈ es, yE e.fs
  oG : Ix.nK (es.map jQ)
theorem AO.mono {I I' rb es} (h : AO I rb es) (hle : Le I I') : AO I' rb es := ⟨let ⟨p, c, g⟩ := h.ex; ⟨p, c, g.mono hle⟩, h.len, h.IV, h.oG⟩
theorem AO.of {I rb es w} (h1 : I rb = some (jM 50 [w])) (h2 : nO I es w) (hl : es.length ≤ 1000) (he : ∀ e ∈ es, yE e.fs) (hs : Ix.nK (es.map jQ)) : AO I rb es := by
  obtain ⟨p, c, rfl, -⟩ := h2.len
  exact ⟨⟨p, c, h1, h2⟩, hl, he, hs⟩
theorem FN {cs sp : List Value} {o k} {es : List nM} {x} (h : cs.drop o = es.flatMap oI ++ sp) (hx : es[k]? = some x) : (cs.drop (o + k * 5 + 2)).take 3 = [u8 x.k, u8 x.l, x.v] := by
  have h1 := kQ pJ h hx
  rw [show (cs.drop (o + k * 5 + 2)).take 3 = ((cs.drop (o + k * 5)).take 5).drop 2 by rw [List.drop_take, List.drop_drop], h1]; rfl
def rP (P : nM → Bool) (es : List nM) : List Ix.Rec := (es.filter P).map (·.t)
theorem a2e {P} {es : List nM} {k x} (h : es[k]? = some x) : rP P (es.take (k + 1)) = rP P (es.take k) ++ if P x = true then [x.t] else [] := by
  obtain ⟨hlt, hg⟩ := List.getElem?_eq_some_iff.1 h
  unfold rP
  rw [List.take_succ_eq_append_getElem hlt, hg, List.filter_append, List.map_append]
  by_cases hc : P x = true
  · rw [List.filter_cons_of_pos hc, if_pos hc]; rfl
  rw [List.filter_cons_of_neg hc, if_neg hc]; rfl
theorem YA P es : (rP P es).length ≤ es.length := by
  unfold rP; rw [List.length_map]; exact List.length_filter_le _ _
theorem NY {α : Type} {p} {l : List α} {k x} (h : l[k]? = some x) : (l.take (k + 1)).any p = ((l.take k).any p || p x) := by
  obtain ⟨hlt, hg⟩ := List.getElem?_eq_some_iff.1 h
  rw [List.take_succ_eq_append_getElem hlt, hg, List.any_append]; simp
def wIn (w : Ke.Row) (x : List UInt8 × Nat) : Bool := Ix.within w (Ke.words x.1)
def kIn (k : List UInt8) (x : List UInt8 × Nat) : Bool := decide (Ke.nT x.1 x.2 = k)
def BR (n : List UInt8) (w : Ke.Row) (e : nM) : Bool := (Ix.valsN e.fs n).any (wIn w)
def YV (n k : List UInt8) (e : nM) : Bool := (Ix.valsN e.fs n).any (kIn k)
theorem b7b n w e : Ix.JB n w (Ix.vals e.fs) = BR n w e := by
  unfold BR Ix.JB
  rw [← Ix.a5O, List.any_map, List.any_filter]
  rfl
theorem b4G n k e : Ix.hasK n k (Ix.vals e.fs) = YV n k e := by
  unfold YV Ix.hasK
  rw [← Ix.a5O, List.any_map, List.any_filter]
  rfl
theorem b0A (f : List Ix.V → Bool) P (h : ∀ e, f (Ix.vals e.fs) = P e) es : ((es.map jQ).filter fun e => f e.2).map (·.1) = rP P es := by
  unfold rP
  rw [List.filter_map, List.map_map]
  have : (fun e : Ix.Rec × List Ix.V => f e.2) ∘ jQ = P := funext fun e => h e
  rw [this]; rfl
theorem b6L {es : List nM} {n w k} (h0 : k = 0 ∨ w ≠ []) (hk : es.length ≤ k) : rP (BR n w) (es.take k) = Ix.phrase (es.map jQ) n w := by
  unfold Ix.phrase
  by_cases hw : w = []
  · have h1 := h0.resolve_right fun g => g hw
    subst h1
    rw [if_pos hw]; rfl
  rw [if_neg hw, b0A _ _ (fun e => b7b n w e), List.take_of_length_le hk]
theorem b7u {es : List nM} {n w k} (h0 : k = 0 ∨ w ≠ []) (hw : w = []) : rP (BR n w) (es.take k) = Ix.phrase (es.map jQ) n w := by
  have h1 := h0.resolve_right fun g => g hw
  subst h1
  unfold Ix.phrase
  rw [if_pos hw]; rfl
def vX (n k : List UInt8) (e : nM) : Bool := YV n k e && decide (k ≠ [])
theorem a7N es n k : rP (vX n k) es = Ix.oH (es.map jQ) n k := by
  unfold Ix.oH
  by_cases hk : k = []
  · rw [if_pos hk]
    unfold rP vX
    rw [List.filter_eq_nil_iff.2 fun e _ => by simp [hk]]; rfl
  rw [if_neg hk]
  exact (b0A _ (vX n k) (fun e => by unfold vX; rw [b4G, decide_eq_true hk, Bool.and_true]) es).symm
theorem b2e {f n x} (h : x ∈ Ix.WW f n) : x.1.length ≤ lT f.subs + f.subs.length + 13 := by
  have ht : ∀ c : List UInt8, (Ke.textOf f c).length ≤ lT f.subs + f.subs.length := OG f
  have hp : ∀ (u : List UInt8 → List UInt8 × Bool) (c : UInt8), (∀ s, (u s).2 = true → (u s).1.length ≤ 13) → x ∈ qK u c f.subs → x.1.length ≤ lT f.subs + f.subs.length + 13 := fun u c hu hx => by
    unfold qK at hx
    obtain ⟨y, hy, rfl⟩ := List.mem_map.1 hx
    obtain ⟨s, _, he⟩ := List.mem_filterMap.1 hy
    unfold wC at he
    split at he
    · rename_i hc; cases he; have := hu _ hc.1; dsimp only; omega
    cases he
  by_cases h1 : n = Ix.rM
  · rw [wX h1] at h; split at h
    · rw [List.mem_singleton.1 h]; have := ht [97, 98]; dsimp only; omega
    cases h
  by_cases h2 : n = Ix.rF
  · rw [uK h2] at h; split at h
    · rw [List.mem_singleton.1 h]; have := ht [97]; dsimp only; omega
    cases h
  by_cases h3 : n = Ix.rO
  · rw [sG h3] at h; split at h
    · rw [List.mem_singleton.1 h]; have := ht [97, 120]; dsimp only; omega
    cases h
  by_cases h4 : n = Ix.uX
  · rw [zY h4] at h; split at h
    · exact hp _ _ (fun s _ => OY s) h
    cases h
  by_cases h5 : n = Ix.KG
  · rw [zZ h5] at h; split at h
    · refine hp _ _ (fun s hs => ?_) h
      unfold uy at hs ⊢
      cases hy : Ix.rJ s with
      | none => simp
      | some y => have := YN hy; dsimp only [Option.getD]; omega
    cases h
  by_cases h6 : n = Ix.wP
  · rw [wJ h6] at h; split at h
    · rw [List.mem_singleton.1 h]; have := a7u f; dsimp only; omega
    cases h
  rw [of_none h1 h2 h3 h4 h5 h6] at h; cases h
theorem GL {fs} (hok : yE fs) {n x} (h : x ∈ Ix.valsN fs n) : x.1.length ≤ 3002000 := by
  unfold Ix.valsN at h
  obtain ⟨f, hf, hx⟩ := List.mem_flatMap.1 h
  have h1 := b2e hx
  have h2 := hok.2 f hf
  omega
theorem jU.len {α : Type} {f : α → List Value} {I : Heap} {l : List α} {v : Value} (h : jU f I l v) : ∃ p c, v = .slice p l.length c := let ⟨p, c, h1, _⟩ := h; ⟨p, c, h1⟩
theorem a0r rb es n s (hs : s.length ≤ 1000000000) I (hx : AO I rb es) : jO Tryz.prog 175 [ptr rb 0, str n, str s] I [] (fun e I' H' => ∃ v, e = .returned v ∧ jU recC I' (Ix.phrase (es.map jQ) n (Ke.words s)) v ∧ H' = []) := by
 have hlen := hx.len
 have heok := hx.IV
 obtain ⟨p, c, hR⟩ := hx.ex
 have hrb := hR.1
 have hwl := (Ke.rE s).1
 refine jT func175 fun w0 hw0 => ?_
 refine uF (AP s hs _) ?_
 intro v2 I3 H4 hle5 hn1 hp6
 have hR := hR.mono hle5
 have hrb := hle5 _ _ hrb
 obtain ⟨gw, hgw, h, rfl⟩ := hp6; cases h
 refine J.yX (hgw.base hn1) (fun Iw hlew hw => ?_)
 have hR := hR.mono hlew
 have hrb := hlew _ _ hrb
 obtain ⟨pw, cw, hwe⟩ := qL hw
 refine J.eqv 15 rfl hwe ?_
 rw [hwe] at hw
 replace hw := mZ.of hw
 refine jL 15 ?_
 refine Cj.loop (ι := Nat × Heap × Gs) (fun y => y.1 ≤ es.length ∧ (y.1 = 0 ∨ (Ke.words s) ≠ []) ∧ mZ y.2.1 (Ke.words s) (.slice pw (Ke.words s).length cw) ∧ RxS y.2.1 rb es p c ∧ kZ w0.heap.size 2 (rP (BR n (Ke.words s)) (es.take y.1)).length ((rP (BR n (Ke.words s)) (es.take y.1)).flatMap recC) y.2.2) (fun y => es.length - y.1) (fun y => [(0, ptr rb 0), (1, str n), (7, .slice pw (Ke.words s).length cw), (8, gV (rP (BR n (Ke.words s)) (es.take y.1)).length y.2.2), (9, i64 (y.1 : Int))]) (fun y => y.2.1) (fun y => gH 54 ((rP (BR n (Ke.words s)) (es.take y.1)).flatMap recC) y.2.2) (0, _, none) ⟨Nat.zero_le _, .inl rfl, hw, hR, rfl, rfl⟩ ⟨rfl, rfl, rfl, rfl, rfl, trivial⟩ rfl rfl ?_
 rintro ⟨k, J1, g⟩ ⟨hk, hk0, hw, hR, hg⟩
 dsimp only at hk hk0 hw hR hg ⊢
 have hrb := hR.1
 have hsl := YA (BR n (Ke.words s)) (es.take k)
 rw [List.length_take, Nat.min_eq_left hk] at hsl
 refine mP (fun hg7 hg7p => ?_) (fun hg7 hg7p => ?_)
 ·refine jR (fun hc8 hc8p => ?_) (fun hc8 hc8p => ?_)
  ·have hwne : (Ke.words s) ≠ [] := jS (k := 0) (by omega)
   refine jL 5 ?_
   have hlt : k < es.length := by omega
   obtain ⟨e0, hget⟩ : ∃ x, es[k]? = some x := ⟨_, kV hlt⟩
   have hek := heok e0 (lV hget)
   obtain ⟨p1, c1, hpe, hc1, hp⟩ := id hR.2.1
   cases hpe
   obtain ⟨eb, eo, ecs, ety, efr, esp, rfl, heb, hed⟩ := hp (jS hlt)
   have hrec := hR.2.2 e0 (lV hget)
   obtain ⟨vp0, vc0, hev, -, -⟩ := id hrec.1
   have hnx := a2e (P := (BR n (Ke.words s))) hget
   refine kG (eo + k * 5) ?_
   refine J.z (q2 (off' := eo + k * 5 + 2) OE yN) ?_
   refine J.z (q3 isAgg57 yN (jV.BU heb) (FN hed hget)) ?_
   refine kH (GR e0.fs e0.v e0.k e0.l n hek _ hrec) ?_
   intro v9 I10 H11 hle12 hp13
   have hR := hR.mono hle12
   have hrb := hle12 _ _ hrb
   have hw := hw.mono hle12
   have heb := hle12 _ _ heb
   have hrec := hrec.mono hle12
   obtain ⟨vv, h, hvals, rfl⟩ := hp13; cases h
   obtain ⟨pv, cv, rfl⟩ := jU.len hvals
   have hvl : (Ix.valsN e0.fs n).length ≤ 1000000 := by have h1 := wH n e0.fs (fun f hf => (hek.2 f hf).1); have h2 := hek.1; omega
   refine jL 15 ?_
   refine Cj.keep Keeps.r ?_
   refine Cj.loop (ι := Nat × Heap) (fun y => y.1 ≤ (Ix.valsN e0.fs n).length ∧ Le I10 y.2) (fun y => (Ix.valsN e0.fs n).length - y.1) (fun y => [(0, ptr rb 0), (1, str n), (7, .slice pw (Ke.words s).length cw), (8, gV (rP (BR n (Ke.words s)) (es.take k)).length g), (9, i64 (k : Int)), (10, .slice pv (Ix.valsN e0.fs n).length cv), (11, .bool (((Ix.valsN e0.fs n).take y.1).any (wIn (Ke.words s)))), (12, i64 (y.1 : Int))]) (fun y => y.2) (fun y => gH 54 ((rP (BR n (Ke.words s)) (es.take k)).flatMap recC) g) (0, _) ⟨Nat.zero_le _, Le.refl _⟩ ⟨rfl, rfl, rfl, rfl, rfl, rfl, rfl, rfl, trivial⟩ rfl rfl ?_
   rintro ⟨j, J2⟩ ⟨hj, hIJ⟩
   dsimp only at hj hIJ ⊢
   have hR := hR.mono hIJ
   have hrb := hR.1
   have hw := hw.mono hIJ
   have heb := hIJ _ _ heb
   have hvals := hvals.mono hIJ
   refine jR (fun hc14 hc14p => ?_) (fun hc14 hc14p => ?_)
   ·have hjlt : j < (Ix.valsN e0.fs n).length := by omega
    obtain ⟨x, hvget⟩ : ∃ x, (Ix.valsN e0.fs n)[j]? = some x := ⟨_, kV hjlt⟩
    have hxt := GL hek (lV hvget)
    obtain ⟨p2, c2, hpe2, hc2, hp2⟩ := id hvals
    cases hpe2
    obtain ⟨vb, vo, vcs, vty, vfr, vsp, rfl, hvb, hvd⟩ := hp2 (jS hjlt)
    refine kG (vo + j * 2) ?_
    refine jL 1 ?_
    refine J.z (jP rfl rfl lN (jV.BU hvb) (lK sQ hvd hvget 0 (by decide))) ?_
    refine uF (AP x.1 (by omega) _) ?_
    intro v16 I17 H18 hle19 hn15 hp20
    have hIJ := hIJ.mono hle19
    have hR := hR.mono hle19
    have hrb := hle19 _ _ hrb
    have hw := hw.mono hle19
    have heb := hle19 _ _ heb
    have hvals := hvals.mono hle19
    have hvb := hle19 _ _ hvb
    obtain ⟨gx, hgx, h, rfl⟩ := hp20; cases h
    refine J.yX (hgx.base hn15) (fun Ix1 hlex hwx => ?_)
    have hIJ := hIJ.mono hlex
    have hR := hR.mono hlex
    have hrb := hlex _ _ hrb
    have hw := hw.mono hlex
    have heb := hlex _ _ heb
    have hvals := hvals.mono hlex
    have hvb := hlex _ _ hvb
    replace hwx := mZ.of hwx
    refine kC (a8g (Ke.words x.1) (Ke.words s) _ _ _ hwx hw (by have := (Ke.rE x.1).1; omega) (by omega)) ?_
    refine pR (fun hg21 => ?_) (fun hg21 => ?_)
    ·have hfd := hg21
     refine jL 11 ?_
     refine Ej.round (j + 1, _) ⟨by dsimp only; omega, hIJ⟩ (by dsimp only; omega) ⟨rfl, rfl, rfl, rfl, rfl, rfl, by dsimp only; rw [NY hvget, hfd]; rfl, rfl, trivial⟩ rfl rfl
    have hfd := hg21
    refine jL 11 ?_
    refine Ej.round (j + 1, _) ⟨by dsimp only; omega, hIJ⟩ (by dsimp only; omega) ⟨rfl, rfl, rfl, rfl, rfl, rfl, by dsimp only; rw [NY hvget, hfd, Bool.false_or]; rfl, rfl, trivial⟩ rfl rfl
   refine mQ (fun hc22 => ?_) (fun hc22 => ?_)
   ·have hh : (BR n (Ke.words s)) e0 = true := by have h := hc22; rw [List.take_of_length_le (by omega)] at h; exact h
    rw [if_pos hh] at hnx
    refine kG (eo + k * 5) ?_
    refine jL 1 ?_
    refine J.z (q3 oC kX (jV.BU heb) (MO hed hget)) ?_
    refine jL 1 ?_
    intro b23 hb23
    refine yR 15 [_] hg ?_
    intro g24 hg24
    refine jL 9 ?_
    refine Ej.keep (Keeps.d Keeps.r) ?_
    refine Ej.round (k + 1, _, g24) ⟨by dsimp only; omega, .inr hwne, hw, hR, by dsimp only; rw [hnx, List.length_append, List.flatMap_append]; exact hg24⟩ (by dsimp only; omega) ⟨rfl, rfl, rfl, by dsimp only; rw [hnx, List.length_append]; rfl, rfl, trivial⟩ rfl (by dsimp only; rw [hnx, List.flatMap_append]; rfl)
   have hh : (BR n (Ke.words s)) e0 = false := by have h := hc22; rw [List.take_of_length_le (by omega)] at h; exact h
   rw [if_neg (fun g => Bool.noConfusion (g.symm.trans hh))] at hnx
   refine jL 8 ?_
   refine Ej.round (k + 1, _, g) ⟨by dsimp only; omega, .inr hwne, hw, hR, by dsimp only; rw [hnx, List.append_nil]; exact hg⟩ (by dsimp only; omega) ⟨rfl, rfl, rfl, by dsimp only; rw [hnx, List.append_nil]; rfl, rfl, trivial⟩ rfl (by dsimp only; rw [hnx, List.append_nil])
  refine jL 12 ?_
  have hph := b7u hk0 (List.length_eq_zero_iff.1 (by omega)) (es := es) (n := n) (w := (Ke.words s)) (k := k)
  rw [hph] at hg ⊢
  refine Ej.perm (H' := gH 54 ((Ix.phrase (es.map jQ) n (Ke.words s)).flatMap recC) g ++ []) (.of_eq (List.append_nil _)) ?_
  refine Ej.keepR jY (by decide) hg rfl (fun I8 hle8 hw8 => ?_)
  refine jW ?_
  exact ⟨_, rfl, hw8, rfl⟩
 refine jL 19 ?_
 have hph := b6L hk0 (by omega) (es := es) (n := n) (w := (Ke.words s)) (k := k)
 rw [hph] at hg ⊢
 refine Ej.perm (H' := gH 54 ((Ix.phrase (es.map jQ) n (Ke.words s)).flatMap recC) g ++ []) (.of_eq (List.append_nil _)) ?_
 refine Ej.keepR jY (by decide) hg rfl (fun I8 hle8 hw8 => ?_)
 refine jW ?_
 exact ⟨_, rfl, hw8, rfl⟩
theorem b4g rb es n s (hs : s.length ≤ 1000000000) I (hx : AO I rb es) : jO Tryz.prog 178 [ptr rb 0, str n, str s] I [] (fun e I' H' => ∃ v, e = .returned v ∧ jU recC I' (Ix.word (es.map jQ) n s) v ∧ H' = []) := by
 have hwl := (Ke.rE s).1
 refine jT func178 fun w0 hw0 => ?_
 refine uF (AP s hs _) ?_
 intro v2 I3 H4 hle5 hn1 hp6
 have hx := hx.mono hle5
 obtain ⟨gw, hgw, h, rfl⟩ := hp6; cases h
 refine J.yX (hgw.base hn1) (fun Iw hlew hw => ?_)
 have hx := hx.mono hlew
 obtain ⟨pw, cw, hwe⟩ := qL hw
 refine J.eqv 8 rfl hwe ?_
 rw [hwe] at hw
 replace hw := mZ.of hw
 refine jR (fun hc7 hc7p => ?_) (fun hc7 hc7p => ?_)
 ·have hne : Ix.word (es.map jQ) n s = [] := a7h (by have h := bne_iff_ne.1 hc7; omega)
  refine jL 7 ?_
  rw [hne]
  refine jW ?_
  exact ⟨_, rfl, jU.nil, rfl⟩
 have hne : Ix.word (es.map jQ) n s = Ix.phrase (es.map jQ) n (Ke.words s) := if_pos (by have h := sF hc7; omega)
 refine kH (a0r rb es n s hs _ hx) ?_
 intro v8 I9 H10 hle11 hp12
 have hx := hx.mono hle11
 have hw := hw.mono hle11
 obtain ⟨vhph, h, hph, rfl⟩ := hp12; cases h
 refine jL 4 ?_
 rw [hne]
 refine jW ?_
 exact ⟨_, rfl, hph, rfl⟩
theorem a5t rb es n key I (hx : AO I rb es) : jO Tryz.prog 228 [ptr rb 0, str n, str key] I [] (fun e I' H' => ∃ v, e = .returned v ∧ jU recC I' (Ix.oH (es.map jQ) n key) v ∧ H' = []) := by
 have hlen := hx.len
 have heok := hx.IV
 obtain ⟨p, c, hR⟩ := hx.ex
 have hrb := hR.1
 refine jT func228 fun w0 hw0 => ?_
 refine jL 17 ?_
 refine Cj.loop (ι := Nat × Heap × Gs) (fun y => y.1 ≤ es.length ∧ RxS y.2.1 rb es p c ∧ kZ w0.heap.size 2 (rP (vX n key) (es.take y.1)).length ((rP (vX n key) (es.take y.1)).flatMap recC) y.2.2) (fun y => es.length - y.1) (fun y => [(0, ptr rb 0), (1, str n), (2, str key), (7, gV (rP (vX n key) (es.take y.1)).length y.2.2), (8, i64 (y.1 : Int))]) (fun y => y.2.1) (fun y => gH 54 ((rP (vX n key) (es.take y.1)).flatMap recC) y.2.2) (0, _, none) ⟨Nat.zero_le _, hR, rfl, rfl⟩ ⟨rfl, rfl, rfl, rfl, rfl, trivial⟩ rfl rfl ?_
 rintro ⟨k, J1, g⟩ ⟨hk, hR, hg⟩
 dsimp only at hk hR hg ⊢
 have hrb := hR.1
 have hsl := YA (vX n key) (es.take k)
 rw [List.length_take, Nat.min_eq_left hk] at hsl
 refine jR (fun hc1 hc1p => ?_) (fun hc1 hc1p => ?_)
 ·refine jL 5 ?_
  have hlt : k < es.length := by omega
  obtain ⟨e0, hget⟩ : ∃ x, es[k]? = some x := ⟨_, kV hlt⟩
  have hek := heok e0 (lV hget)
  obtain ⟨p1, c1, hpe, hc1, hp⟩ := id hR.2.1
  cases hpe
  obtain ⟨eb, eo, ecs, ety, efr, esp, rfl, heb, hed⟩ := hp (jS hlt)
  have hrec := hR.2.2 e0 (lV hget)
  obtain ⟨vp0, vc0, hev, -, -⟩ := id hrec.1
  have hnx := a2e (P := (vX n key)) hget
  refine kG (eo + k * 5) ?_
  refine J.z (q2 (off' := eo + k * 5 + 2) OE yN) ?_
  refine J.z (q3 isAgg57 yN (jV.BU heb) (FN hed hget)) ?_
  refine kH (GR e0.fs e0.v e0.k e0.l n hek _ hrec) ?_
  intro v2 I3 H4 hle5 hp6
  have hR := hR.mono hle5
  have hrb := hle5 _ _ hrb
  have heb := hle5 _ _ heb
  have hrec := hrec.mono hle5
  obtain ⟨vv, h, hvals, rfl⟩ := hp6; cases h
  obtain ⟨pv, cv, rfl⟩ := jU.len hvals
  have hvl : (Ix.valsN e0.fs n).length ≤ 1000000 := by have h1 := wH n e0.fs (fun f hf => (hek.2 f hf).1); have h2 := hek.1; omega
  refine jL 15 ?_
  refine Cj.keep Keeps.r ?_
  refine Cj.loop (ι := Nat) (fun j => j ≤ (Ix.valsN e0.fs n).length) (fun j => (Ix.valsN e0.fs n).length - j) (fun j => [(0, ptr rb 0), (1, str n), (2, str key), (7, gV (rP (vX n key) (es.take k)).length g), (8, i64 (k : Int)), (9, .slice pv (Ix.valsN e0.fs n).length cv), (10, .bool (((Ix.valsN e0.fs n).take j).any (kIn key))), (11, i64 (j : Int))]) (fun j => _) (fun j => gH 54 ((rP (vX n key) (es.take k)).flatMap recC) g) 0 (Nat.zero_le _) ⟨rfl, rfl, rfl, rfl, rfl, rfl, rfl, rfl, trivial⟩ rfl rfl ?_
  intro j hj
  refine jR (fun hc7 hc7p => ?_) (fun hc7 hc7p => ?_)
  ·have hjlt : j < (Ix.valsN e0.fs n).length := by omega
   obtain ⟨x, hvget⟩ : ∃ x, (Ix.valsN e0.fs n)[j]? = some x := ⟨_, kV hjlt⟩
   have hxt := GL hek (lV hvget)
   obtain ⟨p2, c2, hpe2, hc2, hp2⟩ := id hvals
   cases hpe2
   obtain ⟨vb, vo, vcs, vty, vfr, vsp, rfl, hvb, hvd⟩ := hp2 (jS hjlt)
   refine jL 5 ?_
   refine Cj.qJ [] [] 13 (by kernel_rfl) ?_
   have hrb_10 := hrb
   have heb_10 := heb
   have hvb_10 := hvb
   refine kG (vo + j * 2) ?_
   refine jL 1 ?_
   refine JA.zt 4 rfl (jP rfl rfl lN (jV.BN hvb_10) (lK sQ hvd hvget 0 (by decide))) ?_
   refine kG (vo + j * 2) ?_
   refine JA.zt 8 rfl (q2 (off' := vo + j * 2 + 1) QF oJ) ?_
   refine JA.zt 9 rfl (jP rfl rfl IY (jV.BN hvb_10) (lK sQ hvd hvget 1 (by decide))) ?_
   refine kC (CO x.1 _ (by omega) _) ?_
   refine jR (fun hc10 hc10p => ?_) (fun hc10 hc10p => ?_)
   ·have hks : kIn key x = true := decide_eq_true (lQ hc10)
    refine jL 10 ?_
    refine Ej.round (j + 1) (by omega) (by omega) ⟨rfl, rfl, rfl, rfl, rfl, rfl, by rw [NY hvget, hks, Bool.or_true]; rfl, rfl, trivial⟩ rfl rfl
   have hks : kIn key x = false := decide_eq_false (lW hc10)
   refine jL 8 ?_
   refine Ej.round (j + 1) (by omega) (by omega) ⟨rfl, rfl, rfl, rfl, rfl, rfl, by rw [NY hvget, hks, Bool.or_false]; rfl, rfl, trivial⟩ rfl rfl
  refine pR (fun hg11 => ?_) (fun hg11 => ?_)
  ·have hfd : YV n key e0 = true := by have h := hg11; rw [List.take_of_length_le (by omega)] at h; exact h
   refine jR (fun hc12 hc12p => ?_) (fun hc12 hc12p => ?_)
   ·have hh : (vX n key) e0 = true := by unfold vX; rw [hfd, decide_eq_true (bne_iff_ne.1 hc12)]; rfl
    rw [if_pos hh] at hnx
    refine kG (eo + k * 5) ?_
    refine jL 1 ?_
    refine J.z (q3 oC kX (jV.BU heb) (MO hed hget)) ?_
    refine jL 1 ?_
    intro b13 hb13
    refine yR 15 [_] hg ?_
    intro g14 hg14
    refine jL 9 ?_
    refine Ej.keep (Keeps.d Keeps.r) ?_
    refine Ej.round (k + 1, _, g14) ⟨by dsimp only; omega, hR, by dsimp only; rw [hnx, List.length_append, List.flatMap_append]; exact hg14⟩ (by dsimp only; omega) ⟨rfl, rfl, rfl, by dsimp only; rw [hnx, List.length_append]; rfl, rfl, trivial⟩ rfl (by dsimp only; rw [hnx, List.flatMap_append]; rfl)
   have hh : (vX n key) e0 = false := by unfold vX; rw [decide_eq_false (fun g => g (sF hc12)), Bool.and_false]
   rw [if_neg (fun g => Bool.noConfusion (g.symm.trans hh))] at hnx
   refine jL 8 ?_
   refine Ej.round (k + 1, _, g) ⟨by dsimp only; omega, hR, by dsimp only; rw [hnx, List.append_nil]; exact hg⟩ (by dsimp only; omega) ⟨rfl, rfl, rfl, by dsimp only; rw [hnx, List.append_nil]; rfl, rfl, trivial⟩ rfl (by dsimp only; rw [hnx, List.append_nil])
  have hfd : YV n key e0 = false := by have h := hg11; rw [List.take_of_length_le (by omega)] at h; exact h
  have hh : (vX n key) e0 = false := by unfold vX; rw [hfd]; rfl
  rw [if_neg (fun g => Bool.noConfusion (g.symm.trans hh))] at hnx
  refine jL 14 ?_
  refine Ej.round (k + 1, _, g) ⟨by dsimp only; omega, hR, by dsimp only; rw [hnx, List.append_nil]; exact hg⟩ (by dsimp only; omega) ⟨rfl, rfl, rfl, by dsimp only; rw [hnx, List.append_nil]; rfl, rfl, trivial⟩ rfl (by dsimp only; rw [hnx, List.append_nil])
 refine jL 12 ?_
 have hph := a7N es n key
 rw [List.take_of_length_le (by omega : es.length ≤ k), hph] at hg ⊢
 refine Ej.perm (H' := gH 54 ((Ix.oH (es.map jQ) n key).flatMap recC) g ++ []) (.of_eq (List.append_nil _)) ?_
 refine Ej.keepR jY (by decide) hg rfl (fun I8 hle8 hw8 => ?_)
 refine jW ?_
 exact ⟨_, rfl, hw8, rfl⟩
theorem a0L rb es n s (hs : s.length ≤ 100000000) I (hx : AO I rb es) : jO Tryz.prog 174 [ptr rb 0, str n, str s] I [] (fun e I' H' => ∃ v, e = .returned v ∧ jU recC I' (Ix.oH (es.map jQ) n (Ix.keyOf n s)) v ∧ H' = []) := by
 refine jT func174 fun w0 hw0 => ?_
 refine kC (a1P n s hs _) ?_
 refine kH (a5t rb es n (Ix.keyOf n s) _ hx) ?_
 intro v1 I2 H3 hle4 hp5
 have hx := hx.mono hle4
 obtain ⟨vhph, h, hph, rfl⟩ := hp5; cases h
 refine jW ?_
 exact ⟨_, rfl, hph, rfl⟩
end Go.Proofs.YtekmeaoblpfnpaaGreatDoor
end
section
namespace Go.Proofs.YtekmeaoblpfnpaaGreatDoor
open _root_.Go.Proofs.Tryz
open Go Go.Sx
def MG (b : List UInt8) (x : List UInt8 × Nat) : List (List UInt8) := if Ke.nT x.1 x.2 ≠ [] ∧ ¬ Ke.nT x.1 x.2 < b then [Ke.nT x.1 x.2] else []
def MV (n b : List UInt8) (es : List nM) : List (List UInt8) := es.flatMap fun e => (Ix.valsN e.fs n).flatMap (MG b)
theorem a7v b : ∀ xs : List (List UInt8 × Nat), xs.flatMap (MG b) = ((xs.map fun x => Ke.nT x.1 x.2).filter fun k => decide (k ≠ [])).filter fun k => decide (¬ k < b)
  | [] => rfl
  | x :: r => by
    rw [List.flatMap_cons, a7v b r, List.map_cons, List.filter_cons]
    unfold MG
    by_cases h1 : Ke.nT x.1 x.2 = []
    · rw [if_neg (fun g => g.1 h1), if_neg (by simp [h1])]; rfl
    rw [if_pos (decide_eq_true h1), List.filter_cons]
    by_cases h2 : Ke.nT x.1 x.2 < b
    · rw [if_neg (fun g => g.2 h2), if_neg (fun g => absurd h2 (lY g))]; rfl
    rw [if_pos ⟨h1, h2⟩, if_pos (decide_eq_true h2)]; rfl
theorem b0e n b : ∀ es : List nM, MV n b es = ((es.map jQ).flatMap fun e => Ix.keysOf n e.2).filter fun k => decide (¬ k < b)
  | [] => rfl
  | e :: r => by
    have ih := b0e n b r
    unfold MV at ih ⊢
    rw [List.flatMap_cons, ih, List.map_cons, List.flatMap_cons, List.filter_append, a7v]
    congr 2
    unfold Ix.keysOf
    rw [← Ix.a5O, List.map_map]; rfl
theorem b7A n b es : (MV n b es).foldl Ke.put [] = Ix.mJ (es.map jQ) n b := by rw [b0e]; rfl
theorem JR {α β : Type} (f : α → List β) {l : List α} {k x} (h : l[k]? = some x) : (l.take (k + 1)).flatMap f = (l.take k).flatMap f ++ f x := by
  obtain ⟨hlt, h⟩ := List.getElem?_eq_some_iff.1 h
  rw [List.take_succ_eq_append_getElem hlt, h, List.flatMap_append]; simp
theorem a0Q b : ∀ xs : List (List UInt8 × Nat), (xs.flatMap (MG b)).length ≤ xs.length
  | [] => Nat.le_refl _
  | x :: r => by
    have := a0Q b r
    have h1 : (MG b x).length ≤ 1 := by unfold MG; split <;> simp
    rw [List.flatMap_cons, List.length_append, List.length_cons]; omega
theorem a7D n b : ∀ es : List nM, (∀ e ∈ es, yE e.fs) → (MV n b es).length ≤ es.length * 1000000
  | [], _ => by simp [MV]
  | e :: r, h => by
    have h1 := a7D n b r fun x hx => h x (.tail _ hx)
    have he := h e (.head _)
    have h2 := a0Q b (Ix.valsN e.fs n)
    have h3 := wH n e.fs fun f hf => (he.2 f hf).1
    have h4 := he.1
    unfold MV at h1 ⊢
    rw [List.flatMap_cons, List.length_append, List.length_cons, Nat.add_mul]
    omega
theorem b1u (xs : List (List UInt8)) : Ke.Inc (xs.foldl Ke.put []) := Ke.YG xs List.Pairwise.nil
theorem a2s {α : Type} {l : List α} {i : Nat} {most} (h0 : (i : Int) ≤ most ∨ i = 0) (hi : i ≤ l.length) (h : l.length ≤ i ∨ most ≤ (i : Int)) : l.take i = l.take most.toNat := by
  rcases h with h | h
  · rw [List.take_of_length_le h]
    rcases h0 with g | g
    · rw [List.take_of_length_le (by omega)]
    subst g
    have : l = [] := List.length_eq_zero_iff.1 (by omega)
    subst this; simp
  rcases h0 with g | g
  · rw [show most.toNat = i by omega]
  rw [show most.toNat = i by omega]
def lnK (L : Ix.Ix) (n k : List UInt8) : List UInt8 × Nat := (k, (Ix.oH L n k).length)
def RN (L : Ix.Ix) (n : List UInt8) (ks : List (List UInt8)) : List (List UInt8 × Int) := (ks.map (lnK L n)).map lZ
theorem b2q L n {ks : List (List UInt8)} {i k} (h : ks[i]? = some k) : RN L n (ks.take (i + 1)) = RN L n (ks.take i) ++ [lZ (lnK L n k)] := by
  unfold RN
  rw [zV _ h, List.map_append]; rfl
theorem b7c L n ks : (RN L n ks).length = ks.length := by unfold RN; rw [List.length_map, List.length_map]
theorem a9O (es : List nM) n k : (Ix.oH (es.map jQ) n k).length ≤ es.length := by
  rw [← a7N]; exact YA _ _
theorem a2H x es t : Ix.qN ((x :: es).map jQ) t = if x.t = t then some (Ix.vals x.fs) else Ix.qN (es.map jQ) t := by
  unfold Ix.qN
  rw [List.map_cons, List.find?_cons]
  by_cases h : x.t = t
  · rw [if_pos h]; simp [jQ, h]
  rw [if_neg h]; simp [jQ, h]
theorem ZK : ∀ {es : List nM} {t : Ix.Rec} {e : nM}, nN es t = true → es[lH es t]? = some e → Ix.qN (es.map jQ) t = some (Ix.vals e.fs)
  | [], _, _, h, _ => by cases h
  | x :: r, t, e, h, hg => by
    rw [ED] at h
    rw [wU] at hg
    rw [a2H]
    by_cases hl : Ix.oL x.t t = true
    · rw [if_pos hl] at h hg
      rw [if_neg (fun g => by rw [g, Ix.nJ] at hl; cases hl)]
      exact ZK h hg
    rw [if_neg hl] at h hg
    have hx : x.t = t := by simpa using h
    cases hg
    rw [if_pos hx]
theorem a2q : ∀ {es : List nM} {t : Ix.Rec}, Ix.nK (es.map jQ) → nN es t = false → Ix.qN (es.map jQ) t = none
  | [], _, _, _ => rfl
  | x :: r, t, hs, h => by
    have h' := List.pairwise_cons.1 hs
    rw [ED] at h
    rw [a2H]
    by_cases hl : Ix.oL x.t t = true
    · rw [if_pos hl] at h
      rw [if_neg (fun g => by rw [g, Ix.nJ] at hl; cases hl)]
      exact a2q h'.2 h
    rw [if_neg hl] at h
    have hx : x.t ≠ t := by simpa using h
    rw [if_neg hx, Ix.JO]
    intro y hy he
    have h1 := h'.1 y hy
    rw [he] at h1
    exact hl h1
theorem b3X {es : List nM} {t : Ix.Rec} {e : nM} (h : nN es t = true) (hg : es[lH es t]? = some e) : Ix.oK (es.map jQ) t = match (Ix.valsN e.fs Ix.rM)[0]? with
    | none => []
    | some x => Ke.nT x.1 x.2 := by
  rw [TW, ZK h hg, ← Ix.a5O, List.getElem?_map, ← List.head?_eq_getElem?, List.head?_filter]
  show (match (Ix.vals e.fs).find? fun v => decide (v.name = Ix.rM) with
    | none => []
    | some v => v.key) = _
  cases (Ix.vals e.fs).find? fun v => decide (v.name = Ix.rM) with
  | none => rfl
  | some v => rfl
theorem b0m {es t} (hs : Ix.nK (es.map jQ)) (h : nN es t = false) : Ix.oK (es.map jQ) t = [] := by
  unfold Ix.oK; rw [a2q hs h]
theorem b7H {a b : List UInt8} (h : (!decide (a < b)) = true) : ¬ a < b := by simpa using h
theorem b6V {a b : List UInt8} (h : (!decide (a < b)) = false) : a < b := by simpa using h
theorem XQ rb es n s (hs : s.length ≤ 100000000) most I (hx : AO I rb es) : jO Tryz.prog 177 [ptr rb 0, str n, str s, i64 most] I [] (fun e I' H' => ∃ v, e = .returned v ∧ jU oU I' ((Ix.scan (es.map jQ) n s most).map lZ) v ∧ H' = []) := by
 have hlen := hx.len
 have heok := hx.IV
 obtain ⟨p, c, hR⟩ := hx.ex
 have hrb := hR.1
 refine jT func177 fun w0 hw0 => ?_
 refine kC (a1P n s hs _) ?_
 refine jL 15 ?_
 refine Cj.loop (ι := Nat × Heap × Value) (fun y => y.1 ≤ es.length ∧ RxS y.2.1 rb es p c ∧ mZ y.2.1 ((MV n (Ix.keyOf n s) (es.take y.1)).foldl Ke.put []) y.2.2) (fun y => es.length - y.1) (fun y => [(0, ptr rb 0), (1, str n), (3, i64 most), (9, str (Ix.keyOf n s)), (10, y.2.2), (11, i64 (y.1 : Int))]) (fun y => y.2.1) (fun y => []) (0, _, _) ⟨Nat.zero_le _, hR, ⟨none, 0, rfl, Nat.le_refl _, fun h => absurd rfl h⟩⟩ ⟨rfl, rfl, rfl, rfl, rfl, rfl, trivial⟩ rfl rfl ?_
 rintro ⟨k, J1, w⟩ ⟨hk, hR, hv⟩
 dsimp only at hk hR hv ⊢
 have hrb := hR.1
 have hkl := a7D n (Ix.keyOf n s) (es.take k) (fun e he => heok e (List.mem_of_mem_take he))
 rw [List.length_take, Nat.min_eq_left hk] at hkl
 refine jR (fun hc1 hc1p => ?_) (fun hc1 hc1p => ?_)
 ·refine jL 5 ?_
  have hlt : k < es.length := by omega
  obtain ⟨e0, hget⟩ : ∃ x, es[k]? = some x := ⟨_, kV hlt⟩
  have hek := heok e0 (lV hget)
  obtain ⟨p1, c1, hpe, hc1, hp⟩ := id hR.2.1
  cases hpe
  obtain ⟨eb, eo, ecs, ety, efr, esp, rfl, heb, hed⟩ := hp (jS hlt)
  have hrec := hR.2.2 e0 (lV hget)
  obtain ⟨vp0, vc0, hev, -, -⟩ := id hrec.1
  have hnx : MV n (Ix.keyOf n s) (es.take (k + 1)) = MV n (Ix.keyOf n s) (es.take k) ++ (Ix.valsN e0.fs n).flatMap (MG (Ix.keyOf n s)) := JR _ hget
  refine kG (eo + k * 5) ?_
  refine J.z (q2 (off' := eo + k * 5 + 2) OE yN) ?_
  refine J.z (q3 isAgg57 yN (jV.BU heb) (FN hed hget)) ?_
  refine kH (GR e0.fs e0.v e0.k e0.l n hek _ hrec) ?_
  intro v2 I3 H4 hle5 hp6
  have hR := hR.mono hle5
  have hrb := hle5 _ _ hrb
  have hv := hv.mono hle5
  have heb := hle5 _ _ heb
  have hrec := hrec.mono hle5
  obtain ⟨vv, h, hvals, rfl⟩ := hp6; cases h
  obtain ⟨pv, cv, rfl⟩ := jU.len hvals
  have hvl : (Ix.valsN e0.fs n).length ≤ 1000000 := by have h1 := wH n e0.fs (fun f hf => (hek.2 f hf).1); have h2 := hek.1; omega
  refine jL 9 ?_
  refine Cj.loop (ι := Nat × Heap × Value) (fun y => y.1 ≤ (Ix.valsN e0.fs n).length ∧ Le I3 y.2.1 ∧ mZ y.2.1 ((MV n (Ix.keyOf n s) (es.take k) ++ ((Ix.valsN e0.fs n).take y.1).flatMap (MG (Ix.keyOf n s))).foldl Ke.put []) y.2.2) (fun y => (Ix.valsN e0.fs n).length - y.1) (fun y => [(0, ptr rb 0), (1, str n), (3, i64 most), (9, str (Ix.keyOf n s)), (10, y.2.2), (11, i64 (k : Int)), (12, .slice pv (Ix.valsN e0.fs n).length cv), (13, i64 (y.1 : Int))]) (fun y => y.2.1) (fun y => []) (0, _, _) ⟨Nat.zero_le _, Le.refl _, by dsimp only; rw [List.take_zero, List.flatMap_nil, List.append_nil]; exact hv⟩ ⟨rfl, rfl, rfl, rfl, rfl, rfl, rfl, rfl, trivial⟩ rfl rfl ?_
  rintro ⟨j, J2, w2⟩ ⟨hj, hIJ, hv⟩
  dsimp only at hj hIJ hv ⊢
  have hR := hR.mono hIJ
  have hrb := hR.1
  have hvals := hvals.mono hIJ
  have hrl := DV (MV n (Ix.keyOf n s) (es.take k) ++ ((Ix.valsN e0.fs n).take j).flatMap (MG (Ix.keyOf n s))) []
  have hr2 := a0Q (Ix.keyOf n s) ((Ix.valsN e0.fs n).take j)
  rw [List.length_take, Nat.min_eq_left hj] at hr2
  rw [List.length_append, List.length_nil] at hrl
  refine jR (fun hc7 hc7p => ?_) (fun hc7 hc7p => ?_)
  ·have hjlt : j < (Ix.valsN e0.fs n).length := by omega
   obtain ⟨x, hvget⟩ : ∃ x, (Ix.valsN e0.fs n)[j]? = some x := ⟨_, kV hjlt⟩
   have hxt := GL hek (lV hvget)
   have hvn := JR (MG (Ix.keyOf n s)) hvget
   obtain ⟨p2, c2, hpe2, hc2, hp2⟩ := id hvals
   cases hpe2
   obtain ⟨vb, vo, vcs, vty, vfr, vsp, rfl, hvb, hvd⟩ := hp2 (jS hjlt)
   refine jL 5 ?_
   refine Cj.qJ [] [] 12 (by kernel_rfl) ?_
   have hrb_10 := hrb
   have heb_10 := heb
   have hvb_10 := hvb
   refine kG (vo + j * 2) ?_
   refine jL 1 ?_
   refine JA.zt 4 rfl (jP rfl rfl lN (jV.BN hvb_10) (lK sQ hvd hvget 0 (by decide))) ?_
   refine kG (vo + j * 2) ?_
   refine JA.zt 8 rfl (q2 (off' := vo + j * 2 + 1) QF oJ) ?_
   refine JA.zt 9 rfl (jP rfl rfl IY (jV.BN hvb_10) (lK sQ hvd hvget 1 (by decide))) ?_
   refine kC (CO x.1 _ (by omega) _) ?_
   refine mP (fun hg10 hg10p => ?_) (fun hg10 hg10p => ?_)
   ·have hk1 : Ke.nT x.1 x.2 ≠ [] := bne_iff_ne.1 hg10
    refine jL 2 ?_
    refine J.zg (a1H rfl rfl rfl) ?_
    refine mQ (fun hc11 => ?_) (fun hc11 => ?_)
    ·have hko : MG (Ix.keyOf n s) x = [Ke.nT x.1 x.2] := if_pos ⟨hk1, b7H hc11⟩
     refine kH (b6y _ _ (Ke.nT x.1 x.2) (b1u _) (by omega) _ hv) ?_
     intro v12 I13 H14 hle15 hp16
     have hIJ := hIJ.mono hle15
     have hR := hR.mono hle15
     have hrb := hle15 _ _ hrb
     have hv := hv.mono hle15
     have hvals := hvals.mono hle15
     have hvb := hle15 _ _ hvb
     obtain ⟨wv, h, hv2, rfl⟩ := hp16; cases h
     replace hv := hv2
     refine jL 9 ?_
     refine Ej.round (j + 1, _, _) ⟨by dsimp only; omega, hIJ, by dsimp only; rw [hvn, hko, ← List.append_assoc, b3x]; exact hv⟩ (by dsimp only; omega) ⟨rfl, rfl, rfl, rfl, rfl, rfl, rfl, rfl, trivial⟩ rfl rfl
    have hko : MG (Ix.keyOf n s) x = [] := if_neg (fun g => g.2 (b6V hc11))
    refine jL 8 ?_
    refine Ej.round (j + 1, _, _) ⟨by dsimp only; omega, hIJ, by dsimp only; rw [hvn, hko, List.append_nil]; exact hv⟩ (by dsimp only; omega) ⟨rfl, rfl, rfl, rfl, rfl, rfl, rfl, rfl, trivial⟩ rfl rfl
   have hko : MG (Ix.keyOf n s) x = [] := if_neg (fun g => g.1 (sF hg10))
   refine jL 15 ?_
   refine Ej.round (j + 1, _, _) ⟨by dsimp only; omega, hIJ, by dsimp only; rw [hvn, hko, List.append_nil]; exact hv⟩ (by dsimp only; omega) ⟨rfl, rfl, rfl, rfl, rfl, rfl, rfl, rfl, trivial⟩ rfl rfl
  refine jL 11 ?_
  refine Ej.round (k + 1, _, _) ⟨by dsimp only; omega, hR, by dsimp only; rw [hnx]; rw [List.take_of_length_le (show (Ix.valsN e0.fs n).length ≤ j by omega)] at hv; exact hv⟩ (by dsimp only; omega) ⟨rfl, rfl, rfl, rfl, rfl, rfl, trivial⟩ rfl rfl
 refine jL 6 ?_
 have hfull : es.take k = es := List.take_of_length_le (by omega)
 rw [hfull] at hv hkl
 have hkpl := DV (MV n (Ix.keyOf n s) es) []
 rw [List.length_nil] at hkpl
 obtain ⟨ks, hks⟩ : ∃ ks, ks = (MV n (Ix.keyOf n s) es).foldl Ke.put [] := ⟨_, rfl⟩
 rw [← hks] at hv hkpl
 obtain ⟨pk, ck, rfl⟩ := mZ.len hv
 have hkall : ks = Ix.mJ (es.map jQ) n (Ix.keyOf n s) := hks.trans (b7A n (Ix.keyOf n s) es)
 have hx1 : AO J1 rb es := ⟨⟨p, c, hR⟩, hlen, heok, hx.oG⟩
 refine jL 11 ?_
 refine Cj.loop (ι := Nat × Heap × Gs) (fun y => y.1 ≤ ks.length ∧ ((y.1 : Int) ≤ most ∨ y.1 = 0) ∧ Le J1 y.2.1 ∧ kZ w0.heap.size 2 (RN (es.map jQ) n (ks.take y.1)).length ((RN (es.map jQ) n (ks.take y.1)).flatMap oU) y.2.2) (fun y => ks.length - y.1) (fun y => [(0, ptr rb 0), (1, str n), (3, i64 most), (10, .slice pk ks.length ck), (15, gV (RN (es.map jQ) n (ks.take y.1)).length y.2.2), (16, i64 (y.1 : Int))]) (fun y => y.2.1) (fun y => gH 268 ((RN (es.map jQ) n (ks.take y.1)).flatMap oU) y.2.2) (0, _, none) ⟨Nat.zero_le _, .inr rfl, Le.refl _, rfl, rfl⟩ ⟨rfl, rfl, rfl, rfl, rfl, rfl, trivial⟩ rfl rfl ?_
 rintro ⟨i, J3, g⟩ ⟨hi, hi0, hIJ, hg⟩
 dsimp only at hi hi0 hIJ hg ⊢
 have hx := hx1.mono hIJ
 have hv := hv.mono hIJ
 have hll := b7c (es.map jQ) n (ks.take i)
 rw [List.length_take, Nat.min_eq_left hi] at hll
 refine mP (fun hg18 hg18p => ?_) (fun hg18 hg18p => ?_)
 ·have hilt : i < ks.length := by omega
  obtain ⟨x, hkget⟩ : ∃ x, ks[i]? = some x := ⟨_, kV hilt⟩
  have hnl := b2q (es.map jQ) n hkget
  have hwl := a9O es n x
  obtain ⟨p3, c3, hpe3, hc3, hp3⟩ := id hv
  cases hpe3
  obtain ⟨kb, ko, kcs, kty, kfr, ksp, rfl, hkb, hkd⟩ := hp3 (jS hilt)
  refine jR (fun hc19 hc19p => ?_) (fun hc19 hc19p => ?_)
  ·refine jL 4 ?_
   refine Cj.qJ [] [] 17 (by kernel_rfl) ?_
   have hrb_17 := hrb
   have hkb_17 := hkb
   refine kG (ko + i) ?_
   refine JA.zt 4 rfl (jP rfl rfl lN (jV.BN hkb_17) (qM hkd hkget)) ?_
   refine kG (ko + i) ?_
   refine JA.zt 10 rfl (jP rfl rfl lN (jV.BN hkb_17) (qM hkd hkget)) ?_
   refine kH (a5t rb es n x _ hx) ?_
   intro v21 I22 H23 hle24 hp25
   have hIJ := hIJ.mono hle24
   have hv := hv.mono hle24
   have hx := hx.mono hle24
   have hkb := hle24 _ _ hkb
   obtain ⟨vv, h, hph, rfl⟩ := hp25; cases h
   obtain ⟨pw, cw, rfl⟩ := jU.len hph
   refine ⟨⟨(Le.trans (Le.refl _) hle24), HSub.n, CSub.n⟩, ?_⟩
   refine JA.fix lG (fun fx26 => ?_)
   refine JA.tk 12 rfl fx26 (sZ rfl rfl mX) ?_
   refine JA.tk 13 rfl fx26 (jX (pl := #[(0, 1), (1, 1)]) rfl rfl UU rfl b4W (fun w => by simp [oJ, kY]) (pU.part rfl rfl rfl (nV.c nV.z) (pU.part rfl rfl rfl (nV.s (nV.c nV.z)) pU.none))) ?_
   refine q0 14 rfl (q6 BD BH UU (xG.agg rfl xG.none) ?_)
   intro b27 hb27
   refine ⟨⟨(Le.trans (Le.refl _) hle24), HSub.n, CSub.n⟩, ?_⟩
   refine q0 15 rfl (kK (by' := 23) [_] rfl rfl rfl rfl rfl BD (.inr ⟨_, BD⟩) (by kernel_rfl) BH UU rfl hg rfl (Src.slice (jV.at 0 rfl) rfl rfl rfl) (by omega) ?_)
   intro g28 hg28
   refine jL 10 ?_
   refine Ej.keep (Keeps.d Keeps.r) ?_
   refine Ej.round (i + 1, _, g28) ⟨by dsimp only; omega, .inl (by dsimp only; omega), hIJ, by dsimp only; rw [hnl, List.length_append, List.flatMap_append]; exact hg28⟩ (by dsimp only; omega) ⟨rfl, rfl, rfl, rfl, by dsimp only; rw [hnl, List.length_append]; rfl, rfl, trivial⟩ rfl (by dsimp only; rw [hnl, List.flatMap_append]; rfl)
  refine jL 12 ?_
  have htk := a2s hi0 hi (.inr (by omega))
  have hsc : RN (es.map jQ) n (ks.take i) = (Ix.scan (es.map jQ) n s most).map lZ := by rw [htk, hkall]; rfl
  rw [hsc] at hg ⊢
  refine Ej.perm (H' := gH 268 (((Ix.scan (es.map jQ) n s most).map lZ).flatMap oU) g ++ []) (.of_eq (List.append_nil _)) ?_
  refine Ej.keepR pK (by decide) hg rfl (fun I8 hle8 hw8 => ?_)
  refine jW ?_
  exact ⟨_, rfl, hw8, rfl⟩
 refine jL 19 ?_
 have htk := a2s hi0 hi (.inl (by omega))
 have hsc : RN (es.map jQ) n (ks.take i) = (Ix.scan (es.map jQ) n s most).map lZ := by rw [htk, hkall]; rfl
 rw [hsc] at hg ⊢
 refine Ej.perm (H' := gH 268 (((Ix.scan (es.map jQ) n s most).map lZ).flatMap oU) g ++ []) (.of_eq (List.append_nil _)) ?_
 refine Ej.keepR pK (by decide) hg rfl (fun I8 hle8 hw8 => ?_)
 refine jW ?_
 exact ⟨_, rfl, hw8, rfl⟩
theorem a2t rb es t I (hx : AO I rb es) : jO Tryz.prog 115 [ptr rb 0, jZ t] I [] (fun e _ H' => e = .returned (str (Ix.oK (es.map jQ) t)) ∧ H' = []) := by
 have hlen := hx.len
 have heok := hx.IV
 obtain ⟨p, c, hR⟩ := hx.ex
 have hrb := hR.1
 refine jT func115 fun w0 hw0 => ?_
 refine jL 3 ?_
 intro b1 hb1
 refine kC (a5M rb _ es t (by omega) _ hrb hR.2) ?_
 refine mQ (fun hc2 => ?_) (fun hc2 => ?_)
 ·have hth : nN es t = false := by have h := hc2; simpa using h
  refine jL 7 ?_
  rw [b0m hx.oG hth]
  refine kF ?_
  exact ⟨rfl, rfl⟩
 have hth : nN es t = true := by have h := hc2; simpa using h
 have hlt := TV hth
 obtain ⟨e0, hget⟩ : ∃ x, es[lH es t]? = some x := ⟨_, kV hlt⟩
 have hek := heok e0 (lV hget)
 have hsv := b3X hth hget
 obtain ⟨p1, c1, hpe, hc1, hp⟩ := id hR.2.1
 cases hpe
 obtain ⟨eb, eo, ecs, ety, efr, esp, rfl, heb, hed⟩ := hp (jS hlt)
 have hrec := hR.2.2 e0 (lV hget)
 obtain ⟨vp0, vc0, hev, -, -⟩ := id hrec.1
 refine kG (eo + lH es t * 5) ?_
 refine J.z (q2 (off' := eo + lH es t * 5 + 2) OE yN) ?_
 refine J.z (q3 isAgg57 yN (jV.BU heb) (FN hed hget)) ?_
 refine kH (GR e0.fs e0.v e0.k e0.l Ix.rM hek _ hrec) ?_
 intro v3 I4 H5 hle6 hp7
 have hR := hR.mono hle6
 have hrb := hle6 _ _ hrb
 have heb := hle6 _ _ heb
 have hrec := hrec.mono hle6
 obtain ⟨vv, h, hvals, rfl⟩ := hp7; cases h
 obtain ⟨pv, cv, rfl⟩ := jU.len hvals
 have hvl : (Ix.valsN e0.fs Ix.rM).length ≤ 1000000 := by have h1 := wH Ix.rM e0.fs (fun f hf => (hek.2 f hf).1); have h2 := hek.1; omega
 refine jR (fun hc8 hc8p => ?_) (fun hc8 hc8p => ?_)
 ·have hnil : (Ix.valsN e0.fs Ix.rM) = [] := List.length_eq_zero_iff.1 (by have h := lQ hc8; omega)
  rw [hnil] at hsv
  refine jL 7 ?_
  rw [hsv]
  refine kF ?_
  exact ⟨rfl, rfl⟩
 have hjlt : 0 < (Ix.valsN e0.fs Ix.rM).length := by have h := lW hc8; omega
 obtain ⟨x, hvget⟩ : ∃ x, (Ix.valsN e0.fs Ix.rM)[0]? = some x := ⟨_, kV hjlt⟩
 have hxt := GL hek (lV hvget)
 rw [hvget] at hsv
 obtain ⟨p2, c2, hpe2, hc2, hp2⟩ := id hvals
 cases hpe2
 obtain ⟨vb, vo, vcs, vty, vfr, vsp, rfl, hvb, hvd⟩ := hp2 (jS hjlt)
 refine jL 3 ?_
 refine Cj.qJ [0] [] 10 (by kernel_rfl) ?_
 have hrb_7 := hrb
 have heb_7 := heb
 have hvb_7 := hvb
 refine kG (vo + 0 * 2) ?_
 refine jL 1 ?_
 refine JA.zt 3 rfl (jP rfl rfl lN (jV.BN hvb_7) (lK sQ hvd hvget 0 (by decide))) ?_
 refine kG (vo + 0 * 2) ?_
 refine JA.zt 6 rfl (q2 (off' := vo + 0 * 2 + 1) QF oJ) ?_
 refine JA.zt 7 rfl (jP rfl rfl IY (jV.BN hvb_7) (lK sQ hvd hvget 1 (by decide))) ?_
 refine kC (CO x.1 _ (by omega) _) ?_
 refine jL 5 ?_
 rw [hsv]
 refine kF ?_
 exact ⟨rfl, rfl⟩
end Go.Proofs.YtekmeaoblpfnpaaGreatDoor
end
namespace Ke
def a7Z (f : tC) : tC := { f with sv := .slice none 0 0 }
def nrm (fs : List tC) : List tC := fs.map a7Z
end Ke
namespace Go.Sx
open Go
theorem Ready.dom {I H w} (h : Ready I H w) {b} (hb : w.heap.size ≤ b) : I b = none := by
  cases hI : I b with
  | none => rfl
  | some o =>
    have := h.1 b o hI
    rw [Array.getElem?_eq_none hb] at this; cases this
section
variable {cx:Cx} {Q:Qt} {e:Env} {I:Heap} {H:HL}
end
section
variable {cx:Cx} {Q:Qt} {e:Env} {I:Heap} {H:HL}
theorem J.known {ops l} (k : ∀ I9, I9 = I → (∀ p ∈ H, I9 p.1 = none) → (H.map (·.1)).Nodup → (∀ p ∈ H, p.1 ∈ cx.D ∨ cx.w0.heap.size ≤ p.1) → J cx Q ops l e I9 H) : J cx Q ops l e I H :=
  fun a w ha hs => k I rfl hs.dis hs.nodup hs.new a w ha hs
end
def sS {α : Type} (N : Nat → Prop) (T : TypeId) (f : α → List Value) (I : Heap) (l : List α) (v : Value) : Prop :=
  ∃ p c, v = .slice p l.length c ∧ l.length ≤ c ∧ (l ≠ [] → ∃ b sp, p = some ⟨b, 0, none⟩ ∧ N b ∧ I b = some (jM T (l.flatMap f ++ sp)))
section
variable {α:Type} {N M:Nat→Prop} {T:TypeId} {f:α→List Value} {I I':Heap} {l:List α} {v:Value}
theorem sS.mono (h : sS N T f I l v) (hle : Le I I') : sS N T f I' l v :=
  let ⟨p, c, h1, h2, h3⟩ := h; ⟨p, c, h1, h2, fun hn => let ⟨b, sp, h4, h5, h6⟩ := h3 hn; ⟨b, sp, h4, h5, hle _ _ h6⟩⟩
theorem sS.imp (h : sS N T f I l v) (hm : ∀ b, N b → M b) : sS M T f I l v :=
  let ⟨p, c, h1, h2, h3⟩ := h; ⟨p, c, h1, h2, fun hn => let ⟨b, sp, h4, h5, h6⟩ := h3 hn; ⟨b, sp, h4, hm b h5, h6⟩⟩
theorem sS.rowT (h : sS N T f I l v) : rC T f I l v :=
  let ⟨p, c, h1, h2, h3⟩ := h; ⟨p, c, h1, h2, fun hn => let ⟨b, sp, h4, _, h6⟩ := h3 hn; ⟨b, sp, h4, h6⟩⟩
theorem sS.row (h : sS N T f I l v) : jU f I l v := h.rowT.row
theorem sS.nil : sS N T f I ([] : List α) (.slice none 0 0) := ⟨none, 0, rfl, Nat.le_refl _, fun h => absurd rfl h⟩
end
section
variable {cx:Cx} {Q:Qt} {e:Env} {I:Heap} {R:HL} {T:TypeId} {α:Type} {l:List α} {f:α→List Value} {sz n base:Nat} {g:Gs}
theorem a4q {X : Heap → HL → Prop} (hf : ∀ x, (f x).length = sz) (hpos : 0 < sz) (hg : kZ base sz n (l.flatMap f) g) (hn : n = l.length) (hp : ∀ b o, base ≤ b → (∀ I', Le I I' → I' b = some o → X I' R) → X I ((b, o) :: R)) (k : ∀ I', Le I I' → sS (base ≤ ·) T f I' l (gV n g) → X I' R) : X I (gH T (l.flatMap f) g ++ R) := by
  subst hn
  cases g with
  | none =>
    obtain ⟨h1, h2⟩ := hg
    have : l = [] := List.length_eq_zero_iff.1 h1
    subst this
    exact k I (Le.refl _) sS.nil
  | some q =>
    obtain ⟨b, c, sp⟩ := q
    obtain ⟨h1, h2, h3⟩ := hg
    have hc : l.length ≤ c := by
      rw [lS hf] at h3
      exact Nat.le_of_mul_le_mul_right (by omega : l.length * sz ≤ c * sz) hpos
    exact hp b _ h1 fun I' hle hb => k I' hle ⟨_, c, rfl, hc, fun _ => ⟨b, sp, rfl, h1, hb⟩⟩
theorem Cj.a3m {c} (hf : ∀ x, (f x).length = sz) (hpos : 0 < sz) (hg : kZ cx.w0.heap.size sz n (l.flatMap f) g) (hn : n = l.length) (k : ∀ I', Le I I' → sS (cx.w0.heap.size ≤ ·) T f I' l (gV n g) → Cj cx Q c e I' R) : Cj cx Q c e I (gH T (l.flatMap f) g ++ R) :=
  a4q (X := fun I H => Cj cx Q c e I H) hf hpos hg hn (fun _ _ hb k => Cj.persist hb k) k
theorem Ej.a3m {x} (hf : ∀ x, (f x).length = sz) (hpos : 0 < sz) (hg : kZ cx.w0.heap.size sz n (l.flatMap f) g) (hn : n = l.length) (k : ∀ I', Le I I' → sS (cx.w0.heap.size ≤ ·) T f I' l (gV n g) → Ej cx Q x e I' R) : Ej cx Q x e I (gH T (l.flatMap f) g ++ R) :=
  a4q (X := fun I H => Ej cx Q x e I H) hf hpos hg hn (fun _ _ hb k => Ej.persist hb k) k
end
section
variable {cx:Cx} {Q:Qt} {e:Env} {I I1:Heap} {H A:HL} {Z:CL} {z:Nat} {l:List Oper} {fuel:Nat} {listed:Array Bool}
end
section
variable {cx:Cx} {Q:Qt} {e:Env} {I I1:Heap} {R H1 A:HL} {Z:CL} {z:Nat} {ops:List Oper} {fuel:Nat} {listed:Array Bool} {T:TypeId} {α:Type} {l:List α} {f:α→List Value} {v:Value} {sz n:Nat} {g:Gs}
theorem JA.FT (h : xI T f l v H1) (hb : ∀ p ∈ H1, cx.w0.heap.size ≤ p.1) (k : ∀ I', Le I I' → rC T f I' l v → JA cx Q ops I1 A Z z fuel listed e I' R) : JA cx Q ops I1 A Z z fuel listed e I (H1 ++ R) :=
  a1D (X := fun I H => JA cx Q ops I1 A Z z fuel listed e I H) h hb (fun _ _ hb k => JA.persist hb k) k
end
end Go.Sx
section
namespace Go.Proofs.YtekmeaoblpfnpaaGreatDoor
open _root_.Go.Proofs.Tryz
open Go Go.Sx
def In64 (a : Int) : Prop := -9223372036854775808 ≤ a ∧ a ≤ 9223372036854775807
theorem b0G {a} (h : In64 a) m (hm : 2 ≤ m) : -4611686018427387904 ≤ a.tdiv m ∧ a.tdiv m ≤ 4611686018427387904 := by
  unfold In64 at h
  have h1 : (a.tdiv m).natAbs = a.natAbs / m.natAbs := Int.natAbs_tdiv a m
  have h2 : a.natAbs / m.natAbs ≤ a.natAbs / 2 := Nat.div_le_div_left (by omega) (by decide)
  omega
theorem a2u {j : Nat} {m} (hj : j ≤ 3) (h0 : 0 ≤ m) (h1 : m ≤ 2) : 0 ≤ (j : Int) * (1 + m) ∧ (j : Int) * (1 + m) ≤ 9 := by
  match j, hj with
  | 0, _ => simp
  | 1, _ => simp; omega
  | 2, _ => simp; omega
  | 3, _ => simp; omega
abbrev xX (q : Ix.Four) : List Value := [i64 q.x0, i64 q.x1, i64 q.x2, i64 q.x3]
theorem b0n q : (xX q).length = 4 := rfl
structure BM (q : Ix.Four) : Prop where
  h0 : In64 q.x0
  h1 : In64 q.x1
  h2 : In64 q.x2
  h3 : In64 q.x3
theorem a1f {l : List (List UInt8)} {n} (h0 : 0 ≤ n) (h1 : n < (l.length : Int)) : (l.map str)[n.toNat]? = some (str (l.getD n.toNat [])) := by
  have h2 : n.toNat < l.length := by omega
  rw [List.getElem?_map, kV h2, List.getD_eq_getElem?_getD, kV h2]; rfl
theorem b2E {l : List UInt8} {n} (h0 : 0 ≤ n) (h1 : n < (l.length : Int)) : l[n.toNat]? = some (l.getD n.toNat 0) := by
  have h2 : n.toNat < l.length := by omega
  rw [kV h2, List.getD_eq_getElem?_getD, kV h2]; rfl
theorem a6K fs f : Ke.nrm (fs ++ [f]) = Ke.nrm fs ++ [Ke.a7Z f] := by unfold Ke.nrm; rw [List.map_append]; rfl
theorem b5v fs : (Ke.nrm fs).length = fs.length := List.length_map _
theorem YE fs : Ix.vals (Ke.nrm fs) = Ix.vals fs := by
  unfold Ix.vals Ke.nrm
  rw [List.flatMap_map]; rfl
def wE (q : Ix.Four) (n : Nat) : List Ke.Sub := (List.range n).map fun j => Ix.a8V q j
theorem NS q n : wE q (n + 1) = wE q n ++ [Ix.a8V q n] := by unfold wE; rw [List.range_succ, List.map_append]; rfl
theorem a2O q n : (wE q n).length = n := by unfold wE; rw [List.length_map, List.length_range]
theorem b4R {q} (h : Ix.isC (Ix.a8L q.x0)) : Ix.a1p q = ⟨Ix.a8L q.x0, [], Ix.a0h q.x3, .slice none 0 0, []⟩ := if_pos h
theorem b5d {q} (h : ¬ Ix.isC (Ix.a8L q.x0)) : Ix.a1p q = ⟨Ix.a8L q.x0, Ix.b4Z.getD (q.x1 % 8).toNat [], [], .slice none 0 0, wE q (1 + (q.x2 % 3).toNat)⟩ := if_neg h
theorem b3h n : (Ix.a8L n).length ≤ 3 := by
  unfold Ix.a8L
  generalize (n % 20).toNat = k
  rcases Nat.lt_or_ge k 20 with h | h
  · have : ∀ k, k < 20 → (Ix.ZE.getD k []).length ≤ 3 := by decide
    exact this k h
  rw [List.getD_eq_getElem?_getD, List.getElem?_eq_none (by simpa [Ix.ZE] using h)]; simp
theorem b4e n : (Ix.b4Z.getD n []).length ≤ 2 := by
  rcases Nat.lt_or_ge n 8 with h | h
  · have : ∀ k, k < 8 → (Ix.b4Z.getD k []).length ≤ 2 := by decide
    exact this n h
  rw [List.getD_eq_getElem?_getD, List.getElem?_eq_none (by simpa [Ix.b4Z] using h)]; simp
theorem a9g q : (Ix.a1p q).subs.length ≤ 3 ∧ lT (Ix.a1p q).subs ≤ 51 ∧ (Ix.a1p q).ind.length ≤ 2 := by
  by_cases h : Ix.isC (Ix.a8L q.x0)
  · rw [b4R h]; exact ⟨by simp, by simp [lT], by simp⟩
  rw [b5d h]
  refine ⟨by dsimp only; rw [a2O]; omega, ?_, b4e _⟩
  dsimp only
  have hn : ∀ n, lT (wE q n) ≤ n * 17 := by
    intro n
    induction n with
    | zero => simp [lT, wE]
    | succ n ih =>
      rw [NS]
      unfold lT at ih ⊢
      rw [List.map_append, List.sum_append]
      have h1 : (Ix.a8V q n).text.length ≤ 17 := Ix.b1x _
      simp only [List.map_cons, List.map_nil, List.sum_cons, List.sum_nil]; omega
  have := hn (1 + (q.x2 % 3).toNat)
  omega
theorem a4B {l fs} (h : Ke.nrm fs = Ix.YU l) : yE fs := by
  have hl : fs.length ≤ 20 := by
    rw [← b5v, h]
    unfold Ix.YU
    rw [List.length_map, List.length_take]; omega
  refine ⟨by omega, fun f hf => ?_⟩
  have h1 : Ke.a7Z f ∈ Ix.YU l := by rw [← h]; exact List.mem_map_of_mem hf
  obtain ⟨q, _, he⟩ := List.mem_map.1 h1
  have h2 := a9g q
  rw [he] at h2
  exact ⟨by have : f.subs.length ≤ 3 := h2.1; omega, by have : lT f.subs ≤ 51 := h2.2.1; omega, by have : f.ind.length ≤ 2 := h2.2.2; omega⟩
theorem a8D {α : Type} (A S Z : List α) : (S ++ (A ++ Z)).Perm (A ++ (S ++ Z)) := by
  rw [← List.append_assoc, ← List.append_assoc]
  exact List.Perm.append_right Z List.perm_append_comm
def QB (N : Nat → Prop) (I : Heap) (fs : List Ke.tC) (v : Value) : Prop := sS N 108 nY I fs v ∧ ∀ f ∈ fs, sS N 176 uT I f.subs f.sv
theorem QB.imp {N M : Nat → Prop} {I fs v} (h : QB N I fs v) (hm : ∀ b, N b → M b) : QB M I fs v := ⟨h.1.imp hm, fun f hf => (h.2 f hf).imp hm⟩
theorem QB.rec {N : Nat → Prop} {I fs v} (h : QB N I fs v) : yJ I fs v := ⟨h.1.row, fun f hf => (h.2 f hf).row⟩
def yT (N : Nat → Prop) (I : Heap) (fs : List Ke.tC) : Prop := ∀ f ∈ fs, sS N 176 uT I f.subs f.sv
theorem yT.mono {N : Nat → Prop} {I I' fs} (h : yT N I fs) (hle : Le I I') : yT N I' fs := fun f hf => (h f hf).mono hle
theorem yT.nil {N : Nat → Prop} {I} : yT N I [] := fun _ h => by cases h
theorem yT.add {N : Nat → Prop} {I fs f} (h : yT N I fs) (h1 : sS N 176 uT I f.subs f.sv) : yT N I (fs ++ [f]) := fun x hx => by
  rcases List.mem_append.1 hx with g | g
  · exact h x g
  rw [List.mem_singleton.1 g]; exact h1
theorem II n m (hm : 0 < m) (hm2 : m ≤ 1000000000) I : Pure Tryz.prog 141 [i64 n, i64 m] I (i64 (n % m)) := by
 have h1 := Int.tmod_lt_of_pos n hm
 have h2 := Int.lt_tmod_of_pos n hm
 refine jT func141 fun w0 hw0 => ?_
 refine jL 14 ?_
 refine J.ev 11 (i64 (n % m)) rfl (congrArg i64 (mod_eq n hm)) ?_
 refine jW ?_
 exact ⟨rfl, rfl, rfl⟩
theorem b5f n I : Pure Tryz.prog 139 [i64 n] I (str (Ix.a8L n)) := by
 refine jO.toPure ?_
 refine jT func139 fun w0 hw0 => ?_
 refine jL 8 ?_
 intro b1 hb1
 refine kC (II n 20 (by decide) (by decide) _) ?_
 refine kG ((n % 20).toNat) ?_
 refine J.z (jP rfl rfl lN (jV.at 0 rfl) (a1f (l := Ix.ZE) (by omega) (by simp [Ix.ZE]; omega))) ?_
 refine kF ?_
 exact ⟨rfl, rfl⟩
theorem a5g n I : Pure Tryz.prog 140 [i64 n] I (str (Ix.a0h n)) := by
 refine jO.toPure ?_
 refine jT func140 fun w0 hw0 => ?_
 refine jL 8 ?_
 intro b1 hb1
 refine kC (II n 20 (by decide) (by decide) _) ?_
 refine kG ((n % 20).toNat) ?_
 refine J.z (jP rfl rfl lN (jV.at 0 rfl) (a1f (l := Ix.RX) (by omega) (by simp [Ix.RX]; omega))) ?_
 refine kF ?_
 exact ⟨rfl, rfl⟩
theorem EO {α : Type} {l : List α} {k} (hk : k ≤ l.length) (h : k ≤ 20 ∧ (l.length ≤ k ∨ 20 ≤ k)) : l.take k = l.take 20 := by
  rcases h.2 with g | g
  · rw [List.take_of_length_le g, List.take_of_length_le (by omega)]
  rw [show k = 20 by omega]
theorem b1a l v (hok : ∀ q ∈ l, BM q) I (hv0 : jU xX I l v) : jO Tryz.prog 87 [v] I [] (fun e I' H' => ∃ fs w, e = .returned (a0Z 97 109 w) ∧ QB (I · = none) I' fs w ∧ Ke.nrm fs = Ix.YU l ∧ H' = []) := by
 obtain ⟨p, c, rfl, hc, -⟩ := id hv0
 refine jT func87 fun w0 hw0 => ?_
 refine jL 3 ?_
 intro b1 hb1
 refine J.wY (J.z (jX (pl := #[(0, 1), (1, 1), (2, 1)]) rfl rfl zeroValue57 rfl underlying57 (fun w => by simp [ZY, sizeOf55]) (pU.part rfl rfl rfl (nV.c nV.z) (pU.part rfl rfl rfl (nV.s (nV.c nV.z)) pU.none))) ?_)
 refine J.op rfl (vJ rfl rfl rfl zeroValue57 rfl ?_)
 intro b2 hb2
 refine J.op rfl (q5 0 yN (nV.c (nV.c (nV.c nV.z))) lF.z ?_)
 refine J.a9j (Cj.region (J.as ?_))
 refine J.ns (Cj.block ?_)
 refine Cj.loop (ι := Nat × Heap × List Ke.tC × Gs) (fun y => y.1 ≤ l.length ∧ y.1 ≤ 20 ∧ Le I y.2.1 ∧ yT (w0.heap.size ≤ ·) y.2.1 y.2.2.1 ∧ Ke.nrm y.2.2.1 = (l.take y.1).map Ix.a1p ∧ y.2.2.1.length = y.1 ∧ kZ w0.heap.size 4 y.2.2.1.length (y.2.2.1.flatMap nY) y.2.2.2) (fun y => 20 - y.1) (fun y => [(0, .slice p l.length c), (2, ptr b1 0), (3, ptr b2 0), (4, i64 (y.1 : Int))]) (fun y => y.2.1) (fun y => (b2, jM 57 [u8 97, u8 109, gV y.2.2.1.length y.2.2.2]) :: (b1, jM 57 [u8 0, u8 0, .slice none 0 0]) :: gH 108 (y.2.2.1.flatMap nY) y.2.2.2) (0, _, [], none) ⟨Nat.zero_le _, Nat.zero_le _, Le.refl _, yT.nil, rfl, rfl, rfl, rfl⟩ ⟨rfl, rfl, rfl, rfl, trivial⟩ rfl rfl ?_
 rintro ⟨k, Jh, fs, g⟩ ⟨hk, hk20, hIJ, hS, hN, hfl, hg⟩
 dsimp only at hk hk20 hIJ hS hN hfl hg ⊢
 have hv := hv0.mono hIJ
 refine mP (fun hg3 hg3p => ?_) (fun hg3 hg3p => ?_)
 ·refine jR (fun hc4 hc4p => ?_) (fun hc4 hc4p => ?_)
  ·refine jL 5 ?_
   have hlt : k < l.length := by omega
   have hlt2 : k < 20 := by omega
   obtain ⟨q, hget⟩ : ∃ x, l[k]? = some x := ⟨_, kV hlt⟩
   have hq := hok q (lV hget)
   obtain ⟨p1, c1, hpe, hc1, hp⟩ := id hv
   cases hpe
   obtain ⟨lb, lo, lcs, lty, lfr, sp, rfl, hlb, hld⟩ := hp (jS hlt)
   have htl := b3h q.x0
   refine kG (lo + k * 4) ?_
   refine J.z (q3 isAgg215 sizeOf215 (jV.BU hlb) (kQ b0n hld hget)) ?_
   refine jL 1 ?_
   intro b5 hb5
   refine kC (b5f q.x0 _) ?_
   refine J.z (jX (pl := #[(0, 1), (1, 1), (2, 1), (3, 1)]) rfl rfl PG rfl underlying108 (fun w => by simp [sizeOf106, kY]) (pU.part rfl rfl rfl (nV.c nV.z) pU.none)) ?_
   refine J.op rfl (vJ rfl rfl rfl PG rfl ?_)
   intro b6 hb6
   refine J.op rfl (q5 0 DW (nV.c (nV.c (nV.c (nV.c nV.z)))) lF.z ?_)
   refine J.ns ?_
   refine Cj.join (ι := Unit) (fun _ => ¬ Ix.isC (Ix.a8L q.x0)) (fun _ => [(0, .slice (some ⟨lb, lo, none⟩) l.length c), (2, ptr b1 0), (3, ptr b2 0), (4, i64 (k : Int)), (5, ptr b5 0), (6, ptr b6 0)]) (fun _ => Jh) (fun _ => (b6, jM 108 [str (Ix.a8L q.x0), str [], str [], .slice none 0 0]) :: (b5, jM 215 (xX q)) :: (b2, jM 57 [u8 97, u8 109, gV fs.length g]) :: (b1, jM 57 [u8 0, u8 0, .slice none 0 0]) :: gH 108 (fs.flatMap nY) g) ?_ (fun hcut => ?_)
   ·rintro _ hC
    refine jL 3 ?_
    intro b7 hb7
    refine kC (II q.x1 8 (by decide) (by decide) _) ?_
    refine kG ((q.x1 % 8).toNat) ?_
    refine J.z (jP rfl rfl lN (jV.at 0 rfl) (a1f (l := Ix.b4Z) (by omega) (by simp [Ix.b4Z]; omega))) ?_
    refine jL 5 ?_
    obtain ⟨nn, hnn⟩ : ∃ nn : Nat, nn = 1 + (q.x2 % 3).toNat := ⟨_, rfl⟩
    have hn3 : nn ≤ 3 := by omega
    refine kC (II q.x2 3 (by decide) (by decide) _) ?_
    refine jL 1 ?_
    refine J.ev 58 (i64 (nn : Int)) rfl (congrArg i64 (by omega)) ?_
    refine jL 5 ?_
    refine Cj.keep (Keeps.d Keeps.r) ?_
    refine jL 5 ?_
    refine Cj.keep (Keeps.k (Keeps.k (Keeps.k (Keeps.k Keeps.r)))) ?_
    refine Cj.loop (ι := Nat × Gs) (fun y => y.1 ≤ nn ∧ kZ w0.heap.size 2 (wE q y.1).length ((wE q y.1).flatMap uT) y.2) (fun y => nn - y.1) (fun y => [(0, .slice (some ⟨lb, lo, none⟩) l.length c), (2, ptr b1 0), (3, ptr b2 0), (4, i64 (k : Int)), (5, ptr b5 0), (6, ptr b6 0), (7, i64 (nn : Int)), (8, i64 (y.1 : Int))]) (fun y => _) (fun y => (b6, jM 108 [str (Ix.a8L q.x0), str (Ix.b4Z.getD (q.x1 % 8).toNat []), str [], gV (wE q y.1).length y.2]) :: (b5, jM 215 (xX q)) :: (b2, jM 57 [u8 97, u8 109, gV fs.length g]) :: (b1, jM 57 [u8 0, u8 0, .slice none 0 0]) :: (gH 176 ((wE q y.1).flatMap uT) y.2 ++ gH 108 (fs.flatMap nY) g)) (0, none) ⟨Nat.zero_le _, rfl, rfl⟩ ⟨rfl, rfl, rfl, rfl, rfl, rfl, rfl, rfl, trivial⟩ rfl rfl ?_
    rintro ⟨j, g2⟩ ⟨hj, hgs⟩
    dsimp only at hj hgs ⊢
    have hsl := a2O q j
    refine jR (fun hc8 hc8p => ?_) (fun hc8 hc8p => ?_)
    ·refine jL 4 ?_
     refine Cj.qJ [0, 1, 2, 3] [] 24 (by kernel_rfl) ?_
     have hlb_15 := hlb
     refine jL 4 ?_
     refine JA.zt 4 rfl (SV rfl rfl rfl (by decide) (tV (by have h := b0G hq.h2 3 (by decide); omega))) ?_
     refine jL 7 ?_
     refine JA.zt 18 rfl (b6F rfl rfl rfl) ?_
     refine kC (II q.x1 3 (by decide) (by decide) _) ?_
     refine jL 2 ?_
     refine JA.zt 10 rfl (EG rfl rfl rfl (tV (by have h := a2u (j := j) (m := q.x1 % 3) (by omega) (by omega) (by omega); omega))) ?_
     refine JA.zt 11 rfl (AZ rfl rfl rfl (tV (by have h := b0G hq.h2 3 (by decide); have h2 := a2u (j := j) (m := q.x1 % 3) (by omega) (by omega) (by omega); omega))) ?_
     refine kC (II (q.x2.tdiv 3 + (j : Int) * (1 + q.x1 % 3)) 8 (by decide) (by decide) _) ?_
     refine jL 1 ?_
     refine JA.zt 13 rfl (lD rfl rfl rfl lJ (by omega) (b2E (l := Ix.a4J) (by omega) (by simp [Ix.a4J]; omega))) ?_
     refine kC (a5g _ _) ?_
     refine ⟨⟨(Le.refl _), (HSub.c 0 rfl (HSub.c 1 rfl (HSub.c 2 rfl (HSub.c 3 rfl HSub.n)))), CSub.n⟩, ?_⟩
     refine JA.fix lG (fun fx12 => ?_)
     refine JA.tk 20 rfl fx12 (jX (pl := #[(0, 1), (1, 1)]) rfl rfl VH rfl NT (fun w => by simp [ZY, kY]) (pU.part rfl rfl rfl (nV.c nV.z) (pU.part rfl rfl rfl (nV.s (nV.c nV.z)) pU.none))) ?_
     refine q0 21 rfl (q6 KT KX VH (xG.agg rfl xG.none) ?_)
     intro b13 hb13
     refine ⟨⟨(Le.refl _), (HSub.c 1 rfl (HSub.c 2 rfl (HSub.c 3 rfl (HSub.c 4 rfl HSub.n)))), CSub.n⟩, ?_⟩
     refine JA.perm (H' := [_, _, _, _, _] ++ (gH _ _ _ ++ gH _ _ _)) (a1C [_, _, _, _, _] _ _) ?_
     refine q0 22 rfl (kK (by' := 23) ([_, _, _, _, _] ++ gH _ _ _) rfl rfl rfl rfl rfl KT (.inr ⟨_, KT⟩) (by kernel_rfl) KX VH rfl hgs rfl (Src.slice (jV.at 0 rfl) rfl rfl rfl) (by omega) ?_)
     intro g14 hg14
     refine jL 2 ?_
     refine JA.last 24 (by kernel_rfl) rfl rfl rfl (nS 1 rfl rfl rfl rfl (OQ _ _) (a4X _ _) sizeOf106 rfl rfl (nV.s (nV.s (nV.s (nV.c nV.z)))) (lF.s lF.z) ?_)
     refine jL 8 ?_
     refine Ej.perm (a1C [_, _, _, _, _] (gH _ _ _) (gH _ _ _)) ?_
     refine Ej.keep (Keeps.d (Keeps.k (Keeps.k (Keeps.k (Keeps.k Keeps.r))))) ?_
     refine Ej.round (j + 1, g14) ⟨by dsimp only; omega, by dsimp only; rw [NS, List.length_append, List.flatMap_append]; exact hg14⟩ (by dsimp only; omega) ⟨rfl, rfl, rfl, rfl, rfl, rfl, rfl, rfl, trivial⟩ rfl (by dsimp only; rw [NS, List.length_append, List.flatMap_append]; rfl)
    refine jL 5 ?_
    have hjn : j = nn := by omega
    subst hjn
    refine Cj.perm (a8D [_, _, _, _] (gH _ _ _) (gH _ _ _)) ?_
    refine Cj.a3m qO (by decide) hgs rfl (fun I8 hle8 hss => ?_)
    have hIJ := hIJ.mono hle8
    have hS := hS.mono hle8
    have hv := hv.mono hle8
    have hlb := hle8 _ _ hlb
    refine jL 5 ?_
    intro b16 hb16
    refine J.op rfl (kK (by' := 71) [_, _, _, _, _] rfl rfl rfl rfl rfl a7X (.inr ⟨_, a7X⟩) (by kernel_rfl) DW PG rfl hg rfl (Src.slice (jV.at 0 rfl) rfl rfl (by show [str (Ix.a8L q.x0), str (Ix.b4Z.getD (q.x1 % 8).toNat []), str [], gV _ _].all Value.oneCell' = true; simp only [List.all_cons, List.all_nil, VF, Bool.and_true]; rfl)) (by omega) ?_)
    intro g17 hg17
    refine jL 10 ?_
    refine Ej.keep (Keeps.d (Keeps.d (Keeps.d (Keeps.k (Keeps.k Keeps.r))))) ?_
    refine Ej.round (k + 1, _, fs ++ [⟨Ix.a8L q.x0, Ix.b4Z.getD (q.x1 % 8).toNat [], [], gV (wE q j).length g2, wE q j⟩], g17) ⟨by dsimp only; omega, by dsimp only; omega, hIJ, yT.add hS hss, by dsimp only; rw [a6K, zV _ hget, hN, b5d hC, ← hnn]; rfl, by dsimp only; rw [List.length_append, hfl]; rfl, by dsimp only; rw [uP, List.length_append]; exact hg17⟩ (by dsimp only; omega) ⟨rfl, rfl, rfl, rfl, trivial⟩ rfl (by dsimp only; rw [uP, List.length_append]; rfl)
   refine mP (fun hg18 hg18p => ?_) (fun hg18 hg18p => ?_)
   ·refine jL 2 ?_
    refine J.zg (lM (p := 0) (q := 2) rfl rfl lJ rfl ⟨_, rfl⟩ (by omega) (by omega)) ?_
    refine jR (fun hc19 hc19p => ?_) (fun hc19 hc19p => ?_)
    ·have hC : Ix.isC (Ix.a8L q.x0) := ⟨by omega, by have h := lQ hc19; rw [List.drop_zero] at h; exact h⟩
     refine kC (a5g q.x3 _) ?_
     refine jL 10 ?_
     intro b20 hb20
     refine yR 71 [_, _, _, _, _] hg ?_
     intro g21 hg21
     refine jL 13 ?_
     refine Ej.keep (Keeps.d (Keeps.d (Keeps.d (Keeps.k (Keeps.k Keeps.r))))) ?_
     refine Ej.round (k + 1, _, fs ++ [⟨Ix.a8L q.x0, [], Ix.a0h q.x3, .slice none 0 0, []⟩], g21) ⟨by dsimp only; omega, by dsimp only; omega, hIJ, yT.add hS sS.nil, by dsimp only; rw [a6K, zV _ hget, hN, b4R hC]; rfl, by dsimp only; rw [List.length_append, hfl]; rfl, by dsimp only; rw [uP, List.length_append]; exact hg21⟩ (by dsimp only; omega) ⟨rfl, rfl, rfl, rfl, trivial⟩ rfl (by dsimp only; rw [uP, List.length_append]; rfl)
    have hC : ¬ Ix.isC (Ix.a8L q.x0) := fun g => lW hc19 (by rw [List.drop_zero]; exact g.2)
    refine jL 1 ?_
    exact hcut () _ _ _ hC ⟨rfl, rfl, rfl, rfl, rfl, rfl, trivial⟩ rfl rfl
   have hC : ¬ Ix.isC (Ix.a8L q.x0) := fun g => by have h := nD hg18; have := g.1; omega
   refine jL 9 ?_
   exact hcut () _ _ _ hC ⟨rfl, rfl, rfl, rfl, rfl, rfl, trivial⟩ rfl rfl
  refine jL 8 ?_
  refine J.op rfl (nS 1 rfl rfl rfl rfl rfl (by show [u8 97, u8 109, gV _ _].all Value.oneCell' = true; simp only [List.all_cons, List.all_nil, VF, Bool.and_true]; rfl) yN rfl rfl (nV.c (nV.c (nV.c nV.z))) (lF.s lF.z) ?_)
  refine jL 3 ?_
  have hmade : Ke.nrm fs = Ix.YU l := by rw [hN]; unfold Ix.YU; rw [EO hk (by omega)]
  refine Ej.perm (H' := gH _ _ _ ++ [_, _]) List.perm_append_comm ?_
  refine Ej.a3m QD (by decide) hg rfl (fun I9 hle9 hfs => ?_)
  refine Ej.a0G (Keeps.d (Keeps.d Keeps.n)) rfl rfl rfl (jV.at 1 rfl) isAgg57 yN rfl ?_
  exact ⟨fs, _, rfl, QB.imp ⟨hfs, fun f hf => ((hS f hf).mono hle9)⟩ (fun b hb => hw0.dom hb), hmade, rfl⟩
 refine jL 14 ?_
 refine J.op rfl (nS 1 rfl rfl rfl rfl rfl (by show [u8 97, u8 109, gV _ _].all Value.oneCell' = true; simp only [List.all_cons, List.all_nil, VF, Bool.and_true]; rfl) yN rfl rfl (nV.c (nV.c (nV.c nV.z))) (lF.s lF.z) ?_)
 refine jL 3 ?_
 have hmade : Ke.nrm fs = Ix.YU l := by rw [hN]; unfold Ix.YU; rw [EO hk (by omega)]
 refine Ej.perm (H' := gH _ _ _ ++ [_, _]) List.perm_append_comm ?_
 refine Ej.a3m QD (by decide) hg rfl (fun I9 hle9 hfs => ?_)
 refine Ej.a0G (Keeps.d (Keeps.d Keeps.n)) rfl rfl rfl (jV.at 1 rfl) isAgg57 yN rfl ?_
 exact ⟨fs, _, rfl, QB.imp ⟨hfs, fun f hf => ((hS f hf).mono hle9)⟩ (fun b hb => hw0.dom hb), hmade, rfl⟩
end Go.Proofs.YtekmeaoblpfnpaaGreatDoor
end
section
namespace Go.Proofs.YtekmeaoblpfnpaaGreatDoor
open _root_.Go.Proofs.Tryz
open Go Go.Sx
structure Act where
  a : Ix.qW
  v : Value
def a1c (x : Act) : List Value := [.bool x.a.drop, i64 x.a.src, i64 x.a.num, x.v]
theorem zT x : (a1c x).length = 4 := rfl
def OB (I : Heap) (xs : List Act) (v : Value) : Prop := jU a1c I xs v ∧ ∀ x ∈ xs, jU xX I x.a.fs x.v
theorem OB.mono {I I' xs v} (h : OB I xs v) (hle : Le I I') : OB I' xs v := ⟨h.1.mono hle, fun x hx => (h.2 x hx).mono hle⟩
def ZG (xs : List Act) : Prop := ∀ x ∈ xs, ∀ q ∈ x.a.fs, BM q
abbrev acts (xs : List Act) : List Ix.qW := xs.map (·.a)
theorem b4l {α : Type} (l : List α) : l.take (min l.length 8) = l.take 8 := by
  rcases Nat.le_total l.length 8 with h | h
  · rw [Nat.min_eq_left h, List.take_of_length_le h, List.take_of_length_le (Nat.le_refl _)]
  rw [Nat.min_eq_right h]
structure GK (I : Heap) (a : Ix.qW) (e : nM) : Prop where
  t : e.t = a.title
  r : yJ I e.fs e.v
  n : Ke.nrm e.fs = a.record
theorem GK.mono {I I' a e} (h : GK I a e) (hle : Le I I') : GK I' a e := ⟨h.t, h.r.mono hle, h.n⟩
structure a3N (N : Nat → Prop) (I : Heap) (a : Ix.qW) (e : nM) : Prop where
  t : e.t = a.title
  r : QB N I e.fs e.v
  n : Ke.nrm e.fs = a.record
theorem a3N.ent {N : Nat → Prop} {I a e} (h : a3N N I a e) : GK I a e := ⟨h.t, h.r.rec, h.n⟩
theorem GK.vals {I a e} (h : GK I a e) : Ix.vals e.fs = a.vs := by rw [← YE, h.n]; rfl
theorem GK.IV {I a e} (h : GK I a e) : yE e.fs := a4B h.n
theorem a9B x (hok : ∀ q ∈ x.a.fs, BM q) I (hv : jU xX I x.a.fs x.v) : jO Tryz.prog 42 [.agg (a1c x).toArray] I [] (fun ev I' H' => ∃ e, ev = .returned (.agg (oI e).toArray) ∧ a3N (I · = none) I' x.a e ∧ H' = []) := by
 obtain ⟨p, c, hxv⟩ := jU.len hv
 have hcap : x.a.fs.length ≤ c := by obtain ⟨p1, c1, h1, h2, _⟩ := hv; rw [hxv] at h1; cases h1; exact h2
 have hrow : jU xX I (x.a.fs.take 8) (.slice p (min x.a.fs.length 8) c) := by rw [← b4l]; rw [hxv] at hv; exact hv.take (Nat.min_le_left _ _)
 refine jT func42 fun w0 hw0 => ?_
 refine jL 3 ?_
 intro b1 hb1
 refine jL 1 ?_
 intro b2 hb2
 refine jL 3 ?_
 refine Cj.qJ [0, 1] [] 14 (by kernel_rfl) ?_
 refine JA.fix lG (fun fx3 => ?_)
 refine JA.tk 0 rfl fx3 (q2 (off' := 1) a8x oJ) ?_
 refine JA.tk 1 rfl fx3 (q4 IY (jV.atC 1 rfl)) ?_
 refine JA.tk 2 rfl fx3 (q2 (off' := 2) a8x oJ) ?_
 refine JA.tk 3 rfl fx3 (q4 IY (jV.atC 1 rfl)) ?_
 refine JA.tk 4 rfl fx3 (jX (pl := #[(0, 1), (1, 1)]) rfl rfl tK rfl a1v (fun w => by simp [oJ]) (pU.part rfl rfl rfl (nV.c nV.z) (pU.part rfl rfl rfl (nV.s (nV.c nV.z)) pU.none))) ?_
 refine JA.tk 5 rfl fx3 (q2 (off' := 3) a8x sizeOf91) ?_
 refine JA.tk 6 rfl fx3 (q4 isAgg91 (jV.atC 1 rfl)) ?_
 refine JA.eqv 9 rfl (show _ = .slice p x.a.fs.length c from hxv) ?_
 refine JA.tk 7 rfl fx3 (q2 (off' := 3) a8x sizeOf91) ?_
 refine JA.tk 8 rfl fx3 (q4 isAgg91 (jV.atC 1 rfl)) ?_
 refine JA.eqv 11 rfl (show _ = .slice p x.a.fs.length c from hxv) ?_
 refine JA.tk 9 rfl fx3 (sZ rfl rfl underlying91) ?_
 refine JA.tk 10 rfl fx3 (rX rfl rfl rfl) ?_
 refine JA.tk 11 rfl fx3 (qF (k := (min x.a.fs.length 8)) rfl rfl rfl underlying91 sizeOf215 (by split <;> omega) (by omega)) ?_
 refine q0 12 rfl (kU (H1 := []) rfl rfl rfl rfl rfl (b1a (x.a.fs.take 8) _ (fun q hq => hok q (List.mem_of_mem_take hq)) _ hrow) ?_ (fun _ _ _ _ ⟨_, _, h, _⟩ => by cases h) (fun _ _ ⟨_, _, h, _⟩ => by cases h))
 intro v4 I5 H6 hle7 hp8
 have hrow := hrow.mono hle7
 obtain ⟨fs, w, h, hrec, hmade, rfl⟩ := hp8; cases h
 obtain ⟨wp, wc, rfl⟩ := jU.len hrec.1.row
 refine ⟨⟨(Le.trans (Le.refl _) hle7), (HSub.c 0 rfl (HSub.c 1 rfl HSub.n)), CSub.n⟩, ?_⟩
 refine JA.fix lG (fun fx9 => ?_)
 refine JA.tk 13 rfl fx9 (jX (pl := #[(0, 2), (2, 3)]) rfl rfl LP rfl OE (fun w => by simp [kX, yN]) (pU.part rfl rfl rfl (nV.c (nV.c nV.z)) (pU.part rfl rfl rfl (nV.s (nV.s (nV.c (nV.c (nV.c nV.z))))) pU.none))) ?_
 refine JA.last 14 (by kernel_rfl) rfl rfl rfl (q5 0 vZ (nV.c (nV.c (nV.c (nV.c (nV.c nV.z))))) lF.z ?_)
 refine jL 3 ?_
 refine Ej.a0G (Keeps.d (Keeps.d Keeps.n)) rfl rfl rfl (jV.at 0 rfl) isAgg59 vZ rfl ?_
 exact ⟨⟨x.a.title, 97, 109, _, fs⟩, rfl, ⟨rfl, hrec, hmade⟩, rfl⟩
theorem JI x (hok : ∀ q ∈ x.a.fs, BM q) I (hv : jU xX I x.a.fs x.v) : jO Tryz.prog 42 [.agg (a1c x).toArray] I [] (fun ev I' H' => ∃ e, ev = .returned (.agg (oI e).toArray) ∧ GK I' x.a e ∧ H' = []) :=
  (a9B x hok I hv).mono fun _ _ _ _ ⟨e, h1, h2, h3⟩ => ⟨e, h1, h2.ent, h3⟩
theorem TI xs k : acts (xs.take k) = (acts xs).take k := List.map_take
theorem a5S xs v (hok : ZG xs) I (hA0 : OB I xs v) : jO Tryz.prog 51 [v] I [] (fun ev I' H' => ∃ rb es w, ev = .returned (ptr rb 0) ∧ nO I' es w ∧ es.map jQ = Ix.play (acts xs) ∧ (∀ e ∈ es, yE e.fs) ∧ es.length ≤ 20 ∧ H' = [(rb, jM 50 [w])]) := by
 obtain ⟨p, c, rfl⟩ := jU.len hA0.1
 refine jT func51 fun w0 hw0 => ?_
 refine jL 7 ?_
 refine J.z (jX (pl := #[(0, 1)]) rfl rfl zeroValue50 rfl underlying50 (fun w => by simp [sizeOf48]) pU.none) ?_
 refine jL 1 ?_
 intro b1 hb1
 refine jL 10 ?_
 refine Cj.loop (ι := Nat × Heap × List nM × Value) (fun y => y.1 ≤ xs.length ∧ y.1 ≤ 20 ∧ Le I y.2.1 ∧ nO y.2.1 y.2.2.1 y.2.2.2 ∧ y.2.2.1.map jQ = (acts (xs.take y.1)).foldl Ix.act [] ∧ (∀ e ∈ y.2.2.1, yE e.fs) ∧ y.2.2.1.length ≤ y.1) (fun y => 20 - y.1) (fun y => [(0, .slice p xs.length c), (3, ptr b1 0), (4, i64 (y.1 : Int))]) (fun y => y.2.1) (fun y => [(b1, jM 50 [y.2.2.2])]) (0, _, [], _) ⟨Nat.zero_le _, Nat.zero_le _, Le.refl _, nO.nil, rfl, fun e he => (by cases he), Nat.zero_le _⟩ ⟨rfl, rfl, rfl, trivial⟩ rfl rfl ?_
 rintro ⟨k, Jh, es, w⟩ ⟨hk, hk20, hIJ, hE, hL, hek, hel⟩
 dsimp only at hk hk20 hIJ hE hL hek hel ⊢
 have hA := hA0.mono hIJ
 refine mP (fun hg2 hg2p => ?_) (fun hg2 hg2p => ?_)
 ·refine jR (fun hc3 hc3p => ?_) (fun hc3 hc3p => ?_)
  ·refine jL 5 ?_
   have hIJ9 := hIJ
   have hlt : k < xs.length := by omega
   have hlt2 : k < 20 := by omega
   obtain ⟨x, hget⟩ : ∃ x, xs[k]? = some x := ⟨_, kV hlt⟩
   have hxm := lV hget
   obtain ⟨p1, c1, hpe, hc1, hp⟩ := id hA.1
   cases hpe
   obtain ⟨ab, ao, acs, aty, afr, asp, rfl, hab, had⟩ := hp (jS hlt)
   have hfv := hA.2 x hxm
   obtain ⟨vp, vc, hxv⟩ := jU.len hfv
   have hnx : acts (xs.take (k + 1)) = acts (xs.take k) ++ [x.a] := zV _ hget
   refine kG (ao + k * 4) ?_
   refine jL 1 ?_
   refine J.z (jP rfl rfl tA4 (jV.BU hab) (lK zT had hget 0 (by decide))) ?_
   refine mQ (fun hc4 => ?_) (fun hc4 => ?_)
   ·have hdr : x.a.drop = true := hc4
    refine kG (ao + k * 4) ?_
    refine J.z (q3 isAgg93 sizeOf93 (jV.BU hab) (kQ zT had hget)) ?_
    refine kH (JI x (hok x hxm) _ hfv) ?_
    intro v5 I6 H7 hle8 hp9
    have hIJ := hIJ.mono hle8
    have hA := hA.mono hle8
    have hE := hE.mono hle8
    have hab := hle8 _ _ hab
    have hfv := hfv.mono hle8
    obtain ⟨e0, h, he0, rfl⟩ := hp9; cases h
    refine J.z (a2E (v := jZ e0.t) rfl rfl (fun _ => by kernel_rfl)) ?_
    refine J.pull Pull.z ?_
    refine kH (a4v b1 w es e0.t (by omega) _ hE) ?_
    intro v10 I11 H12 hle13 hp14
    have hIJ := hIJ.mono hle13
    have hA := hA.mono hle13
    have hE := hE.mono hle13
    have hab := hle13 _ _ hab
    have hfv := hfv.mono hle13
    have he0 := he0.mono hle13
    obtain ⟨w1, h, hE1, rfl⟩ := hp14; cases h
    refine jL 8 ?_
    refine Ej.round (k + 1, _, rD es e0.t, _) ⟨by dsimp only; omega, by dsimp only; omega, hIJ, hE1, by dsimp only; rw [hnx, List.foldl_append, NZ _ _ (hL ▸ Ix.XZ _ List.Pairwise.nil), hL, he0.t]; exact (if_pos (show x.a.drop = true from hdr)).symm, fun e he => hek e (QX he), by dsimp only; have := a2d es e0.t; omega⟩ (by dsimp only; omega) ⟨rfl, rfl, rfl, trivial⟩ rfl rfl
   have hdr : x.a.drop = false := hc4
   refine kG (ao + k * 4) ?_
   refine J.z (q3 isAgg93 sizeOf93 (jV.BU hab) (kQ zT had hget)) ?_
   refine kH (JI x (hok x hxm) _ hfv) ?_
   intro v15 I16 H17 hle18 hp19
   have hIJ := hIJ.mono hle18
   have hA := hA.mono hle18
   have hE := hE.mono hle18
   have hab := hle18 _ _ hab
   have hfv := hfv.mono hle18
   obtain ⟨e0, h, he0, rfl⟩ := hp19; cases h
   refine J.pull Pull.z ?_
   refine kH (b5u b1 w es e0 (by omega) _ hE he0.r) ?_
   intro v20 I21 H22 hle23 hp24
   have hIJ := hIJ.mono hle23
   have hA := hA.mono hle23
   have hE := hE.mono hle23
   have hab := hle23 _ _ hab
   have hfv := hfv.mono hle23
   have he0 := he0.mono hle23
   obtain ⟨w1, h, hE1, rfl⟩ := hp24; cases h
   refine jL 8 ?_
   refine Ej.round (k + 1, _, yH es e0, _) ⟨by dsimp only; omega, by dsimp only; omega, hIJ, hE1, by dsimp only; rw [hnx, List.foldl_append, a4F e0 es, hL, he0.t, he0.vals]; exact (if_neg (fun g => Bool.noConfusion (g.symm.trans hdr))).symm, fun e he => (a4o he).elim (fun g => by rw [g]; exact he0.IV) (hek e), by dsimp only; have := b2P es e0; omega⟩ (by dsimp only; omega) ⟨rfl, rfl, rfl, trivial⟩ rfl rfl
  refine jL 12 ?_
  have htk : (acts (xs.take k)).foldl Ix.act [] = Ix.play (acts xs) := by rw [EO hk (by omega), TI]; rfl
  refine jW ?_
  exact ⟨_, es, _, rfl, hE, hL.trans htk, hek, by omega, rfl⟩
 refine jL 18 ?_
 have htk : (acts (xs.take k)).foldl Ix.act [] = Ix.play (acts xs) := by rw [EO hk (by omega), TI]; rfl
 refine jW ?_
 exact ⟨_, es, _, rfl, hE, hL.trans htk, hek, by omega, rfl⟩
end Go.Proofs.YtekmeaoblpfnpaaGreatDoor
end
namespace Ke
def closed (c : Nat) : Prop := (97 ≤ c ∧ c ≤ 122) ∨ (48 ≤ c ∧ c ≤ 57) ∨ ((945 ≤ c ∧ c ≤ 969) ∧ c ≠ 962) ∨ (1072 ≤ c ∧ c ≤ 1103)
instance (c:Nat):Decidable (closed c):=by unfold closed;infer_instance
theorem BL {c} (h : closed c) : wK c := by unfold closed at h; unfold wK; omega
theorem b1V {c} (h : 945 ≤ c ∧ c ≤ 969) : tab.lookup c = none := by
  have h1 : ∀ k < 25, tab.lookup (945 + k) = none := by decide +kernel
  have := h1 (c - 945) (by omega)
  rwa [show 945 + (c - 945) = c by omega] at this
theorem b6k {c} (h : 1072 ≤ c ∧ c ≤ 1103) : tab.lookup c = none := by
  have h1 : ∀ k < 32, tab.lookup (1072 + k) = none := by decide +kernel
  have := h1 (c - 1072) (by omega)
  rwa [show 1072 + (c - 1072) = c by omega] at this
theorem a5V {c} (h : closed c) : char c = enc c := by
  unfold char
  unfold closed at h
  by_cases h1 : (97 ≤ c ∧ c ≤ 122) ∨ (48 ≤ c ∧ c ≤ 57)
  · rw [if_pos h1]
  have h2 : ((945 ≤ c ∧ c ≤ 969) ∧ c ≠ 962) ∨ (1072 ≤ c ∧ c ≤ 1103) := by omega
  rw [if_neg h1, if_neg (by omega), if_neg (by omega), if_neg (by omega)]
  have h3 : tab.lookup c = none := by
    rcases h2 with h2 | h2
    · exact b1V h2.1
    exact b6k h2
  rw [h3]
  simp only
  rw [if_neg (by omega), if_pos (by omega)]
theorem a4T {c} (h : closed c) : enc c ≠ [32] := by
  intro he
  have h1 := a1U (BL h)
  rw [he] at h1
  have h2 : runes [32] = [32] := by kernel_rfl
  rw [h2] at h1
  have : c = 32 := (List.cons.inj h1).1.symm
  unfold closed at h; omega
def b1L (s : Bs) : Bool := decide (encs (runes s) = s) && (runes s).all fun c => decide (closed c)
theorem b6B : tab.all (fun p => b1L p.2) = true := by decide +kernel
theorem a0g : ∀ {l : List (Nat × Bs)} {c : Nat} {s : Bs}, l.lookup c = some s → (c, s) ∈ l
  | [], _, _, h => by cases h
  | (a, b) :: r, c, s, h => by
    rw [List.lookup_cons] at h
    split at h
    · rename_i he
      have := eq_of_beq he
      subst this; cases h; exact .head _
    exact .tail _ (a0g h)
theorem b3W c : char c = [32] ∨ ∃ l, char c = encs l ∧ ∀ d ∈ l, closed d := by
  have one : ∀ d, closed d → ∃ l, enc d = encs l ∧ ∀ x ∈ l, closed x := fun d hd => ⟨[d], by simp [encs], fun x hx => by simp at hx; subst hx; exact hd⟩
  unfold char
  split
  · rename_i h; exact .inr (one c (by unfold closed; omega))
  split
  · exact .inr (one (c + 32) (by unfold closed; omega))
  split
  · exact .inl rfl
  split
  · exact .inr ⟨[], rfl, fun _ h => by cases h⟩
  split
  · rename_i s hs
    have h1 := List.all_eq_true.1 b6B _ (a0g hs)
    simp only [b1L, Bool.and_eq_true, decide_eq_true_eq] at h1
    exact .inr ⟨runes s, h1.1.symm, fun d hd => of_decide_eq_true (List.all_eq_true.1 h1.2 d hd)⟩
  split
  · exact .inr (one 963 (by decide))
  split
  · exact .inr (one c (by unfold closed; omega))
  split
  · exact .inr (one (c + 32) (by unfold closed; omega))
  exact .inl rfl
def qR (w : Bs) : Prop := ∃ l, w = encs l ∧ ∀ d ∈ l, closed d
theorem b4x a b : encs (a ++ b) = encs a ++ encs b := by simp [encs]
theorem ZM {a b} (ha : qR a) (hb : qR b) : qR (a ++ b) := by
  obtain ⟨l, rfl, h1⟩ := ha
  obtain ⟨m, rfl, h2⟩ := hb
  exact ⟨l ++ m, (b4x l m).symm, fun d hd => (List.mem_append.1 hd).elim (h1 d) (h2 d)⟩
theorem KA : ∀ (l : List Nat) (w : Bs), qR w → ∀ x ∈ wf w l, qR x
  | [], w, hw, x, h => by
    unfold wf at h
    split at h
    · cases h
    simp at h; subst h; exact hw
  | c :: r, w, hw, x, h => by
    have h0 : qR [] := ⟨[], rfl, fun _ h => by cases h⟩
    unfold wf at h
    split at h
    · split at h
      · exact KA r [] h0 x h
      rcases List.mem_cons.1 h with rfl | h
      · exact hw
      exact KA r [] h0 x h
    rename_i hne
    rcases b3W c with he | he
    · exact absurd he hne
    exact KA r _ (ZM hw he) x h
theorem IZ s : ∀ x ∈ words s, qR x := KA _ _ ⟨[], rfl, fun _ h => by cases h⟩
theorem a2A : ∀ (l : List Nat) (w : Bs) (r : List Nat), (∀ d ∈ l, closed d) → wf w (l ++ r) = wf (w ++ encs l) r
  | [], w, r, _ => by simp [encs]
  | c :: l, w, r, h => by
    have hc := h c (.head _)
    show (if char c = [32] then _ else wf (w ++ char c) (l ++ r)) = _
    rw [a5V hc, if_neg (a4T hc), a2A l _ r fun d hd => h d (.tail _ hd)]
    simp [encs]
theorem a8t {w} (h : qR w) : ∃ l, w = encs l ∧ runes w = l ∧ ∀ d ∈ l, closed d := by
  obtain ⟨l, rfl, h1⟩ := h
  exact ⟨l, rfl, ZF l fun c hc => BL (h1 c hc), h1⟩
theorem NP {w} (h : qR w) (hne : w ≠ []) : words w = [w] := by
  obtain ⟨l, rfl, h2, h3⟩ := a8t h
  unfold words
  rw [h2]
  have := a2A l [] [] h3
  rw [List.append_nil] at this
  rw [this, List.nil_append]
  unfold wf
  rw [if_neg hne]
theorem YW {c} (hc : char c = [32]) : ∀ (l : List Nat) (w : Bs) (r : List Nat), wf w (l ++ c :: r) = wf w l ++ wf [] r
  | [], w, r => by
    simp only [List.nil_append, wf, hc, if_true]
    split <;> simp
  | d :: l, w, r => by
    simp only [List.cons_append, wf]
    split
    · split
      · exact YW hc l [] r
      rw [YW hc l [] r, List.cons_append]
    exact YW hc l _ r
theorem a9l : char 32 = [32] := by decide
theorem b1h c s t (hc : c.toNat < 128) (hb : char c.toNat = [32]) : words (s ++ c :: t) = words s ++ words t := by grind [words, a1L, BG, a6i, YW]
theorem YM : ∀ (l : List Bs), (∀ w ∈ l, qR w ∧ w ≠ []) → words (join l) = l
  | [], _ => rfl
  | [a], h => NP (h a (.head _)).1 (h a (.head _)).2
  | a :: b :: r, h => by
    show words (a ++ [32] ++ join (b :: r)) = _
    rw [List.append_assoc, List.singleton_append, b1h 32 a _ (by decide) a9l, NP (h a (.head _)).1 (h a (.head _)).2, YM (b :: r) fun w hw => h w (.tail _ hw)]
    rfl
theorem a2B {s w} (h : w ∈ words s) : w ≠ [] ∧ words w = [w] :=
  ⟨CV _ _ w h, NP (IZ s w h) (CV _ _ w h)⟩
end Ke
namespace Ke
theorem ofNat_toNat {k} (h : k < 256) : (UInt8.ofNat k).toNat = k := by simp; omega
theorem a3Q {w} (h : digits w = true) : qR w := by
  induction w with
  | nil => exact ⟨[], rfl, fun _ h => by cases h⟩
  | cons c r ih =>
    rw [WM, Bool.and_eq_true] at h
    have hc := EJ.1 h.1
    have h1 : qR [c] := ⟨[c.toNat], by
      have : enc c.toNat = [c] := by rw [enc1 (by omega)]; simp
      simp [encs, this], fun d hd => by simp at hd; subst hd; unfold closed; omega⟩
    exact ZM h1 (ih h.2)
end Ke
namespace Ke
def plainW (w : Bs) : Bs := if digits w then w.drop 2 else w
def UD (k : Bs) : Bs := join ((words k).map plainW)
theorem a5F {w} (h : digits w = true) : digits (strip w) = true := by
  unfold strip
  rw [OU, Bool.and_eq_true]
  refine ⟨List.all_eq_true.2 fun c hc => List.all_eq_true.1 h c ?_, List.all_eq_true.2 fun c hc => List.all_eq_true.1 h c (List.mem_of_mem_drop hc)⟩
  exact (List.dropLast_sublist _).subset ((List.dropWhile_sublist _).subset hc)
theorem a3c {w} (h : digits w = true) : digits (number w) = true := by
  unfold number
  show digits ([_, _] ++ strip w) = true
  rw [OU, a5F h, Bool.and_true]
  have hd : ∀ n, n < 10 → digit (UInt8.ofNat (48 + n)) = true := by decide
  simp only [digits, List.all_cons, List.all_nil, Bool.and_true, Bool.and_eq_true]
  exact ⟨hd _ (by omega), hd _ (by omega)⟩
theorem JV {w} (h : qR w) (hne : w ≠ []) : qR (pX w) ∧ pX w ≠ [] := by grind [pX, number, a3Q, a3c]
theorem TG s skip : words (nT s skip) = (words (cut s skip)).map pX := by
  unfold nT
  refine YM _ fun x hx => ?_
  obtain ⟨w, hm, rfl⟩ := List.mem_map.1 hx
  exact JV (IZ _ w hm) (a2B hm).1
end Ke
namespace Ke
open Go.Lib (decodeL fieldsGoD fieldsD isSpaceR fieldsGoD_nil)
theorem b0a {c} (h : closed c) : isSpaceR c = false := by
  unfold closed at h
  unfold isSpaceR
  simp only [Bool.or_eq_false_iff, Bool.and_eq_false_iff, decide_eq_false_iff_not, beq_eq_false_iff_ne]
  omega
theorem XM : ∀ (l : List Nat) (cur t : Bs) (f : Nat), (∀ d ∈ l, closed d) → opens t → (encs l ++ t).length < f → ∃ g, t.length < g ∧ fieldsGoD f cur (encs l ++ t) = fieldsGoD g (cur ++ encs l) t
  | [], cur, t, f, _, _, hf => ⟨f, hf, by simp [encs]⟩
  | c :: l, cur, t, 0, _, _, hf => absurd hf (Nat.not_lt_zero _)
  | c :: l, cur, t, f + 1, h, ht, hf => by
    have hc := h c (.head _)
    have ho := KQ (BL hc)
    have e : encs (c :: l) ++ t = enc c ++ (encs l ++ t) := by simp [encs]
    have ht2 : opens (encs l ++ t) := a9b (a0x l fun d hd => BL (h d (.tail _ hd))) ht
    have hp : 0 < (enc c).length := List.length_pos_iff.2 ho.2
    rw [e, List.length_append] at hf
    obtain ⟨g, hg, he⟩ := XM l (cur ++ enc c) t f (fun d hd => h d (.tail _ hd)) ht (by omega)
    refine ⟨g, hg, ?_⟩
    rw [e]
    conv => lhs; unfold fieldsGoD
    rw [if_neg (by intro h0; exact ho.2 (List.append_eq_nil_iff.1 h0).1), WI _ _ ho.2 ht2, VY (BL hc)]
    dsimp only
    rw [b0a hc, if_neg Bool.false_ne_true, List.take_left, List.drop_left, he]
    simp [encs]
theorem a5e : ∀ (ws : List Bs) (f : Nat), (∀ w ∈ ws, qR w ∧ w ≠ []) → (join ws).length < f → fieldsGoD f [] (join ws) = ws
  | [], f, _, _ => by rw [show join [] = [] from rfl, fieldsGoD_nil, if_pos rfl]
  | [a], f, h, hf => by
    obtain ⟨⟨l, rfl, hl⟩, hne⟩ := h a (.head _)
    show fieldsGoD f [] (encs l) = _
    have hf2 : (encs l ++ []).length < f := by rw [List.append_nil]; exact hf
    obtain ⟨g, _, he⟩ := XM l [] [] f hl a1V hf2
    rw [List.append_nil, List.nil_append] at he
    rw [he, fieldsGoD_nil, if_neg hne]
  | a :: b :: r, f, h, hf => by
    obtain ⟨⟨l, rfl, hl⟩, hne⟩ := h a (.head _)
    have e : join (encs l :: b :: r) = encs l ++ (32 :: join (b :: r)) := by
      show encs l ++ [32] ++ join (b :: r) = _
      rw [List.append_assoc, List.singleton_append]
    rw [e] at hf ⊢
    obtain ⟨g, hg, he⟩ := XM l [] (32 :: join (b :: r)) f hl (BG (by decide)) hf
    rw [he, List.nil_append]
    match g, hg with
    | g + 1, hg =>
      rw [List.length_cons] at hg
      have hd : decodeL (32 :: join (b :: r)) = (32, 1) := Go.Lib.decodeL_ascii 32 _ (by decide)
      conv => lhs; unfold fieldsGoD
      rw [if_neg (by simp), hd]
      dsimp only
      rw [show isSpaceR 32 = true from rfl, if_pos rfl, if_neg hne, List.drop_one, List.tail_cons, a5e (b :: r) g (fun w hw => h w (.tail _ hw)) (by omega)]
      rfl
theorem a6v ws (h : ∀ w ∈ ws, qR w ∧ w ≠ []) : fieldsD (join ws) = ws := a5e ws _ h (by omega)
theorem a9a s skip : fieldsD (nT s skip) = words (nT s skip) := by
  rw [TG]
  unfold nT
  refine a6v _ fun x hx => ?_
  obtain ⟨w, hm, rfl⟩ := List.mem_map.1 hx
  exact JV (IZ _ w hm) (a2B hm).1
theorem WE f (hf : ∀ w, (f w).length ≤ w.length) : ∀ ws : List Bs, (join (ws.map f)).length ≤ (join ws).length
  | [] => Nat.le_refl _
  | [a] => hf a
  | a :: b :: r => by
    have h1 := hf a
    have h2 := WE f hf (b :: r)
    show (f a ++ [32] ++ join ((b :: r).map f)).length ≤ (a ++ [32] ++ join (b :: r)).length
    simp only [List.length_append, List.length_singleton]
    omega
theorem a9q w : (plainW w).length ≤ w.length := by grind [plainW, List.length_drop]
def a1n (k : Bs) : Prop := k.length ≤ 40000000 ∧ fieldsD k = words k ∧ (UD k).length ≤ 40000000 ∧ (join (words k)).length ≤ 40000000
theorem b6U {s skip} (h : s.length ≤ 4000000) : a1n (nT s skip) := by
  have hc : (cut s skip).length ≤ s.length := by unfold cut; rw [List.length_drop]; omega
  have h1 : (nT s skip).length ≤ 40000000 := by
    have := XR (cut s skip)
    unfold nT
    omega
  have hj : join (words (nT s skip)) = nT s skip := by rw [TG]; rfl
  refine ⟨h1, a9a s skip, ?_, by rw [hj]; exact h1⟩
  have h2 := WE plainW a9q (words (nT s skip))
  rw [hj] at h2
  unfold UD
  omega
end Ke
namespace Ix
open Ke
theorem KN n : keyOf n [] = [] := by
  unfold keyOf
  rw [if_neg (fun h => absurd h.1 (by decide +kernel))]
  decide +kernel
theorem RJ {L} (h : nK L) n b : mJ L n b = (mJ L n []).filter fun k => decide (¬ k < b) := by
  refine ZR (EC L n b) ((EC L n []).filter _) fun k => ?_
  rw [List.mem_filter, yP h, yP h, decide_eq_true_eq]
  constructor
  · rintro ⟨h1, h2⟩; exact ⟨⟨List.not_lt_nil k, h2⟩, h1⟩
  rintro ⟨⟨_, h2⟩, h1⟩; exact ⟨h1, h2⟩
theorem UE s : ∀ (l : Row) (d : Bool), (pg s d l).length ≤ l.length + 1
  | [], d => by cases d <;> simp [pg]
  | x :: r, true => by rw [IB]; omega
  | x :: r, false => by
    have h1 := UE s r false
    have h2 : pg s true r = r := IB s r
    simp only [pg, h2]
    repeat' split
    all_goals simp only [List.length_cons]; omega
theorem a0M l s : (put l s).length ≤ l.length + 1 := by grind [put, UE]
theorem DV : ∀ (xs l : Row), (xs.foldl put l).length ≤ l.length + xs.length
  | [], l => by simp
  | x :: r, l => by
    have h1 := DV r (put l x)
    have h2 := a0M l x
    rw [List.foldl_cons, List.length_cons]; omega
theorem b0h f (h : f.subs.length ≤ 3) n : (WW f n).length ≤ 3 := by grind [WW, List.length_map]
theorem WQ n : ∀ (fs : List tC), (∀ f ∈ fs, f.subs.length ≤ 3) → (valsN fs n).length ≤ fs.length * 3
  | [], _ => by simp [valsN]
  | f :: r, h => by
    have h1 := WQ n r fun x hx => h x (.tail _ hx)
    have h2 := b0h f (h f (.head _)) n
    unfold valsN at h1 ⊢
    rw [List.flatMap_cons, List.length_append, List.length_cons]; omega
theorem a3I n fs (h : ∀ f ∈ fs, f.subs.length ≤ 3) (hl : fs.length ≤ 8) : (keysOf n (vals fs)).length ≤ 24 := by
  have h1 : (keysOf n (vals fs)).length ≤ (valsN fs n).length := by
    unfold keysOf
    refine Nat.le_trans (List.length_filter_le _ _) ?_
    rw [← a5O, List.length_map, List.length_map]
    exact Nat.le_refl _
  have h2 := WQ n fs h
  omega
def QL (L : Ix) : Prop := L.length ≤ 20 ∧ ∀ e ∈ L, ∃ a : qW, e.2 = a.vs
theorem a1A t v : ∀ L : Ix, (sU t v L).length ≤ L.length + 1
  | [] => by simp [sU]
  | (u, x) :: r => by
    have := a1A t v r
    unfold sU
    repeat' split
    all_goals simp only [List.length_cons]; omega
theorem a4H : ∀ (l : List qW) {L : Ix} {k : Nat}, nK L → L.length ≤ k → (∀ e ∈ L, ∃ a : qW, e.2 = a.vs) → (l.foldl act L).length ≤ k + l.length ∧ ∀ e ∈ l.foldl act L, ∃ a : qW, e.2 = a.vs
  | [], _, k, _, h1, h2 => ⟨by simpa using h1, h2⟩
  | a :: r, L, k, hs, h1, h2 => by
    have h3 : (act L a).length ≤ k + 1 := by
      unfold act
      split
      · exact Nat.le_trans (List.length_filter_le _ _) (by omega)
      have := a1A a.title a.vs L; omega
    have h4 : ∀ e ∈ act L a, ∃ a : qW, e.2 = a.vs := by
      intro e he
      unfold act at he
      split at he
      · exact h2 e ((AA _ _ _).1 he).1
      rcases (wO _ _ hs e).1 he with g | g
      · exact ⟨a, by rw [g]⟩
      exact h2 e g.1
    have := a4H r (a6H hs a) h3 h4
    rw [List.foldl_cons, List.length_cons]
    exact ⟨by omega, this.2⟩
theorem a5r l : QL (play l) := by
  have h := a4H (l.take 20) (L := []) (k := 0) List.Pairwise.nil (Nat.le_refl _) (fun _ h => by cases h)
  have h2 : (l.take 20).length ≤ 20 := by rw [List.length_take]; exact Nat.min_le_left _ _
  exact ⟨by unfold play; omega, h.2⟩
theorem b2b n (a : qW) : (keysOf n a.vs).length ≤ 24 := by
  refine a3I n _ (fun f hf => ?_) ?_
  · unfold qW.record YU at hf
    obtain ⟨q, _, rfl⟩ := List.mem_map.1 hf
    exact (b3J q).2
  unfold qW.record YU
  rw [List.length_map, List.length_take, List.length_take]; omega
theorem a3C n : ∀ {L : Ix}, (∀ e ∈ L, ∃ a : qW, e.2 = a.vs) → (L.flatMap fun e => keysOf n e.2).length ≤ L.length * 24
  | [], _ => by simp
  | e :: r, h => by
    have h1 := a3C n (L := r) fun x hx => h x (.tail _ hx)
    obtain ⟨a, ha⟩ := h e (.head _)
    have h2 := b2b n a
    rw [List.flatMap_cons, List.length_append, List.length_cons, ha]; omega
theorem a5Y {L} (h : QL L) n b : (mJ L n b).length ≤ 480 := by
  unfold mJ
  have h1 := DV (((L.flatMap fun e => keysOf n e.2)).filter fun k => decide (¬ k < b)) []
  have h2 := List.length_filter_le (fun k => decide (¬ k < b)) (L.flatMap fun e => keysOf n e.2)
  have h3 := a3C n h.2
  have h4 := h.1
  rw [List.length_nil] at h1
  omega
end Ix
namespace Cq
def indexes : List (List UInt8) := [[116, 105, 116, 108, 101], [97, 117, 116, 104, 111, 114], [115, 117, 98, 106, 101, 99, 116], [105, 115, 98, 110], [97, 110, 121], [121, 101, 97, 114]]
def relations : List (List UInt8) := [[61], [61, 61], [60], [62, 61], [97, 110, 121], [97, 108, 108]]
inductive Qs where
  | nil
  | cons (k : Int) (i r t : List UInt8) (ps rest : Qs)
deriving DecidableEq
structure Qn where
  k : Int
  i : List UInt8
  r : List UInt8
  t : List UInt8
  ps : Qs
deriving DecidableEq
def Qs.len : Qs → Nat
  | .nil => 0
  | .cons _ _ _ _ _ rest => rest.len + 1
def Qn.push (q : Qn) (rest : Qs) : Qs := .cons q.k q.i q.r q.t q.ps rest
def two (op:Nat) (a b:Qn):Qn:=⟨op,[],[],[],a.push (b.push .nil)⟩
def zero : Qn := ⟨0, [], [], [], .nil⟩
end Cq
namespace Ix
open Ke
def rEq : Bs := [61]
def b7D : Bs := [61, 61]
def rGe : Bs := [62, 61]
def a8r : Bs := [97, 110, 121]
def a9i : Bs := [97, 108, 108]
def keyed (L : Ix) (n : Bs) (ks : Row) : List Rec := ks.flatMap fun k => oH L n (keyOf n (UD k))
def LM (L : Ix) (i r s : Bs) (t : Rec) : Bool :=
  if r = rEq then (if i = uX then decide (t ∈ oH L i (keyOf i s)) else decide (t ∈ phrase L i (words s)))
  else if r = b7D then decide (t ∈ oH L i (keyOf i s))
  else if r = a8r then (words s).any fun w => decide (t ∈ word L i w)
  else if r = a9i then !(words s).isEmpty && (words s).all fun w => decide (t ∈ word L i w)
  else if r = rGe then decide (t ∈ keyed L i (mJ L i (keyOf i s)))
  else decide (t ∈ keyed L i ((mJ L i []).take ((mJ L i []).length - (mJ L i (keyOf i s)).length)))
def comb (k : Int) (a b : Bool) : Bool := if k = 2 then a && b else if k = 3 then a || b else a && !b
def b3u (L : Ix) (t : Rec) (k : Int) (i r x : Bs) (bs : List Bool) : Bool := if k = 1 then LM L i r x t else match bs with
  | [a, b] => comb k a b
  | _ => false
def a8A (L : Ix) (t : Rec) : Cq.Qs → List Bool
  | .nil => []
  | .cons k i r x ps rest => b3u L t k i r x (a8A L t ps) :: a8A L t rest
def sat (L : Ix) (q : Cq.Qn) (t : Rec) : Bool := b3u L t q.k q.i q.r q.t (a8A L t q.ps)
theorem XT {L q t} (h : q.k = 1) : sat L q t = LM L q.i q.r q.t t := if_pos h
theorem a0V {L q a b t} (h : q.k ≠ 1) (hp : q.ps = a.push (b.push .nil)) : sat L q t = comb q.k (sat L a t) (sat L b t) := by
  unfold sat b3u
  rw [if_neg h, hp]
  rfl
def oN (L : Ix) (a b : Rec) : Prop := oK L a < oK L b ∨ (oK L a = oK L b ∧ oL a b = true)
theorem a2I L a : ¬ oN L a a := by
  rintro (h | ⟨_, h⟩)
  · exact List.lt_irrefl _ h
  rw [nJ] at h; cases h
theorem LK {L a b c} (h1 : oN L a b) (h2 : oN L b c) : oN L a c := by
  rcases h1 with h1 | ⟨h1, h1'⟩ <;> rcases h2 with h2 | ⟨h2, h2'⟩
  · exact .inl (List.lt_trans h1 h2)
  · exact .inl (h2 ▸ h1)
  · exact .inl (h1 ▸ h2)
  exact .inr ⟨h1.trans h2, vU h1' h2'⟩
theorem b0u L a b : oN L a b ∨ a = b ∨ oN L b a := by
  by_cases h : oK L a < oK L b
  · exact .inl (.inl h)
  by_cases h2 : oK L b < oK L a
  · exact .inr (.inr (.inl h2))
  have he : oK L a = oK L b := List.le_antisymm (List.not_lt.1 h2) (List.not_lt.1 h)
  rcases ES a b with g | g | g
  · exact .inl (.inr ⟨he, g⟩)
  · exact .inr (.inl g)
  exact .inr (.inr (.inr ⟨he.symm, g⟩))
theorem a7H {α : Type} {r : α → α → Prop} (hi : ∀ a, ¬ r a a) (ht : ∀ {a b c}, r a b → r b c → r a c) : ∀ {l m : List α}, l.Pairwise r → m.Pairwise r → (∀ x, x ∈ l ↔ x ∈ m) → l = m
  | [], [], _, _, _ => rfl
  | [], b :: m, _, _, h => absurd ((h b).2 (.head _)) (by simp)
  | a :: l, [], _, _, h => absurd ((h a).1 (.head _)) (by simp)
  | a :: l, b :: m, hl, hm, h => by
    rw [List.pairwise_cons] at hl hm
    have hab : a = b := by
      rcases List.mem_cons.1 ((h a).1 (.head _)) with e | h1
      · exact e
      rcases List.mem_cons.1 ((h b).2 (.head _)) with e | h2
      · exact e.symm
      exact absurd (ht (hl.1 b h2) (hm.1 a h1)) (hi a)
    subst hab
    congr 1
    refine a7H hi ht hl.2 hm.2 fun x => ⟨fun hx => ?_, fun hx => ?_⟩
    · rcases List.mem_cons.1 ((h x).1 (.tail _ hx)) with e | g
      · exact absurd (e ▸ hl.1 x hx) (hi a)
      exact g
    rcases List.mem_cons.1 ((h x).2 (.tail _ hx)) with e | g
    · exact absurd (e ▸ hm.1 x hx) (hi a)
    exact g
theorem b4y {l m : List Rec} (hl : l.Nodup) (h : ∀ x ∈ l, x ∈ m) : l.length ≤ m.length := by
  induction l generalizing m with
  | nil => simp
  | cons a r ih =>
    rw [List.nodup_cons] at hl
    have hm := h a (.head _)
    have := ih (m := m.erase a) hl.2 fun x hx => by
      have hne : x ≠ a := fun e => hl.1 (e ▸ hx)
      exact (List.mem_erase_of_ne hne).2 (h x (.tail _ hx))
    rw [List.length_erase_of_mem hm] at this
    have h0 : 0 < m.length := List.length_pos_of_mem hm
    rw [List.length_cons]; omega
def yU (L : Ix) (q : Cq.Qn) (l : List Rec) : Prop := l.Pairwise (oN L) ∧ ∀ t, t ∈ l ↔ t ∈ L.map (·.1) ∧ sat L q t = true
theorem yU.eq {L q l m} (h1 : yU L q l) (h2 : yU L q m) : l = m :=
  a7H (a2I L) LK h1.1 h2.1 fun x => (h1.2 x).trans (h2.2 x).symm
theorem yU.len {L q l} (h : yU L q l) : l.length ≤ L.length := by
  have hn : l.Nodup := List.nodup_iff_pairwise_ne.2 (h.1.imp fun {a b} g e => by subst e; exact a2I L a g)
  have hs : ∀ x ∈ l, x ∈ L.map (·.1) := fun x hx => ((h.2 x).1 hx).1
  have := b4y hn hs
  rwa [List.length_map] at this
theorem OA {L n k t} (h : t ∈ oH L n k) : t ∈ L.map (·.1) := by grind [oH]
theorem TP {L n w t} (h : t ∈ phrase L n w) : t ∈ L.map (·.1) := by grind [phrase]
theorem a1s {L n s t} (h : t ∈ word L n s) : t ∈ L.map (·.1) := by grind [word, TP]
theorem b2D {L n ks t} (h : t ∈ keyed L n ks) : t ∈ L.map (·.1) := by
  obtain ⟨k, _, h⟩ := List.mem_flatMap.1 h
  exact OA h
theorem b6h {L i r s t} (h : LM L i r s t = true) : t ∈ L.map (·.1) := by
  unfold LM at h
  split at h
  · split at h
    · exact OA (of_decide_eq_true h)
    exact TP (of_decide_eq_true h)
  split at h
  · exact OA (of_decide_eq_true h)
  split at h
  · obtain ⟨w, _, h⟩ := List.any_eq_true.1 h
    exact a1s (of_decide_eq_true h)
  split at h
  · rw [Bool.and_eq_true] at h
    cases hw : words s with
    | nil => rw [hw] at h; simp at h
    | cons a r => rw [hw] at h; exact a1s (of_decide_eq_true (List.all_eq_true.1 h.2 a (.head _)))
  split at h <;> exact b2D (of_decide_eq_true h)
theorem b4D {n k vs} : hasK n k vs = true ↔ ∃ v ∈ vs, v.name = n ∧ v.key = k := by unfold hasK; grind
end Ix
namespace Ix
open Ke
def TOK (L : Ix) : Prop := ∀ e ∈ L, ∀ v ∈ e.2, v.text.length ≤ 4000000
theorem VR {L} (hs : nK L) {n b k} (h : k ∈ mJ L n b) : ∃ e ∈ L, ∃ v ∈ e.2, v.name = n ∧ v.key = k := by
  obtain ⟨_, h2⟩ := (yP hs).1 h
  obtain ⟨e, he, hp⟩ := (LX hs).1 h2
  obtain ⟨_, h4⟩ := CU.1 hp
  obtain ⟨v, hv, h5, h6⟩ := b4D.1 h4
  exact ⟨e, he, v, hv, h5, h6⟩
theorem TOK.key {L} (h : TOK L) (hs : nK L) {n b k} (hk : k ∈ mJ L n b) : a1n k := by
  obtain ⟨e, he, v, hv, _, rfl⟩ := VR hs hk
  exact b6U (h e he v hv)
theorem CZ L n k : (oH L n k).length ≤ L.length := by grind [oH, List.length_map]
theorem a1B {L n s most} (h : (mJ L n (keyOf n s)).length ≤ most.toNat) : (scan L n s most).map (·.1) = mJ L n (keyOf n s) := by
  unfold scan
  rw [List.take_of_length_le h, List.map_map]
  exact List.map_id _
