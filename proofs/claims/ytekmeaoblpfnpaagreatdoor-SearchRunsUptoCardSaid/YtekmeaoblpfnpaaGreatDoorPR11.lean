/-
  Own texts on the laws of the seat, joined: the logic, and contracts of functions. Conditions: none.
-/
import Derived.Test.YtekmeaoblpfnpaaGreatDoorNmR
import Derived.Test.YtekmeaoblpfnpaaGreatDoorPR10
import Derived.Lib.FieldsU
set_option linter.all false
set_option maxRecDepth 100000
set_option maxHeartbeats 40000000
section
namespace Go.Proofs.YtekmeaoblpfnpaaGreatDoor
open _root_.Go.Proofs.Tryz
open Go Go.Sx
def RxS (I : Heap) (rb : Nat) (es : List nI) (p : Option Addr) (c : Nat) : Prop := I rb = some (jM 50 [.slice p es.length c]) ∧ nR I es (.slice p es.length c)
theorem RxS.mono {I I' rb es p c} (h : RxS I rb es p c) (hle : Le I I') : RxS I' rb es p c := ⟨hle _ _ h.1, h.2.mono hle⟩
structure zQ (I : Heap) (rb : Nat) (es : List nI) : Prop where
  ex : ∃ p c, RxS I rb es p c
  len : es.length ≤ 1000
  eok : ∀ e ∈ es, xP e.fs
  pU : Ix.nO (es.map jQ)
theorem zQ.mono {I I' rb es} (h : zQ I rb es) (hle : Le I I') : zQ I' rb es := ⟨let ⟨p, c, g⟩ := h.ex; ⟨p, c, g.mono hle⟩, h.len, h.eok, h.pU⟩
theorem zQ.of {I rb es w} (h1 : I rb = some (jM 50 [w])) (h2 : nR I es w) (hl : es.length ≤ 1000) (he : ∀ e ∈ es, xP e.fs) (hs : Ix.nO (es.map jQ)) : zQ I rb es := by
  obtain ⟨p, c, rfl, -⟩ := h2.len
  exact ⟨⟨p, c, h1, h2⟩, hl, he, hs⟩
theorem EU {cs sp : List Value} {o k} {es : List nI} {x} (h : cs.drop o = es.flatMap oH ++ sp) (hx : es[k]? = some x) : (cs.drop (o + k * 5 + 2)).take 3 = [u8 x.k, u8 x.l, x.v] := by
  have h1 := kY pF h hx
  rw [show (cs.drop (o + k * 5 + 2)).take 3 = ((cs.drop (o + k * 5)).take 5).drop 2 by rw [List.drop_take, List.drop_drop], h1]; rfl
def rG (P : nI → Bool) (es : List nI) : List Ix.Rec := (es.filter P).map (·.t)
theorem a1T {P} {es : List nI} {k x} (h : es[k]? = some x) : rG P (es.take (k + 1)) = rG P (es.take k) ++ if P x = true then [x.t] else [] := by
  obtain ⟨hlt, hg⟩ := List.getElem?_eq_some_iff.1 h
  unfold rG
  rw [List.take_succ_eq_append_getElem hlt, hg, List.filter_append, List.map_append]
  by_cases hc : P x = true
  · rw [List.filter_cons_of_pos hc, if_pos hc]; rfl
  rw [List.filter_cons_of_neg hc, if_neg hc]; rfl
theorem WR P es : (rG P es).length ≤ es.length := by
  unfold rG; rw [List.length_map]; exact List.length_filter_le _ _
theorem NK {α : Type} {p} {l : List α} {k x} (h : l[k]? = some x) : (l.take (k + 1)).any p = ((l.take k).any p || p x) := by
  obtain ⟨hlt, hg⟩ := List.getElem?_eq_some_iff.1 h
  rw [List.take_succ_eq_append_getElem hlt, hg, List.any_append]; simp
def wIn (w : Ke.Row) (x : List UInt8 × Nat) : Bool := Ix.within w (Ke.words x.1)
def kIn (k : List UInt8) (x : List UInt8 × Nat) : Bool := decide (Ke.nT x.1 x.2 = k)
def zV (n : List UInt8) (w : Ke.Row) (e : nI) : Bool := (Ix.valsN e.fs n).any (wIn w)
def XP (n k : List UInt8) (e : nI) : Bool := (Ix.valsN e.fs n).any (kIn k)
theorem b4Q n w e : Ix.FY n w (Ix.vals e.fs) = zV n w e := by
  unfold zV Ix.FY
  rw [← Ix.a4c, List.any_map, List.any_filter]
  rfl
theorem b1W n k e : Ix.hasK n k (Ix.vals e.fs) = XP n k e := by
  unfold XP Ix.hasK
  rw [← Ix.a4c, List.any_map, List.any_filter]
  rfl
theorem b0u (f : List Ix.V → Bool) P (h : ∀ e, f (Ix.vals e.fs) = P e) es : ((es.map jQ).filter fun e => f e.2).map (·.1) = rG P es := by
  unfold rG
  rw [List.filter_map, List.map_map]
  have : (fun e : Ix.Rec × List Ix.V => f e.2) ∘ jQ = P := funext fun e => h e
  rw [this]; rfl
theorem b4C {es : List nI} {n w k} (h0 : k = 0 ∨ w ≠ []) (hk : es.length ≤ k) : rG (zV n w) (es.take k) = Ix.phrase (es.map jQ) n w := by
  unfold Ix.phrase
  by_cases hw : w = []
  · have h1 := h0.resolve_right fun g => g hw
    subst h1
    rw [if_pos hw]; rfl
  rw [if_neg hw, b0u _ _ (fun e => b4Q n w e), List.take_of_length_le hk]
theorem b6B {es : List nI} {n w k} (h0 : k = 0 ∨ w ≠ []) (hw : w = []) : rG (zV n w) (es.take k) = Ix.phrase (es.map jQ) n w := by
  have h1 := h0.resolve_right fun g => g hw
  subst h1
  unfold Ix.phrase
  rw [if_pos hw]; rfl
def vC (n k : List UInt8) (e : nI) : Bool := XP n k e && decide (k ≠ [])
theorem a6Z es n k : rG (vC n k) es = Ix.oG (es.map jQ) n k := by
  unfold Ix.oG
  by_cases hk : k = []
  · rw [if_pos hk]
    unfold rG vC
    rw [List.filter_eq_nil_iff.2 fun e _ => by simp [hk]]; rfl
  rw [if_neg hk]
  exact (b0u _ (vC n k) (fun e => by unfold vC; rw [b1W, decide_eq_true hk, Bool.and_true]) es).symm
theorem b1l {f n x} (h : x ∈ Ix.UN f n) : x.1.length ≤ lV f.subs + f.subs.length + 13 := by
  have ht : ∀ c : List UInt8, (Ke.textOf f c).length ≤ lV f.subs + f.subs.length := MZ f
  have hp : ∀ (u : List UInt8 → List UInt8 × Bool) (c : UInt8), (∀ s, (u s).2 = true → (u s).1.length ≤ 13) → x ∈ qE u c f.subs → x.1.length ≤ lV f.subs + f.subs.length + 13 := fun u c hu hx => by
    unfold qE at hx
    obtain ⟨y, hy, rfl⟩ := List.mem_map.1 hx
    obtain ⟨s, _, he⟩ := List.mem_filterMap.1 hy
    unfold vK at he
    split at he
    · rename_i hc; cases he; have := hu _ hc.1; dsimp only; omega
    cases he
  by_cases h1 : n = Ix.rE
  · rw [vY h1] at h; split at h
    · rw [List.mem_singleton.1 h]; have := ht [97, 98]; dsimp only; omega
    cases h
  by_cases h2 : n = Ix.qZ
  · rw [sW h2] at h; split at h
    · rw [List.mem_singleton.1 h]; have := ht [97]; dsimp only; omega
    cases h
  by_cases h3 : n = Ix.rF
  · rw [rU h3] at h; split at h
    · rw [List.mem_singleton.1 h]; have := ht [97, 120]; dsimp only; omega
    cases h
  by_cases h4 : n = Ix.uH
  · rw [yM h4] at h; split at h
    · exact hp _ _ (fun s _ => NY s) h
    cases h
  by_cases h5 : n = Ix.IY
  · rw [yL h5] at h; split at h
    · refine hp _ _ (fun s hs => ?_) h
      unfold uy at hs ⊢
      cases hy : Ix.rD s with
      | none => simp
      | some y => have := YM hy; dsimp only [Option.getD]; omega
    cases h
  by_cases h6 : n = Ix.wI
  · rw [vM h6] at h; split at h
    · rw [List.mem_singleton.1 h]; have := a6p f; dsimp only; omega
    cases h
  rw [of_none h1 h2 h3 h4 h5 h6] at h; cases h
theorem ET {fs} (hok : xP fs) {n x} (h : x ∈ Ix.valsN fs n) : x.1.length ≤ 3002000 := by
  unfold Ix.valsN at h
  obtain ⟨f, hf, hx⟩ := List.mem_flatMap.1 h
  have h1 := b1l hx
  have h2 := hok.2 f hf
  omega
theorem jW.len {α : Type} {f : α → List Value} {I : Heap} {l : List α} {v : Value} (h : jW f I l v) : ∃ p c, v = .slice p l.length c := let ⟨p, c, h1, _⟩ := h; ⟨p, c, h1⟩
theorem YG rb es n s (hs : s.length ≤ 1000000000) I (hx : zQ I rb es) : jO Tryz.prog 175 [ptr rb 0, str n, str s] I [] (fun e I' H' => ∃ v, e = .returned v ∧ jW recC I' (Ix.phrase (es.map jQ) n (Ke.words s)) v ∧ H' = []) := by
 have hlen := hx.len
 have heok := hx.eok
 obtain ⟨p, c, hR⟩ := hx.ex
 have hrb := hR.1
 have hwl := (Ke.qX s).1
 refine jU func175 fun w0 hw0 => ?_
 refine sV (yO s hs _) ?_
 intro v2 I3 H4 hle5 hn1 hp6
 have hR := hR.mono hle5
 have hrb := hle5 _ _ hrb
 obtain ⟨gw, hgw, h, rfl⟩ := hp6; cases h
 refine J.xY (hgw.base hn1) (fun Iw hlew hw => ?_)
 have hR := hR.mono hlew
 have hrb := hlew _ _ hrb
 obtain ⟨pw, cw, hwe⟩ := qB hw
 refine J.eqv 15 rfl hwe ?_
 rw [hwe] at hw
 replace hw := mZ.of hw
 refine jL 15 ?_
 refine Cj.loop (ι := Nat × Heap × Gs) (fun y => y.1 ≤ es.length ∧ (y.1 = 0 ∨ (Ke.words s) ≠ []) ∧ mZ y.2.1 (Ke.words s) (.slice pw (Ke.words s).length cw) ∧ RxS y.2.1 rb es p c ∧ kZ w0.heap.size 2 (rG (zV n (Ke.words s)) (es.take y.1)).length ((rG (zV n (Ke.words s)) (es.take y.1)).flatMap recC) y.2.2) (fun y => es.length - y.1) (fun y => [(0, ptr rb 0), (1, str n), (7, .slice pw (Ke.words s).length cw), (8, gV (rG (zV n (Ke.words s)) (es.take y.1)).length y.2.2), (9, i64 (y.1 : Int))]) (fun y => y.2.1) (fun y => gH 54 ((rG (zV n (Ke.words s)) (es.take y.1)).flatMap recC) y.2.2) (0, _, none) ⟨Nat.zero_le _, .inl rfl, hw, hR, rfl, rfl⟩ ⟨rfl, rfl, rfl, rfl, rfl, trivial⟩ rfl rfl ?_
 rintro ⟨k, J1, g⟩ ⟨hk, hk0, hw, hR, hg⟩
 dsimp only at hk hk0 hw hR hg ⊢
 have hrb := hR.1
 have hsl := WR (zV n (Ke.words s)) (es.take k)
 rw [List.length_take, Nat.min_eq_left hk] at hsl
 refine mX (fun hg7 hg7p => ?_) (fun hg7 hg7p => ?_)
 ·refine jS (fun hc8 hc8p => ?_) (fun hc8 hc8p => ?_)
  ·have hwne : (Ke.words s) ≠ [] := jT (k := 0) (by omega)
   refine jL 5 ?_
   have hlt : k < es.length := by omega
   obtain ⟨e0, hget⟩ : ∃ x, es[k]? = some x := ⟨_, kW hlt⟩
   have hek := heok e0 (lX hget)
   obtain ⟨p1, c1, hpe, hc1, hp⟩ := id hR.2.1
   cases hpe
   obtain ⟨eb, eo, ecs, ety, efr, esp, rfl, heb, hed⟩ := hp (jT hlt)
   have hrec := hR.2.2 e0 (lX hget)
   obtain ⟨vp0, vc0, hev, -, -⟩ := id hrec.1
   have hnx := a1T (P := (zV n (Ke.words s))) hget
   refine kJ (eo + k * 5) ?_
   refine J.z (q1 (off' := eo + k * 5 + 2) NH xI) ?_
   refine J.z (q2 isAgg57 xI (jR.EH heb) (EU hed hget)) ?_
   refine kL (EJ e0.fs e0.v e0.k e0.l n hek _ hrec) ?_
   intro v9 I10 H11 hle12 hp13
   have hR := hR.mono hle12
   have hrb := hle12 _ _ hrb
   have hw := hw.mono hle12
   have heb := hle12 _ _ heb
   have hrec := hrec.mono hle12
   obtain ⟨vv, h, hvals, rfl⟩ := hp13; cases h
   obtain ⟨pv, cv, rfl⟩ := jW.len hvals
   have hvl : (Ix.valsN e0.fs n).length ≤ 1000000 := by have h1 := wS n e0.fs (fun f hf => (hek.2 f hf).1); have h2 := hek.1; omega
   refine jL 15 ?_
   refine Cj.keep Keeps.r ?_
   refine Cj.loop (ι := Nat × Heap) (fun y => y.1 ≤ (Ix.valsN e0.fs n).length ∧ Le I10 y.2) (fun y => (Ix.valsN e0.fs n).length - y.1) (fun y => [(0, ptr rb 0), (1, str n), (7, .slice pw (Ke.words s).length cw), (8, gV (rG (zV n (Ke.words s)) (es.take k)).length g), (9, i64 (k : Int)), (10, .slice pv (Ix.valsN e0.fs n).length cv), (11, .bool (((Ix.valsN e0.fs n).take y.1).any (wIn (Ke.words s)))), (12, i64 (y.1 : Int))]) (fun y => y.2) (fun y => gH 54 ((rG (zV n (Ke.words s)) (es.take k)).flatMap recC) g) (0, _) ⟨Nat.zero_le _, Le.refl _⟩ ⟨rfl, rfl, rfl, rfl, rfl, rfl, rfl, rfl, trivial⟩ rfl rfl ?_
   rintro ⟨j, J2⟩ ⟨hj, hIJ⟩
   dsimp only at hj hIJ ⊢
   have hR := hR.mono hIJ
   have hrb := hR.1
   have hw := hw.mono hIJ
   have heb := hIJ _ _ heb
   have hvals := hvals.mono hIJ
   refine jS (fun hc14 hc14p => ?_) (fun hc14 hc14p => ?_)
   ·have hjlt : j < (Ix.valsN e0.fs n).length := by omega
    obtain ⟨x, hvget⟩ : ∃ x, (Ix.valsN e0.fs n)[j]? = some x := ⟨_, kW hjlt⟩
    have hxt := ET hek (lX hvget)
    obtain ⟨p2, c2, hpe2, hc2, hp2⟩ := id hvals
    cases hpe2
    obtain ⟨vb, vo, vcs, vty, vfr, vsp, rfl, hvb, hvd⟩ := hp2 (jT hjlt)
    refine kJ (vo + j * 2) ?_
    refine jL 1 ?_
    refine J.z (jP rfl rfl lQ (jR.EH hvb) (lW rX hvd hvget 0 (by decide))) ?_
    refine sV (yO x.1 (by omega) _) ?_
    intro v16 I17 H18 hle19 hn15 hp20
    have hIJ := hIJ.mono hle19
    have hR := hR.mono hle19
    have hrb := hle19 _ _ hrb
    have hw := hw.mono hle19
    have heb := hle19 _ _ heb
    have hvals := hvals.mono hle19
    have hvb := hle19 _ _ hvb
    obtain ⟨gx, hgx, h, rfl⟩ := hp20; cases h
    refine J.xY (hgx.base hn15) (fun Ix1 hlex hwx => ?_)
    have hIJ := hIJ.mono hlex
    have hR := hR.mono hlex
    have hrb := hlex _ _ hrb
    have hw := hw.mono hlex
    have heb := hlex _ _ heb
    have hvals := hvals.mono hlex
    have hvb := hlex _ _ hvb
    replace hwx := mZ.of hwx
    refine kC (a7V (Ke.words x.1) (Ke.words s) _ _ _ hwx hw (by have := (Ke.qX x.1).1; omega) (by omega)) ?_
    refine oW (fun hg21 => ?_) (fun hg21 => ?_)
    ·have hfd := hg21
     refine jL 11 ?_
     refine Ej.round (j + 1, _) ⟨by dsimp only; omega, hIJ⟩ (by dsimp only; omega) ⟨rfl, rfl, rfl, rfl, rfl, rfl, by dsimp only; rw [NK hvget, hfd]; rfl, rfl, trivial⟩ rfl rfl
    have hfd := hg21
    refine jL 11 ?_
    refine Ej.round (j + 1, _) ⟨by dsimp only; omega, hIJ⟩ (by dsimp only; omega) ⟨rfl, rfl, rfl, rfl, rfl, rfl, by dsimp only; rw [NK hvget, hfd, Bool.false_or]; rfl, rfl, trivial⟩ rfl rfl
   refine mW (fun hc22 => ?_) (fun hc22 => ?_)
   ·have hh : (zV n (Ke.words s)) e0 = true := by have h := hc22; rw [List.take_of_length_le (by omega)] at h; exact h
    rw [if_pos hh] at hnx
    refine kJ (eo + k * 5) ?_
    refine jL 1 ?_
    refine J.z (q2 oC lG (jR.EH heb) (LM hed hget)) ?_
    refine jL 1 ?_
    intro b23 hb23
    refine yQ 15 [_] hg ?_
    intro g24 hg24
    refine jL 9 ?_
    refine Ej.keep (Keeps.d Keeps.r) ?_
    refine Ej.round (k + 1, _, g24) ⟨by dsimp only; omega, .inr hwne, hw, hR, by dsimp only; rw [hnx, List.length_append, List.flatMap_append]; exact hg24⟩ (by dsimp only; omega) ⟨rfl, rfl, rfl, by dsimp only; rw [hnx, List.length_append]; rfl, rfl, trivial⟩ rfl (by dsimp only; rw [hnx, List.flatMap_append]; rfl)
   have hh : (zV n (Ke.words s)) e0 = false := by have h := hc22; rw [List.take_of_length_le (by omega)] at h; exact h
   rw [if_neg (fun g => Bool.noConfusion (g.symm.trans hh))] at hnx
   refine jL 8 ?_
   refine Ej.round (k + 1, _, g) ⟨by dsimp only; omega, .inr hwne, hw, hR, by dsimp only; rw [hnx, List.append_nil]; exact hg⟩ (by dsimp only; omega) ⟨rfl, rfl, rfl, by dsimp only; rw [hnx, List.append_nil]; rfl, rfl, trivial⟩ rfl (by dsimp only; rw [hnx, List.append_nil])
  refine jL 12 ?_
  have hph := b6B hk0 (List.length_eq_zero_iff.1 (by omega)) (es := es) (n := n) (w := (Ke.words s)) (k := k)
  rw [hph] at hg ⊢
  refine Ej.perm (H' := gH 54 ((Ix.phrase (es.map jQ) n (Ke.words s)).flatMap recC) g ++ []) (.of_eq (List.append_nil _)) ?_
  refine Ej.keepR kF (by decide) hg rfl (fun I8 hle8 hw8 => ?_)
  refine jV ?_
  exact ⟨_, rfl, hw8, rfl⟩
 refine jL 19 ?_
 have hph := b4C hk0 (by omega) (es := es) (n := n) (w := (Ke.words s)) (k := k)
 rw [hph] at hg ⊢
 refine Ej.perm (H' := gH 54 ((Ix.phrase (es.map jQ) n (Ke.words s)).flatMap recC) g ++ []) (.of_eq (List.append_nil _)) ?_
 refine Ej.keepR kF (by decide) hg rfl (fun I8 hle8 hw8 => ?_)
 refine jV ?_
 exact ⟨_, rfl, hw8, rfl⟩
theorem b1D rb es n s (hs : s.length ≤ 1000000000) I (hx : zQ I rb es) : jO Tryz.prog 178 [ptr rb 0, str n, str s] I [] (fun e I' H' => ∃ v, e = .returned v ∧ jW recC I' (Ix.word (es.map jQ) n s) v ∧ H' = []) := by
 have hwl := (Ke.qX s).1
 refine jU func178 fun w0 hw0 => ?_
 refine sV (yO s hs _) ?_
 intro v2 I3 H4 hle5 hn1 hp6
 have hx := hx.mono hle5
 obtain ⟨gw, hgw, h, rfl⟩ := hp6; cases h
 refine J.xY (hgw.base hn1) (fun Iw hlew hw => ?_)
 have hx := hx.mono hlew
 obtain ⟨pw, cw, hwe⟩ := qB hw
 refine J.eqv 8 rfl hwe ?_
 rw [hwe] at hw
 replace hw := mZ.of hw
 refine jS (fun hc7 hc7p => ?_) (fun hc7 hc7p => ?_)
 ·have hne : Ix.word (es.map jQ) n s = [] := a6v (by have h := bne_iff_ne.1 hc7; omega)
  refine jL 7 ?_
  rw [hne]
  refine jV ?_
  exact ⟨_, rfl, jW.nil, rfl⟩
 have hne : Ix.word (es.map jQ) n s = Ix.phrase (es.map jQ) n (Ke.words s) := if_pos (by have h := sJ hc7; omega)
 refine kL (YG rb es n s hs _ hx) ?_
 intro v8 I9 H10 hle11 hp12
 have hx := hx.mono hle11
 have hw := hw.mono hle11
 obtain ⟨vhph, h, hph, rfl⟩ := hp12; cases h
 refine jL 4 ?_
 rw [hne]
 refine jV ?_
 exact ⟨_, rfl, hph, rfl⟩
theorem a4e rb es n key I (hx : zQ I rb es) : jO Tryz.prog 228 [ptr rb 0, str n, str key] I [] (fun e I' H' => ∃ v, e = .returned v ∧ jW recC I' (Ix.oG (es.map jQ) n key) v ∧ H' = []) := by
 have hlen := hx.len
 have heok := hx.eok
 obtain ⟨p, c, hR⟩ := hx.ex
 have hrb := hR.1
 refine jU func228 fun w0 hw0 => ?_
 refine jL 17 ?_
 refine Cj.loop (ι := Nat × Heap × Gs) (fun y => y.1 ≤ es.length ∧ RxS y.2.1 rb es p c ∧ kZ w0.heap.size 2 (rG (vC n key) (es.take y.1)).length ((rG (vC n key) (es.take y.1)).flatMap recC) y.2.2) (fun y => es.length - y.1) (fun y => [(0, ptr rb 0), (1, str n), (2, str key), (7, gV (rG (vC n key) (es.take y.1)).length y.2.2), (8, i64 (y.1 : Int))]) (fun y => y.2.1) (fun y => gH 54 ((rG (vC n key) (es.take y.1)).flatMap recC) y.2.2) (0, _, none) ⟨Nat.zero_le _, hR, rfl, rfl⟩ ⟨rfl, rfl, rfl, rfl, rfl, trivial⟩ rfl rfl ?_
 rintro ⟨k, J1, g⟩ ⟨hk, hR, hg⟩
 dsimp only at hk hR hg ⊢
 have hrb := hR.1
 have hsl := WR (vC n key) (es.take k)
 rw [List.length_take, Nat.min_eq_left hk] at hsl
 refine jS (fun hc1 hc1p => ?_) (fun hc1 hc1p => ?_)
 ·refine jL 5 ?_
  have hlt : k < es.length := by omega
  obtain ⟨e0, hget⟩ : ∃ x, es[k]? = some x := ⟨_, kW hlt⟩
  have hek := heok e0 (lX hget)
  obtain ⟨p1, c1, hpe, hc1, hp⟩ := id hR.2.1
  cases hpe
  obtain ⟨eb, eo, ecs, ety, efr, esp, rfl, heb, hed⟩ := hp (jT hlt)
  have hrec := hR.2.2 e0 (lX hget)
  obtain ⟨vp0, vc0, hev, -, -⟩ := id hrec.1
  have hnx := a1T (P := (vC n key)) hget
  refine kJ (eo + k * 5) ?_
  refine J.z (q1 (off' := eo + k * 5 + 2) NH xI) ?_
  refine J.z (q2 isAgg57 xI (jR.EH heb) (EU hed hget)) ?_
  refine kL (EJ e0.fs e0.v e0.k e0.l n hek _ hrec) ?_
  intro v2 I3 H4 hle5 hp6
  have hR := hR.mono hle5
  have hrb := hle5 _ _ hrb
  have heb := hle5 _ _ heb
  have hrec := hrec.mono hle5
  obtain ⟨vv, h, hvals, rfl⟩ := hp6; cases h
  obtain ⟨pv, cv, rfl⟩ := jW.len hvals
  have hvl : (Ix.valsN e0.fs n).length ≤ 1000000 := by have h1 := wS n e0.fs (fun f hf => (hek.2 f hf).1); have h2 := hek.1; omega
  refine jL 15 ?_
  refine Cj.keep Keeps.r ?_
  refine Cj.loop (ι := Nat) (fun j => j ≤ (Ix.valsN e0.fs n).length) (fun j => (Ix.valsN e0.fs n).length - j) (fun j => [(0, ptr rb 0), (1, str n), (2, str key), (7, gV (rG (vC n key) (es.take k)).length g), (8, i64 (k : Int)), (9, .slice pv (Ix.valsN e0.fs n).length cv), (10, .bool (((Ix.valsN e0.fs n).take j).any (kIn key))), (11, i64 (j : Int))]) (fun j => _) (fun j => gH 54 ((rG (vC n key) (es.take k)).flatMap recC) g) 0 (Nat.zero_le _) ⟨rfl, rfl, rfl, rfl, rfl, rfl, rfl, rfl, trivial⟩ rfl rfl ?_
  intro j hj
  refine jS (fun hc7 hc7p => ?_) (fun hc7 hc7p => ?_)
  ·have hjlt : j < (Ix.valsN e0.fs n).length := by omega
   obtain ⟨x, hvget⟩ : ∃ x, (Ix.valsN e0.fs n)[j]? = some x := ⟨_, kW hjlt⟩
   have hxt := ET hek (lX hvget)
   obtain ⟨p2, c2, hpe2, hc2, hp2⟩ := id hvals
   cases hpe2
   obtain ⟨vb, vo, vcs, vty, vfr, vsp, rfl, hvb, hvd⟩ := hp2 (jT hjlt)
   refine jL 5 ?_
   refine Cj.qC [] [] 13 (by kernel_rfl) ?_
   have hrb_10 := hrb
   have heb_10 := heb
   have hvb_10 := hvb
   refine kJ (vo + j * 2) ?_
   refine jL 1 ?_
   refine JA.zt 4 rfl (jP rfl rfl lQ (jR.zL hvb_10) (lW rX hvd hvget 0 (by decide))) ?_
   refine kJ (vo + j * 2) ?_
   refine JA.zt 8 rfl (q1 (off' := vo + j * 2 + 1) NQ oJ) ?_
   refine JA.zt 9 rfl (jP rfl rfl JF (jR.zL hvb_10) (lW rX hvd hvget 1 (by decide))) ?_
   refine kC (BJ x.1 _ (by omega) _) ?_
   refine jS (fun hc10 hc10p => ?_) (fun hc10 hc10p => ?_)
   ·have hks : kIn key x = true := decide_eq_true (lU hc10)
    refine jL 10 ?_
    refine Ej.round (j + 1) (by omega) (by omega) ⟨rfl, rfl, rfl, rfl, rfl, rfl, by rw [NK hvget, hks, Bool.or_true]; rfl, rfl, trivial⟩ rfl rfl
   have hks : kIn key x = false := decide_eq_false (lY hc10)
   refine jL 8 ?_
   refine Ej.round (j + 1) (by omega) (by omega) ⟨rfl, rfl, rfl, rfl, rfl, rfl, by rw [NK hvget, hks, Bool.or_false]; rfl, rfl, trivial⟩ rfl rfl
  refine oW (fun hg11 => ?_) (fun hg11 => ?_)
  ·have hfd : XP n key e0 = true := by have h := hg11; rw [List.take_of_length_le (by omega)] at h; exact h
   refine jS (fun hc12 hc12p => ?_) (fun hc12 hc12p => ?_)
   ·have hh : (vC n key) e0 = true := by unfold vC; rw [hfd, decide_eq_true (bne_iff_ne.1 hc12)]; rfl
    rw [if_pos hh] at hnx
    refine kJ (eo + k * 5) ?_
    refine jL 1 ?_
    refine J.z (q2 oC lG (jR.EH heb) (LM hed hget)) ?_
    refine jL 1 ?_
    intro b13 hb13
    refine yQ 15 [_] hg ?_
    intro g14 hg14
    refine jL 9 ?_
    refine Ej.keep (Keeps.d Keeps.r) ?_
    refine Ej.round (k + 1, _, g14) ⟨by dsimp only; omega, hR, by dsimp only; rw [hnx, List.length_append, List.flatMap_append]; exact hg14⟩ (by dsimp only; omega) ⟨rfl, rfl, rfl, by dsimp only; rw [hnx, List.length_append]; rfl, rfl, trivial⟩ rfl (by dsimp only; rw [hnx, List.flatMap_append]; rfl)
   have hh : (vC n key) e0 = false := by unfold vC; rw [decide_eq_false (fun g => g (sJ hc12)), Bool.and_false]
   rw [if_neg (fun g => Bool.noConfusion (g.symm.trans hh))] at hnx
   refine jL 8 ?_
   refine Ej.round (k + 1, _, g) ⟨by dsimp only; omega, hR, by dsimp only; rw [hnx, List.append_nil]; exact hg⟩ (by dsimp only; omega) ⟨rfl, rfl, rfl, by dsimp only; rw [hnx, List.append_nil]; rfl, rfl, trivial⟩ rfl (by dsimp only; rw [hnx, List.append_nil])
  have hfd : XP n key e0 = false := by have h := hg11; rw [List.take_of_length_le (by omega)] at h; exact h
  have hh : (vC n key) e0 = false := by unfold vC; rw [hfd]; rfl
  rw [if_neg (fun g => Bool.noConfusion (g.symm.trans hh))] at hnx
  refine jL 14 ?_
  refine Ej.round (k + 1, _, g) ⟨by dsimp only; omega, hR, by dsimp only; rw [hnx, List.append_nil]; exact hg⟩ (by dsimp only; omega) ⟨rfl, rfl, rfl, by dsimp only; rw [hnx, List.append_nil]; rfl, rfl, trivial⟩ rfl (by dsimp only; rw [hnx, List.append_nil])
 refine jL 12 ?_
 have hph := a6Z es n key
 rw [List.take_of_length_le (by omega : es.length ≤ k), hph] at hg ⊢
 refine Ej.perm (H' := gH 54 ((Ix.oG (es.map jQ) n key).flatMap recC) g ++ []) (.of_eq (List.append_nil _)) ?_
 refine Ej.keepR kF (by decide) hg rfl (fun I8 hle8 hw8 => ?_)
 refine jV ?_
 exact ⟨_, rfl, hw8, rfl⟩
theorem a0Q rb es n s (hs : s.length ≤ 100000000) I (hx : zQ I rb es) : jO Tryz.prog 174 [ptr rb 0, str n, str s] I [] (fun e I' H' => ∃ v, e = .returned v ∧ jW recC I' (Ix.oG (es.map jQ) n (Ix.keyOf n s)) v ∧ H' = []) := by
 refine jU func174 fun w0 hw0 => ?_
 refine kC (a1a n s hs _) ?_
 refine kL (a4e rb es n (Ix.keyOf n s) _ hx) ?_
 intro v1 I2 H3 hle4 hp5
 have hx := hx.mono hle4
 obtain ⟨vhph, h, hph, rfl⟩ := hp5; cases h
 refine jV ?_
 exact ⟨_, rfl, hph, rfl⟩
end Go.Proofs.YtekmeaoblpfnpaaGreatDoor
end
section
namespace Go.Proofs.YtekmeaoblpfnpaaGreatDoor
open _root_.Go.Proofs.Tryz
open Go Go.Sx
def KZ (b : List UInt8) (x : List UInt8 × Nat) : List (List UInt8) := if Ke.nT x.1 x.2 ≠ [] ∧ ¬ Ke.nT x.1 x.2 < b then [Ke.nT x.1 x.2] else []
def KW (n b : List UInt8) (es : List nI) : List (List UInt8) := es.flatMap fun e => (Ix.valsN e.fs n).flatMap (KZ b)
theorem a6R b : ∀ xs : List (List UInt8 × Nat), xs.flatMap (KZ b) = ((xs.map fun x => Ke.nT x.1 x.2).filter fun k => decide (k ≠ [])).filter fun k => decide (¬ k < b)
  | [] => rfl
  | x :: r => by
    rw [List.flatMap_cons, a6R b r, List.map_cons, List.filter_cons]
    unfold KZ
    by_cases h1 : Ke.nT x.1 x.2 = []
    · rw [if_neg (fun g => g.1 h1), if_neg (by simp [h1])]; rfl
    rw [if_pos (decide_eq_true h1), List.filter_cons]
    by_cases h2 : Ke.nT x.1 x.2 < b
    · rw [if_neg (fun g => g.2 h2), if_neg (fun g => absurd h2 (mO g))]; rfl
    rw [if_pos ⟨h1, h2⟩, if_pos (decide_eq_true h2)]; rfl
theorem b0w n b : ∀ es : List nI, KW n b es = ((es.map jQ).flatMap fun e => Ix.keysOf n e.2).filter fun k => decide (¬ k < b)
  | [] => rfl
  | e :: r => by
    have ih := b0w n b r
    unfold KW at ih ⊢
    rw [List.flatMap_cons, ih, List.map_cons, List.flatMap_cons, List.filter_append, a6R]
    congr 2
    unfold Ix.keysOf
    rw [← Ix.a4c, List.map_map]; rfl
theorem b6A n b es : (KW n b es).foldl Ke.put [] = Ix.mP (es.map jQ) n b := by rw [b0w]; rfl
theorem IW {α β : Type} (f : α → List β) {l : List α} {k x} (h : l[k]? = some x) : (l.take (k + 1)).flatMap f = (l.take k).flatMap f ++ f x := by
  obtain ⟨hlt, h⟩ := List.getElem?_eq_some_iff.1 h
  rw [List.take_succ_eq_append_getElem hlt, h, List.flatMap_append]; simp
theorem a0M b : ∀ xs : List (List UInt8 × Nat), (xs.flatMap (KZ b)).length ≤ xs.length
  | [] => Nat.le_refl _
  | x :: r => by
    have := a0M b r
    have h1 : (KZ b x).length ≤ 1 := by unfold KZ; split <;> simp
    rw [List.flatMap_cons, List.length_append, List.length_cons]; omega
theorem a6F n b : ∀ es : List nI, (∀ e ∈ es, xP e.fs) → (KW n b es).length ≤ es.length * 1000000
  | [], _ => by simp [KW]
  | e :: r, h => by
    have h1 := a6F n b r fun x hx => h x (.tail _ hx)
    have he := h e (.head _)
    have h2 := a0M b (Ix.valsN e.fs n)
    have h3 := wS n e.fs fun f hf => (he.2 f hf).1
    have h4 := he.1
    unfold KW at h1 ⊢
    rw [List.flatMap_cons, List.length_append, List.length_cons, Nat.add_mul]
    omega
theorem a9f (xs : List (List UInt8)) : Ke.Inc (xs.foldl Ke.put []) := Ke.WH xs List.Pairwise.nil
theorem a1x {α : Type} {l : List α} {i : Nat} {most} (h0 : (i : Int) ≤ most ∨ i = 0) (hi : i ≤ l.length) (h : l.length ≤ i ∨ most ≤ (i : Int)) : l.take i = l.take most.toNat := by
  rcases h with h | h
  · rw [List.take_of_length_le h]
    rcases h0 with g | g
    · rw [List.take_of_length_le (by omega)]
    subst g
    have : l = [] := List.length_eq_zero_iff.1 (by omega)
    subst this; simp
  rcases h0 with g | g
  · rw [show most.toNat = i by omega]
  rw [show most.toNat = i by omega]
def lnK (L : Ix.Ix) (n k : List UInt8) : List UInt8 × Nat := (k, (Ix.oG L n k).length)
def QI (L : Ix.Ix) (n : List UInt8) (ks : List (List UInt8)) : List (List UInt8 × Int) := (ks.map (lnK L n)).map lZ
theorem b1H L n {ks : List (List UInt8)} {i k} (h : ks[i]? = some k) : QI L n (ks.take (i + 1)) = QI L n (ks.take i) ++ [lZ (lnK L n k)] := by
  unfold QI
  rw [yH _ h, List.map_append]; rfl
theorem b4T L n ks : (QI L n ks).length = ks.length := by unfold QI; rw [List.length_map, List.length_map]
theorem a8X (es : List nI) n k : (Ix.oG (es.map jQ) n k).length ≤ es.length := by
  rw [← a6Z]; exact WR _ _
theorem a1Q x es t : Ix.qK ((x :: es).map jQ) t = if x.t = t then some (Ix.vals x.fs) else Ix.qK (es.map jQ) t := by
  unfold Ix.qK
  rw [List.map_cons, List.find?_cons]
  by_cases h : x.t = t
  · rw [if_pos h]; simp [jQ, h]
  rw [if_neg h]; simp [jQ, h]
theorem XE : ∀ {es : List nI} {t : Ix.Rec} {e : nI}, nJ es t = true → es[lK es t]? = some e → Ix.qK (es.map jQ) t = some (Ix.vals e.fs)
  | [], _, _, h, _ => by cases h
  | x :: r, t, e, h, hg => by
    rw [CB] at h
    rw [vS] at hg
    rw [a1Q]
    by_cases hl : Ix.oN x.t t = true
    · rw [if_pos hl] at h hg
      rw [if_neg (fun g => by rw [g, Ix.nH] at hl; cases hl)]
      exact XE h hg
    rw [if_neg hl] at h hg
    have hx : x.t = t := by simpa using h
    cases hg
    rw [if_pos hx]
theorem a2a : ∀ {es : List nI} {t : Ix.Rec}, Ix.nO (es.map jQ) → nJ es t = false → Ix.qK (es.map jQ) t = none
  | [], _, _, _ => rfl
  | x :: r, t, hs, h => by
    have h' := List.pairwise_cons.1 hs
    rw [CB] at h
    rw [a1Q]
    by_cases hl : Ix.oN x.t t = true
    · rw [if_pos hl] at h
      rw [if_neg (fun g => by rw [g, Ix.nH] at hl; cases hl)]
      exact a2a h'.2 h
    rw [if_neg hl] at h
    have hx : x.t ≠ t := by simpa using h
    rw [if_neg hx, Ix.JH]
    intro y hy he
    have h1 := h'.1 y hy
    rw [he] at h1
    exact hl h1
theorem b2o {es : List nI} {t : Ix.Rec} {e : nI} (h : nJ es t = true) (hg : es[lK es t]? = some e) : Ix.oI (es.map jQ) t = match (Ix.valsN e.fs Ix.rE)[0]? with
    | none => []
    | some x => Ke.nT x.1 x.2 := by
  rw [QS, XE h hg, ← Ix.a4c, List.getElem?_map, ← List.head?_eq_getElem?, List.head?_filter]
  show (match (Ix.vals e.fs).find? fun v => decide (v.name = Ix.rE) with
    | none => []
    | some v => v.key) = _
  cases (Ix.vals e.fs).find? fun v => decide (v.name = Ix.rE) with
  | none => rfl
  | some v => rfl
theorem a8O {es t} (hs : Ix.nO (es.map jQ)) (h : nJ es t = false) : Ix.oI (es.map jQ) t = [] := by
  unfold Ix.oI; rw [a2a hs h]
theorem b6o {a b : List UInt8} (h : (!decide (a < b)) = true) : ¬ a < b := by simpa using h
theorem b5g {a b : List UInt8} (h : (!decide (a < b)) = false) : a < b := by simpa using h
theorem VZ rb es n s (hs : s.length ≤ 100000000) most I (hx : zQ I rb es) : jO Tryz.prog 177 [ptr rb 0, str n, str s, i64 most] I [] (fun e I' H' => ∃ v, e = .returned v ∧ jW oU I' ((Ix.scan (es.map jQ) n s most).map lZ) v ∧ H' = []) := by
 have hlen := hx.len
 have heok := hx.eok
 obtain ⟨p, c, hR⟩ := hx.ex
 have hrb := hR.1
 refine jU func177 fun w0 hw0 => ?_
 refine kC (a1a n s hs _) ?_
 refine jL 15 ?_
 refine Cj.loop (ι := Nat × Heap × Value) (fun y => y.1 ≤ es.length ∧ RxS y.2.1 rb es p c ∧ mZ y.2.1 ((KW n (Ix.keyOf n s) (es.take y.1)).foldl Ke.put []) y.2.2) (fun y => es.length - y.1) (fun y => [(0, ptr rb 0), (1, str n), (3, i64 most), (9, str (Ix.keyOf n s)), (10, y.2.2), (11, i64 (y.1 : Int))]) (fun y => y.2.1) (fun y => []) (0, _, _) ⟨Nat.zero_le _, hR, ⟨none, 0, rfl, Nat.le_refl _, fun h => absurd rfl h⟩⟩ ⟨rfl, rfl, rfl, rfl, rfl, rfl, trivial⟩ rfl rfl ?_
 rintro ⟨k, J1, w⟩ ⟨hk, hR, hv⟩
 dsimp only at hk hR hv ⊢
 have hrb := hR.1
 have hkl := a6F n (Ix.keyOf n s) (es.take k) (fun e he => heok e (List.mem_of_mem_take he))
 rw [List.length_take, Nat.min_eq_left hk] at hkl
 refine jS (fun hc1 hc1p => ?_) (fun hc1 hc1p => ?_)
 ·refine jL 5 ?_
  have hlt : k < es.length := by omega
  obtain ⟨e0, hget⟩ : ∃ x, es[k]? = some x := ⟨_, kW hlt⟩
  have hek := heok e0 (lX hget)
  obtain ⟨p1, c1, hpe, hc1, hp⟩ := id hR.2.1
  cases hpe
  obtain ⟨eb, eo, ecs, ety, efr, esp, rfl, heb, hed⟩ := hp (jT hlt)
  have hrec := hR.2.2 e0 (lX hget)
  obtain ⟨vp0, vc0, hev, -, -⟩ := id hrec.1
  have hnx : KW n (Ix.keyOf n s) (es.take (k + 1)) = KW n (Ix.keyOf n s) (es.take k) ++ (Ix.valsN e0.fs n).flatMap (KZ (Ix.keyOf n s)) := IW _ hget
  refine kJ (eo + k * 5) ?_
  refine J.z (q1 (off' := eo + k * 5 + 2) NH xI) ?_
  refine J.z (q2 isAgg57 xI (jR.EH heb) (EU hed hget)) ?_
  refine kL (EJ e0.fs e0.v e0.k e0.l n hek _ hrec) ?_
  intro v2 I3 H4 hle5 hp6
  have hR := hR.mono hle5
  have hrb := hle5 _ _ hrb
  have hv := hv.mono hle5
  have heb := hle5 _ _ heb
  have hrec := hrec.mono hle5
  obtain ⟨vv, h, hvals, rfl⟩ := hp6; cases h
  obtain ⟨pv, cv, rfl⟩ := jW.len hvals
  have hvl : (Ix.valsN e0.fs n).length ≤ 1000000 := by have h1 := wS n e0.fs (fun f hf => (hek.2 f hf).1); have h2 := hek.1; omega
  refine jL 9 ?_
  refine Cj.loop (ι := Nat × Heap × Value) (fun y => y.1 ≤ (Ix.valsN e0.fs n).length ∧ Le I3 y.2.1 ∧ mZ y.2.1 ((KW n (Ix.keyOf n s) (es.take k) ++ ((Ix.valsN e0.fs n).take y.1).flatMap (KZ (Ix.keyOf n s))).foldl Ke.put []) y.2.2) (fun y => (Ix.valsN e0.fs n).length - y.1) (fun y => [(0, ptr rb 0), (1, str n), (3, i64 most), (9, str (Ix.keyOf n s)), (10, y.2.2), (11, i64 (k : Int)), (12, .slice pv (Ix.valsN e0.fs n).length cv), (13, i64 (y.1 : Int))]) (fun y => y.2.1) (fun y => []) (0, _, _) ⟨Nat.zero_le _, Le.refl _, by dsimp only; rw [List.take_zero, List.flatMap_nil, List.append_nil]; exact hv⟩ ⟨rfl, rfl, rfl, rfl, rfl, rfl, rfl, rfl, trivial⟩ rfl rfl ?_
  rintro ⟨j, J2, w2⟩ ⟨hj, hIJ, hv⟩
  dsimp only at hj hIJ hv ⊢
  have hR := hR.mono hIJ
  have hrb := hR.1
  have hvals := hvals.mono hIJ
  have hrl := AY (KW n (Ix.keyOf n s) (es.take k) ++ ((Ix.valsN e0.fs n).take j).flatMap (KZ (Ix.keyOf n s))) []
  have hr2 := a0M (Ix.keyOf n s) ((Ix.valsN e0.fs n).take j)
  rw [List.length_take, Nat.min_eq_left hj] at hr2
  rw [List.length_append, List.length_nil] at hrl
  refine jS (fun hc7 hc7p => ?_) (fun hc7 hc7p => ?_)
  ·have hjlt : j < (Ix.valsN e0.fs n).length := by omega
   obtain ⟨x, hvget⟩ : ∃ x, (Ix.valsN e0.fs n)[j]? = some x := ⟨_, kW hjlt⟩
   have hxt := ET hek (lX hvget)
   have hvn := IW (KZ (Ix.keyOf n s)) hvget
   obtain ⟨p2, c2, hpe2, hc2, hp2⟩ := id hvals
   cases hpe2
   obtain ⟨vb, vo, vcs, vty, vfr, vsp, rfl, hvb, hvd⟩ := hp2 (jT hjlt)
   refine jL 5 ?_
   refine Cj.qC [] [] 12 (by kernel_rfl) ?_
   have hrb_10 := hrb
   have heb_10 := heb
   have hvb_10 := hvb
   refine kJ (vo + j * 2) ?_
   refine jL 1 ?_
   refine JA.zt 4 rfl (jP rfl rfl lQ (jR.zL hvb_10) (lW rX hvd hvget 0 (by decide))) ?_
   refine kJ (vo + j * 2) ?_
   refine JA.zt 8 rfl (q1 (off' := vo + j * 2 + 1) NQ oJ) ?_
   refine JA.zt 9 rfl (jP rfl rfl JF (jR.zL hvb_10) (lW rX hvd hvget 1 (by decide))) ?_
   refine kC (BJ x.1 _ (by omega) _) ?_
   refine mX (fun hg10 hg10p => ?_) (fun hg10 hg10p => ?_)
   ·have hk1 : Ke.nT x.1 x.2 ≠ [] := bne_iff_ne.1 hg10
    refine jL 2 ?_
    refine J.zg (a2m rfl rfl rfl) ?_
    refine mW (fun hc11 => ?_) (fun hc11 => ?_)
    ·have hko : KZ (Ix.keyOf n s) x = [Ke.nT x.1 x.2] := if_pos ⟨hk1, b6o hc11⟩
     refine kL (b3V _ _ (Ke.nT x.1 x.2) (a9f _) (by omega) _ hv) ?_
     intro v12 I13 H14 hle15 hp16
     have hIJ := hIJ.mono hle15
     have hR := hR.mono hle15
     have hrb := hle15 _ _ hrb
     have hv := hv.mono hle15
     have hvals := hvals.mono hle15
     have hvb := hle15 _ _ hvb
     obtain ⟨wv, h, hv2, rfl⟩ := hp16; cases h
     replace hv := hv2
     refine jL 9 ?_
     refine Ej.round (j + 1, _, _) ⟨by dsimp only; omega, hIJ, by dsimp only; rw [hvn, hko, ← List.append_assoc, b2M]; exact hv⟩ (by dsimp only; omega) ⟨rfl, rfl, rfl, rfl, rfl, rfl, rfl, rfl, trivial⟩ rfl rfl
    have hko : KZ (Ix.keyOf n s) x = [] := if_neg (fun g => g.2 (b5g hc11))
    refine jL 8 ?_
    refine Ej.round (j + 1, _, _) ⟨by dsimp only; omega, hIJ, by dsimp only; rw [hvn, hko, List.append_nil]; exact hv⟩ (by dsimp only; omega) ⟨rfl, rfl, rfl, rfl, rfl, rfl, rfl, rfl, trivial⟩ rfl rfl
   have hko : KZ (Ix.keyOf n s) x = [] := if_neg (fun g => g.1 (sJ hg10))
   refine jL 15 ?_
   refine Ej.round (j + 1, _, _) ⟨by dsimp only; omega, hIJ, by dsimp only; rw [hvn, hko, List.append_nil]; exact hv⟩ (by dsimp only; omega) ⟨rfl, rfl, rfl, rfl, rfl, rfl, rfl, rfl, trivial⟩ rfl rfl
  refine jL 11 ?_
  refine Ej.round (k + 1, _, _) ⟨by dsimp only; omega, hR, by dsimp only; rw [hnx]; rw [List.take_of_length_le (show (Ix.valsN e0.fs n).length ≤ j by omega)] at hv; exact hv⟩ (by dsimp only; omega) ⟨rfl, rfl, rfl, rfl, rfl, rfl, trivial⟩ rfl rfl
 refine jL 6 ?_
 have hfull : es.take k = es := List.take_of_length_le (by omega)
 rw [hfull] at hv hkl
 have hkpl := AY (KW n (Ix.keyOf n s) es) []
 rw [List.length_nil] at hkpl
 obtain ⟨ks, hks⟩ : ∃ ks, ks = (KW n (Ix.keyOf n s) es).foldl Ke.put [] := ⟨_, rfl⟩
 rw [← hks] at hv hkpl
 obtain ⟨pk, ck, rfl⟩ := mZ.len hv
 have hkall : ks = Ix.mP (es.map jQ) n (Ix.keyOf n s) := hks.trans (b6A n (Ix.keyOf n s) es)
 have hx1 : zQ J1 rb es := ⟨⟨p, c, hR⟩, hlen, heok, hx.pU⟩
 refine jL 11 ?_
 refine Cj.loop (ι := Nat × Heap × Gs) (fun y => y.1 ≤ ks.length ∧ ((y.1 : Int) ≤ most ∨ y.1 = 0) ∧ Le J1 y.2.1 ∧ kZ w0.heap.size 2 (QI (es.map jQ) n (ks.take y.1)).length ((QI (es.map jQ) n (ks.take y.1)).flatMap oU) y.2.2) (fun y => ks.length - y.1) (fun y => [(0, ptr rb 0), (1, str n), (3, i64 most), (10, .slice pk ks.length ck), (15, gV (QI (es.map jQ) n (ks.take y.1)).length y.2.2), (16, i64 (y.1 : Int))]) (fun y => y.2.1) (fun y => gH 268 ((QI (es.map jQ) n (ks.take y.1)).flatMap oU) y.2.2) (0, _, none) ⟨Nat.zero_le _, .inr rfl, Le.refl _, rfl, rfl⟩ ⟨rfl, rfl, rfl, rfl, rfl, rfl, trivial⟩ rfl rfl ?_
 rintro ⟨i, J3, g⟩ ⟨hi, hi0, hIJ, hg⟩
 dsimp only at hi hi0 hIJ hg ⊢
 have hx := hx1.mono hIJ
 have hv := hv.mono hIJ
 have hll := b4T (es.map jQ) n (ks.take i)
 rw [List.length_take, Nat.min_eq_left hi] at hll
 refine mX (fun hg18 hg18p => ?_) (fun hg18 hg18p => ?_)
 ·have hilt : i < ks.length := by omega
  obtain ⟨x, hkget⟩ : ∃ x, ks[i]? = some x := ⟨_, kW hilt⟩
  have hnl := b1H (es.map jQ) n hkget
  have hwl := a8X es n x
  obtain ⟨p3, c3, hpe3, hc3, hp3⟩ := id hv
  cases hpe3
  obtain ⟨kb, ko, kcs, kty, kfr, ksp, rfl, hkb, hkd⟩ := hp3 (jT hilt)
  refine jS (fun hc19 hc19p => ?_) (fun hc19 hc19p => ?_)
  ·refine jL 4 ?_
   refine Cj.qC [] [] 17 (by kernel_rfl) ?_
   have hrb_17 := hrb
   have hkb_17 := hkb
   refine kJ (ko + i) ?_
   refine JA.zt 4 rfl (jP rfl rfl lQ (jR.zL hkb_17) (qG hkd hkget)) ?_
   refine kJ (ko + i) ?_
   refine JA.zt 10 rfl (jP rfl rfl lQ (jR.zL hkb_17) (qG hkd hkget)) ?_
   refine kL (a4e rb es n x _ hx) ?_
   intro v21 I22 H23 hle24 hp25
   have hIJ := hIJ.mono hle24
   have hv := hv.mono hle24
   have hx := hx.mono hle24
   have hkb := hle24 _ _ hkb
   obtain ⟨vv, h, hph, rfl⟩ := hp25; cases h
   obtain ⟨pw, cw, rfl⟩ := jW.len hph
   refine ⟨⟨(Le.trans (Le.refl _) hle24), HSub.n, CSub.n⟩, ?_⟩
   refine JA.fix lI (fun fx26 => ?_)
   refine JA.tk 12 rfl fx26 (xQ rfl rfl nV) ?_
   refine JA.tk 13 rfl fx26 (jX (pl := #[(0, 1), (1, 1)]) rfl rfl SN rfl b3H (fun w => by simp [oJ, kU]) (pR.part rfl rfl rfl (oD.c oD.z) (pR.part rfl rfl rfl (oD.s (oD.c oD.z)) pR.none))) ?_
   refine q0 14 rfl (jY rfl rfl rfl zO AP SN rfl rfl rfl rfl (xM.agg rfl xM.none) ?_)
   intro b27 hb27
   refine ⟨⟨(Le.trans (Le.refl _) hle24), HSub.n, CSub.n⟩, ?_⟩
   refine q0 15 rfl (kK (by' := 23) [_] rfl rfl rfl rfl rfl zO (.inr ⟨_, zO⟩) (by kernel_rfl) AP SN rfl hg rfl (Src.slice (jR.at 0 rfl) rfl rfl rfl) (by omega) ?_)
   intro g28 hg28
   refine jL 10 ?_
   refine Ej.keep (Keeps.d Keeps.r) ?_
   refine Ej.round (i + 1, _, g28) ⟨by dsimp only; omega, .inl (by dsimp only; omega), hIJ, by dsimp only; rw [hnl, List.length_append, List.flatMap_append]; exact hg28⟩ (by dsimp only; omega) ⟨rfl, rfl, rfl, rfl, by dsimp only; rw [hnl, List.length_append]; rfl, rfl, trivial⟩ rfl (by dsimp only; rw [hnl, List.flatMap_append]; rfl)
  refine jL 12 ?_
  have htk := a1x hi0 hi (.inr (by omega))
  have hsc : QI (es.map jQ) n (ks.take i) = (Ix.scan (es.map jQ) n s most).map lZ := by rw [htk, hkall]; rfl
  rw [hsc] at hg ⊢
  refine Ej.perm (H' := gH 268 (((Ix.scan (es.map jQ) n s most).map lZ).flatMap oU) g ++ []) (.of_eq (List.append_nil _)) ?_
  refine Ej.keepR pJ (by decide) hg rfl (fun I8 hle8 hw8 => ?_)
  refine jV ?_
  exact ⟨_, rfl, hw8, rfl⟩
 refine jL 19 ?_
 have htk := a1x hi0 hi (.inl (by omega))
 have hsc : QI (es.map jQ) n (ks.take i) = (Ix.scan (es.map jQ) n s most).map lZ := by rw [htk, hkall]; rfl
 rw [hsc] at hg ⊢
 refine Ej.perm (H' := gH 268 (((Ix.scan (es.map jQ) n s most).map lZ).flatMap oU) g ++ []) (.of_eq (List.append_nil _)) ?_
 refine Ej.keepR pJ (by decide) hg rfl (fun I8 hle8 hw8 => ?_)
 refine jV ?_
 exact ⟨_, rfl, hw8, rfl⟩
theorem a1Z rb es t I (hx : zQ I rb es) : jO Tryz.prog 115 [ptr rb 0, jZ t] I [] (fun e _ H' => e = .returned (str (Ix.oI (es.map jQ) t)) ∧ H' = []) := by
 have hlen := hx.len
 have heok := hx.eok
 obtain ⟨p, c, hR⟩ := hx.ex
 have hrb := hR.1
 refine jU func115 fun w0 hw0 => ?_
 refine jL 3 ?_
 intro b1 hb1
 refine kC (a4Z rb _ es t (by omega) _ hrb hR.2) ?_
 refine mW (fun hc2 => ?_) (fun hc2 => ?_)
 ·have hth : nJ es t = false := by have h := hc2; simpa using h
  refine jL 7 ?_
  rw [a8O hx.pU hth]
  refine kM ?_
  exact ⟨rfl, rfl⟩
 have hth : nJ es t = true := by have h := hc2; simpa using h
 have hlt := RY hth
 obtain ⟨e0, hget⟩ : ∃ x, es[lK es t]? = some x := ⟨_, kW hlt⟩
 have hek := heok e0 (lX hget)
 have hsv := b2o hth hget
 obtain ⟨p1, c1, hpe, hc1, hp⟩ := id hR.2.1
 cases hpe
 obtain ⟨eb, eo, ecs, ety, efr, esp, rfl, heb, hed⟩ := hp (jT hlt)
 have hrec := hR.2.2 e0 (lX hget)
 obtain ⟨vp0, vc0, hev, -, -⟩ := id hrec.1
 refine kJ (eo + lK es t * 5) ?_
 refine J.z (q1 (off' := eo + lK es t * 5 + 2) NH xI) ?_
 refine J.z (q2 isAgg57 xI (jR.EH heb) (EU hed hget)) ?_
 refine kL (EJ e0.fs e0.v e0.k e0.l Ix.rE hek _ hrec) ?_
 intro v3 I4 H5 hle6 hp7
 have hR := hR.mono hle6
 have hrb := hle6 _ _ hrb
 have heb := hle6 _ _ heb
 have hrec := hrec.mono hle6
 obtain ⟨vv, h, hvals, rfl⟩ := hp7; cases h
 obtain ⟨pv, cv, rfl⟩ := jW.len hvals
 have hvl : (Ix.valsN e0.fs Ix.rE).length ≤ 1000000 := by have h1 := wS Ix.rE e0.fs (fun f hf => (hek.2 f hf).1); have h2 := hek.1; omega
 refine jS (fun hc8 hc8p => ?_) (fun hc8 hc8p => ?_)
 ·have hnil : (Ix.valsN e0.fs Ix.rE) = [] := List.length_eq_zero_iff.1 (by have h := lU hc8; omega)
  rw [hnil] at hsv
  refine jL 7 ?_
  rw [hsv]
  refine kM ?_
  exact ⟨rfl, rfl⟩
 have hjlt : 0 < (Ix.valsN e0.fs Ix.rE).length := by have h := lY hc8; omega
 obtain ⟨x, hvget⟩ : ∃ x, (Ix.valsN e0.fs Ix.rE)[0]? = some x := ⟨_, kW hjlt⟩
 have hxt := ET hek (lX hvget)
 rw [hvget] at hsv
 obtain ⟨p2, c2, hpe2, hc2, hp2⟩ := id hvals
 cases hpe2
 obtain ⟨vb, vo, vcs, vty, vfr, vsp, rfl, hvb, hvd⟩ := hp2 (jT hjlt)
 refine jL 3 ?_
 refine Cj.qC [0] [] 10 (by kernel_rfl) ?_
 have hrb_7 := hrb
 have heb_7 := heb
 have hvb_7 := hvb
 refine kJ (vo + 0 * 2) ?_
 refine jL 1 ?_
 refine JA.zt 3 rfl (jP rfl rfl lQ (jR.zL hvb_7) (lW rX hvd hvget 0 (by decide))) ?_
 refine kJ (vo + 0 * 2) ?_
 refine JA.zt 6 rfl (q1 (off' := vo + 0 * 2 + 1) NQ oJ) ?_
 refine JA.zt 7 rfl (jP rfl rfl JF (jR.zL hvb_7) (lW rX hvd hvget 1 (by decide))) ?_
 refine kC (BJ x.1 _ (by omega) _) ?_
 refine jL 5 ?_
 rw [hsv]
 refine kM ?_
 exact ⟨rfl, rfl⟩
end Go.Proofs.YtekmeaoblpfnpaaGreatDoor
end
namespace Ke
def a7g (f : sG) : sG := { f with sv := .slice none 0 0 }
def nrm (fs : List sG) : List sG := fs.map a7g
end Ke
namespace Go.Sx
open Go
theorem Ready.dom {I H w} (h : Ready I H w) {b} (hb : w.heap.size ≤ b) : I b = none := by
  cases hI : I b with
  | none => rfl
  | some o =>
    have := h.1 b o hI
    rw [Array.getElem?_eq_none hb] at this; cases this
section
variable {cx:Cx} {Q:Qt} {e:Env} {I:Heap} {H:HL}
end
section
variable {cx:Cx} {Q:Qt} {e:Env} {I:Heap} {H:HL}
end
def sD {α : Type} (N : Nat → Prop) (T : TypeId) (f : α → List Value) (I : Heap) (l : List α) (v : Value) : Prop :=
  ∃ p c, v = .slice p l.length c ∧ l.length ≤ c ∧ (l ≠ [] → ∃ b sp, p = some ⟨b, 0, none⟩ ∧ N b ∧ I b = some (jM T (l.flatMap f ++ sp)))
section
variable {α:Type} {N M:Nat→Prop} {T:TypeId} {f:α→List Value} {I I':Heap} {l:List α} {v:Value}
theorem sD.mono (h : sD N T f I l v) (hle : Le I I') : sD N T f I' l v :=
  let ⟨p, c, h1, h2, h3⟩ := h; ⟨p, c, h1, h2, fun hn => let ⟨b, sp, h4, h5, h6⟩ := h3 hn; ⟨b, sp, h4, h5, hle _ _ h6⟩⟩
theorem sD.imp (h : sD N T f I l v) (hm : ∀ b, N b → M b) : sD M T f I l v :=
  let ⟨p, c, h1, h2, h3⟩ := h; ⟨p, c, h1, h2, fun hn => let ⟨b, sp, h4, h5, h6⟩ := h3 hn; ⟨b, sp, h4, hm b h5, h6⟩⟩
theorem sD.rowT (h : sD N T f I l v) : wH T f I l v :=
  let ⟨p, c, h1, h2, h3⟩ := h; ⟨p, c, h1, h2, fun hn => let ⟨b, sp, h4, _, h6⟩ := h3 hn; ⟨b, sp, h4, h6⟩⟩
theorem sD.row (h : sD N T f I l v) : jW f I l v := h.rowT.row
theorem sD.nil : sD N T f I ([] : List α) (.slice none 0 0) := ⟨none, 0, rfl, Nat.le_refl _, fun h => absurd rfl h⟩
end
section
variable {cx:Cx} {Q:Qt} {e:Env} {I:Heap} {R:HL} {T:TypeId} {α:Type} {l:List α} {f:α→List Value} {sz n base:Nat} {g:Gs}
theorem a4Q {X : Heap → HL → Prop} (hf : ∀ x, (f x).length = sz) (hpos : 0 < sz) (hg : kZ base sz n (l.flatMap f) g) (hn : n = l.length) (hp : ∀ b o, base ≤ b → (∀ I', Le I I' → I' b = some o → X I' R) → X I ((b, o) :: R)) (k : ∀ I', Le I I' → sD (base ≤ ·) T f I' l (gV n g) → X I' R) : X I (gH T (l.flatMap f) g ++ R) := by
  subst hn
  cases g with
  | none =>
    obtain ⟨h1, h2⟩ := hg
    have : l = [] := List.length_eq_zero_iff.1 h1
    subst this
    exact k I (Le.refl _) sD.nil
  | some q =>
    obtain ⟨b, c, sp⟩ := q
    obtain ⟨h1, h2, h3⟩ := hg
    have hc : l.length ≤ c := by
      rw [mG hf] at h3
      exact Nat.le_of_mul_le_mul_right (by omega : l.length * sz ≤ c * sz) hpos
    exact hp b _ h1 fun I' hle hb => k I' hle ⟨_, c, rfl, hc, fun _ => ⟨b, sp, rfl, h1, hb⟩⟩
theorem Cj.a2L {c} (hf : ∀ x, (f x).length = sz) (hpos : 0 < sz) (hg : kZ cx.w0.heap.size sz n (l.flatMap f) g) (hn : n = l.length) (k : ∀ I', Le I I' → sD (cx.w0.heap.size ≤ ·) T f I' l (gV n g) → Cj cx Q c e I' R) : Cj cx Q c e I (gH T (l.flatMap f) g ++ R) :=
  a4Q (X := fun I H => Cj cx Q c e I H) hf hpos hg hn (fun _ _ hb k => Cj.persist hb k) k
theorem Ej.a2L {x} (hf : ∀ x, (f x).length = sz) (hpos : 0 < sz) (hg : kZ cx.w0.heap.size sz n (l.flatMap f) g) (hn : n = l.length) (k : ∀ I', Le I I' → sD (cx.w0.heap.size ≤ ·) T f I' l (gV n g) → Ej cx Q x e I' R) : Ej cx Q x e I (gH T (l.flatMap f) g ++ R) :=
  a4Q (X := fun I H => Ej cx Q x e I H) hf hpos hg hn (fun _ _ hb k => Ej.persist hb k) k
end
theorem Cj.named {cx Q e I H c} (k : ∀ I9, I9 = I → Cj cx Q c e I9 H) : Cj cx Q c e I H := k I rfl
section
variable {cx:Cx} {Q:Qt} {e:Env} {I I1:Heap} {H A:HL} {Z:CL} {z:Nat} {l:List Oper} {fuel:Nat} {listed:Array Bool}
theorem JA.join {ι : Type} (pre : ι → Prop) (env : ι → Env) (hp : ι → Heap) (own : ι → HL) listedT fuelT (k2 : ∀ y, pre y → JA cx Q l I1 A Z z fuelT listedT (env y) (hp y) (own y))
    (k1 : (∀ j lst fu e' I' H', pre j → listedT = lst → fuelT = fu → Sub (env j) e' → hp j = I' → own j = H' → JA cx Q l I1 A Z z fu lst e' I' H') → JA cx Q l I1 A Z z fuel listed e I H) : JA cx Q l I1 A Z z fuel listed e I H :=
  k1 fun j lst fu e' I' H' hj hl hf hs hI hH => by
    subst hl hf hI hH
    exact fun a w ha h1 => k2 j hj a w (ha.sub hs) h1
end
section
variable {cx:Cx} {Q:Qt} {e:Env} {I I1:Heap} {R H1 A:HL} {Z:CL} {z:Nat} {ops:List Oper} {fuel:Nat} {listed:Array Bool} {T:TypeId} {α:Type} {l:List α} {f:α→List Value} {v:Value} {sz n:Nat} {g:Gs}
theorem JA.MR (h : AQ T f l v H1) (hb : ∀ p ∈ H1, cx.w0.heap.size ≤ p.1) (k : ∀ I', Le I I' → wH T f I' l v → JA cx Q ops I1 A Z z fuel listed e I' R) : JA cx Q ops I1 A Z z fuel listed e I (H1 ++ R) :=
  a2s (X := fun I H => JA cx Q ops I1 A Z z fuel listed e I H) h hb (fun _ _ hb k => JA.persist hb k) k
end
end Go.Sx
section
namespace Go.Proofs.YtekmeaoblpfnpaaGreatDoor
open _root_.Go.Proofs.Tryz
open Go Go.Sx
def In64 (a : Int) : Prop := -9223372036854775808 ≤ a ∧ a ≤ 9223372036854775807
theorem a9c {a} (h : In64 a) m (hm : 2 ≤ m) : -4611686018427387904 ≤ a.tdiv m ∧ a.tdiv m ≤ 4611686018427387904 := by
  unfold In64 at h
  have h1 : (a.tdiv m).natAbs = a.natAbs / m.natAbs := Int.natAbs_tdiv a m
  have h2 : a.natAbs / m.natAbs ≤ a.natAbs / 2 := Nat.div_le_div_left (by omega) (by decide)
  omega
theorem a1d {j : Nat} {m} (hj : j ≤ 3) (h0 : 0 ≤ m) (h1 : m ≤ 2) : 0 ≤ (j : Int) * (1 + m) ∧ (j : Int) * (1 + m) ≤ 9 := by
  match j, hj with
  | 0, _ => simp
  | 1, _ => simp; omega
  | 2, _ => simp; omega
  | 3, _ => simp; omega
abbrev wY (q : Ix.Four) : List Value := [i64 q.x0, i64 q.x1, i64 q.x2, i64 q.x3]
theorem a9R q : (wY q).length = 4 := rfl
structure AL (q : Ix.Four) : Prop where
  h0 : In64 q.x0
  h1 : In64 q.x1
  h2 : In64 q.x2
  h3 : In64 q.x3
theorem a0m {l : List (List UInt8)} {n} (h0 : 0 ≤ n) (h1 : n < (l.length : Int)) : (l.map str)[n.toNat]? = some (str (l.getD n.toNat [])) := by
  have h2 : n.toNat < l.length := by omega
  rw [List.getElem?_map, kW h2, List.getD_eq_getElem?_getD, kW h2]; rfl
theorem b2r {l : List UInt8} {n} (h0 : 0 ≤ n) (h1 : n < (l.length : Int)) : l[n.toNat]? = some (l.getD n.toNat 0) := by
  have h2 : n.toNat < l.length := by omega
  rw [kW h2, List.getD_eq_getElem?_getD, kW h2]; rfl
theorem a6N fs f : Ke.nrm (fs ++ [f]) = Ke.nrm fs ++ [Ke.a7g f] := by unfold Ke.nrm; rw [List.map_append]; rfl
theorem b4q fs : (Ke.nrm fs).length = fs.length := List.length_map _
theorem VU fs : Ix.vals (Ke.nrm fs) = Ix.vals fs := by
  unfold Ix.vals Ke.nrm
  rw [List.flatMap_map]; rfl
def vI (q : Ix.Four) (n : Nat) : List Ke.Sub := (List.range n).map fun j => Ix.a7Y q j
theorem MG q n : vI q (n + 1) = vI q n ++ [Ix.a7Y q n] := by unfold vI; rw [List.range_succ, List.map_append]; rfl
theorem a1L q n : (vI q n).length = n := by unfold vI; rw [List.length_map, List.length_range]
theorem b3E {q} (h : Ix.isC (Ix.a7K q.x0)) : Ix.a0I q = ⟨Ix.a7K q.x0, [], Ix.a0a q.x3, .slice none 0 0, []⟩ := if_pos h
theorem b3I {q} (h : ¬ Ix.isC (Ix.a7K q.x0)) : Ix.a0I q = ⟨Ix.a7K q.x0, Ix.b3C.getD (q.x1 % 8).toNat [], [], .slice none 0 0, vI q (1 + (q.x2 % 3).toNat)⟩ := if_neg h
theorem b2W n : (Ix.a7K n).length ≤ 3 := by
  unfold Ix.a7K
  generalize (n % 20).toNat = k
  rcases Nat.lt_or_ge k 20 with h | h
  · have : ∀ k, k < 20 → (Ix.XM.getD k []).length ≤ 3 := by decide
    exact this k h
  rw [List.getD_eq_getElem?_getD, List.getElem?_eq_none (by simpa [Ix.XM] using h)]; simp
theorem b1e n : (Ix.b3C.getD n []).length ≤ 2 := by
  rcases Nat.lt_or_ge n 8 with h | h
  · have : ∀ k, k < 8 → (Ix.b3C.getD k []).length ≤ 2 := by decide
    exact this n h
  rw [List.getD_eq_getElem?_getD, List.getElem?_eq_none (by simpa [Ix.b3C] using h)]; simp
theorem a7S q : (Ix.a0I q).subs.length ≤ 3 ∧ lV (Ix.a0I q).subs ≤ 51 ∧ (Ix.a0I q).ind.length ≤ 2 := by
  by_cases h : Ix.isC (Ix.a7K q.x0)
  · rw [b3E h]; exact ⟨by simp, by simp [lV], by simp⟩
  rw [b3I h]
  refine ⟨by dsimp only; rw [a1L]; omega, ?_, b1e _⟩
  dsimp only
  have hn : ∀ n, lV (vI q n) ≤ n * 17 := by
    intro n
    induction n with
    | zero => simp [lV, vI]
    | succ n ih =>
      rw [MG]
      unfold lV at ih ⊢
      rw [List.map_append, List.sum_append]
      have h1 : (Ix.a7Y q n).text.length ≤ 17 := Ix.b0J _
      simp only [List.map_cons, List.map_nil, List.sum_cons, List.sum_nil]; omega
  have := hn (1 + (q.x2 % 3).toNat)
  omega
theorem a2Q {l fs} (h : Ke.nrm fs = Ix.XJ l) : xP fs := by
  have hl : fs.length ≤ 20 := by
    rw [← b4q, h]
    unfold Ix.XJ
    rw [List.length_map, List.length_take]; omega
  refine ⟨by omega, fun f hf => ?_⟩
  have h1 : Ke.a7g f ∈ Ix.XJ l := by rw [← h]; exact List.mem_map_of_mem hf
  obtain ⟨q, _, he⟩ := List.mem_map.1 h1
  have h2 := a7S q
  rw [he] at h2
  exact ⟨by have : f.subs.length ≤ 3 := h2.1; omega, by have : lV f.subs ≤ 51 := h2.2.1; omega, by have : f.ind.length ≤ 2 := h2.2.2; omega⟩
theorem a8y {α : Type} (A S Z : List α) : (S ++ (A ++ Z)).Perm (A ++ (S ++ Z)) := by
  rw [← List.append_assoc, ← List.append_assoc]
  exact List.Perm.append_right Z List.perm_append_comm
def OJ (N : Nat → Prop) (I : Heap) (fs : List Ke.sG) (v : Value) : Prop := sD N 108 nS I fs v ∧ ∀ f ∈ fs, sD N 176 tK I f.subs f.sv
theorem OJ.imp {N M : Nat → Prop} {I fs v} (h : OJ N I fs v) (hm : ∀ b, N b → M b) : OJ M I fs v := ⟨h.1.imp hm, fun f hf => (h.2 f hf).imp hm⟩
theorem OJ.rec {N : Nat → Prop} {I fs v} (h : OJ N I fs v) : xO I fs v := ⟨h.1.row, fun f hf => (h.2 f hf).row⟩
def xZ (N : Nat → Prop) (I : Heap) (fs : List Ke.sG) : Prop := ∀ f ∈ fs, sD N 176 tK I f.subs f.sv
theorem xZ.mono {N : Nat → Prop} {I I' fs} (h : xZ N I fs) (hle : Le I I') : xZ N I' fs := fun f hf => (h f hf).mono hle
theorem xZ.nil {N : Nat → Prop} {I} : xZ N I [] := fun _ h => by cases h
theorem xZ.add {N : Nat → Prop} {I fs f} (h : xZ N I fs) (h1 : sD N 176 tK I f.subs f.sv) : xZ N I (fs ++ [f]) := fun x hx => by
  rcases List.mem_append.1 hx with g | g
  · exact h x g
  rw [List.mem_singleton.1 g]; exact h1
theorem FU n m (hm : 0 < m) (hm2 : m ≤ 1000000000) I : Pure Tryz.prog 141 [i64 n, i64 m] I (i64 (n % m)) := by
 have h1 := Int.tmod_lt_of_pos n hm
 have h2 := Int.lt_tmod_of_pos n hm
 refine jU func141 fun w0 hw0 => ?_
 refine jL 14 ?_
 refine J.ev 11 (i64 (n % m)) rfl (congrArg i64 (mod_eq n hm)) ?_
 refine jV ?_
 exact ⟨rfl, rfl, rfl⟩
theorem b5r n I : Pure Tryz.prog 139 [i64 n] I (str (Ix.a7K n)) := by
 refine jO.toPure ?_
 refine jU func139 fun w0 hw0 => ?_
 refine jL 8 ?_
 intro b1 hb1
 refine kC (FU n 20 (by decide) (by decide) _) ?_
 refine kJ ((n % 20).toNat) ?_
 refine J.z (jP rfl rfl lQ (jR.at 0 rfl) (a0m (l := Ix.XM) (by omega) (by simp [Ix.XM]; omega))) ?_
 refine kM ?_
 exact ⟨rfl, rfl⟩
theorem a4R n I : Pure Tryz.prog 140 [i64 n] I (str (Ix.a0a n)) := by
 refine jO.toPure ?_
 refine jU func140 fun w0 hw0 => ?_
 refine jL 8 ?_
 intro b1 hb1
 refine kC (FU n 20 (by decide) (by decide) _) ?_
 refine kJ ((n % 20).toNat) ?_
 refine J.z (jP rfl rfl lQ (jR.at 0 rfl) (a0m (l := Ix.QZ) (by omega) (by simp [Ix.QZ]; omega))) ?_
 refine kM ?_
 exact ⟨rfl, rfl⟩
theorem CV {α : Type} {l : List α} {k} (hk : k ≤ l.length) (h : k ≤ 20 ∧ (l.length ≤ k ∨ 20 ≤ k)) : l.take k = l.take 20 := by
  rcases h.2 with g | g
  · rw [List.take_of_length_le g, List.take_of_length_le (by omega)]
  rw [show k = 20 by omega]
theorem b0z l v (hok : ∀ q ∈ l, AL q) I (hv0 : jW wY I l v) : jO Tryz.prog 87 [v] I [] (fun e I' H' => ∃ fs w, e = .returned (a0O 97 109 w) ∧ OJ (I · = none) I' fs w ∧ Ke.nrm fs = Ix.XJ l ∧ H' = []) := by
 obtain ⟨p, c, rfl, hc, -⟩ := id hv0
 refine jU func87 fun w0 hw0 => ?_
 refine jL 3 ?_
 intro b1 hb1
 refine J.yC (J.z (jX (pl := #[(0, 1), (1, 1), (2, 1)]) rfl rfl zeroValue57 rfl underlying57 (fun w => by simp [XW, sizeOf55]) (pR.part rfl rfl rfl (oD.c oD.z) (pR.part rfl rfl rfl (oD.s (oD.c oD.z)) pR.none))) ?_)
 refine J.op rfl (qI rfl rfl rfl zeroValue57 rfl ?_)
 intro b2 hb2
 refine J.op rfl (q5 0 xI (oD.c (oD.c (oD.c oD.z))) lS.z ?_)
 refine J.a8c (Cj.region (J.as ?_))
 refine J.ns (Cj.block ?_)
 refine Cj.loop (ι := Nat × Heap × List Ke.sG × Gs) (fun y => y.1 ≤ l.length ∧ y.1 ≤ 20 ∧ Le I y.2.1 ∧ xZ (w0.heap.size ≤ ·) y.2.1 y.2.2.1 ∧ Ke.nrm y.2.2.1 = (l.take y.1).map Ix.a0I ∧ y.2.2.1.length = y.1 ∧ kZ w0.heap.size 4 y.2.2.1.length (y.2.2.1.flatMap nS) y.2.2.2) (fun y => 20 - y.1) (fun y => [(0, .slice p l.length c), (2, ptr b1 0), (3, ptr b2 0), (4, i64 (y.1 : Int))]) (fun y => y.2.1) (fun y => (b2, jM 57 [u8 97, u8 109, gV y.2.2.1.length y.2.2.2]) :: (b1, jM 57 [u8 0, u8 0, .slice none 0 0]) :: gH 108 (y.2.2.1.flatMap nS) y.2.2.2) (0, _, [], none) ⟨Nat.zero_le _, Nat.zero_le _, Le.refl _, xZ.nil, rfl, rfl, rfl, rfl⟩ ⟨rfl, rfl, rfl, rfl, trivial⟩ rfl rfl ?_
 rintro ⟨k, Jh, fs, g⟩ ⟨hk, hk20, hIJ, hS, hN, hfl, hg⟩
 dsimp only at hk hk20 hIJ hS hN hfl hg ⊢
 have hv := hv0.mono hIJ
 refine mX (fun hg3 hg3p => ?_) (fun hg3 hg3p => ?_)
 ·refine jS (fun hc4 hc4p => ?_) (fun hc4 hc4p => ?_)
  ·refine jL 5 ?_
   have hlt : k < l.length := by omega
   have hlt2 : k < 20 := by omega
   obtain ⟨q, hget⟩ : ∃ x, l[k]? = some x := ⟨_, kW hlt⟩
   have hq := hok q (lX hget)
   obtain ⟨p1, c1, hpe, hc1, hp⟩ := id hv
   cases hpe
   obtain ⟨lb, lo, lcs, lty, lfr, sp, rfl, hlb, hld⟩ := hp (jT hlt)
   have htl := b2W q.x0
   refine kJ (lo + k * 4) ?_
   refine J.z (q2 isAgg215 sizeOf215 (jR.EH hlb) (kY a9R hld hget)) ?_
   refine jL 1 ?_
   intro b5 hb5
   refine kC (b5r q.x0 _) ?_
   refine J.z (jX (pl := #[(0, 1), (1, 1), (2, 1), (3, 1)]) rfl rfl NU rfl underlying108 (fun w => by simp [sizeOf106, kU]) (pR.part rfl rfl rfl (oD.c oD.z) pR.none)) ?_
   refine J.op rfl (qI rfl rfl rfl NU rfl ?_)
   intro b6 hb6
   refine J.op rfl (q5 0 CU (oD.c (oD.c (oD.c (oD.c oD.z)))) lS.z ?_)
   refine J.ns ?_
   refine Cj.join (ι := Unit) (fun _ => ¬ Ix.isC (Ix.a7K q.x0)) (fun _ => [(0, .slice (some ⟨lb, lo, none⟩) l.length c), (2, ptr b1 0), (3, ptr b2 0), (4, i64 (k : Int)), (5, ptr b5 0), (6, ptr b6 0)]) (fun _ => Jh) (fun _ => (b6, jM 108 [str (Ix.a7K q.x0), str [], str [], .slice none 0 0]) :: (b5, jM 215 (wY q)) :: (b2, jM 57 [u8 97, u8 109, gV fs.length g]) :: (b1, jM 57 [u8 0, u8 0, .slice none 0 0]) :: gH 108 (fs.flatMap nS) g) ?_ (fun hcut => ?_)
   ·rintro _ hC
    refine jL 3 ?_
    intro b7 hb7
    refine kC (FU q.x1 8 (by decide) (by decide) _) ?_
    refine kJ ((q.x1 % 8).toNat) ?_
    refine J.z (jP rfl rfl lQ (jR.at 0 rfl) (a0m (l := Ix.b3C) (by omega) (by simp [Ix.b3C]; omega))) ?_
    refine jL 5 ?_
    obtain ⟨nn, hnn⟩ : ∃ nn : Nat, nn = 1 + (q.x2 % 3).toNat := ⟨_, rfl⟩
    have hn3 : nn ≤ 3 := by omega
    refine kC (FU q.x2 3 (by decide) (by decide) _) ?_
    refine jL 1 ?_
    refine J.ev 58 (i64 (nn : Int)) rfl (congrArg i64 (by omega)) ?_
    refine jL 5 ?_
    refine Cj.keep (Keeps.d Keeps.r) ?_
    refine jL 5 ?_
    refine Cj.keep (Keeps.k (Keeps.k (Keeps.k (Keeps.k Keeps.r)))) ?_
    refine Cj.loop (ι := Nat × Gs) (fun y => y.1 ≤ nn ∧ kZ w0.heap.size 2 (vI q y.1).length ((vI q y.1).flatMap tK) y.2) (fun y => nn - y.1) (fun y => [(0, .slice (some ⟨lb, lo, none⟩) l.length c), (2, ptr b1 0), (3, ptr b2 0), (4, i64 (k : Int)), (5, ptr b5 0), (6, ptr b6 0), (7, i64 (nn : Int)), (8, i64 (y.1 : Int))]) (fun y => _) (fun y => (b6, jM 108 [str (Ix.a7K q.x0), str (Ix.b3C.getD (q.x1 % 8).toNat []), str [], gV (vI q y.1).length y.2]) :: (b5, jM 215 (wY q)) :: (b2, jM 57 [u8 97, u8 109, gV fs.length g]) :: (b1, jM 57 [u8 0, u8 0, .slice none 0 0]) :: (gH 176 ((vI q y.1).flatMap tK) y.2 ++ gH 108 (fs.flatMap nS) g)) (0, none) ⟨Nat.zero_le _, rfl, rfl⟩ ⟨rfl, rfl, rfl, rfl, rfl, rfl, rfl, rfl, trivial⟩ rfl rfl ?_
    rintro ⟨j, g2⟩ ⟨hj, hgs⟩
    dsimp only at hj hgs ⊢
    have hsl := a1L q j
    refine jS (fun hc8 hc8p => ?_) (fun hc8 hc8p => ?_)
    ·refine jL 4 ?_
     refine Cj.qC [0, 1, 2, 3] [] 24 (by kernel_rfl) ?_
     have hlb_15 := hlb
     refine jL 4 ?_
     refine JA.zt 4 rfl (zZ rfl rfl rfl (by decide) (qW (by have h := a9c hq.h2 3 (by decide); omega))) ?_
     refine jL 7 ?_
     refine JA.zt 18 rfl (b5A rfl rfl rfl) ?_
     refine kC (FU q.x1 3 (by decide) (by decide) _) ?_
     refine jL 2 ?_
     refine JA.zt 10 rfl (DX rfl rfl rfl (qW (by have h := a1d (j := j) (m := q.x1 % 3) (by omega) (by omega) (by omega); omega))) ?_
     refine JA.zt 11 rfl (zT rfl rfl rfl (qW (by have h := a9c hq.h2 3 (by decide); have h2 := a1d (j := j) (m := q.x1 % 3) (by omega) (by omega) (by omega); omega))) ?_
     refine kC (FU (q.x2.tdiv 3 + (j : Int) * (1 + q.x1 % 3)) 8 (by decide) (by decide) _) ?_
     refine jL 1 ?_
     refine JA.zt 13 rfl (lH rfl rfl rfl lM (by omega) (b2r (l := Ix.a4s) (by omega) (by simp [Ix.a4s]; omega))) ?_
     refine kC (a4R _ _) ?_
     refine ⟨⟨(Le.refl _), (HSub.c 0 rfl (HSub.c 1 rfl (HSub.c 2 rfl (HSub.c 3 rfl HSub.n)))), CSub.n⟩, ?_⟩
     refine JA.fix lI (fun fx12 => ?_)
     refine JA.tk 20 rfl fx12 (jX (pl := #[(0, 1), (1, 1)]) rfl rfl TT rfl OG (fun w => by simp [XW, kU]) (pR.part rfl rfl rfl (oD.c oD.z) (pR.part rfl rfl rfl (oD.s (oD.c oD.z)) pR.none))) ?_
     refine q0 21 rfl (jY rfl rfl rfl JX JR TT rfl rfl rfl rfl (xM.agg rfl xM.none) ?_)
     intro b13 hb13
     refine ⟨⟨(Le.refl _), (HSub.c 1 rfl (HSub.c 2 rfl (HSub.c 3 rfl (HSub.c 4 rfl HSub.n)))), CSub.n⟩, ?_⟩
     refine JA.perm (H' := [_, _, _, _, _] ++ (gH _ _ _ ++ gH _ _ _)) (a1J [_, _, _, _, _] _ _) ?_
     refine q0 22 rfl (kK (by' := 23) ([_, _, _, _, _] ++ gH _ _ _) rfl rfl rfl rfl rfl JX (.inr ⟨_, JX⟩) (by kernel_rfl) JR TT rfl hgs rfl (Src.slice (jR.at 0 rfl) rfl rfl rfl) (by omega) ?_)
     intro g14 hg14
     refine jL 2 ?_
     refine JA.last 24 (by kernel_rfl) rfl rfl rfl (oP 1 rfl rfl rfl rfl (MV _ _) (a3l _ _) sizeOf106 rfl rfl (oD.s (oD.s (oD.s (oD.c oD.z)))) (lS.s lS.z) ?_)
     refine jL 8 ?_
     refine Ej.perm (a1J [_, _, _, _, _] (gH _ _ _) (gH _ _ _)) ?_
     refine Ej.keep (Keeps.d (Keeps.k (Keeps.k (Keeps.k (Keeps.k Keeps.r))))) ?_
     refine Ej.round (j + 1, g14) ⟨by dsimp only; omega, by dsimp only; rw [MG, List.length_append, List.flatMap_append]; exact hg14⟩ (by dsimp only; omega) ⟨rfl, rfl, rfl, rfl, rfl, rfl, rfl, rfl, trivial⟩ rfl (by dsimp only; rw [MG, List.length_append, List.flatMap_append]; rfl)
    refine jL 5 ?_
    have hjn : j = nn := by omega
    subst hjn
    refine Cj.perm (a8y [_, _, _, _] (gH _ _ _) (gH _ _ _)) ?_
    refine Cj.a2L qH (by decide) hgs rfl (fun I8 hle8 hss => ?_)
    have hIJ := hIJ.mono hle8
    have hS := hS.mono hle8
    have hv := hv.mono hle8
    have hlb := hle8 _ _ hlb
    refine jL 5 ?_
    intro b16 hb16
    refine J.op rfl (kK (by' := 71) [_, _, _, _, _] rfl rfl rfl rfl rfl a7u (.inr ⟨_, a7u⟩) (by kernel_rfl) CU NU rfl hg rfl (Src.slice (jR.at 0 rfl) rfl rfl (by show [str (Ix.a7K q.x0), str (Ix.b3C.getD (q.x1 % 8).toNat []), str [], gV _ _].all Value.oneCell' = true; simp only [List.all_cons, List.all_nil, SY, Bool.and_true]; rfl)) (by omega) ?_)
    intro g17 hg17
    refine jL 10 ?_
    refine Ej.keep (Keeps.d (Keeps.d (Keeps.d (Keeps.k (Keeps.k Keeps.r))))) ?_
    refine Ej.round (k + 1, _, fs ++ [⟨Ix.a7K q.x0, Ix.b3C.getD (q.x1 % 8).toNat [], [], gV (vI q j).length g2, vI q j⟩], g17) ⟨by dsimp only; omega, by dsimp only; omega, hIJ, xZ.add hS hss, by dsimp only; rw [a6N, yH _ hget, hN, b3I hC, ← hnn]; rfl, by dsimp only; rw [List.length_append, hfl]; rfl, by dsimp only; rw [tX, List.length_append]; exact hg17⟩ (by dsimp only; omega) ⟨rfl, rfl, rfl, rfl, trivial⟩ rfl (by dsimp only; rw [tX, List.length_append]; rfl)
   refine mX (fun hg18 hg18p => ?_) (fun hg18 hg18p => ?_)
   ·refine jL 2 ?_
    refine J.zg (lN (p := 0) (q := 2) rfl rfl lM rfl ⟨_, rfl⟩ (by omega) (by omega)) ?_
    refine jS (fun hc19 hc19p => ?_) (fun hc19 hc19p => ?_)
    ·have hC : Ix.isC (Ix.a7K q.x0) := ⟨by omega, by have h := lU hc19; rw [List.drop_zero] at h; exact h⟩
     refine kC (a4R q.x3 _) ?_
     refine jL 10 ?_
     intro b20 hb20
     refine yQ 71 [_, _, _, _, _] hg ?_
     intro g21 hg21
     refine jL 13 ?_
     refine Ej.keep (Keeps.d (Keeps.d (Keeps.d (Keeps.k (Keeps.k Keeps.r))))) ?_
     refine Ej.round (k + 1, _, fs ++ [⟨Ix.a7K q.x0, [], Ix.a0a q.x3, .slice none 0 0, []⟩], g21) ⟨by dsimp only; omega, by dsimp only; omega, hIJ, xZ.add hS sD.nil, by dsimp only; rw [a6N, yH _ hget, hN, b3E hC]; rfl, by dsimp only; rw [List.length_append, hfl]; rfl, by dsimp only; rw [tX, List.length_append]; exact hg21⟩ (by dsimp only; omega) ⟨rfl, rfl, rfl, rfl, trivial⟩ rfl (by dsimp only; rw [tX, List.length_append]; rfl)
    have hC : ¬ Ix.isC (Ix.a7K q.x0) := fun g => lY hc19 (by rw [List.drop_zero]; exact g.2)
    refine jL 1 ?_
    exact hcut () _ _ _ hC ⟨rfl, rfl, rfl, rfl, rfl, rfl, trivial⟩ rfl rfl
   have hC : ¬ Ix.isC (Ix.a7K q.x0) := fun g => by have h := nM hg18; have := g.1; omega
   refine jL 9 ?_
   exact hcut () _ _ _ hC ⟨rfl, rfl, rfl, rfl, rfl, rfl, trivial⟩ rfl rfl
  refine jL 8 ?_
  refine J.op rfl (oP 1 rfl rfl rfl rfl rfl (by show [u8 97, u8 109, gV _ _].all Value.oneCell' = true; simp only [List.all_cons, List.all_nil, SY, Bool.and_true]; rfl) xI rfl rfl (oD.c (oD.c (oD.c oD.z))) (lS.s lS.z) ?_)
  refine jL 3 ?_
  have hmade : Ke.nrm fs = Ix.XJ l := by rw [hN]; unfold Ix.XJ; rw [CV hk (by omega)]
  refine Ej.perm (H' := gH _ _ _ ++ [_, _]) List.perm_append_comm ?_
  refine Ej.a2L OU (by decide) hg rfl (fun I9 hle9 hfs => ?_)
  refine Ej.a0r (Keeps.d (Keeps.d Keeps.n)) rfl rfl rfl (jR.at 1 rfl) isAgg57 xI rfl ?_
  exact ⟨fs, _, rfl, OJ.imp ⟨hfs, fun f hf => ((hS f hf).mono hle9)⟩ (fun b hb => hw0.dom hb), hmade, rfl⟩
 refine jL 14 ?_
 refine J.op rfl (oP 1 rfl rfl rfl rfl rfl (by show [u8 97, u8 109, gV _ _].all Value.oneCell' = true; simp only [List.all_cons, List.all_nil, SY, Bool.and_true]; rfl) xI rfl rfl (oD.c (oD.c (oD.c oD.z))) (lS.s lS.z) ?_)
 refine jL 3 ?_
 have hmade : Ke.nrm fs = Ix.XJ l := by rw [hN]; unfold Ix.XJ; rw [CV hk (by omega)]
 refine Ej.perm (H' := gH _ _ _ ++ [_, _]) List.perm_append_comm ?_
 refine Ej.a2L OU (by decide) hg rfl (fun I9 hle9 hfs => ?_)
 refine Ej.a0r (Keeps.d (Keeps.d Keeps.n)) rfl rfl rfl (jR.at 1 rfl) isAgg57 xI rfl ?_
 exact ⟨fs, _, rfl, OJ.imp ⟨hfs, fun f hf => ((hS f hf).mono hle9)⟩ (fun b hb => hw0.dom hb), hmade, rfl⟩
end Go.Proofs.YtekmeaoblpfnpaaGreatDoor
end
section
namespace Go.Proofs.YtekmeaoblpfnpaaGreatDoor
open _root_.Go.Proofs.Tryz
open Go Go.Sx
structure Act where
  a : Ix.qO
  v : Value
def a0N (x : Act) : List Value := [.bool x.a.drop, i64 x.a.src, i64 x.a.num, x.v]
theorem BH x : (a0N x).length = 4 := rfl
def OO (I : Heap) (xs : List Act) (v : Value) : Prop := jW a0N I xs v ∧ ∀ x ∈ xs, jW wY I x.a.fs x.v
theorem OO.mono {I I' xs v} (h : OO I xs v) (hle : Le I I') : OO I' xs v := ⟨h.1.mono hle, fun x hx => (h.2 x hx).mono hle⟩
def XG (xs : List Act) : Prop := ∀ x ∈ xs, ∀ q ∈ x.a.fs, AL q
abbrev acts (xs : List Act) : List Ix.qO := xs.map (·.a)
theorem b1V {α : Type} (l : List α) : l.take (min l.length 8) = l.take 8 := by
  rcases Nat.le_total l.length 8 with h | h
  · rw [Nat.min_eq_left h, List.take_of_length_le h, List.take_of_length_le (Nat.le_refl _)]
  rw [Nat.min_eq_right h]
structure EL (I : Heap) (a : Ix.qO) (e : nI) : Prop where
  t : e.t = a.title
  r : xO I e.fs e.v
  n : Ke.nrm e.fs = a.record
theorem EL.mono {I I' a e} (h : EL I a e) (hle : Le I I') : EL I' a e := ⟨h.t, h.r.mono hle, h.n⟩
structure a2R (N : Nat → Prop) (I : Heap) (a : Ix.qO) (e : nI) : Prop where
  t : e.t = a.title
  r : OJ N I e.fs e.v
  n : Ke.nrm e.fs = a.record
theorem a2R.ent {N : Nat → Prop} {I a e} (h : a2R N I a e) : EL I a e := ⟨h.t, h.r.rec, h.n⟩
theorem EL.vals {I a e} (h : EL I a e) : Ix.vals e.fs = a.vs := by rw [← VU, h.n]; rfl
theorem EL.eok {I a e} (h : EL I a e) : xP e.fs := a2Q h.n
theorem b0m x (hok : ∀ q ∈ x.a.fs, AL q) I (hv : jW wY I x.a.fs x.v) : jO Tryz.prog 42 [.agg (a0N x).toArray] I [] (fun ev I' H' => ∃ e, ev = .returned (.agg (oH e).toArray) ∧ a2R (I · = none) I' x.a e ∧ H' = []) := by
 obtain ⟨p, c, hxv⟩ := jW.len hv
 have hcap : x.a.fs.length ≤ c := by obtain ⟨p1, c1, h1, h2, _⟩ := hv; rw [hxv] at h1; cases h1; exact h2
 have hrow : jW wY I (x.a.fs.take 8) (.slice p (min x.a.fs.length 8) c) := by rw [← b1V]; rw [hxv] at hv; exact hv.take (Nat.min_le_left _ _)
 refine jU func42 fun w0 hw0 => ?_
 refine jL 3 ?_
 intro b1 hb1
 refine jL 1 ?_
 intro b2 hb2
 refine jL 3 ?_
 refine Cj.qC [0, 1] [] 14 (by kernel_rfl) ?_
 refine JA.fix lI (fun fx3 => ?_)
 refine JA.tk 0 rfl fx3 (q1 (off' := 1) a7y oJ) ?_
 refine JA.tk 1 rfl fx3 (q4 JF (jR.atC 1 rfl)) ?_
 refine JA.tk 2 rfl fx3 (q1 (off' := 2) a7y oJ) ?_
 refine JA.tk 3 rfl fx3 (q4 JF (jR.atC 1 rfl)) ?_
 refine JA.tk 4 rfl fx3 (jX (pl := #[(0, 1), (1, 1)]) rfl rfl vF rfl a4k (fun w => by simp [oJ]) (pR.part rfl rfl rfl (oD.c oD.z) (pR.part rfl rfl rfl (oD.s (oD.c oD.z)) pR.none))) ?_
 refine JA.tk 5 rfl fx3 (q1 (off' := 3) a7y sizeOf91) ?_
 refine JA.tk 6 rfl fx3 (q4 isAgg91 (jR.atC 1 rfl)) ?_
 refine JA.eqv 9 rfl (show _ = .slice p x.a.fs.length c from hxv) ?_
 refine JA.tk 7 rfl fx3 (q1 (off' := 3) a7y sizeOf91) ?_
 refine JA.tk 8 rfl fx3 (q4 isAgg91 (jR.atC 1 rfl)) ?_
 refine JA.eqv 11 rfl (show _ = .slice p x.a.fs.length c from hxv) ?_
 refine JA.tk 9 rfl fx3 (xQ rfl rfl underlying91) ?_
 refine JA.tk 10 rfl fx3 (uN rfl rfl rfl) ?_
 refine JA.tk 11 rfl fx3 (qV (k := (min x.a.fs.length 8)) rfl rfl rfl underlying91 sizeOf215 (by split <;> omega) (by omega)) ?_
 refine q0 12 rfl (kT (H1 := []) rfl rfl rfl rfl rfl (b0z (x.a.fs.take 8) _ (fun q hq => hok q (List.mem_of_mem_take hq)) _ hrow) ?_ (fun _ _ _ _ ⟨_, _, h, _⟩ => by cases h) (fun _ _ ⟨_, _, h, _⟩ => by cases h))
 intro v4 I5 H6 hle7 hp8
 have hrow := hrow.mono hle7
 obtain ⟨fs, w, h, hrec, hmade, rfl⟩ := hp8; cases h
 obtain ⟨wp, wc, rfl⟩ := jW.len hrec.1.row
 refine ⟨⟨(Le.trans (Le.refl _) hle7), (HSub.c 0 rfl (HSub.c 1 rfl HSub.n)), CSub.n⟩, ?_⟩
 refine JA.fix lI (fun fx9 => ?_)
 refine JA.tk 13 rfl fx9 (jX (pl := #[(0, 2), (2, 3)]) rfl rfl KA rfl NH (fun w => by simp [lG, xI]) (pR.part rfl rfl rfl (oD.c (oD.c oD.z)) (pR.part rfl rfl rfl (oD.s (oD.s (oD.c (oD.c (oD.c oD.z))))) pR.none))) ?_
 refine JA.last 14 (by kernel_rfl) rfl rfl rfl (q5 0 vO (oD.c (oD.c (oD.c (oD.c (oD.c oD.z))))) lS.z ?_)
 refine jL 3 ?_
 refine Ej.a0r (Keeps.d (Keeps.d Keeps.n)) rfl rfl rfl (jR.at 0 rfl) isAgg59 vO rfl ?_
 exact ⟨⟨x.a.title, 97, 109, _, fs⟩, rfl, ⟨rfl, hrec, hmade⟩, rfl⟩
theorem NV x (hok : ∀ q ∈ x.a.fs, AL q) I (hv : jW wY I x.a.fs x.v) : jO Tryz.prog 42 [.agg (a0N x).toArray] I [] (fun ev I' H' => ∃ e, ev = .returned (.agg (oH e).toArray) ∧ EL I' x.a e ∧ H' = []) :=
  (b0m x hok I hv).mono fun _ _ _ _ ⟨e, h1, h2, h3⟩ => ⟨e, h1, h2.ent, h3⟩
theorem SH xs k : acts (xs.take k) = (acts xs).take k := List.map_take
theorem a3b xs v (hok : XG xs) I (hA0 : OO I xs v) : jO Tryz.prog 51 [v] I [] (fun ev I' H' => ∃ rb es w, ev = .returned (ptr rb 0) ∧ nR I' es w ∧ es.map jQ = Ix.play (acts xs) ∧ (∀ e ∈ es, xP e.fs) ∧ es.length ≤ 20 ∧ H' = [(rb, jM 50 [w])]) := by
 obtain ⟨p, c, rfl⟩ := jW.len hA0.1
 refine jU func51 fun w0 hw0 => ?_
 refine jL 7 ?_
 refine J.z (jX (pl := #[(0, 1)]) rfl rfl zeroValue50 rfl underlying50 (fun w => by simp [sizeOf48]) pR.none) ?_
 refine jL 1 ?_
 intro b1 hb1
 refine jL 10 ?_
 refine Cj.loop (ι := Nat × Heap × List nI × Value) (fun y => y.1 ≤ xs.length ∧ y.1 ≤ 20 ∧ Le I y.2.1 ∧ nR y.2.1 y.2.2.1 y.2.2.2 ∧ y.2.2.1.map jQ = (acts (xs.take y.1)).foldl Ix.act [] ∧ (∀ e ∈ y.2.2.1, xP e.fs) ∧ y.2.2.1.length ≤ y.1) (fun y => 20 - y.1) (fun y => [(0, .slice p xs.length c), (3, ptr b1 0), (4, i64 (y.1 : Int))]) (fun y => y.2.1) (fun y => [(b1, jM 50 [y.2.2.2])]) (0, _, [], _) ⟨Nat.zero_le _, Nat.zero_le _, Le.refl _, nR.nil, rfl, fun e he => (by cases he), Nat.zero_le _⟩ ⟨rfl, rfl, rfl, trivial⟩ rfl rfl ?_
 rintro ⟨k, Jh, es, w⟩ ⟨hk, hk20, hIJ, hE, hL, hek, hel⟩
 dsimp only at hk hk20 hIJ hE hL hek hel ⊢
 have hA := hA0.mono hIJ
 refine mX (fun hg2 hg2p => ?_) (fun hg2 hg2p => ?_)
 ·refine jS (fun hc3 hc3p => ?_) (fun hc3 hc3p => ?_)
  ·refine jL 5 ?_
   have hIJ9 := hIJ
   have hlt : k < xs.length := by omega
   have hlt2 : k < 20 := by omega
   obtain ⟨x, hget⟩ : ∃ x, xs[k]? = some x := ⟨_, kW hlt⟩
   have hxm := lX hget
   obtain ⟨p1, c1, hpe, hc1, hp⟩ := id hA.1
   cases hpe
   obtain ⟨ab, ao, acs, aty, afr, asp, rfl, hab, had⟩ := hp (jT hlt)
   have hfv := hA.2 x hxm
   obtain ⟨vp, vc, hxv⟩ := jW.len hfv
   have hnx : acts (xs.take (k + 1)) = acts (xs.take k) ++ [x.a] := yH _ hget
   refine kJ (ao + k * 4) ?_
   refine jL 1 ?_
   refine J.z (jP rfl rfl tA4 (jR.EH hab) (lW BH had hget 0 (by decide))) ?_
   refine mW (fun hc4 => ?_) (fun hc4 => ?_)
   ·have hdr : x.a.drop = true := hc4
    refine kJ (ao + k * 4) ?_
    refine J.z (q2 isAgg93 sizeOf93 (jR.EH hab) (kY BH had hget)) ?_
    refine kL (NV x (hok x hxm) _ hfv) ?_
    intro v5 I6 H7 hle8 hp9
    have hIJ := hIJ.mono hle8
    have hA := hA.mono hle8
    have hE := hE.mono hle8
    have hab := hle8 _ _ hab
    have hfv := hfv.mono hle8
    obtain ⟨e0, h, he0, rfl⟩ := hp9; cases h
    refine J.z (a1E (v := jZ e0.t) rfl rfl (fun _ => by kernel_rfl)) ?_
    refine J.pull Pull.z ?_
    refine kL (b3m b1 w es e0.t (by omega) _ hE) ?_
    intro v10 I11 H12 hle13 hp14
    have hIJ := hIJ.mono hle13
    have hA := hA.mono hle13
    have hE := hE.mono hle13
    have hab := hle13 _ _ hab
    have hfv := hfv.mono hle13
    have he0 := he0.mono hle13
    obtain ⟨w1, h, hE1, rfl⟩ := hp14; cases h
    refine jL 8 ?_
    refine Ej.round (k + 1, _, uI es e0.t, _) ⟨by dsimp only; omega, by dsimp only; omega, hIJ, hE1, by dsimp only; rw [hnx, List.foldl_append, YQ _ _ (hL ▸ Ix.WZ _ List.Pairwise.nil), hL, he0.t]; exact (if_pos (show x.a.drop = true from hdr)).symm, fun e he => hek e (a1t he), by dsimp only; have := b0s es e0.t; omega⟩ (by dsimp only; omega) ⟨rfl, rfl, rfl, trivial⟩ rfl rfl
   have hdr : x.a.drop = false := hc4
   refine kJ (ao + k * 4) ?_
   refine J.z (q2 isAgg93 sizeOf93 (jR.EH hab) (kY BH had hget)) ?_
   refine kL (NV x (hok x hxm) _ hfv) ?_
   intro v15 I16 H17 hle18 hp19
   have hIJ := hIJ.mono hle18
   have hA := hA.mono hle18
   have hE := hE.mono hle18
   have hab := hle18 _ _ hab
   have hfv := hfv.mono hle18
   obtain ⟨e0, h, he0, rfl⟩ := hp19; cases h
   refine J.pull Pull.z ?_
   refine kL (b5s b1 w es e0 (by omega) _ hE he0.r) ?_
   intro v20 I21 H22 hle23 hp24
   have hIJ := hIJ.mono hle23
   have hA := hA.mono hle23
   have hE := hE.mono hle23
   have hab := hle23 _ _ hab
   have hfv := hfv.mono hle23
   have he0 := he0.mono hle23
   obtain ⟨w1, h, hE1, rfl⟩ := hp24; cases h
   refine jL 8 ?_
   refine Ej.round (k + 1, _, xK es e0, _) ⟨by dsimp only; omega, by dsimp only; omega, hIJ, hE1, by dsimp only; rw [hnx, List.foldl_append, a4g e0 es, hL, he0.t, he0.vals]; exact (if_neg (fun g => Bool.noConfusion (g.symm.trans hdr))).symm, fun e he => (a3k he).elim (fun g => by rw [g]; exact he0.eok) (hek e), by dsimp only; have := b3d es e0; omega⟩ (by dsimp only; omega) ⟨rfl, rfl, rfl, trivial⟩ rfl rfl
  refine jL 12 ?_
  have htk : (acts (xs.take k)).foldl Ix.act [] = Ix.play (acts xs) := by rw [CV hk (by omega), SH]; rfl
  refine jV ?_
  exact ⟨_, es, _, rfl, hE, hL.trans htk, hek, by omega, rfl⟩
 refine jL 18 ?_
 have htk : (acts (xs.take k)).foldl Ix.act [] = Ix.play (acts xs) := by rw [CV hk (by omega), SH]; rfl
 refine jV ?_
 exact ⟨_, es, _, rfl, hE, hL.trans htk, hek, by omega, rfl⟩
end Go.Proofs.YtekmeaoblpfnpaaGreatDoor
end
namespace Ke
def closed (c : Nat) : Prop := (97 ≤ c ∧ c ≤ 122) ∨ (48 ≤ c ∧ c ≤ 57) ∨ ((945 ≤ c ∧ c ≤ 969) ∧ c ≠ 962) ∨ (1072 ≤ c ∧ c ≤ 1103)
instance (c:Nat):Decidable (closed c):=by unfold closed;infer_instance
theorem zK {c} (h : closed c) : wK c := by unfold closed at h; unfold wK; omega
theorem b0y {c} (h : 945 ≤ c ∧ c ≤ 969) : tab.lookup c = none := by
  have h1 : ∀ k < 25, tab.lookup (945 + k) = none := by decide +kernel
  have := h1 (c - 945) (by omega)
  rwa [show 945 + (c - 945) = c by omega] at this
theorem b5c {c} (h : 1072 ≤ c ∧ c ≤ 1103) : tab.lookup c = none := by
  have h1 : ∀ k < 32, tab.lookup (1072 + k) = none := by decide +kernel
  have := h1 (c - 1072) (by omega)
  rwa [show 1072 + (c - 1072) = c by omega] at this
theorem a5s {c} (h : closed c) : char c = enc c := by
  unfold char
  unfold closed at h
  by_cases h1 : (97 ≤ c ∧ c ≤ 122) ∨ (48 ≤ c ∧ c ≤ 57)
  · rw [if_pos h1]
  have h2 : ((945 ≤ c ∧ c ≤ 969) ∧ c ≠ 962) ∨ (1072 ≤ c ∧ c ≤ 1103) := by omega
  rw [if_neg h1, if_neg (by omega), if_neg (by omega), if_neg (by omega)]
  have h3 : tab.lookup c = none := by
    rcases h2 with h2 | h2
    · exact b0y h2.1
    exact b5c h2
  rw [h3]
  simp only
  rw [if_neg (by omega), if_pos (by omega)]
theorem a3o {c} (h : closed c) : enc c ≠ [32] := by
  intro he
  have h1 := a1H (zK h)
  rw [he] at h1
  have h2 : runes [32] = [32] := by kernel_rfl
  rw [h2] at h1
  have : c = 32 := (List.cons.inj h1).1.symm
  unfold closed at h; omega
def b0U (s : Bs) : Bool := decide (encs (runes s) = s) && (runes s).all fun c => decide (closed c)
theorem b4F : tab.all (fun p => b0U p.2) = true := by decide +kernel
theorem YU : ∀ {l : List (Nat × Bs)} {c : Nat} {s : Bs}, l.lookup c = some s → (c, s) ∈ l
  | [], _, _, h => by cases h
  | (a, b) :: r, c, s, h => by
    rw [List.lookup_cons] at h
    split at h
    · rename_i he
      have := eq_of_beq he
      subst this; cases h; exact .head _
    exact .tail _ (YU h)
theorem b2C c : char c = [32] ∨ ∃ l, char c = encs l ∧ ∀ d ∈ l, closed d := by
  have one : ∀ d, closed d → ∃ l, enc d = encs l ∧ ∀ x ∈ l, closed x := fun d hd => ⟨[d], by simp [encs], fun x hx => by simp at hx; subst hx; exact hd⟩
  unfold char
  split
  · rename_i h; exact .inr (one c (by unfold closed; omega))
  split
  · exact .inr (one (c + 32) (by unfold closed; omega))
  split
  · exact .inl rfl
  split
  · exact .inr ⟨[], rfl, fun _ h => by cases h⟩
  split
  · rename_i s hs
    have h1 := List.all_eq_true.1 b4F _ (YU hs)
    simp only [b0U, Bool.and_eq_true, decide_eq_true_eq] at h1
    exact .inr ⟨runes s, h1.1.symm, fun d hd => of_decide_eq_true (List.all_eq_true.1 h1.2 d hd)⟩
  split
  · exact .inr (one 963 (by decide))
  split
  · exact .inr (one c (by unfold closed; omega))
  split
  · exact .inr (one (c + 32) (by unfold closed; omega))
  exact .inl rfl
def qL (w : Bs) : Prop := ∃ l, w = encs l ∧ ∀ d ∈ l, closed d
theorem b3i a b : encs (a ++ b) = encs a ++ encs b := by simp [encs]
theorem ZG {a b} (ha : qL a) (hb : qL b) : qL (a ++ b) := by
  obtain ⟨l, rfl, h1⟩ := ha
  obtain ⟨m, rfl, h2⟩ := hb
  exact ⟨l ++ m, (b3i l m).symm, fun d hd => (List.mem_append.1 hd).elim (h1 d) (h2 d)⟩
theorem JG : ∀ (l : List Nat) (w : Bs), qL w → ∀ x ∈ wf w l, qL x
  | [], w, hw, x, h => by
    unfold wf at h
    split at h
    · cases h
    simp at h; subst h; exact hw
  | c :: r, w, hw, x, h => by
    have h0 : qL [] := ⟨[], rfl, fun _ h => by cases h⟩
    unfold wf at h
    split at h
    · split at h
      · exact JG r [] h0 x h
      rcases List.mem_cons.1 h with rfl | h
      · exact hw
      exact JG r [] h0 x h
    rename_i hne
    rcases b2C c with he | he
    · exact absurd he hne
    exact JG r _ (ZG hw he) x h
theorem GX s : ∀ x ∈ words s, qL x := JG _ _ ⟨[], rfl, fun _ h => by cases h⟩
theorem a2u : ∀ (l : List Nat) (w : Bs) (r : List Nat), (∀ d ∈ l, closed d) → wf w (l ++ r) = wf (w ++ encs l) r
  | [], w, r, _ => by simp [encs]
  | c :: l, w, r, h => by
    have hc := h c (.head _)
    show (if char c = [32] then _ else wf (w ++ char c) (l ++ r)) = _
    rw [a5s hc, if_neg (a3o hc), a2u l _ r fun d hd => h d (.tail _ hd)]
    simp [encs]
theorem a7f {w} (h : qL w) : ∃ l, w = encs l ∧ runes w = l ∧ ∀ d ∈ l, closed d := by
  obtain ⟨l, rfl, h1⟩ := h
  exact ⟨l, rfl, YE l fun c hc => zK (h1 c hc), h1⟩
theorem NW {w} (h : qL w) (hne : w ≠ []) : words w = [w] := by
  obtain ⟨l, rfl, h2, h3⟩ := a7f h
  unfold words
  rw [h2]
  have := a2u l [] [] h3
  rw [List.append_nil] at this
  rw [this, List.nil_append]
  unfold wf
  rw [if_neg hne]
theorem ZL {c} (hc : char c = [32]) : ∀ (l : List Nat) (w : Bs) (r : List Nat), wf w (l ++ c :: r) = wf w l ++ wf [] r
  | [], w, r => by
    simp only [List.nil_append, wf, hc, if_true]
    split <;> simp
  | d :: l, w, r => by
    simp only [List.cons_append, wf]
    split
    · split
      · exact ZL hc l [] r
      rw [ZL hc l [] r, List.cons_append]
    exact ZL hc l _ r
theorem a8k : char 32 = [32] := by decide
theorem a9F c s t (hc : c.toNat < 128) (hb : char c.toNat = [32]) : words (s ++ c :: t) = words s ++ words t := by grind [words, a1G, zN, a5K, ZL]
theorem ZO : ∀ (l : List Bs), (∀ w ∈ l, qL w ∧ w ≠ []) → words (join l) = l
  | [], _ => rfl
  | [a], h => NW (h a (.head _)).1 (h a (.head _)).2
  | a :: b :: r, h => by
    show words (a ++ [32] ++ join (b :: r)) = _
    rw [List.append_assoc, List.singleton_append, a9F 32 a _ (by decide) a8k, NW (h a (.head _)).1 (h a (.head _)).2, ZO (b :: r) fun w hw => h w (.tail _ hw)]
    rfl
theorem a2b {s w} (h : w ∈ words s) : w ≠ [] ∧ words w = [w] :=
  ⟨BL _ _ w h, NW (GX s w h) (BL _ _ w h)⟩
end Ke
namespace Ke
theorem ofNat_toNat {k} (h : k < 256) : (UInt8.ofNat k).toNat = k := by simp; omega
theorem a3X {w} (h : digits w = true) : qL w := by
  induction w with
  | nil => exact ⟨[], rfl, fun _ h => by cases h⟩
  | cons c r ih =>
    rw [VE, Bool.and_eq_true] at h
    have hc := DK.1 h.1
    have h1 : qL [c] := ⟨[c.toNat], by
      have : enc c.toNat = [c] := by rw [enc1 (by omega)]; simp
      simp [encs, this], fun d hd => by simp at hd; subst hd; unfold closed; omega⟩
    exact ZG h1 (ih h.2)
end Ke
namespace Ke
def plainW (w : Bs) : Bs := if digits w then w.drop 2 else w
def QY (k : Bs) : Bs := join ((words k).map plainW)
theorem a3L {w} (h : digits w = true) : digits (strip w) = true := by
  unfold strip
  rw [NZ, Bool.and_eq_true]
  refine ⟨List.all_eq_true.2 fun c hc => List.all_eq_true.1 h c ?_, List.all_eq_true.2 fun c hc => List.all_eq_true.1 h c (List.mem_of_mem_drop hc)⟩
  exact (List.dropLast_sublist _).subset ((List.dropWhile_sublist _).subset hc)
theorem a2H {w} (h : digits w = true) : digits (number w) = true := by
  unfold number
  show digits ([_, _] ++ strip w) = true
  rw [NZ, a3L h, Bool.and_true]
  have hd : ∀ n, n < 10 → digit (UInt8.ofNat (48 + n)) = true := by decide
  simp only [digits, List.all_cons, List.all_nil, Bool.and_true, Bool.and_eq_true]
  exact ⟨hd _ (by omega), hd _ (by omega)⟩
theorem JY {w} (h : qL w) (hne : w ≠ []) : qL (pO w) ∧ pO w ≠ [] := by grind [pO, number, a3X, a2H]
theorem QT s skip : words (nT s skip) = (words (cut s skip)).map pO := by
  unfold nT
  refine ZO _ fun x hx => ?_
  obtain ⟨w, hm, rfl⟩ := List.mem_map.1 hx
  exact JY (GX _ w hm) (a2b hm).1
end Ke
namespace Ke
open Go.Lib (decodeL fieldsGoD fieldsD isSpaceR fieldsGoD_nil)
theorem a9s {c} (h : closed c) : isSpaceR c = false := by
  unfold closed at h
  unfold isSpaceR
  simp only [Bool.or_eq_false_iff, Bool.and_eq_false_iff, decide_eq_false_iff_not, beq_eq_false_iff_ne]
  omega
theorem VP : ∀ (l : List Nat) (cur t : Bs) (f : Nat), (∀ d ∈ l, closed d) → opens t → (encs l ++ t).length < f → ∃ g, t.length < g ∧ fieldsGoD f cur (encs l ++ t) = fieldsGoD g (cur ++ encs l) t
  | [], cur, t, f, _, _, hf => ⟨f, hf, by simp [encs]⟩
  | c :: l, cur, t, 0, _, _, hf => absurd hf (Nat.not_lt_zero _)
  | c :: l, cur, t, f + 1, h, ht, hf => by
    have hc := h c (.head _)
    have ho := JL (zK hc)
    have e : encs (c :: l) ++ t = enc c ++ (encs l ++ t) := by simp [encs]
    have ht2 : opens (encs l ++ t) := a7B (YX l fun d hd => zK (h d (.tail _ hd))) ht
    have hp : 0 < (enc c).length := List.length_pos_iff.2 ho.2
    rw [e, List.length_append] at hf
    obtain ⟨g, hg, he⟩ := VP l (cur ++ enc c) t f (fun d hd => h d (.tail _ hd)) ht (by omega)
    refine ⟨g, hg, ?_⟩
    rw [e]
    conv => lhs; unfold fieldsGoD
    rw [if_neg (by intro h0; exact ho.2 (List.append_eq_nil_iff.1 h0).1), VK _ _ ho.2 ht2, VN (zK hc)]
    dsimp only
    rw [a9s hc, if_neg Bool.false_ne_true, List.take_left, List.drop_left, he]
    simp [encs]
theorem a3M : ∀ (ws : List Bs) (f : Nat), (∀ w ∈ ws, qL w ∧ w ≠ []) → (join ws).length < f → fieldsGoD f [] (join ws) = ws
  | [], f, _, _ => by rw [show join [] = [] from rfl, fieldsGoD_nil, if_pos rfl]
  | [a], f, h, hf => by
    obtain ⟨⟨l, rfl, hl⟩, hne⟩ := h a (.head _)
    show fieldsGoD f [] (encs l) = _
    have hf2 : (encs l ++ []).length < f := by rw [List.append_nil]; exact hf
    obtain ⟨g, _, he⟩ := VP l [] [] f hl a1R hf2
    rw [List.append_nil, List.nil_append] at he
    rw [he, fieldsGoD_nil, if_neg hne]
  | a :: b :: r, f, h, hf => by
    obtain ⟨⟨l, rfl, hl⟩, hne⟩ := h a (.head _)
    have e : join (encs l :: b :: r) = encs l ++ (32 :: join (b :: r)) := by
      show encs l ++ [32] ++ join (b :: r) = _
      rw [List.append_assoc, List.singleton_append]
    rw [e] at hf ⊢
    obtain ⟨g, hg, he⟩ := VP l [] (32 :: join (b :: r)) f hl (zN (by decide)) hf
    rw [he, List.nil_append]
    match g, hg with
    | g + 1, hg =>
      rw [List.length_cons] at hg
      have hd : decodeL (32 :: join (b :: r)) = (32, 1) := Go.Lib.decodeL_ascii 32 _ (by decide)
      conv => lhs; unfold fieldsGoD
      rw [if_neg (by simp), hd]
      dsimp only
      rw [show isSpaceR 32 = true from rfl, if_pos rfl, if_neg hne, List.drop_one, List.tail_cons, a3M (b :: r) g (fun w hw => h w (.tail _ hw)) (by omega)]
      rfl
theorem a5W ws (h : ∀ w ∈ ws, qL w ∧ w ≠ []) : fieldsD (join ws) = ws := a3M ws _ h (by omega)
theorem a7o s skip : fieldsD (nT s skip) = words (nT s skip) := by
  rw [QT]
  unfold nT
  refine a5W _ fun x hx => ?_
  obtain ⟨w, hm, rfl⟩ := List.mem_map.1 hx
  exact JY (GX _ w hm) (a2b hm).1
theorem UF f (hf : ∀ w, (f w).length ≤ w.length) : ∀ ws : List Bs, (join (ws.map f)).length ≤ (join ws).length
  | [] => Nat.le_refl _
  | [a] => hf a
  | a :: b :: r => by
    have h1 := hf a
    have h2 := UF f hf (b :: r)
    show (f a ++ [32] ++ join ((b :: r).map f)).length ≤ (a ++ [32] ++ join (b :: r)).length
    simp only [List.length_append, List.length_singleton]
    omega
theorem a8x w : (plainW w).length ≤ w.length := by grind [plainW, List.length_drop]
def a0C (k : Bs) : Prop := k.length ≤ 40000000 ∧ fieldsD k = words k ∧ (QY k).length ≤ 40000000 ∧ (join (words k)).length ≤ 40000000
theorem b4H {s skip} (h : s.length ≤ 4000000) : a0C (nT s skip) := by
  have hc : (cut s skip).length ≤ s.length := by unfold cut; rw [List.length_drop]; omega
  have h1 : (nT s skip).length ≤ 40000000 := by
    have := VY (cut s skip)
    unfold nT
    omega
  have hj : join (words (nT s skip)) = nT s skip := by rw [QT]; rfl
  refine ⟨h1, a7o s skip, ?_, by rw [hj]; exact h1⟩
  have h2 := UF plainW a8x (words (nT s skip))
  rw [hj] at h2
  unfold QY
  omega
end Ke
namespace Ix
open Ke
theorem JU n : keyOf n [] = [] := by
  unfold keyOf
  rw [if_neg (fun h => absurd h.1 (by decide +kernel))]
  decide +kernel
theorem QE {L} (h : nO L) n b : mP L n b = (mP L n []).filter fun k => decide (¬ k < b) := by
  refine ZF (CQ L n b) ((CQ L n []).filter _) fun k => ?_
  rw [List.mem_filter, xU h, xU h, decide_eq_true_eq]
  constructor
  · rintro ⟨h1, h2⟩; exact ⟨⟨List.not_lt_nil k, h2⟩, h1⟩
  rintro ⟨⟨_, h2⟩, h1⟩; exact ⟨h1, h2⟩
theorem SI s : ∀ (l : Row) (d : Bool), (pg s d l).length ≤ l.length + 1
  | [], d => by cases d <;> simp [pg]
  | x :: r, true => by rw [FT]; omega
  | x :: r, false => by
    have h1 := SI s r false
    have h2 : pg s true r = r := FT s r
    simp only [pg, h2]
    repeat' split
    all_goals simp only [List.length_cons]; omega
theorem a0T l s : (put l s).length ≤ l.length + 1 := by grind [put, SI]
theorem AY : ∀ (xs l : Row), (xs.foldl put l).length ≤ l.length + xs.length
  | [], l => by simp
  | x :: r, l => by
    have h1 := AY r (put l x)
    have h2 := a0T l x
    rw [List.foldl_cons, List.length_cons]; omega
theorem a9L f (h : f.subs.length ≤ 3) n : (UN f n).length ≤ 3 := by grind [UN, List.length_map]
theorem VF n : ∀ (fs : List sG), (∀ f ∈ fs, f.subs.length ≤ 3) → (valsN fs n).length ≤ fs.length * 3
  | [], _ => by simp [valsN]
  | f :: r, h => by
    have h1 := VF n r fun x hx => h x (.tail _ hx)
    have h2 := a9L f (h f (.head _)) n
    unfold valsN at h1 ⊢
    rw [List.flatMap_cons, List.length_append, List.length_cons]; omega
theorem a4L n fs (h : ∀ f ∈ fs, f.subs.length ≤ 3) (hl : fs.length ≤ 8) : (keysOf n (vals fs)).length ≤ 24 := by
  have h1 : (keysOf n (vals fs)).length ≤ (valsN fs n).length := by
    unfold keysOf
    refine Nat.le_trans (List.length_filter_le _ _) ?_
    rw [← a4c, List.length_map, List.length_map]
    exact Nat.le_refl _
  have h2 := VF n fs h
  omega
def Few (L : Ix) : Prop := L.length ≤ 20 ∧ ∀ e ∈ L, ∃ a : qO, e.2 = a.vs
theorem a1g t v : ∀ L : Ix, (rW t v L).length ≤ L.length + 1
  | [] => by simp [rW]
  | (u, x) :: r => by
    have := a1g t v r
    unfold rW
    repeat' split
    all_goals simp only [List.length_cons]; omega
theorem a4T : ∀ (l : List qO) {L : Ix} {k : Nat}, nO L → L.length ≤ k → (∀ e ∈ L, ∃ a : qO, e.2 = a.vs) → (l.foldl act L).length ≤ k + l.length ∧ ∀ e ∈ l.foldl act L, ∃ a : qO, e.2 = a.vs
  | [], _, k, _, h1, h2 => ⟨by simpa using h1, h2⟩
  | a :: r, L, k, hs, h1, h2 => by
    have h3 : (act L a).length ≤ k + 1 := by
      unfold act
      split
      · exact Nat.le_trans (List.length_filter_le _ _) (by omega)
      have := a1g a.title a.vs L; omega
    have h4 : ∀ e ∈ act L a, ∃ a : qO, e.2 = a.vs := by
      intro e he
      unfold act at he
      split at he
      · exact h2 e ((yK _ _ _).1 he).1
      rcases (wG _ _ hs e).1 he with g | g
      · exact ⟨a, by rw [g]⟩
      exact h2 e g.1
    have := a4T r (a6e hs a) h3 h4
    rw [List.foldl_cons, List.length_cons]
    exact ⟨by omega, this.2⟩
theorem b2a l : Few (play l) := by
  have h := a4T (l.take 20) (L := []) (k := 0) List.Pairwise.nil (Nat.le_refl _) (fun _ h => by cases h)
  have h2 : (l.take 20).length ≤ 20 := by rw [List.length_take]; exact Nat.min_le_left _ _
  exact ⟨by unfold play; omega, h.2⟩
theorem b1a n (a : qO) : (keysOf n a.vs).length ≤ 24 := by
  refine a4L n _ (fun f hf => ?_) ?_
  · unfold qO.record XJ at hf
    obtain ⟨q, _, rfl⟩ := List.mem_map.1 hf
    exact (b2n q).2
  unfold qO.record XJ
  rw [List.length_map, List.length_take, List.length_take]; omega
theorem a2P n : ∀ {L : Ix}, (∀ e ∈ L, ∃ a : qO, e.2 = a.vs) → (L.flatMap fun e => keysOf n e.2).length ≤ L.length * 24
  | [], _ => by simp
  | e :: r, h => by
    have h1 := a2P n (L := r) fun x hx => h x (.tail _ hx)
    obtain ⟨a, ha⟩ := h e (.head _)
    have h2 := b1a n a
    rw [List.flatMap_cons, List.length_append, List.length_cons, ha]; omega
theorem a5J {L} (h : Few L) n b : (mP L n b).length ≤ 480 := by
  unfold mP
  have h1 := AY (((L.flatMap fun e => keysOf n e.2)).filter fun k => decide (¬ k < b)) []
  have h2 := List.length_filter_le (fun k => decide (¬ k < b)) (L.flatMap fun e => keysOf n e.2)
  have h3 := a2P n h.2
  have h4 := h.1
  rw [List.length_nil] at h1
  omega
end Ix
namespace Cq
def indexes : List (List UInt8) := [[116, 105, 116, 108, 101], [97, 117, 116, 104, 111, 114], [115, 117, 98, 106, 101, 99, 116], [105, 115, 98, 110], [97, 110, 121], [121, 101, 97, 114]]
def relations : List (List UInt8) := [[61], [61, 61], [60], [62, 61], [97, 110, 121], [97, 108, 108]]
inductive Qs where
  | nil
  | cons (k : Int) (i r t : List UInt8) (ps rest : Qs)
deriving DecidableEq
structure Qn where
  k : Int
  i : List UInt8
  r : List UInt8
  t : List UInt8
  ps : Qs
deriving DecidableEq
def Qs.len : Qs → Nat
  | .nil => 0
  | .cons _ _ _ _ _ rest => rest.len + 1
def Qn.push (q : Qn) (rest : Qs) : Qs := .cons q.k q.i q.r q.t q.ps rest
def two (op:Nat) (a b:Qn):Qn:=⟨op,[],[],[],a.push (b.push .nil)⟩
def zero : Qn := ⟨0, [], [], [], .nil⟩
end Cq
namespace Ix
open Ke
def rEq : Bs := [61]
def b6x : Bs := [61, 61]
def rGe : Bs := [62, 61]
def a8o : Bs := [97, 110, 121]
def a7v : Bs := [97, 108, 108]
def keyed (L : Ix) (n : Bs) (ks : Row) : List Rec := ks.flatMap fun k => oG L n (keyOf n (QY k))
def JZ (L : Ix) (i r s : Bs) (t : Rec) : Bool :=
  if r = rEq then (if i = uH then decide (t ∈ oG L i (keyOf i s)) else decide (t ∈ phrase L i (words s)))
  else if r = b6x then decide (t ∈ oG L i (keyOf i s))
  else if r = a8o then (words s).any fun w => decide (t ∈ word L i w)
  else if r = a7v then !(words s).isEmpty && (words s).all fun w => decide (t ∈ word L i w)
  else if r = rGe then decide (t ∈ keyed L i (mP L i (keyOf i s)))
  else decide (t ∈ keyed L i ((mP L i []).take ((mP L i []).length - (mP L i (keyOf i s)).length)))
def comb (k : Int) (a b : Bool) : Bool := if k = 2 then a && b else if k = 3 then a || b else a && !b
def b2V (L : Ix) (t : Rec) (k : Int) (i r x : Bs) (bs : List Bool) : Bool := if k = 1 then JZ L i r x t else match bs with
  | [a, b] => comb k a b
  | _ => false
def a8F (L : Ix) (t : Rec) : Cq.Qs → List Bool
  | .nil => []
  | .cons k i r x ps rest => b2V L t k i r x (a8F L t ps) :: a8F L t rest
def sat (L : Ix) (q : Cq.Qn) (t : Rec) : Bool := b2V L t q.k q.i q.r q.t (a8F L t q.ps)
theorem WX {L q t} (h : q.k = 1) : sat L q t = JZ L q.i q.r q.t t := if_pos h
theorem a0Z {L q a b t} (h : q.k ≠ 1) (hp : q.ps = a.push (b.push .nil)) : sat L q t = comb q.k (sat L a t) (sat L b t) := by
  unfold sat b2V
  rw [if_neg h, hp]
  rfl
def oL (L : Ix) (a b : Rec) : Prop := oI L a < oI L b ∨ (oI L a = oI L b ∧ oN a b = true)
theorem a1P L a : ¬ oL L a a := by
  rintro (h | ⟨_, h⟩)
  · exact List.lt_irrefl _ h
  rw [nH] at h; cases h
theorem KF {L a b c} (h1 : oL L a b) (h2 : oL L b c) : oL L a c := by
  rcases h1 with h1 | ⟨h1, h1'⟩ <;> rcases h2 with h2 | ⟨h2, h2'⟩
  · exact .inl (List.lt_trans h1 h2)
  · exact .inl (h2 ▸ h1)
  · exact .inl (h1 ▸ h2)
  exact .inr ⟨h1.trans h2, uO h1' h2'⟩
theorem a9m L a b : oL L a b ∨ a = b ∨ oL L b a := by
  by_cases h : oI L a < oI L b
  · exact .inl (.inl h)
  by_cases h2 : oI L b < oI L a
  · exact .inr (.inr (.inl h2))
  have he : oI L a = oI L b := List.le_antisymm (List.not_lt.1 h2) (List.not_lt.1 h)
  rcases DU a b with g | g | g
  · exact .inl (.inr ⟨he, g⟩)
  · exact .inr (.inl g)
  exact .inr (.inr (.inr ⟨he.symm, g⟩))
theorem a6u {α : Type} {r : α → α → Prop} (hi : ∀ a, ¬ r a a) (ht : ∀ {a b c}, r a b → r b c → r a c) : ∀ {l m : List α}, l.Pairwise r → m.Pairwise r → (∀ x, x ∈ l ↔ x ∈ m) → l = m
  | [], [], _, _, _ => rfl
  | [], b :: m, _, _, h => absurd ((h b).2 (.head _)) (by simp)
  | a :: l, [], _, _, h => absurd ((h a).1 (.head _)) (by simp)
  | a :: l, b :: m, hl, hm, h => by
    rw [List.pairwise_cons] at hl hm
    have hab : a = b := by
      rcases List.mem_cons.1 ((h a).1 (.head _)) with e | h1
      · exact e
      rcases List.mem_cons.1 ((h b).2 (.head _)) with e | h2
      · exact e.symm
      exact absurd (ht (hl.1 b h2) (hm.1 a h1)) (hi a)
    subst hab
    congr 1
    refine a6u hi ht hl.2 hm.2 fun x => ⟨fun hx => ?_, fun hx => ?_⟩
    · rcases List.mem_cons.1 ((h x).1 (.tail _ hx)) with e | g
      · exact absurd (e ▸ hl.1 x hx) (hi a)
      exact g
    rcases List.mem_cons.1 ((h x).2 (.tail _ hx)) with e | g
    · exact absurd (e ▸ hm.1 x hx) (hi a)
    exact g
theorem b1C {l m : List Rec} (hl : l.Nodup) (h : ∀ x ∈ l, x ∈ m) : l.length ≤ m.length := by
  induction l generalizing m with
  | nil => simp
  | cons a r ih =>
    rw [List.nodup_cons] at hl
    have hm := h a (.head _)
    have := ih (m := m.erase a) hl.2 fun x hx => by
      have hne : x ≠ a := fun e => hl.1 (e ▸ hx)
      exact (List.mem_erase_of_ne hne).2 (h x (.tail _ hx))
    rw [List.length_erase_of_mem hm] at this
    have h0 : 0 < m.length := List.length_pos_of_mem hm
    rw [List.length_cons]; omega
def CJ (L : Ix) (q : Cq.Qn) (l : List Rec) : Prop := l.Pairwise (oL L) ∧ ∀ t, t ∈ l ↔ t ∈ L.map (·.1) ∧ sat L q t = true
theorem CJ.eq {L q l m} (h1 : CJ L q l) (h2 : CJ L q m) : l = m :=
  a6u (a1P L) KF h1.1 h2.1 fun x => (h1.2 x).trans (h2.2 x).symm
theorem CJ.len {L q l} (h : CJ L q l) : l.length ≤ L.length := by
  have hn : l.Nodup := List.nodup_iff_pairwise_ne.2 (h.1.imp fun {a b} g e => by subst e; exact a1P L a g)
  have hs : ∀ x ∈ l, x ∈ L.map (·.1) := fun x hx => ((h.2 x).1 hx).1
  have := b1C hn hs
  rwa [List.length_map] at this
theorem OM {L n k t} (h : t ∈ oG L n k) : t ∈ L.map (·.1) := by grind [oG]
theorem RF {L n w t} (h : t ∈ phrase L n w) : t ∈ L.map (·.1) := by grind [phrase]
theorem a0P {L n s t} (h : t ∈ word L n s) : t ∈ L.map (·.1) := by grind [word, RF]
theorem b2N {L n ks t} (h : t ∈ keyed L n ks) : t ∈ L.map (·.1) := by
  obtain ⟨k, _, h⟩ := List.mem_flatMap.1 h
  exact OM h
theorem b4c {L i r s t} (h : JZ L i r s t = true) : t ∈ L.map (·.1) := by
  unfold JZ at h
  split at h
  · split at h
    · exact OM (of_decide_eq_true h)
    exact RF (of_decide_eq_true h)
  split at h
  · exact OM (of_decide_eq_true h)
  split at h
  · obtain ⟨w, _, h⟩ := List.any_eq_true.1 h
    exact a0P (of_decide_eq_true h)
  split at h
  · rw [Bool.and_eq_true] at h
    cases hw : words s with
    | nil => rw [hw] at h; simp at h
    | cons a r => rw [hw] at h; exact a0P (of_decide_eq_true (List.all_eq_true.1 h.2 a (.head _)))
  split at h <;> exact b2N (of_decide_eq_true h)
theorem b2B {n k vs} : hasK n k vs = true ↔ ∃ v ∈ vs, v.name = n ∧ v.key = k := by unfold hasK; grind
end Ix
namespace Ix
open Ke
def TOK (L : Ix) : Prop := ∀ e ∈ L, ∀ v ∈ e.2, v.text.length ≤ 4000000
theorem UL {L} (hs : nO L) {n b k} (h : k ∈ mP L n b) : ∃ e ∈ L, ∃ v ∈ e.2, v.name = n ∧ v.key = k := by
  obtain ⟨_, h2⟩ := (xU hs).1 h
  obtain ⟨e, he, hp⟩ := (KU hs).1 h2
  obtain ⟨_, h4⟩ := BN.1 hp
  obtain ⟨v, hv, h5, h6⟩ := b2B.1 h4
  exact ⟨e, he, v, hv, h5, h6⟩
theorem TOK.key {L} (h : TOK L) (hs : nO L) {n b k} (hk : k ∈ mP L n b) : a0C k := by
  obtain ⟨e, he, v, hv, _, rfl⟩ := UL hs hk
  exact b4H (h e he v hv)
theorem BU L n k : (oG L n k).length ≤ L.length := by grind [oG, List.length_map]
theorem a2c {L n s most} (h : (mP L n (keyOf n s)).length ≤ most.toNat) : (scan L n s most).map (·.1) = mP L n (keyOf n s) := by
  unfold scan
  rw [List.take_of_length_le h, List.map_map]
  exact List.map_id _
