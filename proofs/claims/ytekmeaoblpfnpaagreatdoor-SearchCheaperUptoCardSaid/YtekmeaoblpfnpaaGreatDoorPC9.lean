/-
  Own texts on the laws of the seat, joined: the logic, and contracts of functions. Conditions: none.
-/
import Derived.Test.YtekmeaoblpfnpaaGreatDoorNmC
import Derived.Test.YtekmeaoblpfnpaaGreatDoorPC8
import Derived.Lib.FieldsU
set_option linter.all false
set_option maxRecDepth 100000
set_option maxHeartbeats 40000000
section
namespace Go.Proofs.YtekmeaoblpfnpaaGreatDoor
open _root_.Go.Proofs.Tryz
open Go Go.Sx
abbrev b6g (t : Ix.Rec) : Array Value := #[i64 t.1, i64 t.2]
theorem b7y : EqK Tryz.prog 54 b6g := EqK.b2m a8C (by kernel_rfl) (by decide) (by decide) rfl rfl rfl rfl tU3 XJ
theorem b0l {cs sp : List Value} {o k} {es : List MJ} {x} (h : cs.drop o = es.flatMap FK ++ sp) (hx : es[k]? = some x) : (cs.drop (o + k * 5)).take 2 = recC x.t := by
  have h1 := CV GR h hx
  rw [show (cs.drop (o + k * 5)).take 2 = ((cs.drop (o + k * 5)).take 5).take 2 by rw [List.take_take, show min 2 5 = 2 from rfl], h1]; rfl
theorem b6s {a b} (h : a.1 ≠ b.1) : Ix.CB a b = decide (a.1 < b.1) := by unfold Ix.CB; rw [decide_eq_false (p := a.1 = b.1) h]; simp
theorem b5F {a b} (h : a.1 = b.1) : Ix.CB a b = decide (a.2 < b.2) := by unfold Ix.CB; rw [decide_eq_true h, h, decide_eq_false (Int.lt_irrefl _)]; simp
def BU (es : List MJ) (t : Ix.Rec) : Nat := (es.takeWhile fun x => Ix.CB x.t t).length
def GK (es : List MJ) (t : Ix.Rec) : Bool := match es[BU es t]? with
  | none => false
  | some x => x.t == t
def OJ (es : List MJ) (e : MJ) : List MJ := es.take (BU es e.t) ++ [e] ++ es.drop (if GK es e.t then BU es e.t + 1 else BU es e.t)
def LG (es : List MJ) (t : Ix.Rec) : List MJ := if GK es t then es.take (BU es t) ++ es.drop (BU es t + 1) else es
theorem PU x es t : BU (x :: es) t = if Ix.CB x.t t then BU es t + 1 else 0 := by
  unfold BU; rw [List.takeWhile_cons]; split <;> simp_all
theorem ZG : ∀ (es : List MJ) (t : Ix.Rec), BU es t ≤ es.length
  | [], _ => Nat.zero_le _
  | x :: r, t => by rw [PU]; have := ZG r t; split <;> simp <;> omega
theorem a4G : ∀ {es : List MJ} {t : Ix.Rec} {k : Nat}, (∀ x ∈ es.take k, Ix.CB x.t t = true) → (∀ x, es[k]? = some x → Ix.CB x.t t = false) → k ≤ es.length → BU es t = k
  | [], _, k, _, _, hk => by have : k = 0 := by simpa using hk
                             subst this; rfl
  | x :: r, t, 0, _, h2, _ => by rw [PU, if_neg (by rw [h2 x rfl]; decide)]
  | x :: r, t, k + 1, h1, h2, hk => by
    rw [PU, if_pos (h1 x (by rw [List.take_succ_cons]; exact .head _)), a4G (k := k) (fun y hy => h1 y (by rw [List.take_succ_cons]; exact .tail _ hy)) (fun y hy => h2 y (by rw [List.getElem?_cons_succ]; exact hy)) (by simpa using hk)]
theorem b4l {es t k x} (h : BU es t = k) (hx : es[k]? = some x) : GK es t = (x.t == t) := by unfold GK; rw [h, hx]
theorem a5Q {es t k} (h : BU es t = k) (hk : es.length ≤ k) : GK es t = false := by unfold GK; rw [h, List.getElem?_eq_none hk]
theorem b6y {es : List MJ} {t k x} (h : ∀ y ∈ es.take k, Ix.CB y.t t = true) (hg : es[k]? = some x) (hx : Ix.CB x.t t = true) : ∀ y ∈ es.take (k + 1), Ix.CB y.t t = true := by
  obtain ⟨hlt, hg⟩ := List.getElem?_eq_some_iff.1 hg
  rw [List.take_succ_eq_append_getElem hlt, hg]
  intro y hy
  rcases List.mem_append.1 hy with g | g
  · exact h y g
  rw [List.mem_singleton.1 g]; exact hx
theorem a2I x es t : GK (x :: es) t = if Ix.CB x.t t then GK es t else x.t == t := by
  unfold GK; rw [PU]
  by_cases h : Ix.CB x.t t = true
  · rw [if_pos h, if_pos h]; rfl
  rw [if_neg h, if_neg h]; rfl
theorem a6W e : ∀ es : List MJ, (OJ es e).map EY = Ix.JL e.t (Ix.vals e.fs) (es.map EY)
  | [] => rfl
  | x :: r => by
    have ih := a6W e r
    unfold OJ at ih ⊢
    rw [PU, a2I, List.map_cons]
    unfold Ix.JL
    by_cases h : Ix.CB x.t e.t = true
    · rw [if_pos h, if_pos h, if_pos h, ← ih]
      have e1 : (if GK r e.t = true then BU r e.t + 1 + 1 else BU r e.t + 1) = (if GK r e.t = true then BU r e.t + 1 else BU r e.t) + 1 := by split <;> rfl
      rw [e1]; rfl
    rw [if_neg h, if_neg h, if_neg h]
    by_cases h2 : x.t = e.t
    · rw [if_pos h2, if_pos (by simpa using h2)]; rfl
    rw [if_neg h2, if_neg (by simpa using h2)]; rfl
theorem a9m {t} {L : List MJ} (h : ∀ x ∈ L, x.t ≠ t) : Ix.KA t (L.map EY) = L.map EY := by
  unfold Ix.KA
  rw [List.filter_eq_self]
  intro y hy
  obtain ⟨x, hx, rfl⟩ := List.mem_map.1 hy
  exact decide_eq_true (h x hx)
theorem a3O t : ∀ es : List MJ, Ix.AL (es.map EY) → (LG es t).map EY = Ix.KA t (es.map EY)
  | [], _ => rfl
  | x :: r, hs => by
    have h' := List.pairwise_cons.1 hs
    have ih := a3O t r h'.2
    unfold LG at ih ⊢
    rw [PU, a2I, List.map_cons]
    have hd : Ix.KA t (EY x :: r.map EY) = if x.t = t then Ix.KA t (r.map EY) else EY x :: Ix.KA t (r.map EY) := by
      unfold Ix.KA
      rw [List.filter_cons]
      by_cases g : x.t = t
      · rw [if_pos g, if_neg (by simp [EY, g])]
      rw [if_neg g, if_pos (by simp [EY, g])]
    have hbig : ∀ u : Ix.Rec, Ix.CB u x.t = false → u ≠ x.t → True := fun _ _ _ => trivial
    rw [hd]
    by_cases h : Ix.CB x.t t = true
    · have hne : x.t ≠ t := fun g => by rw [g, Ix.ER] at h; cases h
      rw [if_pos h, if_pos h, if_neg hne, ← ih]
      split <;> rfl
    rw [if_neg h, if_neg h]
    by_cases g : x.t = t
    · rw [if_pos g, if_pos (by simpa using g), a9m fun y hy he => by
        have := h'.1 (EY y) (List.mem_map_of_mem hy)
        simp only [EY] at this
        rw [he, ← g, Ix.ER] at this; cases this]
      rfl
    rw [if_neg g, if_neg (by simpa using g), a9m fun y hy he => by
      have h1 := h'.1 (EY y) (List.mem_map_of_mem hy)
      simp only [EY] at h1
      rw [he] at h1; exact h h1]
    rfl
theorem b6n es e : (OJ es e).length ≤ es.length + 1 := by
  unfold OJ
  have := ZG es e.t
  simp only [List.length_append, List.length_take, List.length_drop, List.length_singleton]
  split <;> omega
theorem b3o es t : (LG es t).length ≤ es.length := by
  unfold LG
  split
  · have := ZG es t
    simp only [List.length_append, List.length_take, List.length_drop]; omega
  exact Nat.le_refl _
theorem a8n {es e x} (h : x ∈ OJ es e) : x = e ∨ x ∈ es := by
  unfold OJ at h
  rcases List.mem_append.1 h with g | g
  · rcases List.mem_append.1 g with g | g
    · exact .inr (List.mem_of_mem_take g)
    exact .inl (List.mem_singleton.1 g)
  exact .inr (List.mem_of_mem_drop g)
theorem a5S {es t x} (h : x ∈ LG es t) : x ∈ es := by
  unfold LG at h
  split at h
  · rcases List.mem_append.1 h with g | g
    · exact List.mem_of_mem_take g
    exact List.mem_of_mem_drop g
  exact h
theorem a5k {es t} (h : GK es t = true) : BU es t < es.length := by
  rcases Nat.lt_or_ge (BU es t) es.length with g | g
  · exact g
  rw [a5Q rfl g] at h; cases h
theorem WU {I es v} (h : ET I es v) {l : List MJ} (hl : ∀ x ∈ l, x ∈ es) : ∀ x ∈ l, (FK x).all Value.oneCell' = true := fun x hx => by
  obtain ⟨p, c, he, -⟩ := (h.2 x (hl x hx)).1
  exact a5g he
theorem ET.nil {I} : ET I [] (.slice none 0 0) := ⟨zL.nil, fun _ h => by cases h⟩
theorem ET.len {I es v} (h : ET I es v) : ∃ p c, v = .slice p es.length c ∧ es.length ≤ c := let ⟨p, c, h, hc, _⟩ := h.1; ⟨p, c, h, hc⟩
theorem b6f a b I : Pure Tryz.prog 29 [zS a, zS b] I (.bool (Ix.CB a b)) := by
 refine yY.toPure ?_
 refine zO func29 fun w0 hw0 => ?_
 refine yU 3 ?_
 intro b1 hb1
 refine yU 1 ?_
 intro b2 hb2
 refine AB (fun hc3 hc3p => ?_) (fun hc3 hc3p => ?_)
 ·have hl := b6s (bne_iff_ne.1 hc3)
  refine BL ?_
  rw [hl]
  exact ⟨rfl, rfl⟩
 have hl := b5F (TU hc3)
 refine BL ?_
 rw [hl]
 exact ⟨rfl, rfl⟩
theorem b6A rb w es t (hl : es.length ≤ 1000000) I (hrb : I rb = some (zJ 50 [w])) (hE : ET I es w) : Pure Tryz.prog 92 [ptr rb 0, zS t] I (.tuple #[i64 (BU es t : Int), .bool (GK es t)]) := by
 refine yY.toPure ?_
 obtain ⟨p, c, rfl, hc, hp⟩ := id hE.1
 refine zO func92 fun w0 hw0 => ?_
 refine yU 3 ?_
 intro b1 hb1
 refine yU 11 ?_
 refine Cj.loop (ι := Nat) (fun y => y ≤ es.length ∧ ∀ x ∈ es.take y, Ix.CB x.t t = true) (fun y => es.length - y) (fun y => [(0, ptr rb 0), (3, ptr b1 0), (6, i64 (y : Int))]) (fun y => _) (fun y => [(b1, zJ 54 [i64 t.1, i64 t.2])]) 0 ⟨Nat.zero_le _, fun x hx => by simp at hx⟩ ⟨rfl, rfl, rfl, trivial⟩ rfl rfl ?_
 rintro y ⟨hy, hall⟩
 refine AB (fun hc2 hc2p => ?_) (fun hc2 hc2p => ?_)
 ·have hlt : y < es.length := by omega
  obtain ⟨x, hget⟩ : ∃ x, es[y]? = some x := ⟨_, CO hlt⟩
  obtain ⟨eb, eo, ecs, ety, efr, esp, rfl, heb, hed⟩ := hp (BF hlt)
  refine yU 4 ?_
  refine Cj.AU [0] [] 11 (by kernel_rfl) ?_
  have hrb_3 := hrb
  have heb_3 := heb
  refine AZ (eo + y * 5) ?_
  refine yU 1 ?_
  refine JA.zt 7 rfl (qq2 OH FM (yZ.GY heb_3) (b0l hed hget)) ?_
  refine BD (b6f x.t t _) ?_
  refine FB (fun hc5 => ?_) (fun hc5 => ?_)
  ·have hls : Ix.CB x.t t = false := by have h := hc5; simpa using h
   refine yU 2 ?_
   refine Ej.b6t rfl ?_
   refine yU 4 ?_
   have hpos : BU es t = y := a4G hall (fun z hz => by rw [hget] at hz; cases hz; exact hls) hy
   have hth := b4l hpos hget
   refine Cj.AU [0] [] 22 (by kernel_rfl) ?_
   refine yU 9 ?_
   refine JA.split 37 rfl (fun hg7 => ?_) (fun hg7 => ?_)
   rotate_left
   ·have hg7p := JE hg7
    omega
   have hg7p := EX hg7
   refine yU 5 ?_
   refine JA.fix CS (fun fx6 => ?_)
   refine JA.RS 14 8 37 true _ rfl fx6 rfl rfl hg7 (zX (off' := eo + y * 5) rfl rfl rfl LD MZ (by omega) (by omega) (by simp)) ?_
   refine yU 1 ?_
   refine JA.fix CS (fun fx6 => ?_)
   refine JA.RS 16 8 37 true _ rfl fx6 rfl rfl hg7 (qq2 OH FM (yZ.GY heb) (b0l hed hget)) ?_
   refine yU 1 ?_
   refine JA.fix CS (fun fx6 => ?_)
   refine JA.RS 18 8 37 true _ rfl fx6 rfl rfl hg7 (b8L (kv := b6g) (a := x.t) (b := t) rfl rfl rfl rfl rfl b7y (by kernel_rfl)) ?_
   refine BL ?_
   rw [hpos, hth]
   exact ⟨rfl, rfl⟩
  have hls : Ix.CB x.t t = true := by have h := hc5; simpa using h
  refine yU 8 ?_
  refine Ej.round (y + 1) ⟨by omega, b6y hall hget hls⟩ (by omega) ⟨rfl, rfl, rfl, trivial⟩ rfl rfl
 refine yU 6 ?_
 have hpos : BU es t = y := a4G hall (fun x hx => absurd (List.getElem?_eq_some_iff.1 hx).1 (by omega)) hy
 have hth := a5Q hpos (by omega)
 refine Cj.AU [0] [] 22 (by kernel_rfl) ?_
 refine yU 9 ?_
 refine JA.split 37 rfl (fun hg9 => ?_) (fun hg9 => ?_)
 ·have hg9p := EX hg9
  omega
 have hg9p := JE hg9
 refine BL ?_
 rw [hpos, hth]
 exact ⟨rfl, rfl⟩
theorem a5p rb w es t (hl : es.length ≤ 1000000) I (hE : ET I es w) : yY Tryz.prog 92 [ptr rb 0, zS t] I [(rb, zJ 50 [w])] (fun e _ H' => e = .returned (.tuple #[i64 (BU es t : Int), .bool (GK es t)]) ∧ H' = [(rb, zJ 50 [w])]) :=
  Pure.borrow (Enters.of func92 (by decide) rfl) fun J hle hJ => b6A rb w es t hl J (hJ (rb, _) (.head _)) (hE.mono hle)
theorem zL.from {α : Type} {f : α → List Value} {sz : Nat} (hf : ∀ x, (f x).length = sz) {I l a c} (h : zL f I l (.slice a l.length c)) {j : Nat} (hj : j ≤ l.length) : zL f I (l.drop j) (.slice (a0L a c j sz) (l.length - j) (c - j)) := by
  have h1 := zL.cut hf h hj (Nat.le_refl _)
  rwa [List.take_of_length_le (by rw [List.length_drop]; omega)] at h1
theorem a3S a b e : ((([] : List Value) ++ a.flatMap FK) ++ FK e) ++ b.flatMap FK = (a ++ [e] ++ b).flatMap FK := by simp
theorem b6C (a b : List MJ) : (([] : List Value) ++ a.flatMap FK) ++ b.flatMap FK = (a ++ b).flatMap FK := by simp
theorem ET.put {I I' es e w v} (h : ET I es w) (he : PL I e.fs e.v) (hle : Le I I') (hr : zL FK I' (OJ es e) v) : ET I' (OJ es e) v := ⟨hr, fun x hx => by
  rcases a8n hx with rfl | g
  · exact he.mono hle
  exact (h.2 x g).mono hle⟩
theorem ET.drop {I I' es t w v} (h : ET I es w) (hle : Le I I') (hr : zL FK I' (LG es t) v) : ET I' (LG es t) v := ⟨hr, fun x hx => (h.2 x (a5S hx)).mono hle⟩
theorem b7X rb w es e (hl : es.length ≤ 1000000) I (hE : ET I es w) (hr : PL I e.fs e.v) : yY Tryz.prog 99 [ptr rb 0, .agg (FK e).toArray] I [(rb, zJ 50 [w])] (fun ev I' H' => ∃ w', ev = .returned (.tuple #[]) ∧ ET I' (OJ es e) w' ∧ H' = [(rb, zJ 50 [w'])]) := by
 have hrow := hE.1
 obtain ⟨p, c, rfl, hc⟩ := hE.len
 obtain ⟨vp, vc, hev, -, -⟩ := id hr.1
 have hpl := ZG es e.t
 have htl : (es.take (BU es e.t)).length = BU es e.t := by rw [List.length_take]; omega
 refine zO func99 fun w0 hw0 => ?_
 refine yU 3 ?_
 intro b1 hb1
 refine yU 7 ?_
 refine J.pull (Pull.s Pull.z) ?_
 refine BJ (a5p rb _ es e.t hl _ hE) ?_
 intro v2 I3 H4 hle5 hp6
 have hE := hE.mono hle5
 have hr := hr.mono hle5
 have hrow := hrow.mono hle5
 obtain ⟨h, rfl⟩ := hp6; cases h
 refine yU 20 ?_
 refine J.z (PW (k := BU es e.t) rfl rfl rfl LD MZ rfl (by omega)) ?_
 refine J.op rfl (CP (by' := 47) (n := 0) (g := none) (xs := []) [_, _] rfl rfl rfl rfl rfl LD (.inr ⟨_, LD⟩) (by kernel_rfl) MZ ZA rfl ⟨rfl, rfl⟩ rfl (Src.row GR (zL.take hrow hpl) (WU hE (fun x hx => List.mem_of_mem_take hx))) (by omega) ?_)
 intro g7 hg7
 refine yU 8 ?_
 intro b8 hb8
 refine J.op rfl (CP (by' := 47) [_, _, _] rfl rfl rfl rfl rfl LD (.inr ⟨_, LD⟩) (by kernel_rfl) MZ ZA rfl hg7 rfl (Src.slice (yZ.at 0 rfl) rfl rfl (a5g hev)) (by omega) ?_)
 intro g9 hg9
 refine FB (fun hc10 => ?_) (fun hc10 => ?_)
 ·have hth : GK es e.t = true := hc10
  have hlt := a5k hth
  have hpj : BU es e.t + 1 ≤ es.length := hlt
  have hdl : (es.drop (BU es e.t + 1)).length = es.length - (BU es e.t + 1) := List.length_drop
  refine yU 14 ?_
  refine J.z (UC (j := (BU es e.t + 1)) rfl rfl rfl LD MZ rfl (by omega) (by omega)) ?_
  refine J.op rfl (CP (by' := 47) [_, _, _] rfl rfl rfl rfl rfl LD (.inr ⟨_, LD⟩) (by kernel_rfl) MZ ZA rfl hg9 rfl (Src.row GR (zL.from GR hrow (j := BU es e.t + 1) hpj) (WU hE (fun x hx => List.mem_of_mem_drop hx))) (by omega) ?_)
  intro g11 hg11
  refine yU 4 ?_
  refine Ej.keep (Keeps.d (Keeps.k (Keeps.d Keeps.r))) ?_
  have hes : es.take (BU es e.t) ++ [e] ++ es.drop (BU es e.t + 1) = OJ es e := by unfold OJ; rw [hth]; rfl
  have hfl := (a3S (es.take (BU es e.t)) (es.drop (BU es e.t + 1)) e).trans (congrArg (List.flatMap FK) hes)
  refine Ej.perm (H' := gH 59 ((OJ es e).flatMap FK) g11 ++ [(rb, _)]) (by rw [← hfl]; exact List.perm_append_comm) ?_
  refine Ej.keepR GR (by decide) (by rw [← hfl]; exact hg11) (by rw [← hes]; simp only [List.length_append, List.length_singleton]; omega) (fun I8 hle8 hw8 => ?_)
  refine Ej.GL rfl rfl ?_
  exact ⟨_, rfl, hE.put hr hle8 hw8, rfl⟩
 have hth : GK es e.t = false := hc10
 have hpj := hpl
 have hdl : (es.drop (BU es e.t)).length = es.length - BU es e.t := List.length_drop
 refine yU 10 ?_
 refine J.z (UC (j := (BU es e.t)) rfl rfl rfl LD MZ rfl (by omega) (by omega)) ?_
 refine J.op rfl (CP (by' := 47) [_, _, _] rfl rfl rfl rfl rfl LD (.inr ⟨_, LD⟩) (by kernel_rfl) MZ ZA rfl hg9 rfl (Src.row GR (zL.from GR hrow (j := BU es e.t) hpj) (WU hE (fun x hx => List.mem_of_mem_drop hx))) (by omega) ?_)
 intro g12 hg12
 refine yU 4 ?_
 refine Ej.keep (Keeps.d (Keeps.k (Keeps.d Keeps.r))) ?_
 have hes : es.take (BU es e.t) ++ [e] ++ es.drop (BU es e.t) = OJ es e := by unfold OJ; rw [hth]; rfl
 have hfl := (a3S (es.take (BU es e.t)) (es.drop (BU es e.t)) e).trans (congrArg (List.flatMap FK) hes)
 refine Ej.perm (H' := gH 59 ((OJ es e).flatMap FK) g12 ++ [(rb, _)]) (by rw [← hfl]; exact List.perm_append_comm) ?_
 refine Ej.keepR GR (by decide) (by rw [← hfl]; exact hg12) (by rw [← hes]; simp only [List.length_append, List.length_singleton]; omega) (fun I8 hle8 hw8 => ?_)
 refine Ej.GL rfl rfl ?_
 exact ⟨_, rfl, hE.put hr hle8 hw8, rfl⟩
theorem b6X rb w es t (hl : es.length ≤ 1000000) I (hE : ET I es w) : yY Tryz.prog 44 [ptr rb 0, zS t] I [(rb, zJ 50 [w])] (fun ev I' H' => ∃ w', ev = .returned (.tuple #[]) ∧ ET I' (LG es t) w' ∧ H' = [(rb, zJ 50 [w'])]) := by
 have hrow := hE.1
 obtain ⟨p, c, rfl, hc⟩ := hE.len
 have hpl := ZG es t
 have htl : (es.take (BU es t)).length = BU es t := by rw [List.length_take]; omega
 refine zO func44 fun w0 hw0 => ?_
 refine yU 3 ?_
 intro b1 hb1
 refine yU 6 ?_
 refine J.pull (Pull.s Pull.z) ?_
 refine BJ (a5p rb _ es t hl _ hE) ?_
 intro v2 I3 H4 hle5 hp6
 have hE := hE.mono hle5
 have hrow := hrow.mono hle5
 obtain ⟨h, rfl⟩ := hp6; cases h
 refine FB (fun hc7 => ?_) (fun hc7 => ?_)
 ·have hth : GK es t = true := hc7
  have hlt := a5k hth
  have hpj : BU es t + 1 ≤ es.length := hlt
  have hdl : (es.drop (BU es t + 1)).length = es.length - (BU es t + 1) := List.length_drop
  refine yU 13 ?_
  refine J.z (PW (k := BU es t) rfl rfl rfl LD MZ rfl (by omega)) ?_
  refine J.op rfl (CP (by' := 47) (n := 0) (g := none) (xs := []) [_, _] rfl rfl rfl rfl rfl LD (.inr ⟨_, LD⟩) (by kernel_rfl) MZ ZA rfl ⟨rfl, rfl⟩ rfl (Src.row GR (zL.take hrow hpl) (WU hE (fun x hx => List.mem_of_mem_take hx))) (by omega) ?_)
  intro g8 hg8
  refine yU 12 ?_
  refine J.z (UC (j := (BU es t + 1)) rfl rfl rfl LD MZ rfl (by omega) (by omega)) ?_
  refine J.op rfl (CP (by' := 47) [_, _] rfl rfl rfl rfl rfl LD (.inr ⟨_, LD⟩) (by kernel_rfl) MZ ZA rfl hg8 rfl (Src.row GR (zL.from GR hrow (j := BU es t + 1) hpj) (WU hE (fun x hx => List.mem_of_mem_drop hx))) (by omega) ?_)
  intro g9 hg9
  refine yU 4 ?_
  refine Ej.keep (Keeps.k (Keeps.d Keeps.r)) ?_
  have hes : es.take (BU es t) ++ es.drop (BU es t + 1) = LG es t := by unfold LG; rw [hth]; rfl
  have hfl := (b6C (es.take (BU es t)) (es.drop (BU es t + 1))).trans (congrArg (List.flatMap FK) hes)
  refine Ej.perm (H' := gH 59 ((LG es t).flatMap FK) g9 ++ [(rb, _)]) (by rw [← hfl]; exact List.perm_append_comm) ?_
  refine Ej.keepR GR (by decide) (by rw [← hfl]; exact hg9) (by rw [← hes]; simp only [List.length_append]; omega) (fun I8 hle8 hw8 => ?_)
  refine Ej.GL rfl rfl ?_
  exact ⟨_, rfl, hE.drop hle8 hw8, rfl⟩
 have hth : GK es t = false := hc7
 refine yU 1 ?_
 refine Ej.keep (Keeps.k (Keeps.d Keeps.n)) ?_
 refine Ej.GL rfl rfl ?_
 exact ⟨_, rfl, (show LG es t = es from by unfold LG; rw [hth]; rfl).symm ▸ hE, rfl⟩
end Go.Proofs.YtekmeaoblpfnpaaGreatDoor
end
section
namespace Go.Proofs.YtekmeaoblpfnpaaGreatDoor
open Go Go.Sx
end Go.Proofs.YtekmeaoblpfnpaaGreatDoor
end
namespace Ke
open Go.Lib (decodeL decodeN)
def opens (t : Bs) : Prop := t = [] ∨ ∃ b r, t = b :: r ∧ b.toNat / 64 ≠ 2
theorem QJ {b r} (h : b.toNat / 64 ≠ 2) : opens (b :: r) := .inr ⟨b, r, rfl, h⟩
theorem a5Y : opens [] := .inl rfl
theorem a6k {s t} (h : opens s) (hs : s ≠ []) : opens (s ++ t) := by
  rcases h with h | ⟨b, r, rfl, h⟩
  · exact absurd h hs
  exact .inr ⟨b, r ++ t, rfl, h⟩
theorem b1P {s t} (h : opens s) (ht : opens t) : opens (s ++ t) := by grind [a6k]
theorem a2F l t (hl : l ≠ []) (ht : opens t) : decodeL (l ++ t) = decodeL l := by
  rw [Go.Lib.decodeL_N, Go.Lib.decodeL_N]
  rcases ht with rfl | ⟨b, r, rfl, hb⟩
  · rw [List.append_nil]
  rcases l with _ | ⟨a0, _ | ⟨a1, _ | ⟨a2, _ | ⟨a3, l⟩⟩⟩⟩
  · exact absurd rfl hl
  all_goals
    simp only [List.cons_append, List.nil_append, List.length_cons, List.length_nil, List.length_append, List.getD_cons_zero, List.getD_cons_succ, List.getD_nil]
    unfold decodeN
    first
      | (have e1 : (0 + 1 < 0 + 1) = False := by simp
         simp [hb, Nat.lt_irrefl])
      | (simp [hb, Nat.lt_irrefl]; done)
      | skip
theorem a2M : ∀ (n : Nat) (s t : Bs), s.length ≤ n → opens t → runes (s ++ t) = runes s ++ runes t
  | _, [], t, _, _ => by simp [b4K]
  | 0, a :: r, t, h, _ => by simp at h
  | n + 1, a :: r, t, h, ht => by
    have hne : a :: r ≠ [] := by simp
    have hw := Go.Lib.decodeL_width (a :: r)
    have hl := Go.Lib.decodeL_le (a :: r) hne
    rw [QZ (s := (a :: r) ++ t) (by simp), QZ hne, a2F _ _ hne ht, List.drop_append_of_le_length hl, a2M n _ t (by simp only [List.length_drop]; simp only [List.length_cons] at h; simp only [List.length_cons]; omega) ht]
    rfl
theorem a6r s t (h : opens t) : runes (s ++ t) = runes s ++ runes t := a2M _ s t (Nat.le_refl _) h
theorem a9M {c} r (h : c.toNat < 128) : runes (c :: r) = c.toNat :: runes r := by
  rw [QZ (by simp), Go.Lib.decodeL_ascii c r h]; rfl
theorem toByte {n} (h : n < 256) : (UInt8.ofNat n).toNat = n := by simp; omega
theorem enc1 {c} (h : c < 128) : enc c = [UInt8.ofNat c] := by
  unfold enc; rw [if_pos h]
theorem enc2 {c} (h1 : 128 ≤ c) (h : c < 2048) : enc c = [UInt8.ofNat (192 + c / 64), UInt8.ofNat (128 + c % 64)] := by
  unfold enc; rw [if_neg (by omega), if_pos h]
theorem enc3 {c} (h1 : 2048 ≤ c) (h : WG c) : enc c = [UInt8.ofNat (224 + c / 4096), UInt8.ofNat (128 + c / 64 % 64), UInt8.ofNat (128 + c % 64)] := by grind [WG, enc]
theorem XI {c} (h : WG c) : opens (enc c) ∧ enc c ≠ [] := by
  by_cases h1 : c < 128
  · rw [enc1 h1]; exact ⟨QJ (by rw [toByte (by omega)]; omega), by simp⟩
  by_cases h2 : c < 2048
  · rw [enc2 (by omega) h2]; exact ⟨QJ (by rw [toByte (by omega)]; omega), by simp⟩
  rw [enc3 (by omega) h]; unfold WG at h; exact ⟨QJ (by rw [toByte (by omega)]; omega), by simp⟩
theorem a2R {c} (h : WG c) : decodeL (enc c) = (c, (enc c).length) := by
  rw [Go.Lib.decodeL_N]
  by_cases h1 : c < 128
  · rw [enc1 h1]
    simp only [List.length_cons, List.length_nil, List.getD_cons_zero, List.getD_cons_succ, List.getD_nil]
    rw [toByte (by omega)]
    unfold decodeN
    rw [if_pos h1]
  by_cases h2 : c < 2048
  · rw [enc2 (by omega) h2]
    simp only [List.length_cons, List.length_nil, List.getD_cons_zero, List.getD_cons_succ, List.getD_nil]
    rw [toByte (by omega), toByte (by omega)]
    unfold decodeN
    rw [if_neg (by omega), if_pos ⟨by omega, by omega, by omega⟩, if_pos (by omega)]
    refine Prod.ext ?_ rfl
    show _ = c
    simp only
    omega
  rw [enc3 (by omega) h]
  unfold WG at h
  simp only [List.length_cons, List.length_nil, List.getD_cons_zero, List.getD_cons_succ, List.getD_nil]
  rw [toByte (by omega), toByte (by omega), toByte (by omega)]
  unfold decodeN
  rw [if_neg (by omega), if_neg (by omega), if_pos ⟨by omega, ⟨by omega, by omega⟩, by omega, by omega⟩, if_pos ⟨by omega, by omega⟩]
  refine Prod.ext ?_ rfl
  show _ = c
  simp only
  omega
theorem a5J {c} (h : WG c) : runes (enc c) = [c] := by
  rw [QZ (XI h).2, a2R h, List.drop_eq_nil_of_le (Nat.le_refl _)]; rfl
def encs (l : List Nat) : Bs := l.flatMap enc
theorem a4q : ∀ (l : List Nat), (∀ c ∈ l, WG c) → opens (encs l)
  | [], _ => a5Y
  | c :: _r, h => a6k (XI (h c (.head _))).1 (XI (h c (.head _))).2
theorem a3Y : ∀ (l : List Nat), (∀ c ∈ l, WG c) → runes (encs l) = l
  | [], _ => rfl
  | c :: r, h => by
    show runes (enc c ++ encs r) = _
    rw [a6r _ _ (a4q r fun d hd => h d (.tail _ hd)), a5J (h c (.head _)), a3Y r fun d hd => h d (.tail _ hd)]
    rfl
end Ke
namespace Ke
end Ke
section
namespace Go.Proofs.YtekmeaoblpfnpaaGreatDoor
open Go Go.Sx
theorem mod_eq (n : Int) {m : Int} (hm : 0 < m) : (n.tmod m + m).tmod m = n % m := by
  have h1 := Int.tmod_lt_of_pos n hm
  have h2 : -m < n.tmod m := by
    have := Int.lt_tmod_of_pos n hm
    omega
  rw [Int.tmod_eq_emod_of_nonneg (by omega), Int.add_emod_right, Int.tmod_def, Int.sub_mul_emod_self_left]
end Go.Proofs.YtekmeaoblpfnpaaGreatDoor
end
section
namespace Go.Proofs.YtekmeaoblpfnpaaGreatDoor
open Go Go.Sx
end Go.Proofs.YtekmeaoblpfnpaaGreatDoor
end
section
namespace Go.Proofs.YtekmeaoblpfnpaaGreatDoor
open Go Go.Sx
end Go.Proofs.YtekmeaoblpfnpaaGreatDoor
end
section
namespace Go.Proofs.YtekmeaoblpfnpaaGreatDoor
open Go Go.Sx
theorem b4V {α : Type} {a b : List α} {k x y} (h : a.take k = b.take k) (hx : a[k]? = some x) (hy : b[k]? = some y) (he : x = y) : a.take (k + 1) = b.take (k + 1) := by
  obtain ⟨h1, e1⟩ := List.getElem?_eq_some_iff.1 hx
  obtain ⟨h2, e2⟩ := List.getElem?_eq_some_iff.1 hy
  rw [List.take_succ_eq_append_getElem h1, List.take_succ_eq_append_getElem h2, h, e1, e2, he]
theorem a3y a b va vb (hal : a.length ≤ 100000000000000) I (ha : zL recC I a va) (hb : zL recC I b vb) : Pure Tryz.prog 20 [va, vb] I (.bool (decide (a = b))) := by
 refine yY.toPure ?_
 obtain ⟨p1, c1, rfl, hc1, hp1⟩ := ha
 obtain ⟨p2, c2, rfl, hc2, hp2⟩ := hb
 refine zO Tryz.func20 fun w0 hw0 => ?_
 refine AB (fun hc1 hc1p => ?_) (fun hc1 hc1p => ?_)
 ·have hln : a.length ≠ b.length := by have h := bne_iff_ne.1 hc1; omega
  refine zZ ?_
  rw [decide_eq_false (fun e => hln (by rw [e]))]
  exact ⟨rfl, rfl⟩
 have hlen : a.length = b.length := by have h := TU hc1; omega
 refine yU 9 ?_
 refine Cj.loop (ι := Nat) (fun j => j ≤ a.length ∧ a.take j = b.take j) (fun j => a.length - j) (fun j => [(0, .slice p1 a.length c1), (1, .slice p2 b.length c2), (5, i64 (j : Int))]) (fun j => _) (fun j => []) 0 ⟨Nat.zero_le _, rfl⟩ ⟨rfl, rfl, rfl, trivial⟩ rfl rfl ?_
 rintro j ⟨hj, hall⟩
 refine AB (fun hc2 hc2p => ?_) (fun hc2 hc2p => ?_)
 ·have hlt : j < a.length := by omega
  obtain ⟨x, hx⟩ : ∃ x, a[j]? = some x := ⟨_, CO hlt⟩
  obtain ⟨y, hy⟩ : ∃ y, b[j]? = some y := ⟨_, CO (by omega)⟩
  obtain ⟨fa, oa, acs, aty, afr, asp, rfl, hfa, had⟩ := hp1 (BF hlt)
  obtain ⟨fb, ob, CW, bty, bfr, bsp, rfl, hfb, hbd⟩ := hp2 (BF (by omega : j < b.length))
  refine yU 5 ?_
  refine Cj.AU [] [] 9 (by kernel_rfl) ?_
  refine AZ (oa + j * 2) ?_
  refine JA.zt 3 rfl (qq2 OH FM (yZ.GY hfa) (CV DU had hx)) ?_
  refine AZ (ob + j * 2) ?_
  refine JA.zt 7 rfl (qq2 OH FM (yZ.GY hfb) (CV DU hbd hy)) ?_
  refine JA.zt 8 rfl (b8z (kv := b6g) (a := x) (b := y) rfl rfl rfl rfl rfl b7y (by kernel_rfl)) ?_
  refine AB (fun hc4 hc4p => ?_) (fun hc4 hc4p => ?_)
  ·have hxy : x ≠ y := bne_iff_ne.1 hc4
   refine zZ ?_
   rw [decide_eq_false (fun e => hxy (by rw [e, hy] at hx; exact (Option.some.inj hx).symm))]
   exact ⟨rfl, rfl⟩
  have hxy : x = y := TU hc4
  refine yU 8 ?_
  refine Ej.round (j + 1) ⟨by omega, b4V hall hx hy hxy⟩ (by omega) ⟨rfl, rfl, rfl, trivial⟩ rfl rfl
 refine zZ ?_
 rw [List.take_of_length_le (by omega : a.length ≤ j), List.take_of_length_le (by omega : b.length ≤ j)] at hall
 rw [decide_eq_true hall]
 exact ⟨rfl, rfl⟩
end Go.Proofs.YtekmeaoblpfnpaaGreatDoor
end
section
namespace Go.Proofs.YtekmeaoblpfnpaaGreatDoor
open Go Go.Sx
theorem a6V {α : Type} {p} {l : List α} {k x} (h : l[k]? = some x) : (l.take (k + 1)).any p = ((l.take k).any p || p x) := by
  obtain ⟨hlt, hg⟩ := List.getElem?_eq_some_iff.1 h
  rw [List.take_succ_eq_append_getElem hlt, hg, List.any_append]; simp
theorem zL.len {α : Type} {f : α → List Value} {I : Heap} {l : List α} {v : Value} (h : zL f I l v) : ∃ p c, v = .slice p l.length c := let ⟨p, c, h1, _⟩ := h; ⟨p, c, h1⟩
end Go.Proofs.YtekmeaoblpfnpaaGreatDoor
end
section
namespace Go.Proofs.YtekmeaoblpfnpaaGreatDoor
open Go Go.Sx
theorem a5W {α β : Type} (f : α → List β) {l : List α} {k x} (h : l[k]? = some x) : (l.take (k + 1)).flatMap f = (l.take k).flatMap f ++ f x := by
  obtain ⟨hlt, h⟩ := List.getElem?_eq_some_iff.1 h
  rw [List.take_succ_eq_append_getElem hlt, h, List.flatMap_append]; simp
end Go.Proofs.YtekmeaoblpfnpaaGreatDoor
end
namespace Ke
def b2r (f : GI) : GI := { f with sv := .slice none 0 0 }
def nrm (fs : List GI) : List GI := fs.map b2r
end Ke
namespace Go.Sx
open Go
theorem Ready.dom {I H w} (h : Ready I H w) {b} (hb : w.heap.size ≤ b) : I b = none := by
  cases hI : I b with
  | none => rfl
  | some o =>
    have := h.1 b o hI
    rw [Array.getElem?_eq_none hb] at this; cases this
section
variable {cx:Cx} {Q:Qt} {e:Env} {I:Heap} {H:HL}
end
section
variable {cx:Cx} {Q:Qt} {e:Env} {I:Heap} {H:HL}
end
def KD {α : Type} (N : Nat → Prop) (T : TypeId) (f : α → List Value) (I : Heap) (l : List α) (v : Value) : Prop :=
  ∃ p c, v = .slice p l.length c ∧ l.length ≤ c ∧ (l ≠ [] → ∃ b sp, p = some ⟨b, 0, none⟩ ∧ N b ∧ I b = some (zJ T (l.flatMap f ++ sp)))
section
variable {α:Type} {N M:Nat→Prop} {T:TypeId} {f:α→List Value} {I I':Heap} {l:List α} {v:Value}
theorem KD.mono (h : KD N T f I l v) (hle : Le I I') : KD N T f I' l v :=
  let ⟨p, c, h1, h2, h3⟩ := h; ⟨p, c, h1, h2, fun hn => let ⟨b, sp, h4, h5, h6⟩ := h3 hn; ⟨b, sp, h4, h5, hle _ _ h6⟩⟩
theorem KD.imp (h : KD N T f I l v) (hm : ∀ b, N b → M b) : KD M T f I l v :=
  let ⟨p, c, h1, h2, h3⟩ := h; ⟨p, c, h1, h2, fun hn => let ⟨b, sp, h4, h5, h6⟩ := h3 hn; ⟨b, sp, h4, hm b h5, h6⟩⟩
theorem KD.rowT (h : KD N T f I l v) : MR T f I l v :=
  let ⟨p, c, h1, h2, h3⟩ := h; ⟨p, c, h1, h2, fun hn => let ⟨b, sp, h4, _, h6⟩ := h3 hn; ⟨b, sp, h4, h6⟩⟩
theorem KD.row (h : KD N T f I l v) : zL f I l v := h.rowT.row
theorem KD.nil : KD N T f I ([] : List α) (.slice none 0 0) := ⟨none, 0, rfl, Nat.le_refl _, fun h => absurd rfl h⟩
end
section
variable {cx:Cx} {Q:Qt} {e:Env} {I:Heap} {R:HL} {T:TypeId} {α:Type} {l:List α} {f:α→List Value} {sz n base:Nat} {g:Gs}
theorem a7S {X : Heap → HL → Prop} (hf : ∀ x, (f x).length = sz) (hpos : 0 < sz) (hg : BN base sz n (l.flatMap f) g) (hn : n = l.length) (hp : ∀ b o, base ≤ b → (∀ I', Le I I' → I' b = some o → X I' R) → X I ((b, o) :: R)) (k : ∀ I', Le I I' → KD (base ≤ ·) T f I' l (gV n g) → X I' R) : X I (gH T (l.flatMap f) g ++ R) := by
  subst hn
  cases g with
  | none =>
    obtain ⟨h1, h2⟩ := hg
    have : l = [] := List.length_eq_zero_iff.1 h1
    subst this
    exact k I (Le.refl _) KD.nil
  | some q =>
    obtain ⟨b, c, sp⟩ := q
    obtain ⟨h1, h2, h3⟩ := hg
    have hc : l.length ≤ c := by
      rw [CJ hf] at h3
      exact Nat.le_of_mul_le_mul_right (by omega : l.length * sz ≤ c * sz) hpos
    exact hp b _ h1 fun I' hle hb => k I' hle ⟨_, c, rfl, hc, fun _ => ⟨b, sp, rfl, h1, hb⟩⟩
theorem Cj.a6J {c} (hf : ∀ x, (f x).length = sz) (hpos : 0 < sz) (hg : BN cx.w0.heap.size sz n (l.flatMap f) g) (hn : n = l.length) (k : ∀ I', Le I I' → KD (cx.w0.heap.size ≤ ·) T f I' l (gV n g) → Cj cx Q c e I' R) : Cj cx Q c e I (gH T (l.flatMap f) g ++ R) :=
  a7S (X := fun I H => Cj cx Q c e I H) hf hpos hg hn (fun _ _ hb k => Cj.persist hb k) k
theorem Ej.a6J {x} (hf : ∀ x, (f x).length = sz) (hpos : 0 < sz) (hg : BN cx.w0.heap.size sz n (l.flatMap f) g) (hn : n = l.length) (k : ∀ I', Le I I' → KD (cx.w0.heap.size ≤ ·) T f I' l (gV n g) → Ej cx Q x e I' R) : Ej cx Q x e I (gH T (l.flatMap f) g ++ R) :=
  a7S (X := fun I H => Ej cx Q x e I H) hf hpos hg hn (fun _ _ hb k => Ej.persist hb k) k
end
section
variable {cx:Cx} {Q:Qt} {e:Env} {I I1:Heap} {H A:HL} {Z:CL} {z:Nat} {l:List Oper} {fuel:Nat} {listed:Array Bool}
end
section
variable {cx:Cx} {Q:Qt} {e:Env} {I I1:Heap} {R H1 A:HL} {Z:CL} {z:Nat} {ops:List Oper} {fuel:Nat} {listed:Array Bool} {T:TypeId} {α:Type} {l:List α} {f:α→List Value} {v:Value} {sz n:Nat} {g:Gs}
theorem JA.LH (h : RJ T f l v H1) (hb : ∀ p ∈ H1, cx.w0.heap.size ≤ p.1) (k : ∀ I', Le I I' → MR T f I' l v → JA cx Q ops I1 A Z z fuel listed e I' R) : JA cx Q ops I1 A Z z fuel listed e I (H1 ++ R) :=
  a5n (X := fun I H => JA cx Q ops I1 A Z z fuel listed e I H) h hb (fun _ _ hb k => JA.persist hb k) k
end
end Go.Sx
section
namespace Go.Proofs.YtekmeaoblpfnpaaGreatDoor
open _root_.Go.Proofs.Tryz
open Go Go.Sx
def In64 (a : Int) : Prop := -9223372036854775808 ≤ a ∧ a ≤ 9223372036854775807
theorem b4i {a} (h : In64 a) m (hm : 2 ≤ m) : -4611686018427387904 ≤ a.tdiv m ∧ a.tdiv m ≤ 4611686018427387904 := by
  unfold In64 at h
  have h1 : (a.tdiv m).natAbs = a.natAbs / m.natAbs := Int.natAbs_tdiv a m
  have h2 : a.natAbs / m.natAbs ≤ a.natAbs / 2 := Nat.div_le_div_left (by omega) (by decide)
  omega
theorem a6d {j : Nat} {m} (hj : j ≤ 3) (h0 : 0 ≤ m) (h1 : m ≤ 2) : 0 ≤ (j : Int) * (1 + m) ∧ (j : Int) * (1 + m) ≤ 9 := by
  match j, hj with
  | 0, _ => simp
  | 1, _ => simp; omega
  | 2, _ => simp; omega
  | 3, _ => simp; omega
abbrev OA (q : Ix.Four) : List Value := [i64 q.x0, i64 q.x1, i64 q.x2, i64 q.x3]
theorem b2P q : (OA q).length = 4 := rfl
structure RP (q : Ix.Four) : Prop where
  h0 : In64 q.x0
  h1 : In64 q.x1
  h2 : In64 q.x2
  h3 : In64 q.x3
theorem a4S {l : List (List UInt8)} {n} (h0 : 0 ≤ n) (h1 : n < (l.length : Int)) : (l.map str)[n.toNat]? = some (str (l.getD n.toNat [])) := by
  have h2 : n.toNat < l.length := by omega
  rw [List.getElem?_map, CO h2, List.getD_eq_getElem?_getD, CO h2]; rfl
theorem b6l {l : List UInt8} {n} (h0 : 0 ≤ n) (h1 : n < (l.length : Int)) : l[n.toNat]? = some (l.getD n.toNat 0) := by
  have h2 : n.toNat < l.length := by omega
  rw [CO h2, List.getD_eq_getElem?_getD, CO h2]; rfl
theorem b0W fs f : Ke.nrm (fs ++ [f]) = Ke.nrm fs ++ [Ke.b2r f] := by unfold Ke.nrm; rw [List.map_append]; rfl
theorem b7L fs : (Ke.nrm fs).length = fs.length := List.length_map _
theorem a2X fs : Ix.vals (Ke.nrm fs) = Ix.vals fs := by
  unfold Ix.vals Ke.nrm
  rw [List.flatMap_map]; rfl
def MI (q : Ix.Four) (n : Nat) : List Ke.Sub := (List.range n).map fun j => Ix.b1z q j
theorem a0d q n : MI q (n + 1) = MI q n ++ [Ix.b1z q n] := by unfold MI; rw [List.range_succ, List.map_append]; rfl
theorem a5h q n : (MI q n).length = n := by unfold MI; rw [List.length_map, List.length_range]
theorem b7x {q} (h : Ix.isC (Ix.KO q.x0)) : Ix.a1H q = ⟨Ix.KO q.x0, [], Ix.a0r q.x3, .slice none 0 0, []⟩ := if_pos h
theorem b7A {q} (h : ¬ Ix.isC (Ix.KO q.x0)) : Ix.a1H q = ⟨Ix.KO q.x0, Ix.TS.getD (q.x1 % 8).toNat [], [], .slice none 0 0, MI q (1 + (q.x2 % 3).toNat)⟩ := if_neg h
theorem b5Q n : (Ix.KO n).length ≤ 3 := by
  unfold Ix.KO
  generalize (n % 20).toNat = k
  rcases Nat.lt_or_ge k 20 with h | h
  · have : ∀ k, k < 20 → (Ix.a3G.getD k []).length ≤ 3 := by decide
    exact this k h
  rw [List.getD_eq_getElem?_getD, List.getElem?_eq_none (by simpa [Ix.a3G] using h)]; simp
theorem b7q n : (Ix.TS.getD n []).length ≤ 2 := by
  rcases Nat.lt_or_ge n 8 with h | h
  · have : ∀ k, k < 8 → (Ix.TS.getD k []).length ≤ 2 := by decide
    exact this n h
  rw [List.getD_eq_getElem?_getD, List.getElem?_eq_none (by simpa [Ix.TS] using h)]; simp
theorem b1y q : (Ix.a1H q).subs.length ≤ 3 ∧ DT (Ix.a1H q).subs ≤ 51 ∧ (Ix.a1H q).ind.length ≤ 2 := by
  by_cases h : Ix.isC (Ix.KO q.x0)
  · rw [b7x h]; exact ⟨by simp, by simp [DT], by simp⟩
  rw [b7A h]
  refine ⟨by dsimp only; rw [a5h]; omega, ?_, b7q _⟩
  dsimp only
  have hn : ∀ n, DT (MI q n) ≤ n * 17 := by
    intro n
    induction n with
    | zero => simp [DT, MI]
    | succ n ih =>
      rw [a0d]
      unfold DT at ih ⊢
      rw [List.map_append, List.sum_append]
      have h1 : (Ix.b1z q n).text.length ≤ 17 := Ix.b2H _
      simp only [List.map_cons, List.map_nil, List.sum_cons, List.sum_nil]; omega
  have := hn (1 + (q.x2 % 3).toNat)
  omega
theorem a8U {l fs} (h : Ke.nrm fs = Ix.OZ l) : UU fs := by
  have hl : fs.length ≤ 20 := by
    rw [← b7L, h]
    unfold Ix.OZ
    rw [List.length_map, List.length_take]; omega
  refine ⟨by omega, fun f hf => ?_⟩
  have h1 : Ke.b2r f ∈ Ix.OZ l := by rw [← h]; exact List.mem_map_of_mem hf
  obtain ⟨q, _, he⟩ := List.mem_map.1 h1
  have h2 := b1y q
  rw [he] at h2
  exact ⟨by have : f.subs.length ≤ 3 := h2.1; omega, by have : DT f.subs ≤ 51 := h2.2.1; omega, by have : f.ind.length ≤ 2 := h2.2.2; omega⟩
theorem b1n {α : Type} (A S Z : List α) : (S ++ (A ++ Z)).Perm (A ++ (S ++ Z)) := by
  rw [← List.append_assoc, ← List.append_assoc]
  exact List.Perm.append_right Z List.perm_append_comm
def a0k (N : Nat → Prop) (I : Heap) (fs : List Ke.GI) (v : Value) : Prop := KD N 108 JM I fs v ∧ ∀ f ∈ fs, KD N 176 OI I f.subs f.sv
theorem a0k.imp {N M : Nat → Prop} {I fs v} (h : a0k N I fs v) (hm : ∀ b, N b → M b) : a0k M I fs v := ⟨h.1.imp hm, fun f hf => (h.2 f hf).imp hm⟩
theorem a0k.rec {N : Nat → Prop} {I fs v} (h : a0k N I fs v) : PL I fs v := ⟨h.1.row, fun f hf => (h.2 f hf).row⟩
def OY (N : Nat → Prop) (I : Heap) (fs : List Ke.GI) : Prop := ∀ f ∈ fs, KD N 176 OI I f.subs f.sv
theorem OY.mono {N : Nat → Prop} {I I' fs} (h : OY N I fs) (hle : Le I I') : OY N I' fs := fun f hf => (h f hf).mono hle
theorem OY.nil {N : Nat → Prop} {I} : OY N I [] := fun _ h => by cases h
theorem OY.add {N : Nat → Prop} {I fs f} (h : OY N I fs) (h1 : KD N 176 OI I f.subs f.sv) : OY N I (fs ++ [f]) := fun x hx => by
  rcases List.mem_append.1 hx with g | g
  · exact h x g
  rw [List.mem_singleton.1 g]; exact h1
theorem VR n m (hm : 0 < m) (hm2 : m ≤ 1000000000) I : Pure Tryz.prog 141 [i64 n, i64 m] I (i64 (n % m)) := by
 have h1 := Int.tmod_lt_of_pos n hm
 have h2 := Int.lt_tmod_of_pos n hm
 refine zO func141 fun w0 hw0 => ?_
 refine yU 14 ?_
 refine J.ev 11 (i64 (n % m)) rfl (congrArg i64 (mod_eq n hm)) ?_
 refine zZ ?_
 exact ⟨rfl, rfl, rfl⟩
theorem b9l n I : Pure Tryz.prog 139 [i64 n] I (str (Ix.KO n)) := by
 refine yY.toPure ?_
 refine zO func139 fun w0 hw0 => ?_
 refine yU 8 ?_
 intro b1 hb1
 refine BD (VR n 20 (by decide) (by decide) _) ?_
 refine AZ ((n % 20).toNat) ?_
 refine J.z (zU rfl rfl JK (yZ.at 0 rfl) (a4S (l := Ix.a3G) (by omega) (by simp [Ix.a3G]; omega))) ?_
 refine BL ?_
 exact ⟨rfl, rfl⟩
theorem a9g n I : Pure Tryz.prog 140 [i64 n] I (str (Ix.a0r n)) := by
 refine yY.toPure ?_
 refine zO func140 fun w0 hw0 => ?_
 refine yU 8 ?_
 intro b1 hb1
 refine BD (VR n 20 (by decide) (by decide) _) ?_
 refine AZ ((n % 20).toNat) ?_
 refine J.z (zU rfl rfl JK (yZ.at 0 rfl) (a4S (l := Ix.a1I) (by omega) (by simp [Ix.a1I]; omega))) ?_
 refine BL ?_
 exact ⟨rfl, rfl⟩
theorem UD {α : Type} {l : List α} {k} (hk : k ≤ l.length) (h : k ≤ 20 ∧ (l.length ≤ k ∨ 20 ≤ k)) : l.take k = l.take 20 := by
  rcases h.2 with g | g
  · rw [List.take_of_length_le g, List.take_of_length_le (by omega)]
  rw [show k = 20 by omega]
theorem b3S l v (hok : ∀ q ∈ l, RP q) I (hv0 : zL OA I l v) : yY Tryz.prog 87 [v] I [] (fun e I' H' => ∃ fs w, e = .returned (a8F 97 109 w) ∧ a0k (I · = none) I' fs w ∧ Ke.nrm fs = Ix.OZ l ∧ H' = []) := by
 obtain ⟨p, c, rfl, hc, -⟩ := id hv0
 refine zO func87 fun w0 hw0 => ?_
 refine yU 3 ?_
 intro b1 hb1
 refine J.UQ (J.z (AQ (pl := #[(0, 1), (1, 1), (2, 1)]) rfl rfl zeroValue57 rfl underlying57 (fun w => by simp [ZM, sizeOf55]) (AO.part rfl rfl rfl (yV.c yV.z) (AO.part rfl rfl rfl (yV.s (yV.c yV.z)) AO.none))) ?_)
 refine J.op rfl (BM rfl rfl rfl zeroValue57 rfl ?_)
 intro b2 hb2
 refine J.op rfl (DV 0 a1Y (yV.c (yV.c (yV.c yV.z))) yX.z ?_)
 refine J.a0G (Cj.region (J.z GH ?_))
 refine J.ns (Cj.block ?_)
 refine Cj.loop (ι := Nat × Heap × List Ke.GI × Gs) (fun y => y.1 ≤ l.length ∧ y.1 ≤ 20 ∧ Le I y.2.1 ∧ OY (w0.heap.size ≤ ·) y.2.1 y.2.2.1 ∧ Ke.nrm y.2.2.1 = (l.take y.1).map Ix.a1H ∧ y.2.2.1.length = y.1 ∧ BN w0.heap.size 4 y.2.2.1.length (y.2.2.1.flatMap JM) y.2.2.2) (fun y => 20 - y.1) (fun y => [(0, .slice p l.length c), (2, ptr b1 0), (3, ptr b2 0), (4, i64 (y.1 : Int))]) (fun y => y.2.1) (fun y => (b2, zJ 57 [u8 97, u8 109, gV y.2.2.1.length y.2.2.2]) :: (b1, zJ 57 [u8 0, u8 0, .slice none 0 0]) :: gH 108 (y.2.2.1.flatMap JM) y.2.2.2) (0, _, [], none) ⟨Nat.zero_le _, Nat.zero_le _, Le.refl _, OY.nil, rfl, rfl, rfl, rfl⟩ ⟨rfl, rfl, rfl, rfl, trivial⟩ rfl rfl ?_
 rintro ⟨k, Jh, fs, g⟩ ⟨hk, hk20, hIJ, hS, hN, hfl, hg⟩
 dsimp only at hk hk20 hIJ hS hN hfl hg ⊢
 have hv := hv0.mono hIJ
 refine QF (fun hg3 hg3p => ?_) (fun hg3 hg3p => ?_)
 ·refine AB (fun hc4 hc4p => ?_) (fun hc4 hc4p => ?_)
  ·refine yU 5 ?_
   have hlt : k < l.length := by omega
   have hlt2 : k < 20 := by omega
   obtain ⟨q, hget⟩ : ∃ x, l[k]? = some x := ⟨_, CO hlt⟩
   have hq := hok q (CG hget)
   obtain ⟨p1, c1, hpe, hc1, hp⟩ := id hv
   cases hpe
   obtain ⟨lb, lo, lcs, lty, lfr, sp, rfl, hlb, hld⟩ := hp (BF hlt)
   have htl := b5Q q.x0
   refine AZ (lo + k * 4) ?_
   refine J.z (qq2 isAgg215 sizeOf215 (yZ.BR hlb) (CV b2P hld hget)) ?_
   refine yU 1 ?_
   intro b5 hb5
   refine BD (b9l q.x0 _) ?_
   refine J.z (AQ (pl := #[(0, 1), (1, 1), (2, 1), (3, 1)]) rfl rfl a0x rfl underlying108 (fun w => by simp [sizeOf106, EI]) (AO.part rfl rfl rfl (yV.c yV.z) AO.none)) ?_
   refine J.op rfl (BM rfl rfl rfl a0x rfl ?_)
   intro b6 hb6
   refine J.op rfl (DV 0 VN (yV.c (yV.c (yV.c (yV.c yV.z)))) yX.z ?_)
   refine J.ns ?_
   refine Cj.join (ι := Unit) (fun _ => ¬ Ix.isC (Ix.KO q.x0)) (fun _ => [(0, .slice (some ⟨lb, lo, none⟩) l.length c), (2, ptr b1 0), (3, ptr b2 0), (4, i64 (k : Int)), (5, ptr b5 0), (6, ptr b6 0)]) (fun _ => Jh) (fun _ => (b6, zJ 108 [str (Ix.KO q.x0), str [], str [], .slice none 0 0]) :: (b5, zJ 215 (OA q)) :: (b2, zJ 57 [u8 97, u8 109, gV fs.length g]) :: (b1, zJ 57 [u8 0, u8 0, .slice none 0 0]) :: gH 108 (fs.flatMap JM) g) ?_ (fun hcut => ?_)
   ·rintro _ hC
    refine yU 3 ?_
    intro b7 hb7
    refine BD (VR q.x1 8 (by decide) (by decide) _) ?_
    refine AZ ((q.x1 % 8).toNat) ?_
    refine J.z (zU rfl rfl JK (yZ.at 0 rfl) (a4S (l := Ix.TS) (by omega) (by simp [Ix.TS]; omega))) ?_
    refine yU 5 ?_
    obtain ⟨nn, hnn⟩ : ∃ nn : Nat, nn = 1 + (q.x2 % 3).toNat := ⟨_, rfl⟩
    have hn3 : nn ≤ 3 := by omega
    refine BD (VR q.x2 3 (by decide) (by decide) _) ?_
    refine yU 1 ?_
    refine J.ev 58 (i64 (nn : Int)) rfl (congrArg i64 (by omega)) ?_
    refine yU 5 ?_
    refine Cj.keep (Keeps.d Keeps.r) ?_
    refine yU 5 ?_
    refine Cj.keep (Keeps.k (Keeps.k (Keeps.k (Keeps.k Keeps.r)))) ?_
    refine Cj.loop (ι := Nat × Gs) (fun y => y.1 ≤ nn ∧ BN w0.heap.size 2 (MI q y.1).length ((MI q y.1).flatMap OI) y.2) (fun y => nn - y.1) (fun y => [(0, .slice (some ⟨lb, lo, none⟩) l.length c), (2, ptr b1 0), (3, ptr b2 0), (4, i64 (k : Int)), (5, ptr b5 0), (6, ptr b6 0), (7, i64 (nn : Int)), (8, i64 (y.1 : Int))]) (fun y => _) (fun y => (b6, zJ 108 [str (Ix.KO q.x0), str (Ix.TS.getD (q.x1 % 8).toNat []), str [], gV (MI q y.1).length y.2]) :: (b5, zJ 215 (OA q)) :: (b2, zJ 57 [u8 97, u8 109, gV fs.length g]) :: (b1, zJ 57 [u8 0, u8 0, .slice none 0 0]) :: (gH 176 ((MI q y.1).flatMap OI) y.2 ++ gH 108 (fs.flatMap JM) g)) (0, none) ⟨Nat.zero_le _, rfl, rfl⟩ ⟨rfl, rfl, rfl, rfl, rfl, rfl, rfl, rfl, trivial⟩ rfl rfl ?_
    rintro ⟨j, g2⟩ ⟨hj, hgs⟩
    dsimp only at hj hgs ⊢
    have hsl := a5h q j
    refine AB (fun hc8 hc8p => ?_) (fun hc8 hc8p => ?_)
    ·refine yU 4 ?_
     refine Cj.AU [0, 1, 2, 3] [] 24 (by kernel_rfl) ?_
     have hlb_15 := hlb
     refine yU 4 ?_
     refine JA.zt 4 rfl (a4l rfl rfl rfl (by decide) (MQ (by have h := b4i hq.h2 3 (by decide); omega))) ?_
     refine yU 7 ?_
     refine JA.zt 18 rfl (b8W rfl rfl rfl) ?_
     refine BD (VR q.x1 3 (by decide) (by decide) _) ?_
     refine yU 2 ?_
     refine JA.zt 10 rfl (a1P rfl rfl rfl (MQ (by have h := a6d (j := j) (m := q.x1 % 3) (by omega) (by omega) (by omega); omega))) ?_
     refine JA.zt 11 rfl (OT rfl rfl rfl (MQ (by have h := b4i hq.h2 3 (by decide); have h2 := a6d (j := j) (m := q.x1 % 3) (by omega) (by omega) (by omega); omega))) ?_
     refine BD (VR (q.x2.tdiv 3 + (j : Int) * (1 + q.x1 % 3)) 8 (by decide) (by decide) _) ?_
     refine yU 1 ?_
     refine JA.zt 13 rfl (EL rfl rfl rfl CY (by omega) (b6l (l := Ix.a7V) (by omega) (by simp [Ix.a7V]; omega))) ?_
     refine BD (a9g _ _) ?_
     refine ⟨⟨(Le.refl _), (HSub.c 0 rfl (HSub.c 1 rfl (HSub.c 2 rfl (HSub.c 3 rfl HSub.n)))), CSub.n⟩, ?_⟩
     refine JA.fix CS (fun fx12 => ?_)
     refine JA.tk 20 rfl fx12 (AQ (pl := #[(0, 1), (1, 1)]) rfl rfl a2n rfl underlying176 (fun w => by simp [ZM, EI]) (AO.part rfl rfl rfl (yV.c yV.z) (AO.part rfl rfl rfl (yV.s (yV.c yV.z)) AO.none))) ?_
     refine zT 21 rfl (zY rfl rfl rfl a2l sizeOf176 a2n rfl rfl rfl rfl (zM.agg rfl zM.none) ?_)
     intro b13 hb13
     refine ⟨⟨(Le.refl _), (HSub.c 1 rfl (HSub.c 2 rfl (HSub.c 3 rfl (HSub.c 4 rfl HSub.n)))), CSub.n⟩, ?_⟩
     refine JA.perm (H' := [_, _, _, _, _] ++ (gH _ _ _ ++ gH _ _ _)) (a6o [_, _, _, _, _] _ _) ?_
     refine zT 22 rfl (CP (by' := 23) ([_, _, _, _, _] ++ gH _ _ _) rfl rfl rfl rfl rfl a2l (.inr ⟨_, a2l⟩) (by kernel_rfl) sizeOf176 a2n rfl hgs rfl (Src.slice (yZ.at 0 rfl) rfl rfl rfl) (by omega) ?_)
     intro g14 hg14
     refine yU 2 ?_
     refine JA.last 24 (by kernel_rfl) rfl rfl rfl (BP 1 rfl rfl rfl rfl (a0A _ _) (a7X _ _) sizeOf106 rfl rfl (yV.s (yV.s (yV.s (yV.c yV.z)))) (yX.s yX.z) ?_)
     refine yU 8 ?_
     refine Ej.perm (a6o [_, _, _, _, _] (gH _ _ _) (gH _ _ _)) ?_
     refine Ej.keep (Keeps.d (Keeps.k (Keeps.k (Keeps.k (Keeps.k Keeps.r))))) ?_
     refine Ej.round (j + 1, g14) ⟨by dsimp only; omega, by dsimp only; rw [a0d, List.length_append, List.flatMap_append]; exact hg14⟩ (by dsimp only; omega) ⟨rfl, rfl, rfl, rfl, rfl, rfl, rfl, rfl, trivial⟩ rfl (by dsimp only; rw [a0d, List.length_append, List.flatMap_append]; rfl)
    refine yU 5 ?_
    have hjn : j = nn := by omega
    subst hjn
    refine Cj.perm (b1n [_, _, _, _] (gH _ _ _) (gH _ _ _)) ?_
    refine Cj.a6J a0R (by decide) hgs rfl (fun I8 hle8 hss => ?_)
    have hIJ := hIJ.mono hle8
    have hS := hS.mono hle8
    have hv := hv.mono hle8
    have hlb := hle8 _ _ hlb
    refine yU 5 ?_
    intro b16 hb16
    refine J.op rfl (CP (by' := 71) [_, _, _, _, _] rfl rfl rfl rfl rfl b1k (.inr ⟨_, b1k⟩) (by kernel_rfl) VN a0x rfl hg rfl (Src.slice (yZ.at 0 rfl) rfl rfl (by show [str (Ix.KO q.x0), str (Ix.TS.getD (q.x1 % 8).toNat []), str [], gV _ _].all Value.oneCell' = true; simp only [List.all_cons, List.all_nil, a2i, Bool.and_true]; rfl)) (by omega) ?_)
    intro g17 hg17
    refine yU 10 ?_
    refine Ej.keep (Keeps.d (Keeps.d (Keeps.d (Keeps.k (Keeps.k Keeps.r))))) ?_
    refine Ej.round (k + 1, _, fs ++ [⟨Ix.KO q.x0, Ix.TS.getD (q.x1 % 8).toNat [], [], gV (MI q j).length g2, MI q j⟩], g17) ⟨by dsimp only; omega, by dsimp only; omega, hIJ, OY.add hS hss, by dsimp only; rw [b0W, RZ _ hget, hN, b7A hC, ← hnn]; rfl, by dsimp only; rw [List.length_append, hfl]; rfl, by dsimp only; rw [LK, List.length_append]; exact hg17⟩ (by dsimp only; omega) ⟨rfl, rfl, rfl, rfl, trivial⟩ rfl (by dsimp only; rw [LK, List.length_append]; rfl)
   refine QF (fun hg18 hg18p => ?_) (fun hg18 hg18p => ?_)
   ·refine yU 2 ?_
    refine J.zg (ED (p := 0) (q := 2) rfl rfl CY rfl ⟨_, rfl⟩ (by omega) (by omega)) ?_
    refine AB (fun hc19 hc19p => ?_) (fun hc19 hc19p => ?_)
    ·have hC : Ix.isC (Ix.KO q.x0) := ⟨by omega, by have h := IC hc19; rw [List.drop_zero] at h; exact h⟩
     refine BD (a9g q.x3 _) ?_
     refine yU 10 ?_
     intro b20 hb20
     refine xap 71 [_, _, _, _, _] hg ?_
     intro g21 hg21
     refine yU 13 ?_
     refine Ej.keep (Keeps.d (Keeps.d (Keeps.d (Keeps.k (Keeps.k Keeps.r))))) ?_
     refine Ej.round (k + 1, _, fs ++ [⟨Ix.KO q.x0, [], Ix.a0r q.x3, .slice none 0 0, []⟩], g21) ⟨by dsimp only; omega, by dsimp only; omega, hIJ, OY.add hS KD.nil, by dsimp only; rw [b0W, RZ _ hget, hN, b7x hC]; rfl, by dsimp only; rw [List.length_append, hfl]; rfl, by dsimp only; rw [LK, List.length_append]; exact hg21⟩ (by dsimp only; omega) ⟨rfl, rfl, rfl, rfl, trivial⟩ rfl (by dsimp only; rw [LK, List.length_append]; rfl)
    have hC : ¬ Ix.isC (Ix.KO q.x0) := fun g => JY hc19 (by rw [List.drop_zero]; exact g.2)
    refine yU 1 ?_
    exact hcut () _ _ _ hC ⟨rfl, rfl, rfl, rfl, rfl, rfl, trivial⟩ rfl rfl
   have hC : ¬ Ix.isC (Ix.KO q.x0) := fun g => by have h := JE hg18; have := g.1; omega
   refine yU 9 ?_
   exact hcut () _ _ _ hC ⟨rfl, rfl, rfl, rfl, rfl, rfl, trivial⟩ rfl rfl
  refine yU 8 ?_
  refine J.op rfl (BP 1 rfl rfl rfl rfl rfl (by show [u8 97, u8 109, gV _ _].all Value.oneCell' = true; simp only [List.all_cons, List.all_nil, a2i, Bool.and_true]; rfl) a1Y rfl rfl (yV.c (yV.c (yV.c yV.z))) (yX.s yX.z) ?_)
  refine yU 3 ?_
  have hmade : Ke.nrm fs = Ix.OZ l := by rw [hN]; unfold Ix.OZ; rw [UD hk (by omega)]
  refine Ej.perm (H' := gH _ _ _ ++ [_, _]) List.perm_append_comm ?_
  refine Ej.a6J a3w (by decide) hg rfl (fun I9 hle9 hfs => ?_)
  refine Ej.a4M (Keeps.d (Keeps.d Keeps.n)) rfl rfl rfl (yZ.at 1 rfl) isAgg57 a1Y rfl ?_
  exact ⟨fs, _, rfl, a0k.imp ⟨hfs, fun f hf => ((hS f hf).mono hle9)⟩ (fun b hb => hw0.dom hb), hmade, rfl⟩
 refine yU 14 ?_
 refine J.op rfl (BP 1 rfl rfl rfl rfl rfl (by show [u8 97, u8 109, gV _ _].all Value.oneCell' = true; simp only [List.all_cons, List.all_nil, a2i, Bool.and_true]; rfl) a1Y rfl rfl (yV.c (yV.c (yV.c yV.z))) (yX.s yX.z) ?_)
 refine yU 3 ?_
 have hmade : Ke.nrm fs = Ix.OZ l := by rw [hN]; unfold Ix.OZ; rw [UD hk (by omega)]
 refine Ej.perm (H' := gH _ _ _ ++ [_, _]) List.perm_append_comm ?_
 refine Ej.a6J a3w (by decide) hg rfl (fun I9 hle9 hfs => ?_)
 refine Ej.a4M (Keeps.d (Keeps.d Keeps.n)) rfl rfl rfl (yZ.at 1 rfl) isAgg57 a1Y rfl ?_
 exact ⟨fs, _, rfl, a0k.imp ⟨hfs, fun f hf => ((hS f hf).mono hle9)⟩ (fun b hb => hw0.dom hb), hmade, rfl⟩
end Go.Proofs.YtekmeaoblpfnpaaGreatDoor
end
section
namespace Go.Proofs.YtekmeaoblpfnpaaGreatDoor
open _root_.Go.Proofs.Tryz
open Go Go.Sx
structure Act where
  a : Ix.KL
  v : Value
def a5d (x : Act) : List Value := [.bool x.a.drop, i64 x.a.src, i64 x.a.num, x.v]
theorem SV x : (a5d x).length = 4 := rfl
def a0y (I : Heap) (xs : List Act) (v : Value) : Prop := zL a5d I xs v ∧ ∀ x ∈ xs, zL OA I x.a.fs x.v
theorem a0y.mono {I I' xs v} (h : a0y I xs v) (hle : Le I I') : a0y I' xs v := ⟨h.1.mono hle, fun x hx => (h.2 x hx).mono hle⟩
def a3P (xs : List Act) : Prop := ∀ x ∈ xs, ∀ q ∈ x.a.fs, RP q
abbrev acts (xs : List Act) : List Ix.KL := xs.map (·.a)
theorem b5t {α : Type} (l : List α) : l.take (min l.length 8) = l.take 8 := by
  rcases Nat.le_total l.length 8 with h | h
  · rw [Nat.min_eq_left h, List.take_of_length_le h, List.take_of_length_le (Nat.le_refl _)]
  rw [Nat.min_eq_right h]
structure VI (I : Heap) (a : Ix.KL) (e : MJ) : Prop where
  t : e.t = a.title
  r : PL I e.fs e.v
  n : Ke.nrm e.fs = a.record
theorem VI.mono {I I' a e} (h : VI I a e) (hle : Le I I') : VI I' a e := ⟨h.t, h.r.mono hle, h.n⟩
structure a7Y (N : Nat → Prop) (I : Heap) (a : Ix.KL) (e : MJ) : Prop where
  t : e.t = a.title
  r : a0k N I e.fs e.v
  n : Ke.nrm e.fs = a.record
theorem a7Y.ent {N : Nat → Prop} {I a e} (h : a7Y N I a e) : VI I a e := ⟨h.t, h.r.rec, h.n⟩
theorem VI.vals {I a e} (h : VI I a e) : Ix.vals e.fs = a.vs := by rw [← a2X, h.n]; rfl
theorem VI.eok {I a e} (h : VI I a e) : UU e.fs := a8U h.n
theorem b3Q x (hok : ∀ q ∈ x.a.fs, RP q) I (hv : zL OA I x.a.fs x.v) : yY Tryz.prog 42 [.agg (a5d x).toArray] I [] (fun ev I' H' => ∃ e, ev = .returned (.agg (FK e).toArray) ∧ a7Y (I · = none) I' x.a e ∧ H' = []) := by
 obtain ⟨p, c, hxv⟩ := zL.len hv
 have hcap : x.a.fs.length ≤ c := by obtain ⟨p1, c1, h1, h2, _⟩ := hv; rw [hxv] at h1; cases h1; exact h2
 have hrow : zL OA I (x.a.fs.take 8) (.slice p (min x.a.fs.length 8) c) := by rw [← b5t]; rw [hxv] at hv; exact hv.take (Nat.min_le_left _ _)
 refine zO func42 fun w0 hw0 => ?_
 refine yU 3 ?_
 intro b1 hb1
 refine yU 1 ?_
 intro b2 hb2
 refine yU 3 ?_
 refine Cj.AU [0, 1] [] 14 (by kernel_rfl) ?_
 refine JA.fix CS (fun fx3 => ?_)
 refine JA.tk 0 rfl fx3 (DJ (off' := 1) b1M OL) ?_
 refine JA.tk 1 rfl fx3 (DN XJ (yZ.EZ 1 rfl)) ?_
 refine JA.tk 2 rfl fx3 (DJ (off' := 2) b1M OL) ?_
 refine JA.tk 3 rfl fx3 (DN XJ (yZ.EZ 1 rfl)) ?_
 refine JA.tk 4 rfl fx3 (AQ (pl := #[(0, 1), (1, 1)]) rfl rfl a0f rfl a8C (fun w => by simp [OL]) (AO.part rfl rfl rfl (yV.c yV.z) (AO.part rfl rfl rfl (yV.s (yV.c yV.z)) AO.none))) ?_
 refine JA.tk 5 rfl fx3 (DJ (off' := 3) b1M sizeOf91) ?_
 refine JA.tk 6 rfl fx3 (DN isAgg91 (yZ.EZ 1 rfl)) ?_
 refine JA.eqv 9 rfl (show _ = .slice p x.a.fs.length c from hxv) ?_
 refine JA.tk 7 rfl fx3 (DJ (off' := 3) b1M sizeOf91) ?_
 refine JA.tk 8 rfl fx3 (DN isAgg91 (yZ.EZ 1 rfl)) ?_
 refine JA.eqv 11 rfl (show _ = .slice p x.a.fs.length c from hxv) ?_
 refine JA.tk 9 rfl fx3 (LY rfl rfl underlying91) ?_
 refine JA.tk 10 rfl fx3 (SI rfl rfl rfl) ?_
 refine JA.tk 11 rfl fx3 (PW (k := (min x.a.fs.length 8)) rfl rfl rfl underlying91 sizeOf215 (by split <;> omega) (by omega)) ?_
 refine zT 12 rfl (zN (H1 := []) rfl rfl rfl rfl rfl (b3S (x.a.fs.take 8) _ (fun q hq => hok q (List.mem_of_mem_take hq)) _ hrow) ?_ (fun _ _ _ _ ⟨_, _, h, _⟩ => by cases h) (fun _ _ ⟨_, _, h, _⟩ => by cases h))
 intro v4 I5 H6 hle7 hp8
 have hrow := hrow.mono hle7
 obtain ⟨fs, w, h, hrec, hmade, rfl⟩ := hp8; cases h
 obtain ⟨wp, wc, rfl⟩ := zL.len hrec.1.row
 refine ⟨⟨(Le.trans (Le.refl _) hle7), (HSub.c 0 rfl (HSub.c 1 rfl HSub.n)), CSub.n⟩, ?_⟩
 refine JA.fix CS (fun fx9 => ?_)
 refine JA.tk 13 rfl fx9 (AQ (pl := #[(0, 2), (2, 3)]) rfl rfl ZA rfl a7h (fun w => by simp [FM, a1Y]) (AO.part rfl rfl rfl (yV.c (yV.c yV.z)) (AO.part rfl rfl rfl (yV.s (yV.s (yV.c (yV.c (yV.c yV.z))))) AO.none))) ?_
 refine JA.last 14 (by kernel_rfl) rfl rfl rfl (DV 0 MZ (yV.c (yV.c (yV.c (yV.c (yV.c yV.z))))) yX.z ?_)
 refine yU 3 ?_
 refine Ej.a4M (Keeps.d (Keeps.d Keeps.n)) rfl rfl rfl (yZ.at 0 rfl) isAgg59 MZ rfl ?_
 exact ⟨⟨x.a.title, 97, 109, _, fs⟩, rfl, ⟨rfl, hrec, hmade⟩, rfl⟩
theorem a0n x (hok : ∀ q ∈ x.a.fs, RP q) I (hv : zL OA I x.a.fs x.v) : yY Tryz.prog 42 [.agg (a5d x).toArray] I [] (fun ev I' H' => ∃ e, ev = .returned (.agg (FK e).toArray) ∧ VI I' x.a e ∧ H' = []) :=
  (b3Q x hok I hv).mono fun _ _ _ _ ⟨e, h1, h2, h3⟩ => ⟨e, h1, h2.ent, h3⟩
theorem a1k xs k : acts (xs.take k) = (acts xs).take k := List.map_take
theorem a8a xs v (hok : a3P xs) I (hA0 : a0y I xs v) : yY Tryz.prog 51 [v] I [] (fun ev I' H' => ∃ rb es w, ev = .returned (ptr rb 0) ∧ ET I' es w ∧ es.map EY = Ix.play (acts xs) ∧ (∀ e ∈ es, UU e.fs) ∧ es.length ≤ 20 ∧ H' = [(rb, zJ 50 [w])]) := by
 obtain ⟨p, c, rfl⟩ := zL.len hA0.1
 refine zO func51 fun w0 hw0 => ?_
 refine yU 7 ?_
 refine J.z (AQ (pl := #[(0, 1)]) rfl rfl zeroValue50 rfl underlying50 (fun w => by simp [sizeOf48]) AO.none) ?_
 refine yU 1 ?_
 intro b1 hb1
 refine yU 10 ?_
 refine Cj.loop (ι := Nat × Heap × List MJ × Value) (fun y => y.1 ≤ xs.length ∧ y.1 ≤ 20 ∧ Le I y.2.1 ∧ ET y.2.1 y.2.2.1 y.2.2.2 ∧ y.2.2.1.map EY = (acts (xs.take y.1)).foldl Ix.act [] ∧ (∀ e ∈ y.2.2.1, UU e.fs) ∧ y.2.2.1.length ≤ y.1) (fun y => 20 - y.1) (fun y => [(0, .slice p xs.length c), (3, ptr b1 0), (4, i64 (y.1 : Int))]) (fun y => y.2.1) (fun y => [(b1, zJ 50 [y.2.2.2])]) (0, _, [], _) ⟨Nat.zero_le _, Nat.zero_le _, Le.refl _, ET.nil, rfl, fun e he => (by cases he), Nat.zero_le _⟩ ⟨rfl, rfl, rfl, trivial⟩ rfl rfl ?_
 rintro ⟨k, Jh, es, w⟩ ⟨hk, hk20, hIJ, hE, hL, hek, hel⟩
 dsimp only at hk hk20 hIJ hE hL hek hel ⊢
 have hA := hA0.mono hIJ
 refine QF (fun hg2 hg2p => ?_) (fun hg2 hg2p => ?_)
 ·refine AB (fun hc3 hc3p => ?_) (fun hc3 hc3p => ?_)
  ·refine yU 5 ?_
   have hIJ9 := hIJ
   have hlt : k < xs.length := by omega
   have hlt2 : k < 20 := by omega
   obtain ⟨x, hget⟩ : ∃ x, xs[k]? = some x := ⟨_, CO hlt⟩
   have hxm := CG hget
   obtain ⟨p1, c1, hpe, hc1, hp⟩ := id hA.1
   cases hpe
   obtain ⟨ab, ao, acs, aty, afr, asp, rfl, hab, had⟩ := hp (BF hlt)
   have hfv := hA.2 x hxm
   obtain ⟨vp, vc, hxv⟩ := zL.len hfv
   have hnx : acts (xs.take (k + 1)) = acts (xs.take k) ++ [x.a] := RZ _ hget
   refine AZ (ao + k * 4) ?_
   refine yU 1 ?_
   refine J.z (zU rfl rfl tA4 (yZ.BR hab) (KW SV had hget 0 (by decide))) ?_
   refine FB (fun hc4 => ?_) (fun hc4 => ?_)
   ·have hdr : x.a.drop = true := hc4
    refine AZ (ao + k * 4) ?_
    refine J.z (qq2 isAgg93 sizeOf93 (yZ.BR hab) (CV SV had hget)) ?_
    refine BJ (a0n x (hok x hxm) _ hfv) ?_
    intro v5 I6 H7 hle8 hp9
    have hIJ := hIJ.mono hle8
    have hA := hA.mono hle8
    have hE := hE.mono hle8
    have hab := hle8 _ _ hab
    have hfv := hfv.mono hle8
    obtain ⟨e0, h, he0, rfl⟩ := hp9; cases h
    refine J.z (a5V (v := zS e0.t) rfl rfl (fun _ => by kernel_rfl)) ?_
    refine J.pull Pull.z ?_
    refine BJ (b6X b1 w es e0.t (by omega) _ hE) ?_
    intro v10 I11 H12 hle13 hp14
    have hIJ := hIJ.mono hle13
    have hA := hA.mono hle13
    have hE := hE.mono hle13
    have hab := hle13 _ _ hab
    have hfv := hfv.mono hle13
    have he0 := he0.mono hle13
    obtain ⟨w1, h, hE1, rfl⟩ := hp14; cases h
    refine yU 8 ?_
    refine Ej.round (k + 1, _, LG es e0.t, _) ⟨by dsimp only; omega, by dsimp only; omega, hIJ, hE1, by dsimp only; rw [hnx, List.foldl_append, a3O _ _ (hL ▸ Ix.a3k _ List.Pairwise.nil), hL, he0.t]; exact (if_pos (show x.a.drop = true from hdr)).symm, fun e he => hek e (a5S he), by dsimp only; have := b3o es e0.t; omega⟩ (by dsimp only; omega) ⟨rfl, rfl, rfl, trivial⟩ rfl rfl
   have hdr : x.a.drop = false := hc4
   refine AZ (ao + k * 4) ?_
   refine J.z (qq2 isAgg93 sizeOf93 (yZ.BR hab) (CV SV had hget)) ?_
   refine BJ (a0n x (hok x hxm) _ hfv) ?_
   intro v15 I16 H17 hle18 hp19
   have hIJ := hIJ.mono hle18
   have hA := hA.mono hle18
   have hE := hE.mono hle18
   have hab := hle18 _ _ hab
   have hfv := hfv.mono hle18
   obtain ⟨e0, h, he0, rfl⟩ := hp19; cases h
   refine J.pull Pull.z ?_
   refine BJ (b7X b1 w es e0 (by omega) _ hE he0.r) ?_
   intro v20 I21 H22 hle23 hp24
   have hIJ := hIJ.mono hle23
   have hA := hA.mono hle23
   have hE := hE.mono hle23
   have hab := hle23 _ _ hab
   have hfv := hfv.mono hle23
   have he0 := he0.mono hle23
   obtain ⟨w1, h, hE1, rfl⟩ := hp24; cases h
   refine yU 8 ?_
   refine Ej.round (k + 1, _, OJ es e0, _) ⟨by dsimp only; omega, by dsimp only; omega, hIJ, hE1, by dsimp only; rw [hnx, List.foldl_append, a6W e0 es, hL, he0.t, he0.vals]; exact (if_neg (fun g => Bool.noConfusion (g.symm.trans hdr))).symm, fun e he => (a8n he).elim (fun g => by rw [g]; exact he0.eok) (hek e), by dsimp only; have := b6n es e0; omega⟩ (by dsimp only; omega) ⟨rfl, rfl, rfl, trivial⟩ rfl rfl
  refine yU 12 ?_
  have htk : (acts (xs.take k)).foldl Ix.act [] = Ix.play (acts xs) := by rw [UD hk (by omega), a1k]; rfl
  refine zZ ?_
  exact ⟨_, es, _, rfl, hE, hL.trans htk, hek, by omega, rfl⟩
 refine yU 18 ?_
 have htk : (acts (xs.take k)).foldl Ix.act [] = Ix.play (acts xs) := by rw [UD hk (by omega), a1k]; rfl
 refine zZ ?_
 exact ⟨_, es, _, rfl, hE, hL.trans htk, hek, by omega, rfl⟩
end Go.Proofs.YtekmeaoblpfnpaaGreatDoor
end
namespace Ke
def closed (c : Nat) : Prop := (97 ≤ c ∧ c ≤ 122) ∨ (48 ≤ c ∧ c ≤ 57) ∨ ((945 ≤ c ∧ c ≤ 969) ∧ c ≠ 962) ∨ (1072 ≤ c ∧ c ≤ 1103)
instance (c:Nat):Decidable (closed c):=by unfold closed;infer_instance
theorem QK {c} (h : closed c) : WG c := by unfold closed at h; unfold WG; omega
theorem b4o {c} (h : 945 ≤ c ∧ c ≤ 969) : tab.lookup c = none := by
  have h1 : ∀ k < 25, tab.lookup (945 + k) = none := by decide +kernel
  have := h1 (c - 945) (by omega)
  rwa [show 945 + (c - 945) = c by omega] at this
theorem b8X {c} (h : 1072 ≤ c ∧ c ≤ 1103) : tab.lookup c = none := by
  have h1 : ∀ k < 32, tab.lookup (1072 + k) = none := by decide +kernel
  have := h1 (c - 1072) (by omega)
  rwa [show 1072 + (c - 1072) = c by omega] at this
theorem a9T {c} (h : closed c) : char c = enc c := by
  unfold char
  unfold closed at h
  by_cases h1 : (97 ≤ c ∧ c ≤ 122) ∨ (48 ≤ c ∧ c ≤ 57)
  · rw [if_pos h1]
  have h2 : ((945 ≤ c ∧ c ≤ 969) ∧ c ≠ 962) ∨ (1072 ≤ c ∧ c ≤ 1103) := by omega
  rw [if_neg h1, if_neg (by omega), if_neg (by omega), if_neg (by omega)]
  have h3 : tab.lookup c = none := by
    rcases h2 with h2 | h2
    · exact b4o h2.1
    exact b8X h2
  rw [h3]
  simp only
  rw [if_neg (by omega), if_pos (by omega)]
theorem a8L {c} (h : closed c) : enc c ≠ [32] := by
  intro he
  have h1 := a5J (QK h)
  rw [he] at h1
  have h2 : runes [32] = [32] := by kernel_rfl
  rw [h2] at h1
  have : c = 32 := (List.cons.inj h1).1.symm
  unfold closed at h; omega
def b2O (s : Bs) : Bool := decide (encs (runes s) = s) && (runes s).all fun c => decide (closed c)
theorem b9b : tab.all (fun p => b2O p.2) = true := by decide +kernel
theorem a4b : ∀ {l : List (Nat × Bs)} {c : Nat} {s : Bs}, l.lookup c = some s → (c, s) ∈ l
  | [], _, _, h => by cases h
  | (a, b) :: r, c, s, h => by
    rw [List.lookup_cons] at h
    split at h
    · rename_i he
      have := eq_of_beq he
      subst this; cases h; exact .head _
    exact .tail _ (a4b h)
theorem b5d c : char c = [32] ∨ ∃ l, char c = encs l ∧ ∀ d ∈ l, closed d := by
  have one : ∀ d, closed d → ∃ l, enc d = encs l ∧ ∀ x ∈ l, closed x := fun d hd => ⟨[d], by simp [encs], fun x hx => by simp at hx; subst hx; exact hd⟩
  unfold char
  split
  · rename_i h; exact .inr (one c (by unfold closed; omega))
  split
  · exact .inr (one (c + 32) (by unfold closed; omega))
  split
  · exact .inl rfl
  split
  · exact .inr ⟨[], rfl, fun _ h => by cases h⟩
  split
  · rename_i s hs
    have h1 := List.all_eq_true.1 b9b _ (a4b hs)
    simp only [b2O, Bool.and_eq_true, decide_eq_true_eq] at h1
    exact .inr ⟨runes s, h1.1.symm, fun d hd => of_decide_eq_true (List.all_eq_true.1 h1.2 d hd)⟩
  split
  · exact .inr (one 963 (by decide))
  split
  · exact .inr (one c (by unfold closed; omega))
  split
  · exact .inr (one (c + 32) (by unfold closed; omega))
  exact .inl rfl
def IK (w : Bs) : Prop := ∃ l, w = encs l ∧ ∀ d ∈ l, closed d
theorem b5f a b : encs (a ++ b) = encs a ++ encs b := by simp [encs]
theorem a3N {a b} (ha : IK a) (hb : IK b) : IK (a ++ b) := by
  obtain ⟨l, rfl, h1⟩ := ha
  obtain ⟨m, rfl, h2⟩ := hb
  exact ⟨l ++ m, (b5f l m).symm, fun d hd => (List.mem_append.1 hd).elim (h1 d) (h2 d)⟩
theorem XK : ∀ (l : List Nat) (w : Bs), IK w → ∀ x ∈ wf w l, IK x
  | [], w, hw, x, h => by
    unfold wf at h
    split at h
    · cases h
    simp at h; subst h; exact hw
  | c :: r, w, hw, x, h => by
    have h0 : IK [] := ⟨[], rfl, fun _ h => by cases h⟩
    unfold wf at h
    split at h
    · split at h
      · exact XK r [] h0 x h
      rcases List.mem_cons.1 h with rfl | h
      · exact hw
      exact XK r [] h0 x h
    rename_i hne
    rcases b5d c with he | he
    · exact absurd he hne
    exact XK r _ (a3N hw he) x h
theorem WY s : ∀ x ∈ words s, IK x := XK _ _ ⟨[], rfl, fun _ h => by cases h⟩
theorem a5l : ∀ (l : List Nat) (w : Bs) (r : List Nat), (∀ d ∈ l, closed d) → wf w (l ++ r) = wf (w ++ encs l) r
  | [], w, r, _ => by simp [encs]
  | c :: l, w, r, h => by
    have hc := h c (.head _)
    show (if char c = [32] then _ else wf (w ++ char c) (l ++ r)) = _
    rw [a9T hc, if_neg (a8L hc), a5l l _ r fun d hd => h d (.tail _ hd)]
    simp [encs]
theorem b1N {w} (h : IK w) : ∃ l, w = encs l ∧ runes w = l ∧ ∀ d ∈ l, closed d := by
  obtain ⟨l, rfl, h1⟩ := h
  exact ⟨l, rfl, a3Y l fun c hc => QK (h1 c hc), h1⟩
theorem a0D {w} (h : IK w) (hne : w ≠ []) : words w = [w] := by
  obtain ⟨l, rfl, h2, h3⟩ := b1N h
  unfold words
  rw [h2]
  have := a5l l [] [] h3
  rw [List.append_nil] at this
  rw [this, List.nil_append]
  unfold wf
  rw [if_neg hne]
theorem a4r {c} (hc : char c = [32]) : ∀ (l : List Nat) (w : Bs) (r : List Nat), wf w (l ++ c :: r) = wf w l ++ wf [] r
  | [], w, r => by
    simp only [List.nil_append, wf, hc, if_true]
    split <;> simp
  | d :: l, w, r => by
    simp only [List.cons_append, wf]
    split
    · split
      · exact a4r hc l [] r
      rw [a4r hc l [] r, List.cons_append]
    exact a4r hc l _ r
theorem b1i : char 32 = [32] := by decide
theorem b4q c s t (hc : c.toNat < 128) (hb : char c.toNat = [32]) : words (s ++ c :: t) = words s ++ words t := by grind [words, a6r, QJ, a9M, a4r]
theorem a4j : ∀ (l : List Bs), (∀ w ∈ l, IK w ∧ w ≠ []) → words (join l) = l
  | [], _ => rfl
  | [a], h => a0D (h a (.head _)).1 (h a (.head _)).2
  | a :: b :: r, h => by
    show words (a ++ [32] ++ join (b :: r)) = _
    rw [List.append_assoc, List.singleton_append, b4q 32 a _ (by decide) b1i, a0D (h a (.head _)).1 (h a (.head _)).2, a4j (b :: r) fun w hw => h w (.tail _ hw)]
    rfl
theorem a6a {s w} (h : w ∈ words s) : w ≠ [] ∧ words w = [w] :=
  ⟨SH _ _ w h, a0D (WY s w h) (SH _ _ w h)⟩
end Ke
namespace Ke
theorem ofNat_toNat {k} (h : k < 256) : (UInt8.ofNat k).toNat = k := by simp; omega
theorem a7p {w} (h : digits w = true) : IK w := by
  induction w with
  | nil => exact ⟨[], rfl, fun _ h => by cases h⟩
  | cons c r ih =>
    rw [a9J, Bool.and_eq_true] at h
    have hc := a1e.1 h.1
    have h1 : IK [c] := ⟨[c.toNat], by
      have : enc c.toNat = [c] := by rw [enc1 (by omega)]; simp
      simp [encs, this], fun d hd => by simp at hd; subst hd; unfold closed; omega⟩
    exact a3N h1 (ih h.2)
end Ke
namespace Ke
def plainW (w : Bs) : Bs := if digits w then w.drop 2 else w
def UA (k : Bs) : Bs := join ((words k).map plainW)
theorem a9j {w} (h : digits w = true) : digits (strip w) = true := by
  unfold strip
  rw [a0j, Bool.and_eq_true]
  refine ⟨List.all_eq_true.2 fun c hc => List.all_eq_true.1 h c ?_, List.all_eq_true.2 fun c hc => List.all_eq_true.1 h c (List.mem_of_mem_drop hc)⟩
  exact (List.dropLast_sublist _).subset ((List.dropWhile_sublist _).subset hc)
theorem a6G {w} (h : digits w = true) : digits (number w) = true := by
  unfold number
  show digits ([_, _] ++ strip w) = true
  rw [a0j, a9j h, Bool.and_true]
  have hd : ∀ n, n < 10 → digit (UInt8.ofNat (48 + n)) = true := by decide
  simp only [digits, List.all_cons, List.all_nil, Bool.and_true, Bool.and_eq_true]
  exact ⟨hd _ (by omega), hd _ (by omega)⟩
theorem XH {w} (h : IK w) (hne : w ≠ []) : IK (JF w) ∧ JF w ≠ [] := by grind [JF, number, a7p, a6G]
theorem a6q s skip : words (FV s skip) = (words (cut s skip)).map JF := by
  unfold FV
  refine a4j _ fun x hx => ?_
  obtain ⟨w, hm, rfl⟩ := List.mem_map.1 hx
  exact XH (WY _ w hm) (a6a hm).1
end Ke
namespace Ke
open Go.Lib (decodeL fieldsGoD fieldsD isSpaceR fieldsGoD_nil)
theorem b4h {c} (h : closed c) : isSpaceR c = false := by
  unfold closed at h
  unfold isSpaceR
  simp only [Bool.or_eq_false_iff, Bool.and_eq_false_iff, decide_eq_false_iff_not, beq_eq_false_iff_ne]
  omega
theorem a3D : ∀ (l : List Nat) (cur t : Bs) (f : Nat), (∀ d ∈ l, closed d) → opens t → (encs l ++ t).length < f → ∃ g, t.length < g ∧ fieldsGoD f cur (encs l ++ t) = fieldsGoD g (cur ++ encs l) t
  | [], cur, t, f, _, _, hf => ⟨f, hf, by simp [encs]⟩
  | c :: l, cur, t, 0, _, _, hf => absurd hf (Nat.not_lt_zero _)
  | c :: l, cur, t, f + 1, h, ht, hf => by
    have hc := h c (.head _)
    have ho := XI (QK hc)
    have e : encs (c :: l) ++ t = enc c ++ (encs l ++ t) := by simp [encs]
    have ht2 : opens (encs l ++ t) := b1P (a4q l fun d hd => QK (h d (.tail _ hd))) ht
    have hp : 0 < (enc c).length := List.length_pos_iff.2 ho.2
    rw [e, List.length_append] at hf
    obtain ⟨g, hg, he⟩ := a3D l (cur ++ enc c) t f (fun d hd => h d (.tail _ hd)) ht (by omega)
    refine ⟨g, hg, ?_⟩
    rw [e]
    conv => lhs; unfold fieldsGoD
    rw [if_neg (by intro h0; exact ho.2 (List.append_eq_nil_iff.1 h0).1), a2F _ _ ho.2 ht2, a2R (QK hc)]
    dsimp only
    rw [b4h hc, if_neg Bool.false_ne_true, List.take_left, List.drop_left, he]
    simp [encs]
theorem a8R : ∀ (ws : List Bs) (f : Nat), (∀ w ∈ ws, IK w ∧ w ≠ []) → (join ws).length < f → fieldsGoD f [] (join ws) = ws
  | [], f, _, _ => by rw [show join [] = [] from rfl, fieldsGoD_nil, if_pos rfl]
  | [a], f, h, hf => by
    obtain ⟨⟨l, rfl, hl⟩, hne⟩ := h a (.head _)
    show fieldsGoD f [] (encs l) = _
    have hf2 : (encs l ++ []).length < f := by rw [List.append_nil]; exact hf
    obtain ⟨g, _, he⟩ := a3D l [] [] f hl a5Y hf2
    rw [List.append_nil, List.nil_append] at he
    rw [he, fieldsGoD_nil, if_neg hne]
  | a :: b :: r, f, h, hf => by
    obtain ⟨⟨l, rfl, hl⟩, hne⟩ := h a (.head _)
    have e : join (encs l :: b :: r) = encs l ++ (32 :: join (b :: r)) := by
      show encs l ++ [32] ++ join (b :: r) = _
      rw [List.append_assoc, List.singleton_append]
    rw [e] at hf ⊢
    obtain ⟨g, hg, he⟩ := a3D l [] (32 :: join (b :: r)) f hl (QJ (by decide)) hf
    rw [he, List.nil_append]
    match g, hg with
    | g + 1, hg =>
      rw [List.length_cons] at hg
      have hd : decodeL (32 :: join (b :: r)) = (32, 1) := Go.Lib.decodeL_ascii 32 _ (by decide)
      conv => lhs; unfold fieldsGoD
      rw [if_neg (by simp), hd]
      dsimp only
      rw [show isSpaceR 32 = true from rfl, if_pos rfl, if_neg hne, List.drop_one, List.tail_cons, a8R (b :: r) g (fun w hw => h w (.tail _ hw)) (by omega)]
      rfl
theorem a9Z ws (h : ∀ w ∈ ws, IK w ∧ w ≠ []) : fieldsD (join ws) = ws := a8R ws _ h (by omega)
theorem b1K s skip : fieldsD (FV s skip) = words (FV s skip) := by
  rw [a6q]
  unfold FV
  refine a9Z _ fun x hx => ?_
  obtain ⟨w, hm, rfl⟩ := List.mem_map.1 hx
  exact XH (WY _ w hm) (a6a hm).1
theorem a2Q f (hf : ∀ w, (f w).length ≤ w.length) : ∀ ws : List Bs, (join (ws.map f)).length ≤ (join ws).length
  | [] => Nat.le_refl _
  | [a] => hf a
  | a :: b :: r => by
    have h1 := hf a
    have h2 := a2Q f hf (b :: r)
    show (f a ++ [32] ++ join ((b :: r).map f)).length ≤ (a ++ [32] ++ join (b :: r)).length
    simp only [List.length_append, List.length_singleton]
    omega
theorem b2A w : (plainW w).length ≤ w.length := by grind [plainW, List.length_drop]
def a7L (k : Bs) : Prop := k.length ≤ 40000000 ∧ fieldsD k = words k ∧ (UA k).length ≤ 40000000 ∧ (join (words k)).length ≤ 40000000
theorem b8l {s skip} (h : s.length ≤ 4000000) : a7L (FV s skip) := by
  have hc : (cut s skip).length ≤ s.length := by unfold cut; rw [List.length_drop]; omega
  have h1 : (FV s skip).length ≤ 40000000 := by
    have := a8k (cut s skip)
    unfold FV
    omega
  have hj : join (words (FV s skip)) = FV s skip := by rw [a6q]; rfl
  refine ⟨h1, b1K s skip, ?_, by rw [hj]; exact h1⟩
  have h2 := a2Q plainW b2A (words (FV s skip))
  rw [hj] at h2
  unfold UA
  omega
end Ke
namespace Ix
open Ke
theorem a5q n : keyOf n [] = [] := by
  unfold keyOf
  rw [if_neg (fun h => absurd h.1 (by decide +kernel))]
  decide +kernel
theorem a6U {L} (h : AL L) n b : BX L n b = (BX L n []).filter fun k => decide (¬ k < b) := by
  refine a8q (TY L n b) ((TY L n []).filter _) fun k => ?_
  rw [List.mem_filter, OM h, OM h, decide_eq_true_eq]
  constructor
  · rintro ⟨h1, h2⟩; exact ⟨⟨List.not_lt_nil k, h2⟩, h1⟩
  rintro ⟨⟨_, h2⟩, h1⟩; exact ⟨h1, h2⟩
def Few (L : Ix) : Prop := L.length ≤ 20 ∧ ∀ e ∈ L, ∃ a : KL, e.2 = a.vs
theorem a5x t v : ∀ L : Ix, (JL t v L).length ≤ L.length + 1
  | [] => by simp [JL]
  | (u, x) :: r => by
    have := a5x t v r
    unfold JL
    repeat' split
    all_goals simp only [List.length_cons]; omega
theorem a8X : ∀ (l : List KL) {L : Ix} {k : Nat}, AL L → L.length ≤ k → (∀ e ∈ L, ∃ a : KL, e.2 = a.vs) → (l.foldl act L).length ≤ k + l.length ∧ ∀ e ∈ l.foldl act L, ∃ a : KL, e.2 = a.vs
  | [], _, k, _, h1, h2 => ⟨by simpa using h1, h2⟩
  | a :: r, L, k, hs, h1, h2 => by
    have h3 : (act L a).length ≤ k + 1 := by
      unfold act
      split
      · exact Nat.le_trans (List.length_filter_le _ _) (by omega)
      have := a5x a.title a.vs L; omega
    have h4 : ∀ e ∈ act L a, ∃ a : KL, e.2 = a.vs := by
      intro e he
      unfold act at he
      split at he
      · exact h2 e ((PZ _ _ _).1 he).1
      rcases (MO _ _ hs e).1 he with g | g
      · exact ⟨a, by rw [g]⟩
      exact h2 e g.1
    have := a8X r (b1b hs a) h3 h4
    rw [List.foldl_cons, List.length_cons]
    exact ⟨by omega, this.2⟩
theorem a3B l : Few (play l) := by
  have h := a8X (l.take 20) (L := []) (k := 0) List.Pairwise.nil (Nat.le_refl _) (fun _ h => by cases h)
  have h2 : (l.take 20).length ≤ 20 := by rw [List.length_take]; exact Nat.min_le_left _ _
  exact ⟨by unfold play; omega, h.2⟩
end Ix
namespace Cq
def indexes : List (List UInt8) := [[116, 105, 116, 108, 101], [97, 117, 116, 104, 111, 114], [115, 117, 98, 106, 101, 99, 116], [105, 115, 98, 110], [97, 110, 121], [121, 101, 97, 114]]
def relations : List (List UInt8) := [[61], [61, 61], [60], [62, 61], [97, 110, 121], [97, 108, 108]]
inductive Qs where
  | nil
  | cons (k : Int) (i r t : List UInt8) (ps rest : Qs)
deriving DecidableEq
structure Qn where
  k : Int
  i : List UInt8
  r : List UInt8
  t : List UInt8
  ps : Qs
deriving DecidableEq
def Qs.len : Qs → Nat
  | .nil => 0
  | .cons _ _ _ _ _ rest => rest.len + 1
def Qn.push (q : Qn) (rest : Qs) : Qs := .cons q.k q.i q.r q.t q.ps rest
def zero : Qn := ⟨0, [], [], [], .nil⟩
end Cq
namespace Ix
open Ke
def rEq : Bs := [61]
def c0E : Bs := [61, 61]
def rGe : Bs := [62, 61]
def c0V : Bs := [97, 110, 121]
def c0I : Bs := [97, 108, 108]
def keyed (L : Ix) (n : Bs) (ks : Row) : List Rec := ks.flatMap fun k => EH L n (keyOf n (UA k))
def a7q (L : Ix) (i r s : Bs) (t : Rec) : Bool :=
  if r = rEq then (if i = a0p then decide (t ∈ EH L i (keyOf i s)) else decide (t ∈ phrase L i (words s)))
  else if r = c0E then decide (t ∈ EH L i (keyOf i s))
  else if r = c0V then (words s).any fun w => decide (t ∈ word L i w)
  else if r = c0I then !(words s).isEmpty && (words s).all fun w => decide (t ∈ word L i w)
  else if r = rGe then decide (t ∈ keyed L i (BX L i (keyOf i s)))
  else decide (t ∈ keyed L i ((BX L i []).take ((BX L i []).length - (BX L i (keyOf i s)).length)))
def comb (k : Int) (a b : Bool) : Bool := if k = 2 then a && b else if k = 3 then a || b else a && !b
def b5u (L : Ix) (t : Rec) (k : Int) (i r x : Bs) (bs : List Bool) : Bool := if k = 1 then a7q L i r x t else match bs with
  | [a, b] => comb k a b
  | _ => false
def b2a (L : Ix) (t : Rec) : Cq.Qs → List Bool
  | .nil => []
  | .cons k i r x ps rest => b5u L t k i r x (b2a L t ps) :: b2a L t rest
def sat (L : Ix) (q : Cq.Qn) (t : Rec) : Bool := b5u L t q.k q.i q.r q.t (b2a L t q.ps)
theorem a7k {L q t} (h : q.k = 1) : sat L q t = a7q L q.i q.r q.t t := if_pos h
theorem b0D {L q a b t} (h : q.k ≠ 1) (hp : q.ps = a.push (b.push .nil)) : sat L q t = comb q.k (sat L a t) (sat L b t) := by
  unfold sat b5u
  rw [if_neg h, hp]
  rfl
def VK (L : Ix) (a b : Rec) : Prop := LQ L a < LQ L b ∨ (LQ L a = LQ L b ∧ CB a b = true)
theorem a5U L a : ¬ VK L a a := by
  rintro (h | ⟨_, h⟩)
  · exact List.lt_irrefl _ h
  rw [ER] at h; cases h
theorem a9X {L a b c} (h1 : VK L a b) (h2 : VK L b c) : VK L a c := by
  rcases h1 with h1 | ⟨h1, h1'⟩ <;> rcases h2 with h2 | ⟨h2, h2'⟩
  · exact .inl (List.lt_trans h1 h2)
  · exact .inl (h2 ▸ h1)
  · exact .inl (h1 ▸ h2)
  exact .inr ⟨h1.trans h2, MC h1' h2'⟩
theorem b0z {α : Type} {r : α → α → Prop} (hi : ∀ a, ¬ r a a) (ht : ∀ {a b c}, r a b → r b c → r a c) : ∀ {l m : List α}, l.Pairwise r → m.Pairwise r → (∀ x, x ∈ l ↔ x ∈ m) → l = m
  | [], [], _, _, _ => rfl
  | [], b :: m, _, _, h => absurd ((h b).2 (.head _)) (by simp)
  | a :: l, [], _, _, h => absurd ((h a).1 (.head _)) (by simp)
  | a :: l, b :: m, hl, hm, h => by
    rw [List.pairwise_cons] at hl hm
    have hab : a = b := by
      rcases List.mem_cons.1 ((h a).1 (.head _)) with e | h1
      · exact e
      rcases List.mem_cons.1 ((h b).2 (.head _)) with e | h2
      · exact e.symm
      exact absurd (ht (hl.1 b h2) (hm.1 a h1)) (hi a)
    subst hab
    congr 1
    refine b0z hi ht hl.2 hm.2 fun x => ⟨fun hx => ?_, fun hx => ?_⟩
    · rcases List.mem_cons.1 ((h x).1 (.tail _ hx)) with e | g
      · exact absurd (e ▸ hl.1 x hx) (hi a)
      exact g
    rcases List.mem_cons.1 ((h x).2 (.tail _ hx)) with e | g
    · exact absurd (e ▸ hm.1 x hx) (hi a)
    exact g
def JQ (L : Ix) (q : Cq.Qn) (l : List Rec) : Prop := l.Pairwise (VK L) ∧ ∀ t, t ∈ l ↔ t ∈ L.map (·.1) ∧ sat L q t = true
theorem JQ.eq {L q l m} (h1 : JQ L q l) (h2 : JQ L q m) : l = m :=
  b0z (a5U L) a9X h1.1 h2.1 fun x => (h1.2 x).trans (h2.2 x).symm
theorem a0c {L n k t} (h : t ∈ EH L n k) : t ∈ L.map (·.1) := by grind [EH]
theorem a1Q {L n w t} (h : t ∈ phrase L n w) : t ∈ L.map (·.1) := by grind [phrase]
theorem a4T {L n s t} (h : t ∈ word L n s) : t ∈ L.map (·.1) := by grind [word, a1Q]
theorem b4Y {L n ks t} (h : t ∈ keyed L n ks) : t ∈ L.map (·.1) := by
  obtain ⟨k, _, h⟩ := List.mem_flatMap.1 h
  exact a0c h
theorem b7P {L i r s t} (h : a7q L i r s t = true) : t ∈ L.map (·.1) := by
  unfold a7q at h
  split at h
  · split at h
    · exact a0c (of_decide_eq_true h)
    exact a1Q (of_decide_eq_true h)
  split at h
  · exact a0c (of_decide_eq_true h)
  split at h
  · obtain ⟨w, _, h⟩ := List.any_eq_true.1 h
    exact a4T (of_decide_eq_true h)
  split at h
  · rw [Bool.and_eq_true] at h
    cases hw : words s with
    | nil => rw [hw] at h; simp at h
    | cons a r => rw [hw] at h; exact a4T (of_decide_eq_true (List.all_eq_true.1 h.2 a (.head _)))
  split at h <;> exact b4Y (of_decide_eq_true h)
theorem b7f {n k vs} : hasK n k vs = true ↔ ∃ v ∈ vs, v.name = n ∧ v.key = k := by unfold hasK; grind
end Ix
namespace Ix
open Ke
def RU (L : Ix) : Prop := ∀ e ∈ L, ∀ v ∈ e.2, v.text.length ≤ 4000000
theorem a9I {L} (hs : AL L) {n b k} (h : k ∈ BX L n b) : ∃ e ∈ L, ∃ v ∈ e.2, v.name = n ∧ v.key = k := by
  obtain ⟨_, h2⟩ := (OM hs).1 h
  obtain ⟨e, he, hp⟩ := (ZN hs).1 h2
  obtain ⟨_, h4⟩ := SQ.1 hp
  obtain ⟨v, hv, h5, h6⟩ := b7f.1 h4
  exact ⟨e, he, v, hv, h5, h6⟩
theorem RU.key {L} (h : RU L) (hs : AL L) {n b k} (hk : k ∈ BX L n b) : a7L k := by
  obtain ⟨e, he, v, hv, _, rfl⟩ := a9I hs hk
  exact b8l (h e he v hv)
theorem a6Z L n k : (EH L n k).length ≤ L.length := by grind [EH, List.length_map]
theorem b4L {L n s most} (h : (BX L n (keyOf n s)).length ≤ most.toNat) : (scan L n s most).map (·.1) = BX L n (keyOf n s) := by
  unfold scan
  rw [List.take_of_length_le h, List.map_map]
  exact List.map_id _
end Ix
section
namespace Go.Proofs.YtekmeaoblpfnpaaGreatDoor
open Go Go.Sx
def IX (I : Heap) : Prop := ∀ w : World, (∀ b o, I b = some o → w.heap[b]? = some o) → Lib.TabIs Tryz.prog w "strings.asciiSpace" .u8 Lib.asciiSpaceTab ∧ Lib.WhiteTab 3 w
theorem IX.mono {I I'} (h : IX I) (hle : Le I I') : IX I' := fun w hw => h w fun b o hb => hw b o (hle b o hb)
theorem b4O s ws (hf : Lib.fieldsD s = ws) (hs : s.length ≤ 4000000000) I (hT : IX I) : yY Tryz.prog 261 [str s] I [] (fun e _ H' => ∃ b sp, e = .returned (.slice (some ⟨b, 0, none⟩) ws.length ws.length) ∧ H' = [(b, zJ 9 (ws.map str ++ sp))]) :=
  yY.b9m (vals := ws.map fun x => Value.string ⟨x.toArray⟩) rfl (Enters.of Tryz.func261 (by decide) rfl) fun w hw => by
    have h := Tryz.strings_Fields_any ⟨s.toArray⟩ w (by rw [size_mk]; omega) (hT w hw).1 (hT w hw).2
    rw [show (⟨s.toArray⟩ : ByteArray).data.toList = s by simp, hf] at h
    exact h
def QN (ws : List (List UInt8)) (i : Nat) : List (List UInt8) := (ws.take i).map Ke.plainW ++ ws.drop i
theorem a7d ws i : (QN ws i).length = ws.length := by
  unfold QN; rw [List.length_append, List.length_map, List.length_take, List.length_drop]; omega
theorem b5v {ws i x} (h : ws[i]? = some x) : (QN ws i)[i]? = some x := by
  have hlt := (List.getElem?_eq_some_iff.1 h).1
  unfold QN
  rw [List.getElem?_append_right (by rw [List.length_map, List.length_take]; omega), List.length_map, List.length_take, Nat.min_eq_left (Nat.le_of_lt hlt), Nat.sub_self, List.getElem?_drop]
  exact h
theorem b5G {ws i x} (h : ws[i]? = some x) sp : ((QN ws i).map str ++ sp).set i (str (Ke.plainW x)) = (QN ws (i + 1)).map str ++ sp := by
  obtain ⟨hlt, hg⟩ := List.getElem?_eq_some_iff.1 h
  rw [List.set_append_left _ _ (by rw [List.length_map, a7d]; exact hlt), List.map_set.symm]
  congr 2
  unfold QN
  rw [List.set_append_right _ _ (by rw [List.length_map, List.length_take]; omega), List.length_map, List.length_take, Nat.min_eq_left (Nat.le_of_lt hlt), Nat.sub_self, ← List.getElem_cons_drop hlt, List.set_cons_zero, List.take_succ_eq_append_getElem hlt, hg, List.map_append, List.append_assoc]
  rfl
theorem b9j {ws i x} (h : ws[i]? = some x) (hx : Ke.plainW x = x) : QN ws i = QN ws (i + 1) := by
  obtain ⟨hlt, hg⟩ := List.getElem?_eq_some_iff.1 h
  unfold QN
  rw [← List.getElem_cons_drop hlt, List.take_succ_eq_append_getElem hlt, hg, List.map_append, List.append_assoc]
  show _ = _ ++ ([Ke.plainW x] ++ _)
  rw [hx]; rfl
theorem b6T k (hk : Ke.a7L k) I (hT : IX I) : Pure Tryz.prog 218 [str k] I (str (Ke.UA k)) := by
 refine yY.toPure ?_
 have hkl := hk.1
 have hwl := Ke.JU k
 have hpl := hk.2.2.1
 refine zO Tryz.func218 fun w0 hw0 => ?_
 refine BJ (b4O k (Ke.words k) hk.2.1 (by omega) _ hT) ?_
 intro v1 I2 H3 hle4 hp5
 obtain ⟨fb, fsp, h, rfl⟩ := hp5; cases h
 refine yU 12 ?_
 refine Cj.loop (ι := Nat) (fun i => i ≤ (Ke.words k).length) (fun i => (Ke.words k).length - i) (fun i => [(3, .slice (some ⟨fb, 0, none⟩) (Ke.words k).length (Ke.words k).length), (8, .slice (some ⟨fb, 0, none⟩) (Ke.words k).length (Ke.words k).length), (9, i64 ((Ke.words k).length : Int)), (10, i64 (i : Int))]) (fun i => _) (fun i => [(fb, zJ 9 ((QN (Ke.words k) i).map str ++ fsp))]) 0 (Nat.zero_le _) ⟨rfl, rfl, rfl, rfl, trivial⟩ rfl (by unfold QN; simp) ?_
 rintro i hi
 have hml := a7d (Ke.words k) i
 refine AB (fun hc6 hc6p => ?_) (fun hc6 hc6p => ?_)
 ·have hlt : i < (Ke.words k).length := by omega
  obtain ⟨x, hget⟩ : ∃ x, (Ke.words k)[i]? = some x := ⟨_, CO hlt⟩
  have hxm := CG hget
  have hxl := Ke.a0q _ x hxm
  refine AZ i ?_
  refine J.z (zU rfl rfl JK (yZ.at 0 rfl) (KQ (b5v hget))) ?_
  refine BD (b0Y x (by omega) _) ?_
  refine yU 1 ?_
  refine J.ev 17 (.bool (Ke.digits x)) rfl (congrArg Value.bool (Ke.a2S x)) ?_
  refine FB (fun hc17 => ?_) (fun hc17 => ?_)
  ·refine yU 6 ?_
   refine J.z (SI rfl rfl rfl) ?_
   refine J.ev 23 (i64 ((min 2 x.length : Nat) : Int)) rfl (congrArg i64 (by omega)) ?_
   refine J.z (ED (p := min 2 x.length) (q := x.length) rfl rfl CY ⟨_, rfl⟩ rfl (by omega) (by omega)) ?_
   refine J.ev 24 (str (Ke.plainW x)) rfl (by rw [List.take_length]; unfold Ke.plainW; rw [if_pos hc17]; congr 1; rcases Nat.le_total 2 x.length with h | h; rw [Nat.min_eq_left h]; rw [Nat.min_eq_right h, List.drop_length, List.drop_eq_nil_of_le h]) ?_
   refine AZ i ?_
   refine J.op rfl (IZ 0 rfl rfl rfl rfl rfl rfl EI rfl (.inl rfl) (by rw [List.length_append, List.length_map, hml]; omega) yX.z ?_)
   refine yU 7 ?_
   refine Ej.round (i + 1) (by omega) (by omega) ⟨rfl, rfl, rfl, rfl, trivial⟩ rfl (by rw [b5G hget]; rfl)
  have hpw : Ke.plainW x = x := by unfold Ke.plainW; rw [hc17]; rfl
  refine yU 7 ?_
  refine Ej.round (i + 1) (by omega) (by omega) ⟨rfl, rfl, rfl, rfl, trivial⟩ rfl (by rw [b9j hget hpw])
 refine yU 6 ?_
 refine Cj.a4B rfl (fun hnew => ?_)
 refine Cj.persist (hnew _ (.head _)) (fun I9 hle9 hfbi => ?_)
 have hi2 : i = (Ke.words k).length := by omega
 have hfull : QN (Ke.words k) i = (Ke.words k).map Ke.plainW := by rw [hi2]; unfold QN; rw [List.take_length, List.drop_length, List.append_nil]
 rw [hfull] at hfbi
 have hv : FN 9 I9 ((Ke.words k).map Ke.plainW) (.slice (some ⟨fb, 0, none⟩) (Ke.words k).length (Ke.words k).length) := .inr ⟨fb, _, fsp, by rw [List.length_map], by rw [List.length_map]; exact Nat.le_refl _, hfbi⟩
 refine BD (a4H ((Ke.words k).map Ke.plainW) _ (by rw [List.length_map]; omega) (by show (Ke.UA k).length ≤ _; omega) _ hv) ?_
 refine zZ ?_
 exact ⟨rfl, rfl⟩
end Go.Proofs.YtekmeaoblpfnpaaGreatDoor
end
namespace Go.Proofs.YtekmeaoblpfnpaaGreatDoor
open Go Go.Sx
def EF (m : ML Ix.Rec) (k : Nat) (S : Ix.Rec → Bool) : Prop := MS m k ∧ ∀ t, zV m t = if S t = true then some (.bool true) else none
def IV (I : Heap) (v : Value) (S : Ix.Rec → Bool) : Prop := (v = .map none ∧ ∀ t, S t = false) ∨ ∃ b m k, v = .map (some b) ∧ EF m k S ∧ I b = some (zQ zS m k)
def UN (v : Value) (S : Ix.Rec → Bool) (H : HL) : Prop := ∃ b m k, v = .map (some b) ∧ EF m k S ∧ H = [(b, zQ zS m k)]
theorem IV.mono {I I' v S} (h : IV I v S) (hle : Le I I') : IV I' v S :=
  h.imp id fun ⟨b, m, k, h1, h2, h3⟩ => ⟨b, m, k, h1, h2, hle _ _ h3⟩
theorem IV.shape {I v S} (h : IV I v S) : ∃ o, v = .map o := h.elim (fun g => ⟨none, g.1⟩) fun ⟨b, _, _, g, _⟩ => ⟨some b, g⟩
def OE (l : List Ix.Rec) (t : Ix.Rec) : Bool := decide (t ∈ l)
theorem EF.nil : EF [] 0 (OE []) := ⟨MS.nil, fun t => by rw [show OE [] t = false from decide_eq_false (by simp)]; rfl⟩
theorem EF.congr {m k S S'} (h : EF m k S) (he : ∀ t, S t = S' t) : EF m k S' := ⟨h.1, fun t => by rw [← he t]; exact h.2 t⟩
theorem EF.add {m k S S'} (h : EF m k S) u (he : ∀ t, S' t = (t == u || S t)) : EF (AP m u (.bool true) k) (DC m u k) S' := by
  refine ⟨h.1.set u _, fun t => ?_⟩
  rw [MW, he t]
  by_cases ht : (t == u) = true
  · rw [if_pos ht, ht]; rfl
  rw [if_neg ht, h.2 t, Bool.eq_false_iff.2 ht]; rfl
theorem EF.push {m k l} (h : EF m k (OE l)) u : EF (AP m u (.bool true) k) (DC m u k) (OE (l ++ [u])) := h.add u fun t => by
  unfold OE
  rw [Bool.eq_iff_iff, Bool.or_eq_true, decide_eq_true_eq, decide_eq_true_eq, List.mem_append, List.mem_singleton, beq_iff_eq]
  exact Or.comm
theorem EF.get {m k S} (h : EF m k S) t : (zV m t).getD (.bool false) = .bool (S t) := by
  rw [h.2 t]
  cases S t <;> rfl
theorem EF.mem {m k S} (h : EF m k S) t : t ∈ m.map (·.1) ↔ S t = true := by
  have h1 := h.2 t
  constructor
  · intro hm
    cases hs : S t with
    | true => rfl
    | false =>
      rw [hs, if_neg Bool.false_ne_true] at h1
      exact absurd hm (FX.1 h1)
  intro hs
  rw [if_pos hs] at h1
  refine Classical.byContradiction fun hn => ?_
  rw [FX.2 hn] at h1
  cases h1
theorem EF.empty {m k S} (h : EF m k S) (h0 : m.length = 0) t : S t = false := by
  have hm : m = [] := List.length_eq_zero_iff.1 h0
  cases hs : S t with
  | false => rfl
  | true => have := (h.mem t).2 hs; rw [hm] at this; cases this
theorem EF.len {m k S} (h : EF m k S) {l : List Ix.Rec} (hl : ∀ t, S t = true → t ∈ l) : m.length ≤ l.length := by
  have := a0z (l := m.map (·.1)) (m := l) h.1.1 fun t ht => hl t ((h.mem t).1 ht)
  rwa [List.length_map] at this
def VG (vis : ML Ix.Rec) (P : Ix.Rec → Bool) (t : Ix.Rec) : Bool := decide (t ∈ vis.map (·.1)) && P t
theorem b3J {vis P x} (h : P x.1 = true) t : VG (vis ++ [x]) P t = (t == x.1 || VG vis P t) := by
  unfold VG
  rw [Bool.eq_iff_iff, Bool.or_eq_true, Bool.and_eq_true, Bool.and_eq_true, decide_eq_true_eq, decide_eq_true_eq, beq_iff_eq, List.map_append, List.mem_append, List.map_cons, List.map_nil, List.mem_singleton]
  constructor
  · rintro ⟨h1 | h1, h2⟩
    · exact .inr ⟨h1, h2⟩
    exact .inl h1
  rintro (rfl | ⟨h1, h2⟩)
  · exact ⟨.inr rfl, h⟩
  exact ⟨.inl h1, h2⟩
theorem b6V {vis P x} (h : P x.1 = false) t : VG (vis ++ [x]) P t = VG vis P t := by
  unfold VG
  rw [Bool.eq_iff_iff, Bool.and_eq_true, Bool.and_eq_true, decide_eq_true_eq, decide_eq_true_eq, List.map_append, List.mem_append, List.map_cons, List.map_nil, List.mem_singleton]
  constructor
  · rintro ⟨h1 | h1, h2⟩
    · exact ⟨h1, h2⟩
    rw [h1, h] at h2; cases h2
  rintro ⟨h1, h2⟩; exact ⟨.inl h1, h2⟩
theorem b4m {vis m k S P} (h : EF m k S) (hp : vis.Perm m) t : VG vis P t = (S t && P t) := by
  unfold VG
  congr 1
  rw [Bool.eq_iff_iff, decide_eq_true_eq, (hp.map _).mem_iff, h.mem]
def UZ (vis : ML Ix.Rec) (A : Ix.Rec → Bool) (t : Ix.Rec) : Bool := A t || decide (t ∈ vis.map (·.1))
theorem a3U {vis A x} t : UZ (vis ++ [x]) A t = (t == x.1 || UZ vis A t) := by
  unfold UZ
  rw [Bool.eq_iff_iff, Bool.or_eq_true, Bool.or_eq_true, Bool.or_eq_true, decide_eq_true_eq, decide_eq_true_eq, beq_iff_eq, List.map_append, List.mem_append, List.map_cons, List.map_nil, List.mem_singleton]
  constructor
  · rintro (h | h | h)
    · exact .inr (.inl h)
    · exact .inr (.inr h)
    exact .inl h
  rintro (h | h | h)
  · exact .inr (.inr h)
  · exact .inl h
  exact .inr (.inl h)
theorem a6f {vis m k S A} (h : EF m k S) (hp : vis.Perm m) t : UZ vis A t = (A t || S t) := by
  unfold UZ
  congr 1
  rw [Bool.eq_iff_iff, decide_eq_true_eq, (hp.map _).mem_iff, h.mem]
abbrev LR := List Ix.Rec × Value
abbrev lrC (x : LR) : List Value := [x.2]
def LLS (I : Heap) (l : List LR) (v : Value) : Prop := zL lrC I l v ∧ ∀ x ∈ l, zL recC I x.1 x.2
theorem LLS.mono {I I' l v} (h : LLS I l v) (hle : Le I I') : LLS I' l v := ⟨h.1.mono hle, fun x hx => (h.2 x hx).mono hle⟩
theorem a1W {ls : List LR} {lcs lsp : List Value} {lo} (h : lcs.drop lo = ls.flatMap lrC ++ lsp) {i x} (hx : ls[i]? = some x) : lcs[lo + i]? = some x.2 := by
  have h9 := KW (f := lrC) (n := 1) (fun _ => rfl) h hx 0 Nat.zero_lt_one
  rw [Nat.mul_one, Nat.add_zero] at h9
  exact h9
theorem b7I {l : List LR} {i x} (h : l[i]? = some x) : (l.take (i + 1)).flatMap (·.1) = (l.take i).flatMap (·.1) ++ x.1 := by
  obtain ⟨hlt, hg⟩ := List.getElem?_eq_some_iff.1 h
  rw [List.take_succ_eq_append_getElem hlt, hg, List.flatMap_append]
  simp
theorem b5b {l : List Ix.Rec} {i x} (h : l[i]? = some x) P : P ++ l.take (i + 1) = (P ++ l.take i) ++ [x] := by
  obtain ⟨hlt, hg⟩ := List.getElem?_eq_some_iff.1 h
  rw [List.take_succ_eq_append_getElem hlt, hg, List.append_assoc]
theorem EN {α : Type} {f : α → List Value} {I : Heap} {l : List α} {v : Value} (h : zL f I l v) : ∃ p c, v = .slice p l.length c := let ⟨p, c, h1, _⟩ := h; ⟨p, c, h1⟩
def JI (I : Heap) (v : Value) (L : Ix.Ix) : Prop := (v = .pointer none ∧ L = []) ∨ ∃ ib, v = ptr ib 0 ∧ MX I ib L
theorem JI.mono {I I' v L} (h : JI I v L) (hle : Le I I') : JI I' v L := h.imp id fun ⟨ib, h1, h2⟩ => ⟨ib, h1, h2.mono hle⟩
theorem JI.FD {I v L} (h : JI I v L) : Ix.AL L := by
  rcases h with ⟨_, rfl⟩ | ⟨ib, _, h⟩
  · exact List.Pairwise.nil
  exact h.FD
theorem JI.big {I v L} (h : JI I v L) : L.length ≤ 100000 := by
  rcases h with ⟨_, rfl⟩ | ⟨ib, _, h⟩
  · exact Nat.zero_le _
  exact h.big
theorem a4U {l} (h : ∀ t, t ∈ l → t ∈ ([] : Ix.Ix).map (·.1)) : l = [] := List.eq_nil_iff_forall_not_mem.2 fun t ht => by have := h t ht; cases this
theorem b5e xv L n s (hs : s.length ≤ 100000000) I (hx : JI I xv L) : yY Tryz.prog 32 [xv, str n, str s] I [] (fun e _ H' => ∃ v, e = .returned v ∧ a0h (Ix.word L n s) v H') := by
  rcases hx with ⟨rfl, rfl⟩ | ⟨ib, rfl, hx⟩
  · refine (b4W n s hs I).mono fun e I' H' _ ⟨h1, h2⟩ => ⟨_, h1, ?_⟩
    rw [a4U fun t ht => Ix.a4T (L := []) ht, h2]
    exact a2x
  exact b8F ib L n s hs I hx
theorem b1t xv L n s (hs : s.length ≤ 100000000) I (hx : JI I xv L) : yY Tryz.prog 33 [xv, str n, str s] I [] (fun e _ H' => ∃ v, e = .returned v ∧ a0h (Ix.phrase L n (Ke.words s)) v H') := by
  rcases hx with ⟨rfl, rfl⟩ | ⟨ib, rfl, hx⟩
  · refine (b1g n s hs I).mono fun e I' H' _ ⟨h1, h2⟩ => ⟨_, h1, ?_⟩
    rw [a4U fun t ht => Ix.a1Q (L := []) ht, h2]
    exact a2x
  exact b3B ib L n s hs I hx
theorem b0v xv L n s (hs : s.length ≤ 100000000) I (hx : JI I xv L) : yY Tryz.prog 34 [xv, str n, str s] I [] (fun e _ H' => ∃ v, e = .returned v ∧ a0h (Ix.EH L n (Ix.keyOf n s)) v H') := by
  rcases hx with ⟨rfl, rfl⟩ | ⟨ib, rfl, hx⟩
  · refine (b7G n s I).mono fun e I' H' _ ⟨h1, h2⟩ => ⟨_, h1, ?_⟩
    rw [a4U fun t ht => Ix.a0c (L := []) ht, h2]
    exact a2x
  exact b9Y ib L n s hs I hx
theorem a2Z xv L n s (hs : s.length ≤ 100000000) most I (hx : JI I xv L) : yY Tryz.prog 160 [xv, str n, str s, i64 most] I [] (fun e _ H' => ∃ v, e = .returned v ∧ b1R (Ix.scan L n s most) v H') := by
  rcases hx with ⟨rfl, rfl⟩ | ⟨ib, rfl, hx⟩
  · refine (b6i n s most I).mono fun e I' H' _ ⟨h1, h2⟩ => ⟨_, h1, .inl ⟨?_, rfl, h2⟩⟩
    unfold Ix.scan Ix.BX
    simp
  exact b8B ib L n s hs most I hx
theorem b6I xv L t I (hx : JI I xv L) : Pure Tryz.prog 28 [xv, zS t] I (str (Ix.LQ L t)) := by
  rcases hx with ⟨rfl, rfl⟩ | ⟨ib, rfl, hx⟩
  · exact b5A t I
  exact b6q ib L t I hx
