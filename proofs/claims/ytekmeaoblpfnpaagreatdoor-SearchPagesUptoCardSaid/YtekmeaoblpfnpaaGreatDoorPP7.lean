/-
  Own texts on the laws of the seat, joined: the logic, and contracts of functions. Conditions: none.
-/
import Derived.Test.YtekmeaoblpfnpaaGreatDoorNmP
import Derived.Test.YtekmeaoblpfnpaaGreatDoorPP6
import Derived.Lib.FieldsP
import Derived.Laws.AppendOwn
import Derived.Maps.RangeRun
import Derived.Laws.StructEq
set_option maxRecDepth 100000
set_option maxHeartbeats 40000000
set_option maxRecDepth 100000
set_option maxHeartbeats 40000000
namespace Ix
open Ke
open Go Go.Lib
theorem digit_nat (c : UInt8) : digit c = decide (48 ≤ c.toNat ∧ c.toNat ≤ 57) := by simp_all [digit, UInt8.le_iff_toNat_le]
def nod (r : Nat) : Bool := decide (r < 48) || decide (57 < r)
theorem decodeL_N (c : UInt8) (r : Bs) : decodeL (c :: r) = decodeN (r.length + 1) c.toNat (r.getD 0 0).toNat (r.getD 1 0).toNat (r.getD 2 0).toNat := by
  have := decode_N ⟨(c :: r).toArray⟩ 0
  simp only [List.length_cons, Nat.sub_zero, Nat.zero_add, List.getD_cons_zero, List.getD_cons_succ] at this
  exact this
theorem decodeL_high (c : UInt8) (r : Bs) (h : 128 ≤ c.toNat) : 128 ≤ (decodeL (c :: r)).1 ∧ ∀ x ∈ (c :: r).take (decodeL (c :: r)).2, 128 ≤ x.toNat := by
  have key : ∀ k n : Nat, (128 ≤ k ∧ ∀ x ∈ (c :: r).take n, 128 ≤ x.toNat) → 128 ≤ ((k, n) : Nat × Nat).1 ∧ ∀ x ∈ (c :: r).take ((k, n) : Nat × Nat).2, 128 ≤ x.toNat := fun _ _ h => h
  have h1 : 128 ≤ ((65533, 1) : Nat × Nat).1 ∧ ∀ x ∈ (c :: r).take ((65533, 1) : Nat × Nat).2, 128 ≤ x.toNat := ⟨by decide, fun x hx => by simp at hx; rw [hx]; exact h⟩
  rw [decodeL_N]
  unfold decodeN
  rw [if_neg (by omega)]
  split
  · rename_i g
    split
    · refine key _ _ ⟨by omega, fun x hx => ?_⟩
      rcases r with _ | ⟨d, r⟩
      · simp at hx; rw [hx]; exact h
      simp at hx g
      rcases hx with rfl | rfl
      · exact h
      omega
    exact h1
  split
  · rename_i g
    split
    · refine key _ _ ⟨by omega, fun x hx => ?_⟩
      rcases r with _ | ⟨d, _ | ⟨e, r⟩⟩
      · simp at hx; rw [hx]; exact h
      · simp at g
      simp at hx g
      rcases hx with rfl | rfl | rfl
      · exact h
      · omega
      omega
    exact h1
  split
  · rename_i g
    split
    · refine key _ _ ⟨by omega, fun x hx => ?_⟩
      rcases r with _ | ⟨d, _ | ⟨e, _ | ⟨f, r⟩⟩⟩
      · simp at hx; rw [hx]; exact h
      · simp at g
      · simp at g
      simp at hx g
      rcases hx with rfl | rfl | rfl | rfl
      · exact h
      · omega
      · omega
      omega
    exact h1
  exact h1
theorem runsF_nod : ∀ (q : Bs) (w r : Bs), (∀ x ∈ q, digit x = false) → q ≠ [] → runsF w (q ++ r) = (if w = [] then [] else [w]) ++ runsF [] r
  | [], _, _, _, h => absurd rfl h
  | [c], w, r, h, _ => by
    show runsF w (c :: r) = _
    rw [runsF, h c (.head _)]
    simp only [Bool.false_eq_true, if_false]
    split <;> rfl
  | c :: d :: q, w, r, h, _ => by
    have ih := runsF_nod (d :: q) [] r (fun x hx => h x (.tail _ hx)) (by simp)
    rw [if_pos rfl, List.nil_append] at ih
    show runsF w (c :: ((d :: q) ++ r)) = _
    rw [runsF, h c (.head _), ih]
    simp only [Bool.false_eq_true, if_false]
    split <;> rfl
theorem runsF_dig (w : Bs) (c : UInt8) (r : Bs) (h : digit c = true) : runsF w (c :: r) = runsF (w ++ [c]) r := by rw [runsF, if_pos h]
theorem spansD (s : ByteArray) : ∀ (f pos : Nat) (st : Option Nat) (acc : List (Nat × Nat)), s.size ≤ pos + f → pos ≤ s.size → (∀ a, st = some a → a < pos) →
    acc.map (fun p => pieceU s.data.toList p.1 p.2) ++ runsF (openPiece s.data.toList st pos) (s.data.toList.drop pos) = (closeSpans s (spansFromP nod s f pos st acc)).map (fun p => pieceU s.data.toList p.1 p.2)
  | 0, pos, st, acc, h, hp, hst => by
    obtain rfl : pos = s.size := by omega
    have hd : s.data.toList.drop s.size = [] := List.drop_eq_nil_of_le (by rw [← size_eq]; exact Nat.le_refl _)
    rw [hd, runsF]
    cases st with
    | none => simp [spansFromP, closeSpans, openPiece]
    | some a =>
      have := pieceU_ne s.data.toList a s.size (hst a rfl) (by rw [← size_eq]; exact Nat.le_refl _)
      simp [spansFromP, closeSpans, openPiece, this]
  | f + 1, pos, st, acc, h, hp, hst => by
    by_cases hlt : pos < s.size
    · have hlt' : pos < s.data.toList.length := by rw [← size_eq]; exact hlt
      have hdc : decodeL (s.data.toList.drop pos) = Utf8.decode s pos := decodeL_drop s pos
      obtain ⟨c, hc⟩ : ∃ c, s.data.toList.drop pos = c :: s.data.toList.drop (pos + 1) := ⟨s.data.toList[pos], (List.getElem_cons_drop hlt').symm⟩
      have hw := width_pos s pos
      have hwn : pos + (Utf8.decode s pos).2 ≤ s.size := by
        have := decodeN_le_n' (s.size - pos) (s.get! pos).toNat (s.get! (pos + 1)).toNat (s.get! (pos + 2)).toNat (s.get! (pos + 3)).toNat (by omega)
        rw [← decode_at] at this
        omega
      simp only [spansFromP, if_pos hlt]
      by_cases hdig : digit c = true
      · have hcn : 48 ≤ c.toNat ∧ c.toNat ≤ 57 := by rw [digit_nat] at hdig; exact of_decide_eq_true hdig
        have h1 : Utf8.decode s pos = (c.toNat, 1) := by
          rw [← hdc, hc]
          rw [decodeL_N]
          unfold decodeN
          rw [if_pos (by omega)]
        have h2 : nod c.toNat = false := by unfold nod; simp; omega
        rw [h1]
        simp only [h2, Bool.false_eq_true, if_false]
        rw [hc, runsF_dig _ _ _ hdig]
        cases st with
        | none =>
          have ih := spansD s f (pos + 1) (some pos) acc (by omega) (by omega) (fun a h => by cases h; omega)
          have e : openPiece s.data.toList none pos ++ [c] = openPiece s.data.toList (some pos) (pos + 1) := by
            show [] ++ [c] = pieceU s.data.toList pos (pos + 1)
            unfold pieceU
            rw [hc, Nat.add_sub_cancel_left]; rfl
          rw [e]; exact ih
        | some a =>
          have ih := spansD s f (pos + 1) (some a) acc (by omega) (by omega) (fun b h => by cases h; have := hst a rfl; omega)
          have e : openPiece s.data.toList (some a) pos ++ [c] = openPiece s.data.toList (some a) (pos + 1) := by
            have := pieceU_grow s.data.toList a pos 1 (by have := hst a rfl; omega)
            rw [hc] at this
            exact this
          rw [e]; exact ih
      have h3 : nod (Utf8.decode s pos).1 = true ∧ ∀ x ∈ (s.data.toList.drop pos).take (Utf8.decode s pos).2, digit x = false := by
        rw [← hdc, hc]
        by_cases h128 : c.toNat < 128
        · have h1 : decodeL (c :: s.data.toList.drop (pos + 1)) = (c.toNat, 1) := by
            rw [decodeL_N]
            unfold decodeN
            rw [if_pos h128]
          rw [h1]
          refine ⟨?_, fun x hx => ?_⟩
          · rw [digit_nat, decide_eq_true_eq] at hdig
            unfold nod
            simp; omega
          simp at hx; rw [hx]; simpa using hdig
        obtain ⟨g1, g2⟩ := decodeL_high c (s.data.toList.drop (pos + 1)) (by omega)
        refine ⟨by unfold nod; simp; omega, fun x hx => ?_⟩
        have := g2 x hx
        rw [digit_nat]; simp; omega
      have hsplit : s.data.toList.drop pos = (s.data.toList.drop pos).take (Utf8.decode s pos).2 ++ s.data.toList.drop (pos + (Utf8.decode s pos).2) := by
        rw [← List.drop_drop, List.take_append_drop]
      have hqne : (s.data.toList.drop pos).take (Utf8.decode s pos).2 ≠ [] := by
        intro h0
        have := congrArg List.length h0
        rw [List.length_take, List.length_drop] at this
        simp at this
        omega
      simp only [h3.1, if_true]
      rw [hsplit, runsF_nod _ _ _ h3.2 hqne]
      cases st with
      | none =>
        have ih := spansD s f (pos + (Utf8.decode s pos).2) none acc (by omega) hwn (fun a h => by cases h)
        simpa [openPiece] using ih
      | some a =>
        have hpn := pieceU_ne s.data.toList a pos (hst a rfl) (by rw [← size_eq]; omega)
        have ih := spansD s f (pos + (Utf8.decode s pos).2) none (acc ++ [(a, pos)]) (by omega) hwn (fun a h => by cases h)
        simpa [openPiece, hpn] using ih
    have hps : pos = s.size := by omega
    have hd : s.data.toList.drop pos = [] := List.drop_eq_nil_of_le (by rw [← size_eq]; omega)
    rw [spansFromP_end nod s _ pos st acc hlt, hd, runsF]
    subst hps
    cases st with
    | none => simp [closeSpans, openPiece]
    | some a =>
      have := pieceU_ne s.data.toList a s.size (hst a rfl) (by rw [← size_eq]; exact Nat.le_refl _)
      simp [closeSpans, openPiece, this]
theorem pieceU_extract (s : ByteArray) (a b : Nat) : s.extract a b = ⟨(pieceU s.data.toList a b).toArray⟩ := by
  apply ByteArray.ext
  rw [ByteArray.data_extract]
  apply Array.ext'
  rw [Array.toList_extract]
  unfold pieceU
  simp [List.extract_eq_take_drop]
theorem fieldsD (s : Bs) : goFieldsP nod ⟨s.toArray⟩ = (runsD s).map fun x => ⟨x.toArray⟩ := by
  have h := spansD ⟨s.toArray⟩ (ByteArray.mk s.toArray).size 0 none [] (by omega) (by omega) (fun _ h => by cases h)
  simp only [List.map_nil, List.nil_append, openPiece, List.drop_zero] at h
  unfold goFieldsP spansOfP runsD
  rw [h, List.map_map]
  refine List.map_congr_left fun p _ => ?_
  rw [pieceU_extract]; rfl
end Ix
namespace Go.Sx
open Go Go.RowKit
theorem Ctr.of_row {P : Program} {f : FuncId} {args : List Value} {I : Heap} {T : TypeId} {l : List (List UInt8)} {vals : List Value} (hv : vals = l.map str) (he : Enters P f)
    (h : ∀ w, Calls P f args.toArray w fun e w' => ∃ A, e = .returned (.slice (some ⟨A, 0, none⟩) l.length l.length) ∧ w.heap.size ≤ A ∧ w'.ownsRow w.heap.size T 1 (.slice (some ⟨A, 0, none⟩) l.length l.length) l.length vals ∧ Below w.heap.size w w') :
    Ctr P f args I [] (fun e I' H' => ∃ v, e = .returned v ∧ StrS T I' l v ∧ H' = []) := by
  refine ⟨he, fun w hw => (h w).mono ?_⟩
  rintro e w' ⟨A, rfl, hA, hown, hB⟩
  obtain ⟨r1, -, -, -⟩ := hw
  have hlt : ∀ {b : Nat} {o : Obj}, I b = some o → b < w.heap.size := fun {b o} hb => by
    have := r1 b o hb
    rcases Nat.lt_or_ge b w.heap.size with h' | h'
    · exact h'
    rw [Array.getElem?_eq_none h'] at this; cases this
  obtain ⟨-, hown⟩ := hown
  obtain ⟨g, cap, cur, hs, -, hc, hn, -, hsz, htk⟩ := hown.resolve_left fun g => by cases g.1
  cases hs
  have hcel : (.cells cur T (0, 0) : Obj) = cel T (l.map str ++ cur.toList.drop l.length) := by
    unfold cel
    rw [← hv, ← htk, Nat.mul_one, List.take_append_drop]
  rw [hcel] at hc
  have hst : St w [] I I [(A, cel T (l.map str ++ cur.toList.drop l.length))] w' :=
    ⟨hB.os, hB.tape, hB.output, hB.size, fun b hb _ => hB.block b hb, fun b o hb => by rw [hB.block b (hlt hb)]; exact r1 b o hb, fun p hp => by rw [List.mem_singleton.1 hp]; exact hc, by simp, fun p hp => by
      rw [List.mem_singleton.1 hp]
      cases hI : I A with
      | none => rfl
      | some o => have := hlt hI; omega, fun p hp => by rw [List.mem_singleton.1 hp]; exact .inr hA, fun _ _ => rfl, Le.refl _, noDr⟩
  have hst2 := hst.persist hA
  exact ⟨_, _, hst2, _, rfl, .inr ⟨A, l.length, _, rfl, Nat.le_refl _, hput_at _ _ _⟩, rfl⟩
theorem Ctr.of_rowO {P : Program} {f : FuncId} {args : List Value} {I : Heap} {T : TypeId} {l : List (List UInt8)} {vals : List Value} (hv : vals = l.map str) (he : Enters P f)
    (h : ∀ w, (∀ b o, I b = some o → w.heap[b]? = some o) → Calls P f args.toArray w fun e w' => ∃ A, e = .returned (.slice (some ⟨A, 0, none⟩) l.length l.length) ∧ w.heap.size ≤ A ∧ w'.ownsRow w.heap.size T 1 (.slice (some ⟨A, 0, none⟩) l.length l.length) l.length vals ∧ Below w.heap.size w w') :
    Ctr P f args I [] (fun e _ H' => ∃ b sp, e = .returned (.slice (some ⟨b, 0, none⟩) l.length l.length) ∧ H' = [(b, cel T (l.map str ++ sp))]) := by
  refine ⟨he, fun w hw => (h w hw.1).mono ?_⟩
  rintro e w' ⟨A, rfl, hA, hown, hB⟩
  obtain ⟨r1, -, -, -⟩ := hw
  have hlt : ∀ {b : Nat} {o : Obj}, I b = some o → b < w.heap.size := fun {b o} hb => by
    have := r1 b o hb
    rcases Nat.lt_or_ge b w.heap.size with h' | h'
    · exact h'
    rw [Array.getElem?_eq_none h'] at this; cases this
  obtain ⟨-, hown⟩ := hown
  obtain ⟨g, cap, cur, hs, -, hc, hn, -, hsz, htk⟩ := hown.resolve_left fun g => by cases g.1
  cases hs
  have hcel : (.cells cur T (0, 0) : Obj) = cel T (l.map str ++ cur.toList.drop l.length) := by
    unfold cel
    rw [← hv, ← htk, Nat.mul_one, List.take_append_drop]
  rw [hcel] at hc
  have hst : St w [] I I [(A, cel T (l.map str ++ cur.toList.drop l.length))] w' :=
    ⟨hB.os, hB.tape, hB.output, hB.size, fun b hb _ => hB.block b hb, fun b o hb => by rw [hB.block b (hlt hb)]; exact r1 b o hb, fun p hp => by rw [List.mem_singleton.1 hp]; exact hc, by simp, fun p hp => by
      rw [List.mem_singleton.1 hp]
      cases hI : I A with
      | none => rfl
      | some o => have := hlt hI; omega, fun p hp => by rw [List.mem_singleton.1 hp]; exact .inr hA, fun _ _ => rfl, Le.refl _, noDr⟩
  exact ⟨_, _, hst, _, _, rfl, rfl⟩
end Go.Sx
namespace Go.Proofs.YtekmeaoblpfnpaaGreatDoor
open _root_.Go.Proofs.Tryz
open Go Go.Sx
def sel (codes : List UInt8) (s : Ke.Sub) : Bool := decide (codes = []) || codes.contains s.code
def txs (codes : List UInt8) (ss : List Ke.Sub) : List (List UInt8) := (ss.filter (sel codes)).map (·.text)
def textX (f : Ke.Fld) (codes : List UInt8) : List UInt8 := Ke.join (txs codes f.subs)
theorem textX_of {f : Ke.Fld} {codes : List UInt8} (h : codes ≠ []) : textX f codes = Ke.textOf f codes := by
  unfold textX Ke.textOf Ke.texts txs
  congr 2
  refine List.filter_congr fun s _ => ?_
  unfold sel; rw [decide_eq_false h]; rfl
theorem textX_all (f : Ke.Fld) : textX f [] = Ix.allText f := by
  unfold textX Ix.allText txs
  rw [show f.subs.filter (sel []) = f.subs from List.filter_eq_self.2 fun _ _ => rfl]
theorem txs_next {codes : List UInt8} {ss : List Ke.Sub} {k : Nat} {s : Ke.Sub} (h : ss[k]? = some s) : txs codes (ss.take (k + 1)) = txs codes (ss.take k) ++ (if sel codes s = true then [s.text] else []) := by
  obtain ⟨hlt, hg⟩ := List.getElem?_eq_some_iff.1 h
  unfold txs
  rw [List.take_succ_eq_append_getElem hlt, hg, List.filter_append, List.map_append]
  by_cases hc : sel codes s = true
  · rw [if_pos hc, List.filter_cons_of_pos hc]; rfl
  rw [if_neg hc, List.filter_cons_of_neg hc]; rfl
theorem txs_len (codes : List UInt8) (ss : List Ke.Sub) : (txs codes ss).length ≤ ss.length := by
  unfold txs; rw [List.length_map]; exact List.length_filter_le _ _
theorem txs_sum (codes : List UInt8) : ∀ ss : List Ke.Sub, ((txs codes ss).map List.length).sum ≤ textsLen ss
  | [] => by simp [txs]
  | s :: r => by
    have := txs_sum codes r
    unfold txs textsLen at this ⊢
    rw [List.filter_cons]
    split
    · simp only [List.map_cons, List.sum_cons]; omega
    simp only [List.map_cons, List.sum_cons]; omega
theorem textX_len (f : Ke.Fld) (codes : List UInt8) : (textX f codes).length ≤ textsLen f.subs + f.subs.length := by
  have h1 := join_len (txs codes f.subs); have h2 := txs_sum codes f.subs; have h3 := txs_len codes f.subs
  unfold textX; omega
theorem text_mem {ss : List Ke.Sub} {s : Ke.Sub} (h : s ∈ ss) : s.text.length ≤ textsLen ss := by
  unfold textsLen
  induction ss with
  | nil => cases h
  | cons a r ih =>
    rw [List.map_cons, List.sum_cons]
    rcases List.mem_cons.1 h with e | e
    · rw [e]; omega
    have := ih e; omega
abbrev four (x : List UInt8) : Bool := decide (x.length = 4)
def idxI {α : Type} (p : α → Bool) (l : List α) : Int := match l.findIdx? p with
  | some k => (k : Int)
  | none => -1
theorem idxI_none {α : Type} {p : α → Bool} {l : List α} (h : ∀ x ∈ l, p x = false) : idxI p l = -1 := by
  unfold idxI
  rw [List.findIdx?_eq_none_iff.2 fun x hx => by simpa using h x hx]
theorem idxI_at {α : Type} {p : α → Bool} {l : List α} {k : Nat} {x : α} (h : ∀ y ∈ l.take k, p y = false) (hx : l[k]? = some x) (hp : p x = true) : idxI p l = (k : Int) := by
  obtain ⟨hlt, hg⟩ := List.getElem?_eq_some_iff.1 hx
  unfold idxI
  have : l.findIdx? p = some k := by
    rw [List.findIdx?_eq_some_iff_getElem]
    refine ⟨hlt, by rw [hg]; exact hp, fun j hj => ?_⟩
    have h1 : l[j]'(by omega) ∈ l.take k := by
      rw [List.mem_take_iff_getElem]
      exact ⟨j, by omega, rfl⟩
    rw [h _ h1]; exact Bool.false_ne_true
  rw [this]
theorem false_next {α : Type} {p : α → Bool} {l : List α} {k : Nat} {x : α} (h : ∀ y ∈ l.take k, p y = false) (hx : l[k]? = some x) (hp : p x = false) : ∀ y ∈ l.take (k + 1), p y = false := fun y hy => by
  obtain ⟨hlt, hg⟩ := List.getElem?_eq_some_iff.1 hx
  rw [List.take_succ_eq_append_getElem hlt, hg, List.mem_append, List.mem_singleton] at hy
  rcases hy with hy | rfl
  · exact h y hy
  exact hp
theorem idxI_cases {α : Type} (p : α → Bool) (l : List α) : (idxI p l = -1 ∧ l.find? p = none) ∨ ∃ (k : Nat) (x : α), idxI p l = (k : Int) ∧ l[k]? = some x ∧ l.find? p = some x := by
  by_cases h : ∃ k, ∃ x, l[k]? = some x ∧ p x = true ∧ ∀ y ∈ l.take k, p y = false
  · obtain ⟨k, x, h1, h2, h3⟩ := h
    refine .inr ⟨k, x, idxI_at h3 h1 h2, h1, ?_⟩
    obtain ⟨hlt, hg⟩ := List.getElem?_eq_some_iff.1 h1
    rw [List.find?_eq_some_iff_append]
    refine ⟨h2, l.take k, l.drop (k + 1), ?_, fun y hy => by simp [h3 y hy]⟩
    rw [← hg, List.getElem_cons_drop, List.take_append_drop]
  have hall : ∀ k, k ≤ l.length → ∀ y ∈ l.take k, p y = false := by
    intro k
    induction k with
    | zero => intro _ y hy; simp at hy
    | succ k ih =>
      intro hk
      have hx := lgg (l := l) (i := k) (by omega)
      have h1 := ih (by omega)
      refine false_next h1 hx ?_
      cases hp : p l[k] with
      | false => rfl
      | true => exact absurd ⟨k, _, hx, hp, h1⟩ h
  have h2 : ∀ y ∈ l, p y = false := fun y hy => hall l.length (Nat.le_refl _) y (by rw [List.take_length]; exact hy)
  exact .inl ⟨idxI_none h2, List.find?_eq_none.2 fun y hy => by simp [h2 y hy]⟩
theorem skip_char {f : Ke.Fld} {c : UInt8} (h : f.ind[1]? = some c) : Ke.skip f = if Ke.digit c = true then c.toNat - 48 else 0 := by
  unfold Ke.skip; rw [h]
theorem strC_row {I : Heap} {l : List (List UInt8)} {v : Value} : StrP I l v ↔ RowS (fun s => [str s]) I l v := by
  unfold StrP RowS
  rw [show l.map str = l.flatMap fun s => [str s] by induction l with | nil => rfl | cons a r ih => rw [List.map_cons, List.flatMap_cons, ih]; rfl]
theorem itext_ok (f : Ke.Fld) (codes : List UInt8) (hn : f.subs.length ≤ 2000000) (htx : textsLen f.subs ≤ 3000000) (I : Heap) (hr : RowS subC I f.subs f.sv) : Pure Tryz.prog 150 [.agg (fldC f).toArray, str codes] I (str (textX f codes)) := by
 refine Ctr.toPure ?_
 obtain ⟨p2, c2, hsv, hc2, hp2⟩ := hr
 refine Ctr.ob func150 ?_
 intro w0 hw0
 refine Cj.sr (J.op rfl (q15 ?_))
 intro b1 hb1
 refine J.z q1 ?_
 refine J.nssr (J.z q1 ?_)
 refine J.nsss (Cj.region (J.z (q2 (off' := 3) tU108 tS106) ?_))
 refine J.z (q3 isAgg106 (Blk.at 0 rfl)) ?_
 refine J.eqv 9 rfl (show _ = .slice p2 f.subs.length c2 from hsv) ?_
 refine J.z (q14 tU106) ?_
 refine J.z q0 ?_
 refine J.ns (Cj.block (Cj.keep (Keeps.d Keeps.n) ?_))
 refine Cj.loop (ι := Nat × Gs) (fun j => j.1 ≤ f.subs.length ∧ gOk w0.heap.size 1 (txs codes (f.subs.take j.1)).length ((txs codes (f.subs.take j.1)).map str) j.2) (fun j => f.subs.length - j.1) (fun j => [(1, str codes), (5, gV (txs codes (f.subs.take j.1)).length j.2), (9, .slice p2 f.subs.length c2), (10, i64 (f.subs.length : Int)), (11, i64 (j.1 : Int))]) (fun j => _) (fun j => gH 9 ((txs codes (f.subs.take j.1)).map str) j.2) (0, none) ⟨Nat.zero_le _, rfl, rfl⟩ ⟨rfl, rfl, rfl, rfl, rfl, trivial⟩ rfl rfl ?_
 rintro ⟨j, g⟩ ⟨hj, hg⟩
 dsimp only at hj hg ⊢
 have htl := txs_len codes (f.subs.take j)
 rw [List.length_take, Nat.min_eq_left hj] at htl
 refine Cj.sr (J.z q18 ?_)
 refine J.nss (Cj.cond rfl (fun hc2 => ?_) (fun hc2 => ?_))
 ·have hc2p := odt hc2
  refine Cj.skip (Ej.seq (Cj.seq (Cj.block (Cj.seq ?_))))
  have hlt : j < f.subs.length := by omega
  obtain ⟨sb, hsget⟩ : ∃ x, f.subs[j]? = some x := ⟨_, lgg hlt⟩
  obtain ⟨sbk, so, scs, sty, sfr, sp2, rfl, hsbk, hsd⟩ := hp2 (ne_nil_of hlt)
  have hnx := txs_next (codes := codes) hsget
  refine Cj.region (J.z (q16 (off' := so + j * 2) tU106 tS176) ?_)
  refine J.z (yl_loadAgg rfl rfl isAgg176 tS176 (Blk.imm hsbk) (row_from subC_len hsd hsget) rfl) ?_
  refine J.op rfl (q21 tZ176 ?_)
  intro b3 hb3
  refine J.op rfl (q9 0 tS176 (LSpl.c (LSpl.c LSpl.z)) LSet.z ?_)
  refine J.nssr (J.z q0 ?_)
  refine J.z (yl_eqlStr rfl rfl rfl) ?_
  refine J.z q0 ?_
  refine J.split 17 rfl (fun hg4 => ?_) (fun hg4 => ?_)
  ·have hg4p := ebq hg4
   have hsel : sel codes sb = true := by unfold sel; rw [decide_eq_true (ebq hg4)]; rfl
   rw [if_pos hsel] at hnx
   refine q12 2 17 18 false hg4 ?_
   refine q12 2 17 19 false hg4 ?_
   refine q12 2 17 20 false hg4 ?_
   refine q12 2 17 21 false hg4 ?_
   refine q12 2 17 22 false hg4 ?_
   refine J.z (q22 hg4) ?_
   refine J.c1 (fun hc5 => ?_)
   refine Cj.region (J.z q0 ?_)
   refine J.z (q2 (off' := 1) tU176 tS9) ?_
   refine J.z (q3 tA9 (Blk.at 0 rfl)) ?_
   refine J.op rfl (q17 tU69 tS9 tZ9 (LCat.one rfl LCat.none) ?_)
   intro b6 hb6
   refine J.op rfl (op_append (by' := 15) [_, _] rfl rfl rfl rfl rfl tU69 (.inr ⟨_, tU69⟩) (by kernel_rfl) tS9 tZ9 rfl hg rfl (Src.slice (Blk.at 0 rfl) rfl rfl rfl) (by omega) ?_)
   intro g7 hg7
   refine J.z q1 ?_
   refine J.nil (Ej.blkNormal (Ej.seq (Cj.region (J.z (yl_add rfl rfl rfl (w64 (by omega))) ?_))))
   refine J.z q0 ?_
   refine J.nil (Ej.keep (Keeps.d (Keeps.d Keeps.r)) ?_)
   refine Ej.round (j + 1, g7) ⟨by dsimp only; omega, by dsimp only; rw [hnx, List.map_append, List.length_append]; exact hg7⟩ (by dsimp only; omega) ⟨rfl, by dsimp only; rw [hnx, List.length_append]; rfl, rfl, rfl, rfl, trivial⟩ rfl (by dsimp only; rw [hnx, List.map_append]; rfl)
  have hg4p := nbf hg4
  have hce : codes ≠ [] := nbf hg4
  refine q13 2 17 false hg4 (q7 q0 ?_)
  refine q13 2 17 false hg4 (q7 (q2 (off' := 0) tU176 tS5) ?_)
  refine q13 2 17 false hg4 (q7 (q3 tA5 (Blk.at 0 rfl)) ?_)
  refine q13 2 17 false hg4 (op_pure rfl rfl rfl rfl rfl (IndexByte_ok _ _ _) ?_)
  refine q13 2 17 false hg4 (q7 (yl_geq rfl rfl rfl) ?_)
  refine J.z (q23 hg4) ?_
  refine J.cd (fun hc8 => ?_) (fun hc8 => ?_)
  ·have hc8p := odt hc8
   have hsel : sel codes sb = true := by unfold sel; rw [decide_eq_false hce, ← index_has]; exact hc8
   rw [if_pos hsel] at hnx
   refine Cj.region (J.z q0 ?_)
   refine J.z (q2 (off' := 1) tU176 tS9) ?_
   refine J.z (q3 tA9 (Blk.at 0 rfl)) ?_
   refine J.op rfl (q17 tU69 tS9 tZ9 (LCat.one rfl LCat.none) ?_)
   intro b9 hb9
   refine J.op rfl (op_append (by' := 15) [_, _] rfl rfl rfl rfl rfl tU69 (.inr ⟨_, tU69⟩) (by kernel_rfl) tS9 tZ9 rfl hg rfl (Src.slice (Blk.at 0 rfl) rfl rfl rfl) (by omega) ?_)
   intro g10 hg10
   refine J.z q1 ?_
   refine J.nil (Ej.blkNormal (Ej.seq (Cj.region (J.z (yl_add rfl rfl rfl (w64 (by omega))) ?_))))
   refine J.z q0 ?_
   refine J.nil (Ej.keep (Keeps.d (Keeps.d Keeps.r)) ?_)
   refine Ej.round (j + 1, g10) ⟨by dsimp only; omega, by dsimp only; rw [hnx, List.map_append, List.length_append]; exact hg10⟩ (by dsimp only; omega) ⟨rfl, by dsimp only; rw [hnx, List.length_append]; rfl, rfl, rfl, rfl, trivial⟩ rfl (by dsimp only; rw [hnx, List.map_append]; rfl)
  have hc8p := odf hc8
  have hsel : ¬ sel codes sb = true := by unfold sel; rw [decide_eq_false hce, ← index_has]; exact fun e => Bool.noConfusion (e.symm.trans hc8)
  rw [if_neg hsel] at hnx
  refine Cj.skip (Ej.blkNormal (Ej.seq (Cj.region (J.z (yl_add rfl rfl rfl (w64 (by omega))) ?_))))
  refine J.z q0 ?_
  refine J.nil (Ej.keep (Keeps.d Keeps.r) ?_)
  refine Ej.round (j + 1, g) ⟨by dsimp only; omega, by dsimp only; rw [hnx, List.append_nil]; exact hg⟩ (by dsimp only; omega) ⟨rfl, by dsimp only; rw [hnx, List.append_nil]; rfl, rfl, rfl, rfl, trivial⟩ rfl (by dsimp only; rw [hnx, List.append_nil])
 have hc2p := odf hc2
 refine Cj.exit (Ej.seqExit (Ej.loopExit (Ej.blkExit (Ej.seq (Cj.seq ?_)))))
 have hfull : f.subs.take j = f.subs := List.take_of_length_le (by omega)
 rw [hfull] at hg ⊢
 have htl2 := textX_len f codes
 refine Cj.perm (H' := gH _ _ _ ++ []) (.of_eq (List.append_nil _)) ?_
 refine Cj.keepS hg (fun I8 hle8 hv => ?_)
 refine Cj.region (J.z q0 ?_)
 refine J.op rfl (op_pure rfl rfl rfl rfl rfl (Join_ok (txs codes f.subs) _ (by have := txs_len codes f.subs; omega) (by have e : Ke.join (txs codes f.subs) = textX f codes := rfl; rw [e]; omega) _ hv) ?_)
 refine J.z q1 ?_
 refine J.ns (Cj.ret (q5 ?_))
 exact ⟨rfl, rfl⟩
theorem skip_ok (f : Ke.Fld) (hi : f.ind.length ≤ 2000000) (I : Heap) : Pure Tryz.prog 148 [.agg (fldC f).toArray] I (i64 ((Ix.skipT f : Nat) : Int)) := by
 refine Ctr.toPure ?_
 refine Ctr.ob func148 ?_
 intro w0 hw0
 refine Cj.sr (J.op rfl (q15 ?_))
 intro b1 hb1
 refine J.z q1 ?_
 refine J.nsss (Cj.region (J.z (q2 (off' := 0) tU108 tS9) ?_))
 refine J.z (q3 tA9 (Blk.at 0 rfl)) ?_
 refine J.z (yl_eqlStr rfl rfl rfl) ?_
 refine J.z q0 ?_
 refine J.split 6 rfl (fun hg2 => ?_) (fun hg2 => ?_)
 rotate_left
 ·have hg2p := nbf hg2
  have htag : ¬ f.tag = [50, 52, 53] := nbf hg2
  refine q12 3 6 7 true hg2 ?_
  refine q12 3 6 8 true hg2 ?_
  refine q12 3 6 9 true hg2 ?_
  refine q12 3 6 10 true hg2 ?_
  refine J.z (q23 hg2) ?_
  refine J.z q0 ?_
  refine q25 9 12 13 true ?_
  refine q25 9 12 14 true ?_
  refine q25 9 12 15 true ?_
  refine q25 9 12 16 true ?_
  refine J.z (yl_pick0 rfl rfl rfl rfl) ?_
  refine J.z q0 ?_
  refine q25 15 18 19 true ?_
  refine q25 15 18 20 true ?_
  refine q25 15 18 21 true ?_
  refine q25 15 18 22 true ?_
  refine J.z (yl_pick0 rfl rfl rfl rfl) ?_
  refine J.c0 (fun hc8 => ?_)
  refine Cj.skip (Ej.seq (Cj.sr (J.z q1 ?_)))
  refine J.ns (Cj.ret (Ej.bare ?_))
  refine q5 ?_
  rw [show Ix.skipT f = 0 from if_neg htag]
  exact ⟨rfl, rfl⟩
 have hg2p := ebq hg2
 have htag : f.tag = [50, 52, 53] := ebq hg2
 refine q13 3 6 true hg2 (q7 (q2 (off' := 1) tU108 tS9) ?_)
 refine q13 3 6 true hg2 (q7 (q3 tA9 (Blk.at 0 rfl)) ?_)
 refine q13 3 6 true hg2 (q7 (yl_lenStr rfl rfl tU9) ?_)
 refine q13 3 6 true hg2 (q7 (yl_gtr rfl rfl rfl) ?_)
 refine J.z (q22 hg2) ?_
 refine J.z q0 ?_
 refine J.split 12 rfl (fun hg3 => ?_) (fun hg3 => ?_)
 rotate_left
 ·have hg3p := odf hg3
  have hl1 : ¬ 1 < f.ind.length := by have h := odf hg3; omega
  refine q12 9 12 13 true hg3 ?_
  refine q12 9 12 14 true hg3 ?_
  refine q12 9 12 15 true hg3 ?_
  refine q12 9 12 16 true hg3 ?_
  refine J.z (q23 hg3) ?_
  refine J.z q0 ?_
  refine q25 15 18 19 true ?_
  refine q25 15 18 20 true ?_
  refine q25 15 18 21 true ?_
  refine q25 15 18 22 true ?_
  refine J.z (yl_pick0 rfl rfl rfl rfl) ?_
  refine J.c0 (fun hc7 => ?_)
  refine Cj.skip (Ej.seq (Cj.sr (J.z q1 ?_)))
  refine J.ns (Cj.ret (Ej.bare ?_))
  refine q5 ?_
  rw [show Ix.skipT f = Ke.skip f from if_pos htag]
  rw [skip_no hl1]
  exact ⟨rfl, rfl⟩
 have hg3p := odt hg3
 have hl1 : 1 < f.ind.length := by have h := odt hg3; omega
 obtain ⟨c, hget⟩ : ∃ c, f.ind[1]? = some c := ⟨_, lgg hl1⟩
 refine q13 9 12 true hg3 (q7 (q2 (off' := 1) tU108 tS9) ?_)
 refine q13 9 12 true hg3 (q7 (q3 tA9 (Blk.at 0 rfl)) ?_)
 refine J.opG 9 12 true _ rfl rfl rfl hg3 (op_yld (yl_index rfl rfl rfl tU9 (by omega) hget) rfl rfl ?_)
 refine q13 9 12 true hg3 (q7 (yl_geq rfl rfl rfl) ?_)
 refine J.z (q22 hg3) ?_
 refine J.z q0 ?_
 refine J.split 18 rfl (fun hg4 => ?_) (fun hg4 => ?_)
 ·have hg4p := odt hg4
  have h48 : 48 ≤ c.toNat := by have h := odt hg4; omega
  refine q13 15 18 true hg4 (q7 (q2 (off' := 1) tU108 tS9) ?_)
  refine q13 15 18 true hg4 (q7 (q3 tA9 (Blk.at 0 rfl)) ?_)
  refine J.opG 15 18 true _ rfl rfl rfl hg4 (op_yld (yl_index rfl rfl rfl tU9 (by omega) hget) rfl rfl ?_)
  refine q13 15 18 true hg4 (q7 (yl_leq rfl rfl rfl) ?_)
  refine J.z (q22 hg4) ?_
  refine J.cd (fun hc5 => ?_) (fun hc5 => ?_)
  ·have hc5p := odt hc5
   have h57 : c.toNat ≤ 57 := by have h := odt hc5; omega
   have hdg : Ke.digit c = true := by rw [Ix.digit_nat]; simp only [decide_eq_true_eq]; omega
   refine Cj.sr (J.z (q2 (off' := 1) tU108 tS9) ?_)
   refine J.z (q3 tA9 (Blk.at 0 rfl)) ?_
   refine J.z (yl_index rfl rfl rfl tU9 (by omega) hget) ?_
   refine J.z (yl_sub rfl rfl rfl (w8 (by omega))) ?_
   refine J.z (yl_convInt rfl rfl tU5 tU3) ?_
   refine J.eqv 28 rfl (show _ = i64 ((c.toNat - 48 : Nat) : Int) from (congrArg i64 ((w64 (by omega)).trans (by omega)))) ?_
   refine J.z q1 ?_
   refine J.ns (Cj.ret (Ej.seqRet (Ej.bare ?_)))
   refine q5 ?_
   rw [show Ix.skipT f = Ke.skip f from if_pos htag]
   rw [skip_char hget, if_pos hdg]
   exact ⟨rfl, rfl⟩
  ·have hc5p := odf hc5
   have hdg : ¬ Ke.digit c = true := by rw [Ix.digit_nat]; have h := odf hc5; simp only [decide_eq_true_eq]; omega
   refine Cj.skip (Ej.seq (Cj.sr (J.z q1 ?_)))
   refine J.ns (Cj.ret (Ej.bare ?_))
   refine q5 ?_
   rw [show Ix.skipT f = Ke.skip f from if_pos htag]
   rw [skip_char hget, if_neg hdg]
   exact ⟨rfl, rfl⟩
 ·have hg4p := odf hg4
  have hdg : ¬ Ke.digit c = true := by rw [Ix.digit_nat]; have h := odf hg4; simp only [decide_eq_true_eq]; omega
  refine q12 15 18 19 true hg4 ?_
  refine q12 15 18 20 true hg4 ?_
  refine q12 15 18 21 true hg4 ?_
  refine q12 15 18 22 true hg4 ?_
  refine J.z (q23 hg4) ?_
  refine J.c0 (fun hc6 => ?_)
  refine Cj.skip (Ej.seq (Cj.sr (J.z q1 ?_)))
  refine J.ns (Cj.ret (Ej.bare ?_))
  refine q5 ?_
  rw [show Ix.skipT f = Ke.skip f from if_pos htag]
  rw [skip_char hget, if_neg hdg]
  exact ⟨rfl, rfl⟩
theorem year1_ok (s : List UInt8) (I : Heap) : Pure Tryz.prog 259 [str s] I (.bool (decide (s.length = 4))) := by
 refine Ctr.toPure ?_
 refine Ctr.ob func259 ?_
 intro w0 hw0
 refine Cj.sr (J.z q1 ?_)
 refine J.nssr (J.z q0 ?_)
 refine J.z (yl_lenStr rfl rfl tU9) ?_
 refine J.z q19 ?_
 refine J.eqv 5 rfl (show _ = .bool (decide (s.length = 4)) from (congrArg Value.bool (by rw [Bool.eq_iff_iff, beq_iff_eq, decide_eq_true_eq]; omega))) ?_
 refine J.z q1 ?_
 refine J.ns (Cj.ret (q5 ?_))
 exact ⟨rfl, rfl⟩
theorem notDigit_ok (c : Nat) (I : Heap) : Pure Tryz.prog 257 [.int .i32 (c : Int)] I (.bool (Ix.nod c)) := by
 refine Ctr.toPure ?_
 refine Ctr.ob func257 ?_
 intro w0 hw0
 refine Cj.sr (J.z q1 ?_)
 refine J.nssr (J.z q0 ?_)
 refine J.z q18 ?_
 refine J.z q0 ?_
 refine J.split 5 rfl (fun hg1 => ?_) (fun hg1 => ?_)
 ·have hg1p := odt hg1
  refine q12 2 5 6 false hg1 ?_
  refine q12 2 5 7 false hg1 ?_
  refine J.z (q22 hg1) ?_
  refine J.z q1 ?_
  refine J.ns (Cj.ret (q5 ?_))
  have e : Ix.nod c = true := by unfold Ix.nod; have h := odt hg1; rw [decide_eq_true (by omega : c < 48)]; rfl
  rw [e]
  exact ⟨rfl, rfl⟩
 have hg1p := odf hg1
 refine q13 2 5 false hg1 (q7 q0 ?_)
 refine q13 2 5 false hg1 (q7 (yl_gtr rfl rfl rfl) ?_)
 refine J.z (q23 hg1) ?_
 refine J.z q1 ?_
 refine J.ns (Cj.ret (q5 ?_))
 refine ⟨?_, rfl⟩
 have h := odf hg1
 unfold Ix.nod
 rw [decide_eq_false (by omega : ¬ c < 48), Bool.false_or]
 exact congrArg (fun b => Ending.returned (Value.bool b)) (decide_eq_decide.2 (by omega))
theorem FieldsFunc_ok (s : List UInt8) (hs : s.length ≤ 4000000000) (I : Heap) : Ctr Tryz.prog 256 [str s, .func (.func 257) #[] #[]] I [] (fun e I' H' => ∃ v, e = .returned v ∧ StrS 9 I' (Ix.runsD s) v ∧ H' = []) := by
  have hz : ∀ x : Nat, x ≤ 1114111 → ∀ W : World, Calls Tryz.prog 257 #[.int .i32 (x : Int)] W fun e w' => e = .returned (.bool (Ix.nod x)) ∧ RowKit.Below W.heap.size W w' := fun x _ W => by
    have h := (notDigit_ok x (fun _ => none)).2 W (by unfold Ready; exact ⟨(fun b o hb => by cases hb), (fun p hp => by cases hp), List.Pairwise.nil, (fun p hp => by cases hp)⟩)
    exact h.mono fun e w' ⟨I', H', hs, h1, _⟩ => ⟨h1, hs.os, hs.tape, hs.output, hs.size, fun k hk => hs.frm k hk (by simp)⟩
  have hrun : Lib.goFieldsP Ix.nod ⟨s.toArray⟩ = (Ix.runsD s).map fun x => ⟨x.toArray⟩ := Ix.fieldsD s
  refine Ctr.of_row (vals := ((Ix.runsD s).map fun x => (⟨x.toArray⟩ : ByteArray)).map Value.string) (by rw [List.map_map]; rfl) (Enters.of func256 (by decide) rfl) fun w => ?_
  have h := Tryz.strings_FieldsFunc_grows 257 #[] (enters_of func257 (by kernel_rfl) rfl) Ix.nod ⟨s.toArray⟩ w (by rw [size_mk]; omega) (fun W x hx _ => hz x hx W)
  rw [hrun, List.length_map] at h
  exact h
theorem IndexFuncS_ok (l : List (List UInt8)) (v : Value) (pq : List UInt8 → Bool) (g : Nat) (cap : List Value) (hl : l.length ≤ 100000000000000) (I : Heap) (hr : StrP I l v) (hcl : ∀ x ∈ l, Pure Tryz.prog g (str x :: cap) I (.bool (pq x))) : Pure Tryz.prog 258 [v, .func (.func g) #[] cap.toArray] I (i64 (idxI pq l)) := by
 refine Ctr.toPure ?_
 obtain ⟨p, c, rfl, hc, hp⟩ := hr
 refine Ctr.ob func258 ?_
 intro w0 hw0
 refine Cj.sr (J.z q1 ?_)
 refine J.nsss (Cj.region (J.z q0 ?_))
 refine J.z (q14 tU69) ?_
 refine J.z q0 ?_
 refine J.ns (Cj.block (Cj.loop (ι := Nat) (fun j => j ≤ l.length ∧ ∀ x ∈ l.take j, pq x = false) (fun j => l.length - j) (fun j => [(0, .slice p l.length c), (1, .func (.func g) #[] cap.toArray), (7, i64 (l.length : Int)), (8, i64 (j : Int))]) (fun j => I) (fun j => []) 0 ⟨Nat.zero_le _, fun g hg => by simp at hg⟩ ⟨rfl, rfl, rfl, rfl, trivial⟩ rfl rfl ?_))
 rintro j ⟨hj, hall⟩
 refine Cj.sr (J.z q18 ?_)
 refine J.nss (Cj.cond rfl (fun hc1 => ?_) (fun hc1 => ?_))
 ·have hc1p := odt hc1
  have hlt : j < l.length := by omega
  obtain ⟨x, hget⟩ : ∃ x, l[j]? = some x := ⟨_, lgg hlt⟩
  obtain ⟨fb, fo, fcs, fty, ffr, sp, rfl, hfb, hfd⟩ := hp (ne_nil_of hlt)
  refine Cj.skip (Ej.seq (Cj.seq (Cj.block (Cj.sr (J.z q0 ?_)))))
  refine J.z q1 ?_
  refine J.nssr (J.z q0 ?_)
  refine J.z q0 ?_
  refine J.z q0 ?_
  refine J.z (q16 (off' := fo + j) tU69 tS9) ?_
  refine J.z (yl_load rfl rfl tA9 (Blk.imm hfb) (str_from hfd hget)) ?_
  refine J.op rfl (op_pure rfl rfl rfl rfl rfl (hcl x (lmg hget)) ?_)
  refine J.cd (fun hc2 => ?_) (fun hc2 => ?_)
  ·have ht : pq x = true := hc2
   refine Cj.sr (J.z q0 ?_)
   refine J.z q1 ?_
   refine J.ns (Cj.ret (Ej.blkRet (Ej.seqRet (Ej.loopRet (Ej.blkRet (Ej.seqRet (q5 ?_)))))))
   rw [idxI_at hall hget ht]
   exact ⟨rfl, rfl⟩
  have hnt : pq x = false := hc2
  refine Cj.skip (Ej.blkNormal (Ej.seq (Cj.region (J.z (yl_add rfl rfl rfl (w64 (by omega))) ?_))))
  refine J.z q0 ?_
  refine J.nil (Ej.round (j + 1) ⟨by omega, false_next hall hget hnt⟩ (by omega) ⟨rfl, rfl, rfl, rfl, trivial⟩ rfl rfl)
 have hc1p := odf hc1
 have hfull : l.take j = l := List.take_of_length_le (by omega)
 rw [hfull] at hall
 refine Cj.exit (Ej.seqExit (Ej.loopExit (Ej.blkExit (Ej.seq (Cj.sr (J.z q1 ?_))))))
 refine J.ns (Cj.ret (q5 ?_))
 rw [idxI_none hall]
 exact ⟨rfl, rfl⟩
theorem runsF_len : ∀ (s w : List UInt8), (Ix.runsF w s).length ≤ s.length + w.length
  | [], w => by
    unfold Ix.runsF
    split
    · simp
    rename_i h; have : 0 < w.length := List.length_pos_iff.2 h; simp only [List.length_cons, List.length_nil]; omega
  | c :: r, w => by
    unfold Ix.runsF
    split
    · have := runsF_len r (w ++ [c]); rw [List.length_append] at this; simp only [List.length_cons, List.length_nil] at this ⊢; omega
    split
    · have := runsF_len r []; simp only [List.length_nil, List.length_cons] at this ⊢; omega
    rename_i h
    have := runsF_len r []; have h2 : 0 < w.length := List.length_pos_iff.2 h
    simp only [List.length_nil, List.length_cons] at this ⊢; omega
theorem runsD_len (s : List UInt8) : (Ix.runsD s).length ≤ s.length := by
  have := runsF_len s []
  exact this
theorem iyear_ok (s : List UInt8) (hs : s.length ≤ 100000000) (I : Heap) : Pure Tryz.prog 215 [str s] I (.tuple #[str ((Ix.yearOf s).getD []), .bool (Ix.yearOf s).isSome]) := by
 refine Ctr.toPure ?_
 have hrl := runsD_len s
 refine Ctr.ob func215 ?_
 intro w0 hw0
 refine Cj.sr (J.z q1 ?_)
 refine J.z q1 ?_
 refine J.nssr (J.z q0 ?_)
 refine J.op rfl (op_call (H1 := []) rfl rfl rfl rfl rfl (FieldsFunc_ok s (by omega) _) ?_ (fun _ _ _ _ ⟨_, h, _⟩ => by cases h) (fun _ _ ⟨_, h, _⟩ => by cases h))
 intro v1 I2 H3 hle4 hp5
 obtain ⟨vl, h, hl, rfl⟩ := hp5; cases h
 refine J.z q1 ?_
 refine J.nssr (J.z q0 ?_)
 refine J.op rfl (op_pure rfl rfl rfl rfl rfl (IndexFuncS_ok (Ix.runsD s) _ four 259 [] (by omega) _ (StrP.of hl) (fun x _ => year1_ok x _)) ?_)
 refine J.z q1 ?_
 refine J.nsss (Cj.region (J.z q0 ?_))
 refine J.z q18 ?_
 refine J.cd (fun hc11 => ?_) (fun hc11 => ?_)
 ·have hc11p := odt hc11
  have hfind : Ix.yearOf s = none := ((idxI_cases four (Ix.runsD s)).resolve_right (fun ⟨k, x, h, _⟩ => by rw [h] at hc11p; omega)).2
  refine Cj.sr (J.z q1 ?_)
  refine J.z q1 ?_
  refine J.ns (Cj.ret (Ej.seqRet (q20 ?_)))
  rw [hfind]
  exact ⟨rfl, rfl⟩
 have hc11p := odf hc11
 obtain ⟨k, y, hkk, hget, hfind⟩ := (idxI_cases four (Ix.runsD s)).resolve_left (fun h => by rw [h.1] at hc11p; omega)
 obtain ⟨yb, yc, ysp, rfl, hyb⟩ := hl.some (fun e => by rw [e] at hget; cases hget)
 rw [hkk]
 have hklt := (List.getElem?_eq_some_iff.1 hget).1
 refine Cj.skip (Ej.seq (Cj.sr (J.z q0 ?_)))
 refine J.z q0 ?_
 refine J.z (q16 (off' := k) tU69 tS9) ?_
 refine J.z (yl_load rfl rfl tA9 (Blk.imm hyb) (str_get hget)) ?_
 refine J.z q1 ?_
 refine J.z q1 ?_
 refine J.ns (Cj.ret (q20 ?_))
 rw [show Ix.yearOf s = some y from hfind]
 exact ⟨rfl, rfl⟩
def pickU (u : List UInt8 → List UInt8 × Bool) (code : UInt8) (s : Ke.Sub) : Option (List UInt8) := if (u s.text).2 = true ∧ s.code = code then some (u s.text).1 else none
def uy (s : List UInt8) : List UInt8 × Bool := ((Ix.yearOf s).getD [], (Ix.yearOf s).isSome)
theorem pick_yr : pickU uy 99 = Ix.yr := by
  funext s
  unfold pickU uy Ix.yr
  by_cases h : s.code = 99
  · rw [if_pos h]
    cases hy : Ix.yearOf s.text with
    | none => simp
    | some y => simp [h]
  rw [if_neg h, if_neg (fun g => h g.2)]
theorem fm_next {u : List UInt8 → List UInt8 × Bool} {code : UInt8} {ss : List Ke.Sub} {k : Nat} {s : Ke.Sub} (h : ss[k]? = some s) : (ss.take (k + 1)).filterMap (pickU u code) = (ss.take k).filterMap (pickU u code) ++ (if (u s.text).2 = true ∧ s.code = code then [(u s.text).1] else []) := by
  obtain ⟨hlt, hg⟩ := List.getElem?_eq_some_iff.1 h
  rw [List.take_succ_eq_append_getElem hlt, hg, List.filterMap_append]
  by_cases hc : (u s.text).2 = true ∧ s.code = code
  · rw [if_pos hc]; simp [pickU, hc]
  rw [if_neg hc]; simp [pickU, hc]
theorem pre_eq {s p : List UInt8} (_h : p.length ≤ s.length) : p.isPrefixOf s = ((s.take p.length).drop 0 == p) := by
  rw [List.drop_zero, Bool.eq_iff_iff, List.isPrefixOf_iff_prefix, beq_iff_eq, List.prefix_iff_eq_take]
  exact ⟨fun e => e.symm, fun e => e.symm⟩
theorem pre_no {s p : List UInt8} (h : ¬ p.length ≤ s.length) : p.isPrefixOf s = false := by
  rw [Bool.eq_false_iff, Ne, List.isPrefixOf_iff_prefix]
  exact fun e => h e.length_le
theorem StrS_sl {T : TypeId} {I : Heap} {l : List (List UInt8)} {v : Value} (h : StrS T I l v) : ∃ p c, v = .slice p l.length c := by
  rcases h with ⟨rfl, rfl⟩ | ⟨b, c, sp, rfl, _, _⟩
  · exact ⟨none, 0, rfl⟩
  exact ⟨_, c, rfl⟩
theorem vw_one {I : Heap} {l : List (List UInt8)} {a b w : Value} (h : StrS 9 I l w) (ha : Value.oneCell' a = true) (hb : Value.oneCell' b = true) : [a, b, w].all Value.oneCell' = true := by
  obtain ⟨p, c, rfl⟩ := StrS_sl h
  simp only [List.all_cons, List.all_nil, ha, hb, Bool.and_true, Bool.true_and]; rfl
def EOK (fs : List Ke.Fld) : Prop := fs.length ≤ 1000 ∧ ∀ f ∈ fs, f.subs.length ≤ 1000 ∧ textsLen f.subs ≤ 3000000 ∧ f.ind.length ≤ 2000000
abbrev VW := Ix.V × Value
def vwC (x : VW) : List Value := [str x.1.name, str x.1.key, x.2]
theorem vwC_len (x : VW) : (vwC x).length = 3 := rfl
def ValsX (I : Heap) (xs : List VW) (vs : List Ix.V) : Prop := xs.map (·.1) = vs ∧ ∀ x ∈ xs, StrS 9 I x.1.ws x.2
theorem ValsX.mono {I I' : Heap} {xs : List VW} {vs : List Ix.V} (h : ValsX I xs vs) (hle : Le I I') : ValsX I' xs vs := ⟨h.1, fun x hx => (h.2 x hx).mono hle⟩
theorem ValsX.len {I : Heap} {xs : List VW} {vs : List Ix.V} (h : ValsX I xs vs) : xs.length = vs.length := by rw [← h.1, List.length_map]
theorem ValsX.add {I : Heap} {xs : List VW} {vs : List Ix.V} (h : ValsX I xs vs) {v : Ix.V} {w : Value} (hw : StrS 9 I v.ws w) : ValsX I (xs ++ [(v, w)]) (vs ++ [v]) :=
  ⟨by rw [List.map_append, h.1]; rfl, fun x hx => by
    rcases List.mem_append.1 hx with g | g
    · exact h.2 x g
    rw [List.mem_singleton.1 g]; exact hw⟩
def ValsS (I : Heap) (vs : List Ix.V) (v : Value) : Prop := ∃ xs, RowT 142 vwC I xs v ∧ ValsX I xs vs
theorem ValsS.mono {I I' : Heap} {vs : List Ix.V} {v : Value} (h : ValsS I vs v) (hle : Le I I') : ValsS I' vs v := let ⟨xs, h1, h2⟩ := h; ⟨xs, h1.mono hle, h2.mono hle⟩
theorem named_len (f : Ke.Fld) (h : f.subs.length ≤ 1000) : (Ix.named f).2.length ≤ 1000 := by
  unfold Ix.named
  repeat' split
  all_goals first
    | exact nlt (List.length_filterMap_le _ _) h
    | simp
theorem fm_text {p : Ke.Sub → Option (List UInt8)} {ss : List Ke.Sub} {s : List UInt8} {n : Nat} (hp : ∀ x ∈ ss, ∀ y, p x = some y → y.length ≤ n) (h : s ∈ ss.filterMap p) : s.length ≤ n := by
  obtain ⟨x, hx, he⟩ := List.mem_filterMap.1 h
  exact hp x hx s he
theorem isbn_len (s : List UInt8) : (Ke.isbn s).1.length ≤ 13 := by
  unfold Ke.isbn Ke.isbnN
  split
  · simp only [List.length_append, List.length_take, List.length_cons, List.length_nil]; omega
  split
  · rename_i h; have := h.1; dsimp only; omega
  simp
theorem yearOf_len {s y : List UInt8} (h : Ix.yearOf s = some y) : y.length = 4 := by
  have h1 := List.find?_some h
  exact odt h1
theorem named_text {f : Ke.Fld} {s : List UInt8} (h : s ∈ (Ix.named f).2) : s.length ≤ textsLen f.subs + f.subs.length + 13 := by
  have ht : ∀ c : List UInt8, (Ke.textOf f c).length ≤ textsLen f.subs + f.subs.length := textOf_len f
  unfold Ix.named at h
  repeat' split at h
  all_goals first
    | (rw [List.mem_singleton] at h; rw [h]; have := ht [97, 98]; have := ht [97]; have := ht [97, 120]; omega)
    | (refine nlt (fm_text (n := 13) (fun x _ y hy => ?_) h) (by omega); unfold Ke.isb at hy; split at hy; (cases hy; exact isbn_len _); cases hy)
    | (refine nlt (fm_text (n := 13) (fun x _ y hy => ?_) h) (by omega); unfold Ix.yr at hy; split at hy; (have := yearOf_len hy; omega); cases hy)
    | cases h
theorem vals1_len (f : Ke.Fld) (h : f.subs.length ≤ 1000) : (Ix.vals1 f).length ≤ 1001 := by
  have := named_len f h
  unfold Ix.vals1
  rw [List.length_append, List.length_map]
  split <;> simp <;> omega
theorem vals_take (fs : List Ke.Fld) (h : EOK fs) (j : Nat) : (Ix.vals (fs.take j)).length ≤ j * 1001 := by
  induction j with
  | zero => simp [Ix.vals]
  | succ j ih =>
    rcases Nat.lt_or_ge j fs.length with hj | hj
    · rw [List.take_succ_eq_append_getElem hj]
      unfold Ix.vals at ih ⊢
      rw [List.flatMap_append, List.length_append]
      have := vals1_len fs[j] (h.2 _ (List.getElem_mem hj)).1
      simp only [List.flatMap_cons, List.flatMap_nil, List.append_nil]
      omega
    rw [List.take_of_length_le hj] at ih
    rw [List.take_of_length_le (show fs.length ≤ j + 1 by omega)]
    exact nlt ih (Nat.mul_le_mul_right _ (Nat.le_succ j))
theorem vals_next {fs : List Ke.Fld} {j : Nat} {f : Ke.Fld} (h : fs[j]? = some f) : Ix.vals (fs.take (j + 1)) = Ix.vals (fs.take j) ++ Ix.vals1 f := by
  obtain ⟨hlt, hg⟩ := List.getElem?_eq_some_iff.1 h
  rw [List.take_succ_eq_append_getElem hlt, hg]
  unfold Ix.vals
  rw [List.flatMap_append]; simp
abbrev nv (f : Ke.Fld) (s : List UInt8) : Ix.V := ⟨(Ix.named f).1, s, Ix.skipT f⟩
theorem map_next {α β : Type} (g : α → β) {l : List α} {k : Nat} {x : α} (h : l[k]? = some x) : (l.take (k + 1)).map g = (l.take k).map g ++ [g x] := by
  obtain ⟨hlt, hg⟩ := List.getElem?_eq_some_iff.1 h
  rw [List.take_succ_eq_append_getElem hlt, hg, List.map_append]; rfl
structure VA where
  j : Nat
  J : Heap
  xs : List VW
  g : Gs
theorem sHasPrefix_ok (s p : List UInt8) (hp : p.length ≤ 1000000) (I : Heap) : Pure Tryz.prog 216 [str s, str p] I (.bool (p.isPrefixOf s)) := by
 refine Ctr.toPure ?_
 refine Ctr.ob func216 ?_
 intro w0 hw0
 refine Cj.sr (J.z q1 ?_)
 refine J.nssr (J.z q0 ?_)
 refine J.z (yl_lenStr rfl rfl tU9) ?_
 refine J.z q0 ?_
 refine J.z (yl_lenStr rfl rfl tU9) ?_
 refine J.z (yl_geq rfl rfl rfl) ?_
 refine J.z q0 ?_
 refine J.split 10 rfl (fun hg1 => ?_) (fun hg1 => ?_)
 ·have hg1p := odt hg1
  have hge : p.length ≤ s.length := by have h := odt hg1; omega
  refine q13 5 10 true hg1 (q7 q0 ?_)
  refine q13 5 10 true hg1 (q7 q0 ?_)
  refine q13 5 10 true hg1 (q7 (yl_lenStr rfl rfl tU9) ?_)
  refine J.opG 5 10 true _ rfl rfl rfl hg1 (op_yld (yl_sliceStr (p := 0) (q := p.length) rfl rfl tU9 rfl ⟨_, rfl⟩ (by omega) (by omega)) rfl rfl ?_)
  refine q13 5 10 true hg1 (q7 q0 ?_)
  refine q13 5 10 true hg1 (q7 (yl_eqlStr rfl rfl rfl) ?_)
  refine J.z (q22 hg1) ?_
  refine J.z q1 ?_
  refine J.ns (Cj.ret (q5 ?_))
  refine ⟨?_, rfl⟩
  rw [pre_eq hge]
 have hg1p := odf hg1
 have hge : ¬ p.length ≤ s.length := by have h := odf hg1; omega
 refine q12 5 10 11 true hg1 ?_
 refine q12 5 10 12 true hg1 ?_
 refine q12 5 10 13 true hg1 ?_
 refine q12 5 10 14 true hg1 ?_
 refine q12 5 10 15 true hg1 ?_
 refine q12 5 10 16 true hg1 ?_
 refine J.z (q23 hg1) ?_
 refine J.z q1 ?_
 refine J.ns (Cj.ret (q5 ?_))
 rw [pre_no hge]
 exact ⟨rfl, rfl⟩
theorem HasPrefix_ok (s p : List UInt8) (hp : p.length ≤ 1000000) (I : Heap) : Pure Tryz.prog 149 [str s, str p] I (.bool (p.isPrefixOf s)) := by
 refine Ctr.toPure ?_
 refine Ctr.ob func149 ?_
 intro w0 hw0
 refine Cj.sr (J.z q1 ?_)
 refine J.nssr (J.z q0 ?_)
 refine J.z q0 ?_
 refine J.op rfl (op_pure rfl rfl rfl rfl rfl (sHasPrefix_ok s p hp _) ?_)
 refine J.z q1 ?_
 refine J.ns (Cj.ret (q5 ?_))
 exact ⟨rfl, rfl⟩
theorem subfields_ok (f : Ke.Fld) (code : UInt8) (g0 : Nat) (u : List UInt8 → List UInt8 × Bool) (hn : f.subs.length ≤ 2000000) (htx : textsLen f.subs ≤ 3000000) (hu : ∀ s J, s.length ≤ 100000000 → Pure Tryz.prog g0 [str s] J (.tuple #[str (u s).1, .bool (u s).2])) (I : Heap) (hr : RowS subC I f.subs f.sv) : Ctr Tryz.prog 214 [.agg (fldC f).toArray, u8 code, .func (.func g0) #[] #[]] I []
    (fun e I' H' => ∃ v, e = .returned v ∧ StrS 9 I' (f.subs.filterMap (pickU u code)) v ∧ H' = []) := by
 obtain ⟨p2, c2, hsv, hc2, hp2⟩ := hr
 refine Ctr.ob func214 ?_
 intro w0 hw0
 refine Cj.sr (J.op rfl (q15 ?_))
 intro b1 hb1
 refine J.z q1 ?_
 refine J.nssr (J.z q1 ?_)
 refine J.nsss (Cj.region (J.z (q2 (off' := 3) tU108 tS106) ?_))
 refine J.z (q3 isAgg106 (Blk.at 0 rfl)) ?_
 refine J.eqv 13 rfl (show _ = .slice p2 f.subs.length c2 from hsv) ?_
 refine J.z (q14 tU106) ?_
 refine J.z q0 ?_
 refine J.ns (Cj.block (Cj.keep (Keeps.d Keeps.n) ?_))
 refine Cj.loop (ι := Nat × Gs) (fun j => j.1 ≤ f.subs.length ∧ gOk w0.heap.size 1 ((f.subs.take j.1).filterMap (pickU u code)).length (((f.subs.take j.1).filterMap (pickU u code)).map str) j.2) (fun j => f.subs.length - j.1) (fun j => [(1, u8 code), (2, .func (.func g0) #[] #[]), (7, gV ((f.subs.take j.1).filterMap (pickU u code)).length j.2), (13, .slice p2 f.subs.length c2), (14, i64 (f.subs.length : Int)), (15, i64 (j.1 : Int))]) (fun j => _) (fun j => gH 9 (((f.subs.take j.1).filterMap (pickU u code)).map str) j.2) (0, none) ⟨Nat.zero_le _, rfl, rfl⟩ ⟨rfl, rfl, rfl, rfl, rfl, rfl, trivial⟩ rfl rfl ?_
 rintro ⟨j, g⟩ ⟨hj, hg⟩
 dsimp only at hj hg ⊢
 have htl := List.length_filterMap_le (pickU u code) (f.subs.take j)
 rw [List.length_take, Nat.min_eq_left hj] at htl
 refine Cj.sr (J.z q18 ?_)
 refine J.nss (Cj.cond rfl (fun hc2 => ?_) (fun hc2 => ?_))
 ·have hc2p := odt hc2
  refine Cj.skip (Ej.seq (Cj.seq (Cj.block (Cj.seq ?_))))
  have hlt : j < f.subs.length := by omega
  obtain ⟨sb, hsget⟩ : ∃ x, f.subs[j]? = some x := ⟨_, lgg hlt⟩
  obtain ⟨sbk, so, scs, sty, sfr, sp2, rfl, hsbk, hsd⟩ := hp2 (ne_nil_of hlt)
  have hsl := text_mem (lmg hsget)
  have hnx := fm_next (u := u) (code := code) hsget
  refine Cj.region (J.z (q16 (off' := so + j * 2) tU106 tS176) ?_)
  refine J.z (yl_loadAgg rfl rfl isAgg176 tS176 (Blk.imm hsbk) (row_from subC_len hsd hsget) rfl) ?_
  refine J.op rfl (q21 tZ176 ?_)
  intro b3 hb3
  refine J.op rfl (q9 0 tS176 (LSpl.c (LSpl.c LSpl.z)) LSet.z ?_)
  refine J.nssr (J.z q0 ?_)
  refine J.z (q2 (off' := 1) tU176 tS9) ?_
  refine J.z (q3 tA9 (Blk.at 0 rfl)) ?_
  refine J.op rfl (op_pure rfl rfl rfl rfl rfl (hu sb.text _ (by omega)) ?_)
  refine J.z q0 ?_
  refine J.z q11 ?_
  refine J.z q11 ?_
  refine J.z q1 ?_
  refine J.z q1 ?_
  refine J.nssr (J.z (q2 (off' := 0) tU176 tS5) ?_)
  refine J.z (q3 tA5 (Blk.at 0 rfl)) ?_
  refine J.z q0 ?_
  refine J.z q19 ?_
  refine J.z q0 ?_
  refine J.split 30 rfl (fun hg4 => ?_) (fun hg4 => ?_)
  rotate_left
  ·have hg4p := nbf hg4
   have hcd : sb.code ≠ code := fun e => nbf hg4 (by rw [e])
   rw [if_neg (fun g => hcd g.2)] at hnx
   refine q12 4 30 31 true hg4 ?_
   refine J.z (q23 hg4) ?_
   refine J.c0 (fun hc8 => ?_)
   refine Cj.skip (Ej.blkNormal (Ej.seq (Cj.region (J.z (yl_add rfl rfl rfl (w64 (by omega))) ?_))))
   refine J.z q0 ?_
   refine J.nil (Ej.keep (Keeps.d Keeps.r) ?_)
   refine Ej.round (j + 1, g) ⟨by dsimp only; omega, by dsimp only; rw [hnx, List.append_nil]; exact hg⟩ (by dsimp only; omega) ⟨rfl, rfl, by dsimp only; rw [hnx, List.append_nil]; rfl, rfl, rfl, rfl, trivial⟩ rfl (by dsimp only; rw [hnx, List.append_nil])
  have hg4p := ebq hg4
  have hcd : sb.code = code := UInt8.toNat_inj.1 (by have h := ebq hg4; omega)
  refine q13 4 30 true hg4 (q7 q0 ?_)
  refine J.z (q22 hg4) ?_
  refine J.cd (fun hc5 => ?_) (fun hc5 => ?_)
  ·rw [if_pos ⟨hc5, hcd⟩] at hnx
   refine Cj.region (J.z q0 ?_)
   refine J.z q0 ?_
   refine J.op rfl (q17 tU69 tS9 tZ9 (LCat.one rfl LCat.none) ?_)
   intro b6 hb6
   refine J.op rfl (op_append (by' := 15) [_, _] rfl rfl rfl rfl rfl tU69 (.inr ⟨_, tU69⟩) (by kernel_rfl) tS9 tZ9 rfl hg rfl (Src.slice (Blk.at 0 rfl) rfl rfl rfl) (by omega) ?_)
   intro g7 hg7
   refine J.z q1 ?_
   refine J.nil (Ej.blkNormal (Ej.seq (Cj.region (J.z (yl_add rfl rfl rfl (w64 (by omega))) ?_))))
   refine J.z q0 ?_
   refine J.nil (Ej.keep (Keeps.d (Keeps.d Keeps.r)) ?_)
   refine Ej.round (j + 1, g7) ⟨by dsimp only; omega, by dsimp only; rw [hnx, List.map_append, List.length_append]; exact hg7⟩ (by dsimp only; omega) ⟨rfl, rfl, by dsimp only; rw [hnx, List.length_append]; rfl, rfl, rfl, rfl, trivial⟩ rfl (by dsimp only; rw [hnx, List.map_append]; rfl)
  rw [if_neg (fun g => Bool.noConfusion (g.1.symm.trans hc5))] at hnx
  refine Cj.skip (Ej.blkNormal (Ej.seq (Cj.region (J.z (yl_add rfl rfl rfl (w64 (by omega))) ?_))))
  refine J.z q0 ?_
  refine J.nil (Ej.keep (Keeps.d Keeps.r) ?_)
  refine Ej.round (j + 1, g) ⟨by dsimp only; omega, by dsimp only; rw [hnx, List.append_nil]; exact hg⟩ (by dsimp only; omega) ⟨rfl, rfl, by dsimp only; rw [hnx, List.append_nil]; rfl, rfl, rfl, rfl, trivial⟩ rfl (by dsimp only; rw [hnx, List.append_nil])
 have hc2p := odf hc2
 refine Cj.exit (Ej.seqExit (Ej.loopExit (Ej.blkExit (Ej.seq (Cj.seq ?_)))))
 have hfull : f.subs.take j = f.subs := List.take_of_length_le (by omega)
 rw [hfull] at hg ⊢
 refine Cj.perm (H' := gH _ _ _ ++ []) (.of_eq (List.append_nil _)) ?_
 refine Cj.keepS hg (fun I8 hle8 hv => ?_)
 refine Cj.region (J.z q0 ?_)
 refine J.z q1 ?_
 refine J.ns (Cj.ret (q5 ?_))
 exact ⟨_, rfl, hv, rfl⟩
theorem named_ok (f : Ke.Fld) (hn : f.subs.length ≤ 2000000) (htx : textsLen f.subs ≤ 3000000) (I : Heap) (hr : RowS subC I f.subs f.sv) : Ctr Tryz.prog 147 [.agg (fldC f).toArray] I []
    (fun e I' H' => ∃ v, e = .returned (.tuple #[str (Ix.named f).1, v]) ∧ StrS 9 I' (Ix.named f).2 v ∧ H' = []) := by
 refine Ctr.ob func147 ?_
 intro w0 hw0
 refine Cj.sr (J.op rfl (q15 ?_))
 intro b1 hb1
 refine J.z q1 ?_
 refine J.z q1 ?_
 refine J.nsss (Cj.region (J.z (q2 (off' := 0) tU108 tS9) ?_))
 refine J.z (q3 tA9 (Blk.at 0 rfl)) ?_
 refine J.ns (Cj.block (Cj.seq (Cj.sr (J.z (yl_eqlStr rfl rfl rfl) ?_))))
 refine J.z q1 ?_
 refine J.cd (fun hc2 => ?_) (fun hc2 => ?_)
 ·have hc2p := ebq hc2
  refine Cj.skip (Ej.seq (Cj.cond rfl (fun hc3 => ?_) (fun hc3 => Bool.noConfusion (Eq.trans (Eq.symm hc2) hc3))))
  refine Cj.sr (J.z (q10 tA108 tS108 (Blk.at 0 rfl)) ?_)
  refine J.op rfl (op_pure rfl rfl rfl rfl rfl (itext_ok f [97, 98] hn htx _ hr) ?_)
  refine J.eqv 10 rfl (show _ = str (Ke.textOf f [97, 98]) from (congrArg str (textX_of (List.cons_ne_nil _ _)))) ?_
  refine J.op rfl (q17 tU69 tS9 tZ9 (LCat.one rfl LCat.none) ?_)
  intro b4 hb4
  refine J.z q1 ?_
  refine J.z q1 ?_
  refine J.ns (Cj.ret (Ej.blkRet (Ej.seqRet ?_)))
  have hnm : Ix.named f = (Ix.nTitle, [Ke.textOf f [97, 98]]) := by simp [Ix.named, *]
  rw [hnm]
  refine Ej.persist hb4 (fun I6 hle5 hb4i => ?_)
  refine Ej.bare ?_
  refine q20 ?_
  exact ⟨_, rfl, .inr ⟨b4, 1, [], rfl, Nat.le_refl _, hb4i⟩, rfl⟩
 have hc2p := nbf hc2
 refine Cj.region (J.z (yl_eqlStr rfl rfl rfl) ?_)
 refine J.z q1 ?_
 refine J.cd (fun hc7 => ?_) (fun hc7 => ?_)
 ·have hc7p := ebq hc7
  refine Cj.sr (J.z (q10 tA108 tS108 (Blk.at 0 rfl)) ?_)
  refine J.op rfl (op_pure rfl rfl rfl rfl rfl (itext_ok f [97, 98] hn htx _ hr) ?_)
  refine J.eqv 10 rfl (show _ = str (Ke.textOf f [97, 98]) from (congrArg str (textX_of (List.cons_ne_nil _ _)))) ?_
  refine J.op rfl (q17 tU69 tS9 tZ9 (LCat.one rfl LCat.none) ?_)
  intro b8 hb8
  refine J.z q1 ?_
  refine J.z q1 ?_
  refine J.ns (Cj.ret (Ej.blkRet (Ej.seqRet ?_)))
  have hnm : Ix.named f = (Ix.nTitle, [Ke.textOf f [97, 98]]) := by simp [Ix.named, *]
  rw [hnm]
  refine Ej.persist hb8 (fun I10 hle9 hb8i => ?_)
  refine Ej.bare ?_
  refine q20 ?_
  exact ⟨_, rfl, .inr ⟨b8, 1, [], rfl, Nat.le_refl _, hb8i⟩, rfl⟩
 have hc7p := nbf hc7
 refine Cj.seq (Cj.sr (J.z (yl_eqlStr rfl rfl rfl) ?_))
 refine J.z q1 ?_
 refine J.cd (fun hc11 => ?_) (fun hc11 => ?_)
 ·have hc11p := ebq hc11
  refine Cj.skip (Ej.seq (Cj.cond rfl (fun hc12 => ?_) (fun hc12 => Bool.noConfusion (Eq.trans (Eq.symm hc11) hc12))))
  refine Cj.sr (J.z (q10 tA108 tS108 (Blk.at 0 rfl)) ?_)
  refine J.op rfl (op_pure rfl rfl rfl rfl rfl (itext_ok f [97] hn htx _ hr) ?_)
  refine J.eqv 17 rfl (show _ = str (Ke.textOf f [97]) from (congrArg str (textX_of (List.cons_ne_nil _ _)))) ?_
  refine J.op rfl (q17 tU69 tS9 tZ9 (LCat.one rfl LCat.none) ?_)
  intro b13 hb13
  refine J.z q1 ?_
  refine J.z q1 ?_
  refine J.ns (Cj.ret (Ej.blkRet (Ej.seqRet ?_)))
  have hnm : Ix.named f = (Ix.nAuthor, [Ke.textOf f [97]]) := by simp [Ix.named, *]
  rw [hnm]
  refine Ej.persist hb13 (fun I15 hle14 hb13i => ?_)
  refine Ej.bare ?_
  refine q20 ?_
  exact ⟨_, rfl, .inr ⟨b13, 1, [], rfl, Nat.le_refl _, hb13i⟩, rfl⟩
 have hc11p := nbf hc11
 refine Cj.sr (J.z (yl_eqlStr rfl rfl rfl) ?_)
 refine J.z q1 ?_
 refine J.cd (fun hc16 => ?_) (fun hc16 => ?_)
 ·have hc16p := ebq hc16
  refine Cj.skip (Ej.seq (Cj.cond rfl (fun hc17 => ?_) (fun hc17 => Bool.noConfusion (Eq.trans (Eq.symm hc16) hc17))))
  refine Cj.sr (J.z (q10 tA108 tS108 (Blk.at 0 rfl)) ?_)
  refine J.op rfl (op_pure rfl rfl rfl rfl rfl (itext_ok f [97] hn htx _ hr) ?_)
  refine J.eqv 17 rfl (show _ = str (Ke.textOf f [97]) from (congrArg str (textX_of (List.cons_ne_nil _ _)))) ?_
  refine J.op rfl (q17 tU69 tS9 tZ9 (LCat.one rfl LCat.none) ?_)
  intro b18 hb18
  refine J.z q1 ?_
  refine J.z q1 ?_
  refine J.ns (Cj.ret (Ej.blkRet (Ej.seqRet ?_)))
  have hnm : Ix.named f = (Ix.nAuthor, [Ke.textOf f [97]]) := by simp [Ix.named, *]
  rw [hnm]
  refine Ej.persist hb18 (fun I20 hle19 hb18i => ?_)
  refine Ej.bare ?_
  refine q20 ?_
  exact ⟨_, rfl, .inr ⟨b18, 1, [], rfl, Nat.le_refl _, hb18i⟩, rfl⟩
 have hc16p := nbf hc16
 refine Cj.region (J.z (yl_eqlStr rfl rfl rfl) ?_)
 refine J.z q1 ?_
 refine J.cd (fun hc21 => ?_) (fun hc21 => ?_)
 ·have hc21p := ebq hc21
  refine Cj.sr (J.z (q10 tA108 tS108 (Blk.at 0 rfl)) ?_)
  refine J.op rfl (op_pure rfl rfl rfl rfl rfl (itext_ok f [97] hn htx _ hr) ?_)
  refine J.eqv 17 rfl (show _ = str (Ke.textOf f [97]) from (congrArg str (textX_of (List.cons_ne_nil _ _)))) ?_
  refine J.op rfl (q17 tU69 tS9 tZ9 (LCat.one rfl LCat.none) ?_)
  intro b22 hb22
  refine J.z q1 ?_
  refine J.z q1 ?_
  refine J.ns (Cj.ret (Ej.blkRet (Ej.seqRet ?_)))
  have hnm : Ix.named f = (Ix.nAuthor, [Ke.textOf f [97]]) := by simp [Ix.named, *]
  rw [hnm]
  refine Ej.persist hb22 (fun I24 hle23 hb22i => ?_)
  refine Ej.bare ?_
  refine q20 ?_
  exact ⟨_, rfl, .inr ⟨b22, 1, [], rfl, Nat.le_refl _, hb22i⟩, rfl⟩
 have hc21p := nbf hc21
 refine Cj.seq (Cj.sr (J.z (yl_eqlStr rfl rfl rfl) ?_))
 refine J.z q1 ?_
 refine J.cd (fun hc25 => ?_) (fun hc25 => ?_)
 ·have hc25p := ebq hc25
  refine Cj.skip (Ej.seq (Cj.cond rfl (fun hc26 => ?_) (fun hc26 => Bool.noConfusion (Eq.trans (Eq.symm hc25) hc26))))
  refine Cj.sr (J.z (q10 tA108 tS108 (Blk.at 0 rfl)) ?_)
  refine J.op rfl (op_pure rfl rfl rfl rfl rfl (itext_ok f [97, 120] hn htx _ hr) ?_)
  refine J.eqv 23 rfl (show _ = str (Ke.textOf f [97, 120]) from (congrArg str (textX_of (List.cons_ne_nil _ _)))) ?_
  refine J.op rfl (q17 tU69 tS9 tZ9 (LCat.one rfl LCat.none) ?_)
  intro b27 hb27
  refine J.z q1 ?_
  refine J.z q1 ?_
  refine J.ns (Cj.ret (Ej.blkRet (Ej.seqRet ?_)))
  have hnm : Ix.named f = (Ix.nSubject, [Ke.textOf f [97, 120]]) := by simp [Ix.named, *]
  rw [hnm]
  refine Ej.persist hb27 (fun I29 hle28 hb27i => ?_)
  refine Ej.bare ?_
  refine q20 ?_
  exact ⟨_, rfl, .inr ⟨b27, 1, [], rfl, Nat.le_refl _, hb27i⟩, rfl⟩
 have hc25p := nbf hc25
 refine Cj.region (J.z (yl_eqlStr rfl rfl rfl) ?_)
 refine J.z q1 ?_
 refine J.cd (fun hc30 => ?_) (fun hc30 => ?_)
 ·have hc30p := ebq hc30
  refine Cj.sr (J.z (q10 tA108 tS108 (Blk.at 0 rfl)) ?_)
  refine J.op rfl (op_pure rfl rfl rfl rfl rfl (itext_ok f [97, 120] hn htx _ hr) ?_)
  refine J.eqv 23 rfl (show _ = str (Ke.textOf f [97, 120]) from (congrArg str (textX_of (List.cons_ne_nil _ _)))) ?_
  refine J.op rfl (q17 tU69 tS9 tZ9 (LCat.one rfl LCat.none) ?_)
  intro b31 hb31
  refine J.z q1 ?_
  refine J.z q1 ?_
  refine J.ns (Cj.ret (Ej.blkRet (Ej.seqRet ?_)))
  have hnm : Ix.named f = (Ix.nSubject, [Ke.textOf f [97, 120]]) := by simp [Ix.named, *]
  rw [hnm]
  refine Ej.persist hb31 (fun I33 hle32 hb31i => ?_)
  refine Ej.bare ?_
  refine q20 ?_
  exact ⟨_, rfl, .inr ⟨b31, 1, [], rfl, Nat.le_refl _, hb31i⟩, rfl⟩
 have hc30p := nbf hc30
 refine Cj.sr (J.z (yl_eqlStr rfl rfl rfl) ?_)
 refine J.z q1 ?_
 refine J.cd (fun hc34 => ?_) (fun hc34 => ?_)
 ·have hc34p := ebq hc34
  refine Cj.sr (J.z (q10 tA108 tS108 (Blk.at 0 rfl)) ?_)
  refine J.op rfl (op_call (H1 := []) rfl rfl rfl rfl rfl (subfields_ok f 97 137 Ke.isbn hn htx (fun s J h => Isbn_ok s h J) _ hr) ?_ (fun _ _ _ _ ⟨_, h, _⟩ => by cases h) (fun _ _ ⟨_, h, _⟩ => by cases h))
  intro v35 I36 H37 hle38 hp39
  obtain ⟨vl, h, hv, rfl⟩ := hp39; cases h
  refine J.z q1 ?_
  refine J.z q1 ?_
  refine J.ns (Cj.ret (Ej.blkRet (Ej.seqRet ?_)))
  have hnm : Ix.named f = (Ix.nIsbn, f.subs.filterMap Ke.isb) := by simp [Ix.named, *]
  rw [hnm]
  refine Ej.bare ?_
  refine q20 ?_
  exact ⟨_, rfl, hv, rfl⟩
 have hc34p := nbf hc34
 refine Cj.sr (J.z (yl_eqlStr rfl rfl rfl) ?_)
 refine J.z q1 ?_
 refine J.cd (fun hc40 => ?_) (fun hc40 => ?_)
 ·have hc40p := ebq hc40
  refine Cj.sr (J.z (q10 tA108 tS108 (Blk.at 0 rfl)) ?_)
  refine J.op rfl (op_call (H1 := []) rfl rfl rfl rfl rfl (subfields_ok f 99 215 uy hn htx (fun s J h => iyear_ok s h J) _ hr) ?_ (fun _ _ _ _ ⟨_, h, _⟩ => by cases h) (fun _ _ ⟨_, h, _⟩ => by cases h))
  intro v41 I42 H43 hle44 hp45
  obtain ⟨vl, h, hv, rfl⟩ := hp45; cases h
  refine J.z q1 ?_
  refine J.z q1 ?_
  refine J.ns (Cj.ret (Ej.blkRet (Ej.seqRet ?_)))
  have hnm : Ix.named f = (Ix.nYear, f.subs.filterMap Ix.yr) := by simp [Ix.named, *]
  rw [hnm]
  refine Ej.bare ?_
  refine q20 ?_
  rw [← pick_yr]
  exact ⟨_, rfl, hv, rfl⟩
 have hc40p := nbf hc40
 refine Cj.skip (Ej.blkNormal (Ej.seq (Cj.sr (J.z q1 ?_))))
 refine J.z q1 ?_
 refine J.ns (Cj.ret ?_)
 have hnm : Ix.named f = ([], []) := by simp [Ix.named, *]
 rw [hnm]
 refine Ej.bare ?_
 refine q20 ?_
 exact ⟨_, rfl, .inl ⟨rfl, rfl⟩, rfl⟩
theorem valuesOf_ok (fs : List Ke.Fld) (v : Value) (rk rl : UInt8) (hok : EOK fs) (I : Heap) (hr0 : RecS I fs v) : Ctr Tryz.prog 95 [recV rk rl v] I []
    (fun e I' H' => ∃ w, e = .returned w ∧ ValsS I' (Ix.vals fs) w ∧ H' = []) := by
 have hfs := hok.1
 obtain ⟨p, c, rfl, hc, -⟩ := id hr0.1
 refine Ctr.ob func95 ?_
 intro w0 hw0
 refine Cj.sr (J.op rfl (q15 ?_))
 intro b1 hb1
 refine J.z q1 ?_
 refine J.nssr (J.z q1 ?_)
 refine J.nsss (Cj.region (J.z (q2 (off' := 2) tU57 tS55) ?_))
 refine J.z (q3 isAgg55 (Blk.at 0 rfl)) ?_
 refine J.z (q14 tU55) ?_
 refine J.z q0 ?_
 refine J.ns (Cj.block (Cj.keep (Keeps.d Keeps.n) ?_))
 refine Cj.loop (ι := VA) (fun y => y.j ≤ fs.length ∧ Le I y.J ∧ ValsX y.J y.xs (Ix.vals (fs.take y.j)) ∧ gOk w0.heap.size 3 y.xs.length (y.xs.flatMap vwC) y.g) (fun y => fs.length - y.j) (fun y => [(3, gV y.xs.length y.g), (12, .slice p fs.length c), (13, i64 (fs.length : Int)), (14, i64 (y.j : Int))]) (fun y => y.J) (fun y => gH 142 (y.xs.flatMap vwC) y.g) ⟨0, _, [], none⟩ ⟨Nat.zero_le _, Le.refl _, ⟨rfl, fun x hx => by cases hx⟩, rfl, rfl⟩ ⟨rfl, rfl, rfl, rfl, trivial⟩ rfl rfl ?_
 rintro ⟨j, Jh, xs, g⟩ ⟨hj, hIJ, hX, hg⟩
 dsimp only at hj hIJ hX hg ⊢
 have hr := hr0.mono hIJ
 have hxl := hX.len
 have hvl := vals_take fs hok j
 refine Cj.sr (J.z q18 ?_)
 refine J.nss (Cj.cond rfl (fun hc2 => ?_) (fun hc2 => ?_))
 ·have hc2p := odt hc2
  have hlt : j < fs.length := by omega
  obtain ⟨f, hget⟩ : ∃ f, fs[j]? = some f := ⟨_, lgg hlt⟩
  have hfm := lmg hget
  obtain ⟨hk1, hk2, hk3⟩ := hok.2 f hfm
  obtain ⟨⟨p1, c1, hpe, hc1, hp⟩, hsub⟩ := id hr
  cases hpe
  obtain ⟨fb, fo, fcs, fty, ffr, sp, rfl, hfb, hfd⟩ := hp (ne_nil_of hlt)
  have hrf := hsub f hfm
  clear hsub
  obtain ⟨p2, c2, hsv, -, -⟩ := id hrf
  have hnl := named_len f hk1
  have htl3 := textX_len f []
  rw [textX_all] at htl3
  refine Cj.skip (Ej.seq (Cj.seq (Cj.block (Cj.sr (J.z (q16 (off' := fo + j * 4) tU55 tS108) ?_)))))
  refine J.z (yl_loadAgg rfl rfl tA108 tS108 (Blk.imm hfb) (row_from fldC_len hfd hget) rfl) ?_
  refine J.op rfl (q21 tZ108 ?_)
  intro b3 hb3
  refine J.op rfl (op_store 0 rfl rfl rfl rfl rfl (fldC_one hsv) tS108 rfl rfl (LSpl.c (LSpl.c (LSpl.c (LSpl.c LSpl.z)))) LSet.z ?_)
  refine J.nssr (J.z (q10 tA108 tS108 (Blk.at 0 rfl)) ?_)
  refine J.op rfl (op_call (H1 := []) rfl rfl rfl rfl rfl (named_ok f (by omega) hk2 _ hrf) ?_ (fun _ _ _ _ ⟨_, h, _⟩ => by cases h) (fun _ _ ⟨_, h, _⟩ => by cases h))
  intro v4 I5 H6 hle7 hp8
  have hX := hX.mono hle7
  have hIJ := hIJ.mono hle7
  have hrf := hrf.mono hle7
  obtain ⟨vl, h, hls, rfl⟩ := hp8; cases h
  obtain ⟨lp, lc, rfl⟩ := StrS_sl hls
  refine J.z q0 ?_
  refine J.z q11 ?_
  refine J.z q11 ?_
  refine J.z q1 ?_
  refine J.z q1 ?_
  refine J.nsss (Cj.region (J.z q0 ?_))
  refine J.z (q14 tU69) ?_
  refine J.z q0 ?_
  refine J.ns (Cj.block (Cj.keep (Keeps.k Keeps.r) ?_))
  refine Cj.loop (ι := VA) (fun y => y.j ≤ (Ix.named f).2.length ∧ Le I5 y.J ∧ ValsX y.J y.xs (Ix.vals (fs.take j) ++ ((Ix.named f).2.take y.j).map (nv f)) ∧ gOk w0.heap.size 3 y.xs.length (y.xs.flatMap vwC) y.g) (fun y => (Ix.named f).2.length - y.j) (fun y => [(3, gV y.xs.length y.g), (5, ptr b3 0), (6, str (Ix.named f).1), (12, .slice (some ⟨fb, fo, none⟩) fs.length c), (13, i64 (fs.length : Int)), (14, i64 (j : Int)), (23, .slice lp (Ix.named f).2.length lc), (24, i64 ((Ix.named f).2.length : Int)), (25, i64 (y.j : Int))]) (fun y => y.J) (fun y => (b3, cel 108 (fldC f)) :: gH 142 (y.xs.flatMap vwC) y.g) ⟨0, _, xs, g⟩ ⟨Nat.zero_le _, Le.refl _, by dsimp only; rw [List.take_zero, List.map_nil, List.append_nil]; exact hX, hg⟩ ⟨rfl, rfl, rfl, rfl, rfl, rfl, rfl, rfl, rfl, trivial⟩ rfl rfl ?_
  rintro ⟨q, Kh, xs, g⟩ ⟨hq, hIK, hX, hg⟩
  dsimp only at hq hIK hX hg ⊢
  have hIJ := hIJ.mono hIK
  have hrf := hrf.mono hIK
  have hls := hls.mono hIK
  have hxl := hX.len
  rw [List.length_append, List.length_map, List.length_take, Nat.min_eq_left hq] at hxl
  refine Cj.sr (J.z q18 ?_)
  refine J.nss (Cj.cond rfl (fun hc9 => ?_) (fun hc9 => ?_))
  ·have hc9p := odt hc9
   have hqlt : q < (Ix.named f).2.length := by omega
   obtain ⟨s, hqget⟩ : ∃ s, (Ix.named f).2[q]? = some s := ⟨_, lgg hqlt⟩
   have hsl := named_text (lmg hqget)
   obtain ⟨lb, lc1, lsp, hle1, hlb⟩ := hls.some (ne_nil_of hqlt)
   cases hle1
   refine Cj.skip (Ej.seq (Cj.seq (Cj.block (Cj.sr (J.z (q16 (off' := q) tU69 tS9) ?_)))))
   refine J.z (yl_load rfl rfl tA9 (Blk.imm hlb) (str_get hqget)) ?_
   refine J.z q1 ?_
   refine J.nsr (J.z q0 ?_)
   refine J.z q0 ?_
   refine J.z q0 ?_
   refine J.z (q10 tA108 tS108 (Blk.at 0 rfl)) ?_
   refine J.op rfl (op_pure rfl rfl rfl rfl rfl (skip_ok f hk3 _) ?_)
   refine J.op rfl (op_pure rfl rfl rfl rfl rfl (Sort_ok s ((Ix.skipT f : Nat) : Int) (by omega) _) ?_)
   refine J.z q0 ?_
   refine J.op rfl (op_call (H1 := []) rfl rfl rfl rfl rfl (Words_ok s (by omega) _) ?_ (fun _ _ _ _ ⟨_, h, _⟩ => by cases h) (fun _ _ ⟨_, h, _⟩ => by cases h))
   intro v10 I11 H12 hle13 hp14
   have hX := hX.mono hle13
   have hIK := hIK.mono hle13
   obtain ⟨vw1, h, hw1, rfl⟩ := hp14; cases h
   obtain ⟨pvw1, cvw1, rfl⟩ := StrS_sl hw1
   refine J.z (yl_buildS (pl := #[(0, 1), (1, 1), (2, 1)]) rfl rfl tZ142 rfl tU142 (fun w => by simp []) (LBld.part rfl rfl rfl (LSpl.c LSpl.z) (LBld.part rfl rfl rfl (LSpl.s (LSpl.c LSpl.z)) (LBld.part rfl rfl rfl (LSpl.s (LSpl.s (LSpl.c LSpl.z))) LBld.none)))) ?_
   refine J.op rfl (q17 tU140 tS142 tZ142 (LCat.agg rfl LCat.none) ?_)
   intro b15 hb15
   refine J.op rfl (op_append (by' := 55) [_, _] rfl rfl rfl rfl rfl tU140 (.inr ⟨_, tU140⟩) (by kernel_rfl) tS142 tZ142 rfl hg rfl (Src.slice (Blk.at 0 rfl) rfl rfl (vw_one hw1 rfl rfl)) (by omega) ?_)
   intro g16 hg16
   refine J.z q1 ?_
   refine J.nil (Ej.blkNormal (Ej.seq (Cj.region (J.z (yl_add rfl rfl rfl (w64 (by omega))) ?_))))
   refine J.z q0 ?_
   refine J.nil (Ej.keep (Keeps.d (Keeps.k Keeps.r)) ?_)
   refine Ej.round ⟨q + 1, _, xs ++ [(nv f s, _)], g16⟩ ⟨by dsimp only; omega, hIK, by dsimp only; rw [map_next (nv f) hqget, ← List.append_assoc]; exact hX.add hw1, by dsimp only; rw [List.length_append, List.flatMap_append]; exact hg16⟩ (by dsimp only; omega) ⟨by dsimp only; rw [List.length_append]; rfl, rfl, rfl, rfl, rfl, rfl, rfl, rfl, rfl, trivial⟩ rfl (by dsimp only; rw [List.flatMap_append]; rfl)
  have hc9p := odf hc9
  rw [List.take_of_length_le (by omega : (Ix.named f).2.length ≤ q)] at hX
  refine Cj.exit (Ej.seqExit (Ej.loopExit (Ej.blkExit (Ej.seq (Cj.sr (J.z (q2 (off' := 0) tU108 tS9) ?_))))))
  refine J.z (q3 tA9 (Blk.at 0 rfl)) ?_
  refine J.op rfl (op_pure rfl rfl rfl rfl rfl (HasPrefix_ok f.tag [48, 48] (by decide) _) ?_)
  refine J.z (yl_not rfl rfl) ?_
  refine J.z q0 ?_
  refine J.split 45 rfl (fun hg17 => ?_) (fun hg17 => ?_)
  rotate_left
  ·have hany : ¬ Ix.anyOk f = true := by unfold Ix.anyOk; rw [Bool.and_eq_true]; exact fun e => Bool.noConfusion (e.1.symm.trans hg17)
   refine q12 4 45 46 true hg17 ?_
   refine q12 4 45 47 true hg17 ?_
   refine q12 4 45 48 true hg17 ?_
   refine q12 4 45 49 true hg17 ?_
   refine J.z (q23 hg17) ?_
   refine J.c0 (fun hc26 => ?_)
   refine Cj.skip (Ej.blkNormal (Ej.seq (Cj.region (J.z (yl_add rfl rfl rfl (w64 (by omega))) ?_))))
   refine J.z q0 ?_
   refine J.nil (Ej.keep (Keeps.d Keeps.r) ?_)
   refine Ej.round ⟨j + 1, _, xs, g⟩ ⟨by dsimp only; omega, hIJ, by dsimp only; rw [vals_next hget]; unfold Ix.vals1; rw [if_neg hany, List.append_nil]; exact hX, by dsimp only; exact hg⟩ (by dsimp only; omega) ⟨rfl, rfl, rfl, rfl, trivial⟩ rfl rfl
  refine q13 4 45 true hg17 (q7 (q2 (off' := 0) tU108 tS9) ?_)
  refine q13 4 45 true hg17 (q7 (q3 tA9 (Blk.at 0 rfl)) ?_)
  refine J.opG 4 45 true _ rfl rfl rfl hg17 (op_pure rfl rfl rfl rfl rfl (HasPrefix_ok f.tag [57] (by decide) _) ?_)
  refine q13 4 45 true hg17 (q7 (yl_not rfl rfl) ?_)
  refine J.z (q22 hg17) ?_
  refine J.cd (fun hc18 => ?_) (fun hc18 => ?_)
  ·have hany : Ix.anyOk f = true := by unfold Ix.anyOk; rw [Bool.and_eq_true]; exact ⟨hg17, hc18⟩
   refine Cj.sr (J.z (q10 tA108 tS108 (Blk.at 0 rfl)) ?_)
   refine J.op rfl (op_pure rfl rfl rfl rfl rfl (itext_ok f [] (by omega) hk2 _ hrf) ?_)
   refine J.eqv 52 rfl (show _ = str (Ix.allText f) from (congrArg str (textX_all f))) ?_
   refine J.z q1 ?_
   refine J.nsr (J.z q0 ?_)
   refine J.z q0 ?_
   refine J.op rfl (op_pure rfl rfl rfl rfl rfl (Sort_ok (Ix.allText f) 0 (by omega) _) ?_)
   refine J.z q0 ?_
   refine J.op rfl (op_call (H1 := []) rfl rfl rfl rfl rfl (Words_ok (Ix.allText f) (by omega) _) ?_ (fun _ _ _ _ ⟨_, h, _⟩ => by cases h) (fun _ _ ⟨_, h, _⟩ => by cases h))
   intro v19 I20 H21 hle22 hp23
   have hX := hX.mono hle22
   have hIJ := hIJ.mono hle22
   obtain ⟨vw2, h, hw2, rfl⟩ := hp23; cases h
   obtain ⟨pvw2, cvw2, rfl⟩ := StrS_sl hw2
   refine J.z (yl_buildS (pl := #[(0, 1), (1, 1), (2, 1)]) rfl rfl tZ142 rfl tU142 (fun w => by simp []) (LBld.part rfl rfl rfl (LSpl.c LSpl.z) (LBld.part rfl rfl rfl (LSpl.s (LSpl.c LSpl.z)) (LBld.part rfl rfl rfl (LSpl.s (LSpl.s (LSpl.c LSpl.z))) LBld.none)))) ?_
   refine J.op rfl (q17 tU140 tS142 tZ142 (LCat.agg rfl LCat.none) ?_)
   intro b24 hb24
   refine J.op rfl (op_append (by' := 55) [_, _] rfl rfl rfl rfl rfl tU140 (.inr ⟨_, tU140⟩) (by kernel_rfl) tS142 tZ142 rfl hg rfl (Src.slice (Blk.at 0 rfl) rfl rfl (vw_one hw2 rfl rfl)) (by omega) ?_)
   intro g25 hg25
   refine J.z q1 ?_
   refine J.nil (Ej.blkNormal (Ej.seq (Cj.region (J.z (yl_add rfl rfl rfl (w64 (by omega))) ?_))))
   refine J.z q0 ?_
   refine J.nil (Ej.keep (Keeps.d (Keeps.d Keeps.r)) ?_)
   refine Ej.round ⟨j + 1, _, xs ++ [(⟨Ix.nAny, Ix.allText f, 0⟩, _)], g25⟩ ⟨by dsimp only; omega, hIJ, by dsimp only; rw [vals_next hget]; unfold Ix.vals1; rw [if_pos hany, ← List.append_assoc]; exact hX.add hw2, by dsimp only; rw [List.length_append, List.flatMap_append]; exact hg25⟩ (by dsimp only; omega) ⟨by dsimp only; rw [List.length_append]; rfl, rfl, rfl, rfl, trivial⟩ rfl (by dsimp only; rw [List.flatMap_append]; rfl)
  have hany : ¬ Ix.anyOk f = true := by unfold Ix.anyOk; rw [Bool.and_eq_true]; exact fun e => Bool.noConfusion (e.2.symm.trans hc18)
  refine Cj.skip (Ej.blkNormal (Ej.seq (Cj.region (J.z (yl_add rfl rfl rfl (w64 (by omega))) ?_))))
  refine J.z q0 ?_
  refine J.nil (Ej.keep (Keeps.d Keeps.r) ?_)
  refine Ej.round ⟨j + 1, _, xs, g⟩ ⟨by dsimp only; omega, hIJ, by dsimp only; rw [vals_next hget]; unfold Ix.vals1; rw [if_neg hany, List.append_nil]; exact hX, by dsimp only; exact hg⟩ (by dsimp only; omega) ⟨rfl, rfl, rfl, rfl, trivial⟩ rfl rfl
 have hc2p := odf hc2
 refine Cj.exit (Ej.seqExit (Ej.loopExit (Ej.blkExit (Ej.seq (Cj.seq ?_)))))
 have hfull : fs.take j = fs := List.take_of_length_le (by omega)
 rw [hfull] at hX
 refine Cj.perm (H' := gH _ _ _ ++ []) (.of_eq (List.append_nil _)) ?_
 refine Cj.keepT vwC_len (by decide) hg rfl (fun I8 hle8 hv => ?_)
 have hX := hX.mono hle8
 refine Cj.region (J.z q0 ?_)
 refine J.z q1 ?_
 refine J.ns (Cj.ret (q5 ?_))
 exact ⟨_, rfl, ⟨xs, hv, hX⟩, rfl⟩
end Go.Proofs.YtekmeaoblpfnpaaGreatDoor
namespace Go.Sx
open Go
section
variable {cx : Cx} {Q : Qt} {o : Oper} {e : Env} {I : Heap} {H : HL} {C : Ct} {S : World → Prop} {α : Type} [BEq α] [LawfulBEq α]
def mit (m since : Nat) (vis : ML α) (last : Nat) : Obj := .mapIter (some m) since (vis.map (·.2.2)).toArray last
omit [BEq α] [LawfulBEq α] in
theorem op_rangeMap {T K E d m c : Nat} {x : Operand} {kv : α → Value} {l : ML α} (ho : o.op = .range T x) (hd : o.dst = some d) (hn : Nat.blt d cx.n = true) (hx : ev e x = some (.map (some m))) (hu : cx.P.underlying T = some (.map K E)) (hb : Blk (SS I H) m (mobj kv l c))
    (k : ∀ b, cx.w0.heap.size ≤ b → C ((d, ptr b 0) :: e) I ((b, mit m c ([] : ML α) c) :: H)) : OpJ cx Q o e I H C := by
  intro Kk hK a w ha hs
  unfold Oper.wp
  have : (execOp a.eval o).run cx.P w = .ok (.value (ptr w.heap.size 0)) { w with heap := w.heap.push (mit m c ([] : ML α) c) } := by
    have hr := run_range_map (P := cx.P) w T K E m _ c hu (hb w hs.ss)
    simp only [execOp, ho, ha.eval hx, Sem.run_bind, hr, Result.andThen_ok, Sem.run_pure]
    rfl
  rw [this]
  simp only [Oper.upon, hd]
  exact hK _ _ _ (k _ hs.size) _ _ (ha.put hn) (hs.alloc _)
theorem op_rangeNil {T K E d : Nat} {x : Operand} (ho : o.op = .range T x) (hd : o.dst = some d) (hn : Nat.blt d cx.n = true) (hx : ev e x = some (.map none)) (hu : cx.P.underlying T = some (.map K E))
    (k : ∀ b, cx.w0.heap.size ≤ b → C ((d, ptr b 0) :: e) I ((b, .mapIter none 0 #[] 0) :: H)) : OpJ cx Q o e I H C := by
  intro Kk hK a w ha hs
  unfold Oper.wp
  have : (execOp a.eval o).run cx.P w = .ok (.value (ptr w.heap.size 0)) { w with heap := w.heap.push (.mapIter none 0 #[] 0) } := by
    have hr := run_range_nilMap (P := cx.P) w T K E hu
    simp only [execOp, ho, ha.eval hx, Sem.run_bind, hr, Result.andThen_ok, Sem.run_pure]
    rfl
  rw [this]
  simp only [Oper.upon, hd]
  exact hK _ _ _ (k _ hs.size) _ _ (ha.put hn) (hs.alloc _)
theorem op_nextNil {d b : Nat} {x : Operand} (i : Nat) (ho : o.op = .next x false) (hd : o.dst = some d) (hn : Nat.blt d cx.n = true) (hx : ev e x = some (ptr b 0)) (hH : H[i]? = some (b, .mapIter none 0 #[] 0))
    (k : C ((d, .tuple #[.bool false]) :: e) I H) : OpJ cx Q o e I H C := by
  intro Kk hK a w ha hs
  unfold Oper.wp
  have hb := hs.own _ (List.mem_of_getElem? hH)
  have : (execOp a.eval o).run cx.P w = .ok (.value (.tuple #[.bool false])) w := by
    simp only [execOp, ho, ha.eval hx, Instr.next, getObj, Sem.run_bind, Sem.run, hb, Result.andThen]
    rfl
  rw [this]
  simp only [Oper.upon, hd]
  exact hK _ _ _ k _ _ (ha.put hn) hs
omit [BEq α] [LawfulBEq α] in
theorem op_nextMap {d b m since last c : Nat} {x : Operand} {kv : α → Value} {l vis rest : ML α} (i : Nat) (ho : o.op = .next x false) (hd : o.dst = some d) (hn : Nat.blt d cx.n = true) (hx : ev e x = some (ptr b 0)) (hH : H[i]? = some (b, mit m since vis last)) (hm : Blk (SS I H) m (mobj kv l c))
    (hold : ∀ p ∈ l, p.2.2 < since) (hsc : since ≤ last) (hnd : (l.map (·.2.2)).Nodup) (hp : (vis ++ rest).Perm l)
    (k1 : ∀ (p : α × Value × Nat) (r : ML α) (H' : HL), rest.Perm (p :: r) → (vis ++ [p] ++ r).Perm l → LSet H i (b, mit m since (vis ++ [p]) c) H' → C ((d, .tuple #[.bool true, kv p.1, p.2.1]) :: e) I H')
    (k0 : rest = [] → C ((d, .tuple #[.bool false]) :: e) I H) : OpJ cx Q o e I H C := by
  intro Kk hK a w ha hs
  unfold Oper.wp
  have hb := hs.own _ (List.mem_of_getElem? hH)
  have hmw := hm w hs.ss
  have hrun := run_next_at (P := cx.P) w o.type b m since last _ _ c hb hmw (by
    intro y hy
    simp only [List.mem_map] at hy
    obtain ⟨p, hp, rfl⟩ := hy
    exact hold p hp) hsc
  have hnd2 : ((vis ++ rest).map (·.2.2)).Nodup := (hp.map _).nodup_iff.2 hnd
  have hexec : (execOp a.eval o).run cx.P w = ((Instr.next (.pointer (some ⟨b, 0, none⟩)) false o.type).run cx.P w).andThen fun v w' => .ok (.value v) w' := by
    simp only [execOp, ho, ha.eval hx, Sem.run_bind]
    rfl
  have hin : ∀ p : α × Value × Nat, p ∈ l → ((vis.map (·.2.2)).toArray.contains p.2.2 = true ↔ p ∈ vis) := fun p hpl => by
    have hpm : p ∈ vis ++ rest := hp.mem_iff.2 hpl
    rw [Array.contains_iff_mem]
    simp only [List.mem_toArray, List.mem_map]
    constructor
    · rintro ⟨q, hq, he⟩
      rcases List.mem_append.1 hpm with h | h
      · exact h
      rw [List.map_append, List.nodup_append] at hnd2
      exact absurd he (hnd2.2.2 _ (List.mem_map_of_mem hq) _ (List.mem_map_of_mem h))
    exact fun h => ⟨p, h, rfl⟩
  rcases hrun with ⟨h0, hr⟩ | ⟨en, hen, w1, hw1, hr⟩
  · rw [hexec, hr]
    simp only [Result.andThen_ok, Oper.upon, hd]
    refine hK _ _ _ (k0 ?_) _ _ (ha.put hn) hs
    rcases rest with _ | ⟨p, r⟩
    · rfl
    exfalso
    have hpl : p ∈ l := hp.mem_iff.1 (List.mem_append_right _ (.head _))
    have hpv : p ∉ vis := fun h => by
      rw [List.map_append, List.nodup_append] at hnd2
      exact hnd2.2.2 _ (List.mem_map_of_mem h) _ (List.mem_map_of_mem (.head _)) rfl
    have : ment kv p ∈ leftOf (l.map (ment kv)).toArray (vis.map (·.2.2)).toArray := by
      unfold leftOf
      rw [Array.mem_filter]
      refine ⟨by simp only [List.mem_toArray]; exact List.mem_map_of_mem hpl, ?_⟩
      have := (not_congr (hin p hpl)).2 hpv
      simp only [Bool.not_eq_true] at this
      show (!Array.contains _ p.2.2) = true
      rw [this]; rfl
    have h1 := Array.eq_empty_of_size_eq_zero h0
    rw [h1] at this
    simp at this
  rw [hexec, hr]
  simp only [Result.andThen_ok, Oper.upon, hd]
  have hen2 : en ∈ leftOf (l.map (ment kv)).toArray (vis.map (·.2.2)).toArray := by simpa using hen
  unfold leftOf at hen2
  rw [Array.mem_filter] at hen2
  obtain ⟨hel, hns⟩ := hen2
  simp only [List.mem_toArray, List.mem_map] at hel
  obtain ⟨p, hpl, rfl⟩ := hel
  have hpv : p ∉ vis := fun h => by
    have := (hin p hpl).2 h
    change (!Array.contains _ p.2.2) = true at hns
    rw [this] at hns; cases hns
  have hpr : p ∈ rest := (List.mem_append.1 (hp.mem_iff.2 hpl)).resolve_left hpv
  obtain ⟨r1, r2, hrr⟩ := List.append_of_mem hpr
  have hperm : rest.Perm (p :: (r1 ++ r2)) := by rw [hrr]; exact List.perm_middle
  have hperm2 : (vis ++ [p] ++ (r1 ++ r2)).Perm l := by
    refine List.Perm.trans ?_ hp
    rw [List.append_assoc]
    exact List.Perm.append_left _ hperm.symm
  have hset : LSet H i (b, mit m since (vis ++ [p]) c) (H.set i (b, mit m since (vis ++ [p]) c)) := ⟨(List.getElem?_eq_some_iff.1 hH).1, rfl⟩
  have hk := k1 p (r1 ++ r2) _ hperm hperm2 hset
  have hst : St cx.w0 cx.D cx.I0 I (H.set i (b, mit m since (vis ++ [p]) c)) (ChangeMaps.setBlock w1 b (.mapIter (some m) since ((vis.map (·.2.2)).toArray.push p.2.2) c)) := by
    have he : (.mapIter (some m) since ((vis.map (·.2.2)).toArray.push p.2.2) c : Obj) = mit m since (vis ++ [p]) c := by simp [mit]
    rw [show (ment kv p).born = p.2.2 from rfl] at *
    rw [he]
    rcases hw1 with rfl | rfl
    · exact hs.block hH hset
    exact (hs.drewN (w.drawn + 1)).block hH hset
  exact hK _ _ _ hk _ _ (ha.put hn) hst
omit [LawfulBEq α] in
theorem yl_lookupNil1 {T K E : Nat} {m x : Operand} {kv : α → Value} {a : α} {z : Value} {kx : Value} (ho : o.op = .lookup T m x false) (hm : ev e m = some (.map none)) (hx : ev e x = some kx) (hkx : kx = kv a) (hT : cx.P.underlying T = some (.map K E)) (hK : KeyK cx.P K kv) (hz : ∀ w, (zeroValue E).run cx.P w = .ok z w) : Yld cx o e S z := by
  intro w0 w ha _
  subst hkx
  have h1 := hK.1 a [] w
  have h2 : (Instr.findKey K (kv a) []).run cx.P w = .ok none w := h1
  simp [execOp, ho, ha.eval hm, ha.eval hx, Instr.lookup, run_underlying hT, hK.2.1, h2, hz]
omit [LawfulBEq α] in
theorem yl_lookupNil2 {T K E : Nat} {m x : Operand} {kv : α → Value} {a : α} {z : Value} {kx : Value} (ho : o.op = .lookup T m x true) (hm : ev e m = some (.map none)) (hx : ev e x = some kx) (hkx : kx = kv a) (hT : cx.P.underlying T = some (.map K E)) (hK : KeyK cx.P K kv) (hz : ∀ w, (zeroValue E).run cx.P w = .ok z w) : Yld cx o e S (.tuple #[z, .bool false]) := by
  intro w0 w ha _
  subst hkx
  have h1 := hK.1 a [] w
  have h2 : (Instr.findKey K (kv a) []).run cx.P w = .ok none w := h1
  simp [execOp, ho, ha.eval hm, ha.eval hx, Instr.lookup, run_underlying hT, hK.2.1, h2, hz]
omit [BEq α] [LawfulBEq α] in
theorem yl_lenMap {x : Operand} {T K E b c : Nat} {kv : α → Value} {l : ML α} (ho : o.op = .call ⟨.builtin .len, #[x], #[T]⟩) (hx : ev e x = some (.map (some b))) (hu : cx.P.underlying T = some (.map K E)) (hb : Blk S b (mobj kv l c)) : Yld cx o e S (i64 (l.length : Int)) := by
  intro a w ha hs
  have h := hb w hs
  simp [execOp, ho, resolve, invoke, builtin, Builtin.len_, ha.eval hx, run_underlying hu, goInt, getObj, Sem.run, h, mobj]
theorem yl_lenMapNil {x : Operand} {T K E : Nat} (ho : o.op = .call ⟨.builtin .len, #[x], #[T]⟩) (hx : ev e x = some (.map none)) (hu : cx.P.underlying T = some (.map K E)) : Yld cx o e S (i64 0) := by
  intro a w ha _
  simp [execOp, ho, resolve, invoke, builtin, Builtin.len_, ha.eval hx, run_underlying hu, goInt]
end
section
variable {P : Program} {K i : TypeId} {f0 f1 : Field}
theorem run_part0 {xs : Array Value} {t off : Nat} {v : Value} {w : World} (ha : ∀ w, (isAgg t).run P w = .ok false w) (hv : xs[off]? = some v) : (part t xs off).run P w = .ok v w := by
  simp [part, ha, hv]
theorem stru_equal2 (hu : P.underlying K = some (.struct #[f0, f1])) (hp : P.stoodInHeld K = false) (n0 : f0.name ≠ "_") (n1 : f1.name ≠ "_") (o0 : f0.offset = 0) (o1 : f1.offset = 1) (a0 : ∀ w, (isAgg f0.type).run P w = .ok false w) (a1 : ∀ w, (isAgg f1.type).run P w = .ok false w)
    {x0 x1 y0 y1 : Value} {b0 b1 : Bool} (w : World) (e0 : ∀ d w, (Op.equalIn (d + 1) f0.type x0 y0).run P w = .ok b0 w) (e1 : ∀ d w, (Op.equalIn (d + 1) f1.type x1 y1).run P w = .ok b1 w) : ∀ d, (Op.equalIn (d + 2) K (.agg #[x0, x1]) (.agg #[y0, y1])).run P w = .ok (b0 && b1) w := by
  intro d
  have hf : P.fieldsOf K = #[f0, f1] := by simp [Program.fieldsOf, hu]
  rw [run_equalIn_struct w (d + 1) K _ _ (by rw [hf]; exact hu) hp, hf]
  have p0 : ∀ (a b : Value) w, (part f0.type #[a, b] f0.offset).run P w = .ok a w := fun a b w => run_part0 a0 (by rw [o0]; rfl)
  have p1 : ∀ (a b : Value) w, (part f1.type #[a, b] f1.offset).run P w = .ok b w := fun a b w => run_part0 a1 (by rw [o1]; rfl)
  simp only [Op.eqFields, n0, n1, ne_eq, not_false_eq_true, if_true, Sem.run_bind, p0, e0, Result.andThen_ok]
  cases b0
  · simp
  cases b1 <;> simp [Sem.run_bind, p1, e1]
theorem stru_check2 (hu : P.underlying K = some (.struct #[f0, f1])) (n0 : f0.name ≠ "_") (n1 : f1.name ≠ "_") (o0 : f0.offset = 0) (o1 : f1.offset = 1) (a0 : ∀ w, (isAgg f0.type).run P w = .ok false w) (a1 : ∀ w, (isAgg f1.type).run P w = .ok false w)
    {x0 x1 : Value} (b : Bool) (w : World) (e0 : ∀ d w, (Instr.checkKey b (d + 1) f0.type x0).run P w = .ok () w) (e1 : ∀ d w, (Instr.checkKey b (d + 1) f1.type x1).run P w = .ok () w) : ∀ d, (Instr.checkKey b (d + 2) K (.agg #[x0, x1])).run P w = .ok () w := by
  intro d
  have p0 : ∀ w, (part f0.type #[x0, x1] f0.offset).run P w = .ok x0 w := fun w => run_part0 a0 (by rw [o0]; rfl)
  have p1 : ∀ w, (part f1.type #[x0, x1] f1.offset).run P w = .ok x1 w := fun w => run_part0 a1 (by rw [o1]; rfl)
  have e0' := e0 d
  have e1' := e1 d
  generalize hc : Instr.checkKey b (d + 1) = ck at e0' e1'
  rw [show d + 2 = (d + 1) + 1 from rfl, Instr.checkKey]
  rw [hc]
  simp [Sem.run_bind, run_underlying hu, n0, n1, p0, p1, e0', e1']
theorem check_int {b : Bool} {t : TypeId} {k : IntKind} (hu : P.underlying t = some (.int k)) (a : Int) (d : Nat) (w : World) : (Instr.checkKey b (d + 1) t (.int k a)).run P w = .ok () w := by simp [Instr.checkKey, run_underlying hu]
theorem KeyK.ints2 (hu : P.underlying K = some (.struct #[f0, f1])) (hp : P.stoodInHeld K = false) (n0 : f0.name ≠ "_") (n1 : f1.name ≠ "_") (o0 : f0.offset = 0) (o1 : f1.offset = 1) (t0 : f0.type = i) (t1 : f1.type = i) (hi : P.underlying i = some (.int .i64)) (ha : ∀ w, (isAgg i).run P w = .ok false w) :
    KeyK P K (fun a : Int × Int => .agg #[i64 a.1, i64 a.2]) := by
  subst t0
  refine KeyK.equal hu (fun a b => rfl) (fun a b w => ?_) (fun b a w => ?_) (fun a => ?_)
  · have h := stru_equal2 hu hp n0 n1 o0 o1 ha (t1 ▸ ha) (x0 := i64 a.1) (x1 := i64 a.2) (y0 := i64 b.1) (y1 := i64 b.2) w (fun d w => run_equalIn_int w d _ .i64 .i64 a.1 b.1 hi) (fun d w => run_equalIn_int w d _ .i64 .i64 a.2 b.2 (t1 ▸ hi)) 9998
    exact h
  · exact stru_check2 hu n0 n1 o0 o1 ha (t1 ▸ ha) b w (fun d w => check_int hi _ d w) (fun d w => check_int (t1 ▸ hi) _ d w) 9998
  show Instr.sameBits (9999 + 1) _ _ = true
  simp [Instr.sameBits]
end
section
variable {α : Type} [BEq α] [LawfulBEq α]
def MS (l : ML α) (c : Nat) : Prop := (l.map (·.1)).Nodup ∧ (l.map (·.2.2)).Nodup ∧ ∀ p ∈ l, p.2.2 < c
omit [BEq α] [LawfulBEq α] in
theorem MS.nil : MS ([] : ML α) 0 := ⟨.nil, .nil, fun _ h => by simp at h⟩
theorem mget_iff {l : ML α} {a : α} (h : (l.map (·.1)).Nodup) {v : Value} : mget l a = some v ↔ ∃ n, (a, v, n) ∈ l := by
  induction l with
  | nil => simp [mget]
  | cons p r ih =>
    obtain ⟨b, u, n⟩ := p
    rw [List.map_cons, List.nodup_cons] at h
    unfold mget
    by_cases hab : a = b
    · subst hab
      simp only [BEq.rfl, if_true, Option.some.injEq]
      constructor
      · rintro rfl; exact ⟨n, .head _⟩
      rintro ⟨k, hk⟩
      rcases List.mem_cons.1 hk with e | e
      · exact (congrArg (fun x => x.2.1) e).symm
      exact absurd (List.mem_map_of_mem (f := (·.1)) e) h.1
    rw [if_neg (by simpa using hab), ih h.2]
    constructor
    · rintro ⟨k, hk⟩; exact ⟨k, .tail _ hk⟩
    rintro ⟨k, hk⟩
    rcases List.mem_cons.1 hk with e | e
    · exact absurd (congrArg (·.1) e) hab
    exact ⟨k, e⟩
theorem mget_none {l : ML α} {a : α} : mget l a = none ↔ a ∉ l.map (·.1) := by
  induction l with
  | nil => simp [mget]
  | cons p r ih =>
    obtain ⟨b, u, n⟩ := p
    unfold mget
    by_cases hab : a = b
    · subst hab; simp
    rw [if_neg (by simpa using hab), ih]; simp [hab]
theorem mget_mset (l : ML α) (a b : α) (v : Value) (c : Nat) : mget (mset l a v c) b = if b == a then some v else mget l b := by
  induction l with
  | nil => unfold mset mget; by_cases h : b = a <;> simp [h, mget]
  | cons p r ih =>
    obtain ⟨d, u, n⟩ := p
    unfold mset
    by_cases had : a = d
    · subst had
      rw [if_pos (by simp)]
      by_cases h : b = a
      · subst h; simp [mget]
      have h' : (b == a) = false := by simpa using h
      simp [mget, h']
    rw [if_neg (by simpa using had)]
    by_cases hbd : b = d
    · subst hbd
      have h' : (b == a) = false := by simpa using fun e : b = a => had e.symm
      simp [mget, h']
    have h' : (b == d) = false := by simpa using hbd
    simp only [mget, h', Bool.false_eq_true, if_false, ih]
theorem mset_keys {l : ML α} {a : α} {v : Value} {c : Nat} : (mset l a v c).map (·.1) = if a ∈ l.map (·.1) then l.map (·.1) else l.map (·.1) ++ [a] := by
  induction l with
  | nil => simp [mset]
  | cons p r ih =>
    obtain ⟨d, u, n⟩ := p
    unfold mset
    by_cases had : a = d
    · subst had; simp
    rw [if_neg (by simpa using had), List.map_cons, ih]
    by_cases h : a ∈ r.map (·.1)
    · simp [h]
    rw [if_neg h, if_neg (by simp only [List.map_cons, List.mem_cons, not_or]; exact ⟨had, h⟩)]; rfl
theorem mset_mem {l : ML α} {a x : α} {v : Value} {c : Nat} : x ∈ (mset l a v c).map (·.1) ↔ x ∈ l.map (·.1) ∨ x = a := by
  rw [mset_keys]
  split
  · rename_i h
    exact ⟨.inl, fun g => g.elim id (fun e => e ▸ h)⟩
  simp
theorem MS.set {l : ML α} {c : Nat} (h : MS l c) (a : α) (v : Value) : MS (mset l a v c) (mclk l a c) := by
  obtain ⟨h1, h2, h3⟩ := h
  cases hm : mget l a with
  | none =>
    obtain ⟨-, hs⟩ := midx_none l 0 hm
    have ha := mget_none.1 hm
    rw [hs, mclk, hm]
    refine ⟨?_, ?_, ?_⟩
    · rw [List.map_append, List.nodup_append]
      refine ⟨h1, by simp, fun x hx y hy e => ?_⟩
      rw [List.map_cons, List.map_nil, List.mem_singleton] at hy
      exact ha (by have : x = a := e.trans hy; exact this ▸ hx)
    · rw [List.map_append, List.nodup_append]
      refine ⟨h2, by simp, fun x hx y hy e => ?_⟩
      rw [List.map_cons, List.map_nil, List.mem_singleton] at hy
      obtain ⟨p, hp, rfl⟩ := List.mem_map.1 hx
      have := h3 p hp
      dsimp only at hy e
      omega
    intro p hp
    simp only [Option.isSome_none, Bool.false_eq_true, if_false]
    rcases List.mem_append.1 hp with g | g
    · exact Nat.lt_succ_of_lt (h3 p g)
    rw [List.mem_singleton] at g; subst g; exact Nat.lt_succ_self _
  | some u =>
    obtain ⟨j, u', n, -, hj, hs⟩ := midx_some l 0 hm
    have he : ∀ f : α × Value × Nat → Nat ⊕ α, f (a, v, n) = f (a, u', n) → (l.set j (a, v, n)).map f = l.map f := fun f hf => by
      apply List.ext_getElem?
      intro i
      rw [List.getElem?_map, List.getElem?_map, List.getElem?_set]
      by_cases hi : j = i
      · subst hi
        rw [if_pos rfl, hj, if_pos (List.getElem?_eq_some_iff.1 hj).1]
        simp [hf]
      rw [if_neg hi]
    have e1 : (l.set j (a, v, n)).map (·.1) = l.map (·.1) := by
      have := congrArg (List.map (fun s : Nat ⊕ α => match s with | .inr x => x | .inl _ => a)) (he (fun p => .inr p.1) rfl)
      simpa [List.map_map, Function.comp_def] using this
    have e2 : (l.set j (a, v, n)).map (·.2.2) = l.map (·.2.2) := by
      have := congrArg (List.map (fun s : Nat ⊕ α => match s with | .inl x => x | .inr _ => 0)) (he (fun p => .inl p.2.2) rfl)
      simpa [List.map_map, Function.comp_def] using this
    rw [hs, mclk, hm]
    refine ⟨by rw [e1]; exact h1, by rw [e2]; exact h2, fun p hp => ?_⟩
    have : p.2.2 ∈ l.map (·.2.2) := e2 ▸ List.mem_map_of_mem hp
    obtain ⟨q, hq, e⟩ := List.mem_map.1 this
    exact e ▸ h3 q hq
end
section
variable {cx : Cx} {Q : Qt} {o : Oper} {e : Env} {S : World → Prop} {α : Type} [BEq α] [LawfulBEq α]
omit [BEq α] [LawfulBEq α] in
theorem yl_entry {b m since c : Nat} {x : Operand} {kv : α → Value} {l vis : ML α} {p : α × Value × Nat} (ho : o.op = .entry x) (hx : ev e x = some (ptr b 0)) (hb : Blk S b (mit m since (vis ++ [p]) c)) (hm : Blk S m (mobj kv l c)) (hp : p ∈ l) (hn : (l.map (·.2.2)).Nodup) : Yld cx o e S (.tuple #[kv p.1, p.2.1]) := by
  intro w0 w ha hs
  have h1 := hb w hs
  have h2 := hm w hs
  have h3 : w.heap[b]? = some (.mapIter (some m) since ((vis.map (·.2.2)).toArray.push (ment kv p).born) c) := by
    rw [h1]; simp [mit]
  have hr := run_entry_at (P := cx.P) w b m since _ _ c (ment kv p) h3 h2 (by simp only [List.mem_map]; exact ⟨p, hp, rfl⟩) (by
    rw [List.map_map]
    exact hn)
  have : (execOp w0.eval o).run cx.P w = .ok (.value (.tuple #[kv p.1, p.2.1])) w := by
    simp only [execOp, ho, ha.eval hx, Sem.run_bind, hr, Result.andThen_ok, Sem.run_pure]
  exact this
end
section
variable {α β : Type}
variable {cx : Cx} {Q : Qt} {en : Env} {f : β → List Value} {sz : Nat} {T : TypeId} {R : HL} {c : Code}
end
section
variable {α β : Type} [BEq α] [LawfulBEq α]
abbrev kvp (p : α × Value × Nat) : α × Value := (p.1, p.2.1)
def pget (l : List (α × Value)) (a : α) : Option Value := match l with
  | [] => none
  | (b, v) :: r => if a == b then some v else pget r a
def pset (l : List (α × Value)) (a : α) (v : Value) : List (α × Value) := match l with
  | [] => [(a, v)]
  | (b, u) :: r => if a == b then (b, v) :: r else (b, u) :: pset r a v
omit [LawfulBEq α] in
theorem mget_kvp (a : α) : ∀ l : ML α, mget l a = pget (l.map kvp) a
  | [] => rfl
  | (b, v, n) :: r => by simp only [mget, List.map_cons, pget, mget_kvp a r]
omit [LawfulBEq α] in
theorem mset_kvp (a : α) (v : Value) (c : Nat) : ∀ l : ML α, (mset l a v c).map kvp = pset (l.map kvp) a v
  | [] => rfl
  | (b, u, n) :: r => by
    simp only [mset, List.map_cons, pset]
    split
    · rfl
    rw [List.map_cons, mset_kvp a v c r]
theorem pset_at {a : α} {u v : Value} {B : List (α × Value)} : ∀ {A : List (α × Value)}, a ∉ A.map (·.1) → pset (A ++ (a, u) :: B) a v = A ++ (a, v) :: B ∧ pget (A ++ (a, u) :: B) a = some u
  | [], _ => by simp [pset, pget]
  | (b, w) :: A, h => by
    rw [List.map_cons, List.mem_cons, not_or] at h
    obtain ⟨h1, h2⟩ := pset_at (u := u) (v := v) (B := B) h.2
    have hb : (a == b) = false := by simpa using h.1
    simp only [List.cons_append, pset, pget, hb, Bool.false_eq_true, if_false, h1, h2, and_self]
theorem pset_new {a : α} {v : Value} : ∀ {A : List (α × Value)}, a ∉ A.map (·.1) → pset A a v = A ++ [(a, v)] ∧ pget A a = none
  | [], _ => ⟨rfl, rfl⟩
  | (b, w) :: A, h => by
    rw [List.map_cons, List.mem_cons, not_or] at h
    obtain ⟨h1, h2⟩ := pset_new (v := v) h.2
    have hb : (a == b) = false := by simpa using h.1
    simp only [List.cons_append, pset, pget, hb, Bool.false_eq_true, if_false, h1, h2, and_self]
variable {cx : Cx} {Q : Qt} {e : Env} {I : Heap} {H H' : HL}
theorem JA.perm {l : List Oper} {I1 : Heap} {A : HL} {Z : CL} {z fuel : Nat} {listed : Array Bool} (hs : H'.Perm H) (k : JA cx Q l I1 A Z z fuel listed e I H') : JA cx Q l I1 A Z z fuel listed e I H := fun a w ha h1 => k a w ha (h1.perm hs)
