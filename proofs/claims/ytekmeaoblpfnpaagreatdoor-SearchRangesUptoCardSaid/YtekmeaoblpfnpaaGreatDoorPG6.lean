/-
  Own texts on the laws of the seat, joined: the logic, and contracts of functions. Conditions: none.
-/
import Derived.Test.YtekmeaoblpfnpaaGreatDoorPG5
import Derived.Lib.FieldsP
import Derived.Laws.AppendOwn
set_option maxRecDepth 100000
set_option maxHeartbeats 40000000
section
set_option maxHeartbeats 40000000
namespace Go.Proofs.YtekmeaoblpfnpaaGreatDoor
open _root_.Go.Proofs.Tryz
open Go Go.Sx
def StrP (I : Heap) (l : List (List UInt8)) (v : Value) : Prop := ∃ p c, v = .slice p l.length c ∧ l.length ≤ c ∧ (l ≠ [] → ∃ b o cs t fr sp, p = some ⟨b, o, none⟩ ∧ I b = some (.cells (List.toArray cs) t fr) ∧ cs.drop o = l.map str ++ sp)
theorem str_from {cs sp : List Value} {o : Nat} {l : List (List UInt8)} (h : cs.drop o = l.map str ++ sp) {k : Nat} {x : List UInt8} (hx : l[k]? = some x) : cs[o + k]? = some (str x) := by
  rw [← List.getElem?_drop, h]; exact str_get hx
theorem StrP.of {I : Heap} {l : List (List UInt8)} {v : Value} (h : StrS 9 I l v) : StrP I l v := by
  rcases h with ⟨rfl, rfl⟩ | ⟨b, c, sp, rfl, hc, hb⟩
  · exact ⟨none, 0, rfl, Nat.le_refl _, fun h => absurd rfl h⟩
  exact ⟨_, c, rfl, hc, fun _ => ⟨b, 0, _, _, _, sp, rfl, hb, rfl⟩⟩
theorem StrP.mono {I I' : Heap} {l : List (List UInt8)} {v : Value} (h : StrP I l v) (hle : Le I I') : StrP I' l v :=
  let ⟨p, c, h1, h2, h3⟩ := h; ⟨p, c, h1, h2, fun hn => let ⟨b, o, cs, t, fr, sp, h4, h5, h6⟩ := h3 hn; ⟨b, o, cs, t, fr, sp, h4, hle _ _ h5, h6⟩⟩
theorem join_next {l : List (List UInt8)} {k : Nat} {x : List UInt8} (h : l[k]? = some x) : Ke.join (l.take (k + 1)) = (if 0 < k then Ke.join (l.take k) ++ [32] else Ke.join (l.take k)) ++ x := by
  have key : ∀ (a : List (List UInt8)) (x : List UInt8), Ke.join (a ++ [x]) = (if 0 < a.length then Ke.join a ++ [32] else Ke.join a) ++ x := by
    intro a x
    induction a with
    | nil => rfl
    | cons b r ih =>
      cases r with
      | nil => simp [Ke.join]
      | cons c t =>
        have h1 : Ke.join (b :: c :: t ++ [x]) = b ++ [32] ++ Ke.join (c :: t ++ [x]) := rfl
        rw [h1, ih, if_pos (by simp), if_pos (by simp)]
        simp [Ke.join]
  obtain ⟨hlt, hg⟩ := List.getElem?_eq_some_iff.1 h
  rw [List.take_succ_eq_append_getElem hlt, hg, key, List.length_take, Nat.min_eq_left (by omega)]
theorem join_part (l : List (List UInt8)) (k : Nat) : (Ke.join (l.take k)).length ≤ (Ke.join l).length := by
  have key : ∀ a b : List (List UInt8), (Ke.join a).length ≤ (Ke.join (a ++ b)).length := by
    intro a b
    induction a with
    | nil => exact Nat.zero_le _
    | cons x r ih =>
      cases r with
      | nil =>
        cases b with
        | nil => exact Nat.le_refl _
        | cons y t => simp only [Ke.join, List.cons_append, List.nil_append, List.length_append]; omega
      | cons y t =>
        simp only [Ke.join, List.cons_append, List.length_append] at ih ⊢; omega
  have := key (l.take k) (l.drop k)
  rwa [List.take_append_drop] at this
theorem all_at {s : List UInt8} {k : Nat} {c : UInt8} (h : (s.take k).all Ke.digit = true) (hg : s[k]? = some c) (hd : Ke.digit c = true) : (s.take (k + 1)).all Ke.digit = true := by
  obtain ⟨hlt, hg⟩ := List.getElem?_eq_some_iff.1 hg
  rw [List.take_succ_eq_append_getElem hlt, hg, List.all_append, h]; simp [hd]
theorem not_all {s : List UInt8} {k : Nat} {c : UInt8} (hg : s[k]? = some c) (hd : ¬ Ke.digit c = true) : Ke.digits s = false := by
  rcases h : Ke.digits s with _ | _
  · rfl
  exact absurd (List.all_eq_true.1 h c (List.mem_of_getElem? hg)) hd
theorem has_next {s : List UInt8} {k : Nat} {c d : UInt8} (h : c ∉ s.take k) (hg : s[k]? = some d) (hd : d ≠ c) : c ∉ s.take (k + 1) := by
  obtain ⟨hlt, hg⟩ := List.getElem?_eq_some_iff.1 hg
  rw [List.take_succ_eq_append_getElem hlt, hg]
  simp only [List.mem_append, List.mem_singleton]
  rintro (e | e)
  · exact h e
  exact hd e.symm
theorem strip_cons0 {r : List UInt8} (h : r ≠ []) : Ke.strip (48 :: r) = Ke.strip r := by
  cases r with
  | nil => exact absurd rfl h
  | cons a t =>
    unfold Ke.strip
    have h1 : (48 :: a :: t).length - 1 = (a :: t).length - 1 + 1 := rfl
    rw [h1, List.drop_succ_cons]
    rfl
theorem strip_done {x : List UInt8} (h : x.length ≤ 1 ∨ ∃ c r, x = c :: r ∧ c ≠ 48) : Ke.strip x = x := by
  rcases h with h | ⟨c, r, rfl, hc⟩
  · match x, h with
    | [], _ => rfl
    | [a], _ => rfl
  cases r with
  | nil => rfl
  | cons a t =>
    have h1 : (c :: a :: t).dropLast = c :: (a :: t).dropLast := rfl
    have h2 : (c :: a :: t).length - 1 = (a :: t).length - 1 + 1 := rfl
    unfold Ke.strip
    rw [h1, List.dropWhile_cons_of_neg (by simpa using hc), h2, List.drop_succ_cons, List.cons_append]
    congr 1
    rw [List.dropLast_eq_take, List.take_append_drop]
theorem head_of0 {l : List UInt8} {x : UInt8} (h : l[0]? = some x) : l = x :: l.tail := by
  cases l with
  | nil => simp at h
  | cons a r => simp at h; subst h; rfl
theorem rJoin_ok (l : List (List UInt8)) (v : Value) (hl : l.length ≤ 100000000000000) (hs : (Ke.join l).length ≤ 1000000000000) (I : Heap) (hv : StrP I l v) : Pure Tryz.prog 72 [v] I (str (Ke.join l)) := by
 obtain ⟨p, c, rfl, hc, hp⟩ := hv
 refine xob func72 fun w0 hw0 => ?_
 refine axn 17 ?_
 refine Cj.loop (ι := Nat) (fun j => j ≤ l.length) (fun j => l.length - j) (fun j => [(0, .slice p l.length c), (3, str (Ke.join (l.take j))), (4, i64 (j : Int))]) (fun j => I) (fun j => []) 0 (Nat.zero_le _) ⟨rfl, rfl, rfl, trivial⟩ rfl rfl ?_
 intro j hj
 have hjp := join_part l j
 have hjp2 := join_part l (j + 1)
 refine axc (fun hc1 hc1p => ?_) (fun hc1 hc1p => ?_)
 ·
  have hlt : j < l.length := by omega
  obtain ⟨x, hget⟩ : ∃ x, l[j]? = some x := ⟨_, List.getElem?_eq_getElem hlt⟩
  obtain ⟨lb, lo, lcs, lty, lfr, sp, rfl, hlb, hld⟩ := hp (ne_nil_of hlt)
  have hjn := congrArg List.length (join_next hget)
  rw [List.length_append] at hjn
  refine axc (fun hc2 hc2p => ?_) (fun hc2 hc2p => ?_)
  ·
   have hj0 : 0 < j := by have h := of_decide_eq_true hc2; omega
   refine axn 2 ?_
   refine J.z (yl_cat rfl rfl rfl (by rw [if_pos hj0, List.length_append] at hjn; simp only [List.length_cons, List.length_nil] at hjn ⊢; omega)) ?_
   refine xix (lo + j) ?_
   refine J.z (yl_load rfl rfl isAgg9 (Blk.imm hlb) (str_from hld hget)) ?_
   refine J.z (yl_cat rfl rfl rfl (by first | (rw [if_pos hj0, List.length_append] at hjn; simp only [List.length_append, List.length_cons, List.length_nil] at hjn ⊢; omega) | (rw [if_neg hj0] at hjn; omega))) ?_
   refine axn 9 ?_
   refine Ej.round (j + 1) (by omega) (by omega) ⟨rfl, by rw [join_next hget, if_pos hj0]; rfl, rfl, trivial⟩ rfl rfl
  have hj0 : ¬ 0 < j := by have h := of_decide_eq_false hc2; omega
  refine xix (lo + j) ?_
  refine J.z (yl_load rfl rfl isAgg9 (Blk.imm hlb) (str_from hld hget)) ?_
  refine J.z (yl_cat rfl rfl rfl (by first | (rw [if_pos hj0, List.length_append] at hjn; simp only [List.length_append, List.length_cons, List.length_nil] at hjn ⊢; omega) | (rw [if_neg hj0] at hjn; omega))) ?_
  refine axn 9 ?_
  refine Ej.round (j + 1) (by omega) (by omega) ⟨rfl, by rw [join_next hget, if_neg hj0]; rfl, rfl, trivial⟩ rfl rfl
 have hfull : l.take j = l := List.take_of_length_le (by omega)
 refine axe ?_
 rw [hfull]
 exact ⟨rfl, rfl, rfl⟩
theorem rdigits_ok (s : List UInt8) (hs : s.length ≤ 1000000000000) (I : Heap) : Pure Tryz.prog 70 [str s] I (.bool (Ke.digits s)) := by
 refine xob func70 fun w0 hw0 => ?_
 refine axn 12 ?_
 refine Cj.loop (ι := Nat) (fun j => j ≤ s.length ∧ (s.take j).all Ke.digit = true) (fun j => s.length - j) (fun j => [(0, str s), (3, i64 (j : Int))]) (fun j => I) (fun j => []) 0 ⟨Nat.zero_le _, rfl⟩ ⟨rfl, rfl, trivial⟩ rfl rfl ?_
 rintro j ⟨hj, hall⟩
 refine axc (fun hc1 hc1p => ?_) (fun hc1 hc1p => ?_)
 ·
  have hlt : j < s.length := by omega
  obtain ⟨c, hget⟩ : ∃ c, s[j]? = some c := ⟨_, List.getElem?_eq_getElem hlt⟩
  refine axn 8 ?_
  refine J.z (q4 underlying9 hget) ?_
  refine axh (fun hg2 => ?_) (fun hg2 => ?_)
  ·
   have hnd : ¬ Ke.digit c = true := fun e => by have h1 := Ke.digit_iff.1 e; have h := of_decide_eq_true hg2; omega
   refine axe ?_
   rw [not_all hget hnd]
   exact ⟨rfl, rfl, rfl⟩
  have hlo := of_decide_eq_false hg2
  refine axn 2 ?_
  refine J.zg (q4 underlying9 hget) ?_
  refine axc (fun hc4 hc4p => ?_) (fun hc4 hc4p => ?_)
  ·
   have hnd : ¬ Ke.digit c = true := fun e => by have h1 := Ke.digit_iff.1 e; have h := of_decide_eq_true hc4; omega
   refine axe ?_
   rw [not_all hget hnd]
   exact ⟨rfl, rfl, rfl⟩
  have hd : Ke.digit c = true := Ke.digit_iff.2 (by have h := of_decide_eq_false hc4; omega)
  refine axn 8 ?_
  refine Ej.round (j + 1) ⟨by omega, all_at hall hget hd⟩ (by omega) ⟨rfl, rfl, trivial⟩ rfl rfl
 refine axe ?_
 have he : Ke.digits s = true := by rw [List.take_of_length_le (by omega)] at hall; exact hall
 rw [he]
 exact ⟨rfl, rfl, rfl⟩
theorem has_ok (s : List UInt8) (d : UInt8) (hs : s.length ≤ 1000000000000) (I : Heap) : Pure Tryz.prog 180 [str s, u8 d] I (.bool (s.contains d)) := by
 refine xob func180 fun w0 hw0 => ?_
 refine axn 12 ?_
 refine Cj.loop (ι := Nat) (fun j => j ≤ s.length ∧ d ∉ s.take j) (fun j => s.length - j) (fun j => [(0, str s), (1, u8 d), (5, i64 (j : Int))]) (fun j => I) (fun j => []) 0 ⟨Nat.zero_le _, by simp⟩ ⟨rfl, rfl, rfl, trivial⟩ rfl rfl ?_
 rintro j ⟨hj, hno⟩
 refine axc (fun hc1 hc1p => ?_) (fun hc1 hc1p => ?_)
 ·
  have hlt : j < s.length := by omega
  obtain ⟨c, hget⟩ : ∃ c, s[j]? = some c := ⟨_, List.getElem?_eq_getElem hlt⟩
  refine axn 8 ?_
  refine J.z (q4 underlying9 hget) ?_
  refine axc (fun hc2 hc2p => ?_) (fun hc2 hc2p => ?_)
  ·
   have he : c = d := UInt8.toNat_inj.1 (by have h := eq_of_beq hc2; omega)
   refine axe ?_
   have hx : s.contains d = true := by simpa using he ▸ List.mem_of_getElem? hget
   rw [hx]
   exact ⟨rfl, rfl, rfl⟩
  have hne : c ≠ d := fun e => ne_of_beq_false hc2 (by rw [e])
  refine axn 8 ?_
  refine Ej.round (j + 1) ⟨by omega, has_next hno hget hne⟩ (by omega) ⟨rfl, rfl, rfl, trivial⟩ rfl rfl
 refine axe ?_
 have hx : s.contains d = false := by rw [List.take_of_length_le (by omega)] at hno; simpa using hno
 rw [hx]
 exact ⟨rfl, rfl, rfl⟩
theorem number_ok (s : List UInt8) (hs : s.length ≤ 1000000000000) (I : Heap) : Pure Tryz.prog 71 [str s] I (str (Ke.number s)) := by
 refine xob func71 fun w0 hw0 => ?_
 refine axn 7 ?_
 refine Cj.loop (ι := List UInt8) (fun x => Ke.strip x = Ke.strip s ∧ x.length ≤ s.length) (fun x => x.length) (fun x => [(0, str x)]) (fun x => I) (fun x => []) s ⟨rfl, Nat.le_refl _⟩ ⟨rfl, trivial⟩ rfl rfl ?_
 rintro x ⟨hx, hxl⟩
 refine axh (fun hg1 => ?_) (fun hg1 => ?_)
 ·
  have hl1 : 1 < x.length := by have h := of_decide_eq_true hg1; omega
  obtain ⟨c, hget⟩ : ∃ c, x[0]? = some c := ⟨_, List.getElem?_eq_getElem (by omega)⟩
  have hxc : x = c :: x.tail := head_of0 hget
  have htn : x.tail ≠ [] := fun e => by rw [hxc, e] at hl1; simp at hl1
  refine axn 1 ?_
  refine J.zg (q4 underlying9 hget) ?_
  refine axc (fun hc2 hc2p => ?_) (fun hc2 hc2p => ?_)
  ·
   have hx0 : x = 48 :: x.tail := by have h := eq_of_beq hc2; rw [show c = 48 from UInt8.toNat_inj.1 (by rw [show (48 : UInt8).toNat = 48 from rfl]; omega)] at hxc; exact hxc
   refine axn 5 ?_
   refine J.z (yl_sliceStr (p := 1) (q := x.length) rfl rfl underlying9 ⟨_, rfl⟩ rfl (by omega) (by omega)) ?_
   refine J.ev 13 (str x.tail) rfl (by rw [List.take_length, List.drop_one]) ?_
   refine axn 3 ?_
   refine Ej.round x.tail ⟨by rw [← hx, hx0, strip_cons0 htn]; rfl, by rw [List.length_tail]; omega⟩ (by rw [List.length_tail]; omega) ⟨rfl, trivial⟩ rfl rfl
  have hdone : x.length ≤ 1 ∨ ∃ c r, x = c :: r ∧ c ≠ 48 := .inr ⟨c, _, hxc, fun e => ne_of_beq_false hc2 (by rw [e]; rfl)⟩
  have hsl : (Ke.strip s).length = x.length := by rw [← hx, strip_done hdone]
  refine axn 8 ?_
  refine J.ev 14 (str (Ke.strip s)) rfl (by rw [← hx, strip_done hdone]) ?_
  refine axn 1 ?_
  refine J.z (yl_min2 rfl rfl rfl) ?_
  refine J.ev 16 (i64 ((min (Ke.strip s).length 99 : Nat) : Int)) rfl (congrArg i64 (by split <;> omega)) ?_
  refine axn 6 ?_
  refine J.z (yl_quo rfl rfl rfl (by decide) (w64 (by show _ ≤ ((min (Ke.strip s).length 99 / 10 : Nat) : Int) ∧ ((min (Ke.strip s).length 99 / 10 : Nat) : Int) ≤ _; omega))) ?_
  refine J.ev 18 (i64 ((min (Ke.strip s).length 99 / 10 : Nat) : Int)) rfl rfl ?_
  refine axn 1 ?_
  refine J.ev 19 (i64 ((48 + min (Ke.strip s).length 99 / 10 : Nat) : Int)) rfl (congrArg i64 (by omega)) ?_
  refine axn 1 ?_
  refine J.ev 20 (u8 (UInt8.ofNat (48 + min (Ke.strip s).length 99 / 10))) rfl (congrArg (Value.int .u8) (conv8 (by omega))) ?_
  refine axn 2 ?_
  refine J.ev 22 (i64 ((min (Ke.strip s).length 99 % 10 : Nat) : Int)) rfl rfl ?_
  refine axn 1 ?_
  refine J.ev 23 (i64 ((48 + min (Ke.strip s).length 99 % 10 : Nat) : Int)) rfl (congrArg i64 (by omega)) ?_
  refine axn 1 ?_
  refine J.ev 24 (u8 (UInt8.ofNat (48 + min (Ke.strip s).length 99 % 10))) rfl (congrArg (Value.int .u8) (conv8 (by omega))) ?_
  refine axn 1 ?_
  intro b3 hb3
  refine J.z (yl_toStr [UInt8.ofNat (48 + min (Ke.strip s).length 99 / 10), UInt8.ofNat (48 + min (Ke.strip s).length 99 % 10)] rfl rfl rfl underlying192 underlying9 underlying5 (Blk.at 0 rfl) rfl) ?_
  refine axn 1 ?_
  refine J.ev 27 (str (Ke.strip s)) rfl (by rw [← hx, strip_done hdone]) ?_
  refine J.z (yl_cat rfl rfl rfl (by first | omega | (simp only [List.length_append]; omega) | (simp; omega))) ?_
  refine axr ?_
  exact ⟨rfl, rfl, rfl⟩
 have hdone : x.length ≤ 1 ∨ ∃ c r, x = c :: r ∧ c ≠ 48 := .inl (by have h := of_decide_eq_false hg1; omega)
 have hsl : (Ke.strip s).length = x.length := by rw [← hx, strip_done hdone]
 refine axn 15 ?_
 refine J.ev 14 (str (Ke.strip s)) rfl (by rw [← hx, strip_done hdone]) ?_
 refine axn 1 ?_
 refine J.z (yl_min2 rfl rfl rfl) ?_
 refine J.ev 16 (i64 ((min (Ke.strip s).length 99 : Nat) : Int)) rfl (congrArg i64 (by split <;> omega)) ?_
 refine axn 6 ?_
 refine J.z (yl_quo rfl rfl rfl (by decide) (w64 (by show _ ≤ ((min (Ke.strip s).length 99 / 10 : Nat) : Int) ∧ ((min (Ke.strip s).length 99 / 10 : Nat) : Int) ≤ _; omega))) ?_
 refine J.ev 18 (i64 ((min (Ke.strip s).length 99 / 10 : Nat) : Int)) rfl rfl ?_
 refine axn 1 ?_
 refine J.ev 19 (i64 ((48 + min (Ke.strip s).length 99 / 10 : Nat) : Int)) rfl (congrArg i64 (by omega)) ?_
 refine axn 1 ?_
 refine J.ev 20 (u8 (UInt8.ofNat (48 + min (Ke.strip s).length 99 / 10))) rfl (congrArg (Value.int .u8) (conv8 (by omega))) ?_
 refine axn 2 ?_
 refine J.ev 22 (i64 ((min (Ke.strip s).length 99 % 10 : Nat) : Int)) rfl rfl ?_
 refine axn 1 ?_
 refine J.ev 23 (i64 ((48 + min (Ke.strip s).length 99 % 10 : Nat) : Int)) rfl (congrArg i64 (by omega)) ?_
 refine axn 1 ?_
 refine J.ev 24 (u8 (UInt8.ofNat (48 + min (Ke.strip s).length 99 % 10))) rfl (congrArg (Value.int .u8) (conv8 (by omega))) ?_
 refine axn 1 ?_
 intro b5 hb5
 refine J.z (yl_toStr [UInt8.ofNat (48 + min (Ke.strip s).length 99 / 10), UInt8.ofNat (48 + min (Ke.strip s).length 99 % 10)] rfl rfl rfl underlying192 underlying9 underlying5 (Blk.at 0 rfl) rfl) ?_
 refine axn 1 ?_
 refine J.ev 27 (str (Ke.strip s)) rfl (by rw [← hx, strip_done hdone]) ?_
 refine J.z (yl_cat rfl rfl rfl (by first | omega | (simp only [List.length_append]; omega) | (simp; omega))) ?_
 refine axr ?_
 exact ⟨rfl, rfl, rfl⟩
end Go.Proofs.YtekmeaoblpfnpaaGreatDoor
end
section
namespace Go.Sx
open Go
def cutA (a : Option Addr) (c j sz : Nat) : Option Addr := if c = j then a else a.map (·.add (j * sz))
section
variable {cx : Cx} {o : Oper} {e : Env} {S : World → Prop}
theorem yl_slice2 {x y z : Operand} {T E n c sz j k : Nat} {a : Option Addr} {kl kh : IntKind} {kk : Int} (ho : o.op = .slice T x (some y) (some z) none) (hx : ev e x = some (.slice a n c)) (hy : ev e y = some (.int kl (j : Int))) (hz : ev e z = some (.int kh kk)) (hu : cx.P.underlying T = some (.slice E)) (hsz : ∀ w, (sizeOf E).run cx.P w = .ok sz w) (hk : kk = (k : Int)) (hj : j ≤ k) (hc : k ≤ c) :
    Yld cx o e S (.slice (cutA a c j sz) (k - j) (c - j)) := by
  intro w0 w ha _
  subst hk
  have h1 : (k : Int) ≤ c := by omega
  have h2 : (j : Int) ≤ k := by omega
  unfold cutA
  simp [execOp, ho, ha.eval hx, ha.eval hy, ha.eval hz, Instr.sliceAt, Instr.slice, run_underlying hu, Instr.sliceBounds, run_sliceBound, h1, h2, hsz]
theorem yl_slice1 {x y : Operand} {T E n c sz j : Nat} {a : Option Addr} {kl : IntKind} {jj : Int} (ho : o.op = .slice T x (some y) none none) (hx : ev e x = some (.slice a n c)) (hy : ev e y = some (.int kl jj)) (hu : cx.P.underlying T = some (.slice E)) (hsz : ∀ w, (sizeOf E).run cx.P w = .ok sz w) (hjj : jj = (j : Int)) (hj : j ≤ n) (_hc : n ≤ c) :
    Yld cx o e S (.slice (cutA a c j sz) (n - j) (c - j)) := by
  intro w0 w ha _
  subst hjj
  have h1 : (j : Int) ≤ n := by omega
  unfold cutA
  simp [execOp, ho, ha.eval hx, ha.eval hy, Instr.sliceAt, Instr.slice, run_underlying hu, Instr.sliceBounds, run_sliceBound, h1, hsz]
theorem yl_slice0 {x z : Operand} {T E n c sz k : Nat} {a : Option Addr} {kh : IntKind} {kk : Int} (ho : o.op = .slice T x none (some z) none) (hx : ev e x = some (.slice a n c)) (hz : ev e z = some (.int kh kk)) (hu : cx.P.underlying T = some (.slice E)) (hsz : ∀ w, (sizeOf E).run cx.P w = .ok sz w) (hk : kk = (k : Int)) (hc : k ≤ c) :
    Yld cx o e S (.slice a k c) := by
  subst hk
  exact yl_sliceTo ho hx hz hu hsz hc
end
theorem drop_flat {α : Type} {f : α → List Value} {sz : Nat} (hf : ∀ x, (f x).length = sz) : ∀ (l : List α) (j : Nat) (sp : List Value), j ≤ l.length → (l.flatMap f ++ sp).drop (j * sz) = (l.drop j).flatMap f ++ sp
  | l, 0, sp, _ => by simp
  | [], j + 1, sp, h => by simp at h
  | a :: r, j + 1, sp, h => by
    rw [List.flatMap_cons, List.append_assoc, show (j + 1) * sz = (f a).length + j * sz by rw [hf, Nat.add_mul]; omega, ← List.drop_drop, List.drop_left, List.drop_succ_cons]
    exact drop_flat hf r j sp (by simpa using h)
theorem RowS.cut {α : Type} {f : α → List Value} {sz : Nat} (hf : ∀ x, (f x).length = sz) {I : Heap} {l : List α} {a : Option Addr} {n c : Nat} (h : RowS f I l (.slice a n c)) {j k : Nat} (hj : j ≤ k) (hk : k ≤ l.length) : RowS f I ((l.drop j).take (k - j)) (.slice (cutA a c j sz) (k - j) (c - j)) := by
  obtain ⟨p', c', he, hc, hb⟩ := h
  cases he
  refine ⟨_, c - j, by rw [List.length_take, List.length_drop]; congr 1; omega, by rw [List.length_take, List.length_drop]; omega, fun hn => ?_⟩
  have hlt : j < k := by
    rcases Nat.lt_or_ge j k with g | g
    · exact g
    exact absurd (by rw [show k - j = 0 by omega, List.take_zero]) hn
  have hl : l ≠ [] := fun e => hn (by rw [e]; simp)
  obtain ⟨b, o, cs, t, fr, sp, h1, h2, h3⟩ := hb hl
  subst h1
  refine ⟨b, o + j * sz, cs, t, fr, ((l.drop j).drop (k - j)).flatMap f ++ sp, ?_, h2, ?_⟩
  · unfold cutA
    rw [if_neg (by omega), Option.map_some, Addr.add_lit]
  rw [← List.drop_drop, h3, drop_flat hf l j sp (by omega), ← List.append_assoc, ← List.flatMap_append, List.take_append_drop]
end Go.Sx
end
section
namespace Ix
open Ke
abbrev Rec := Int × Int
def lessR (a b : Rec) : Bool := decide (a.1 < b.1) || (decide (a.1 = b.1) && decide (a.2 < b.2))
theorem lessR_iff {a b : Rec} : lessR a b = true ↔ a.1 < b.1 ∨ (a.1 = b.1 ∧ a.2 < b.2) := by simp [lessR]
theorem lessR_irr (a : Rec) : lessR a a = false := by rw [Bool.eq_false_iff, Ne, lessR_iff]; omega
theorem lessR_trans {a b c : Rec} (h1 : lessR a b = true) (h2 : lessR b c = true) : lessR a c = true := by
  rw [lessR_iff] at *; omega
theorem lessR_tri (a b : Rec) : lessR a b = true ∨ a = b ∨ lessR b a = true := by grind [lessR_iff]
section
variable {β : Type}
abbrev Ls (β : Type) := List (Rec × β)
def Srt (l : Ls β) : Prop := l.Pairwise fun a b => lessR a.1 b.1 = true
def rput (t : Rec) (v : β) : Ls β → Ls β
  | [] => [(t, v)]
  | (u, x) :: r => if lessR u t then (u, x) :: rput t v r else if u = t then (t, v) :: r else (t, v) :: (u, x) :: r
def rdrop (t : Rec) (l : Ls β) : Ls β := l.filter fun e => decide (e.1 ≠ t)
def rget (l : Ls β) (t : Rec) : Option β := (l.find? fun e => decide (e.1 = t)).map (·.2)
theorem rput_mem (t : Rec) (v : β) : ∀ {l : Ls β}, Srt l → ∀ e, e ∈ rput t v l ↔ e = (t, v) ∨ (e ∈ l ∧ e.1 ≠ t)
  | [], _, e => by simp [rput]
  | (u, x) :: r, h, e => by
    have h' := List.pairwise_cons.1 h
    unfold rput
    by_cases h1 : lessR u t = true
    · rw [if_pos h1, List.mem_cons, rput_mem t v h'.2, List.mem_cons]
      have hu : u ≠ t := fun g => by rw [g, lessR_irr] at h1; cases h1
      constructor
      · rintro (g | g | g)
        · exact .inr ⟨.inl g, by rw [g]; exact hu⟩
        · exact .inl g
        exact .inr ⟨.inr g.1, g.2⟩
      rintro (g | ⟨g | g, h2⟩)
      · exact .inr (.inl g)
      · exact .inl g
      exact .inr (.inr ⟨g, h2⟩)
    rw [if_neg h1]
    by_cases h2 : u = t
    · rw [if_pos h2, List.mem_cons, List.mem_cons]
      subst h2
      constructor
      · rintro (g | g)
        · exact .inl g
        refine .inr ⟨.inr g, fun h3 => ?_⟩
        have := h'.1 e g
        rw [h3] at this
        simp only [lessR_irr] at this; cases this
      rintro (g | ⟨g | g, h3⟩)
      · exact .inl g
      · exact absurd (by rw [g]) h3
      exact .inr g
    rw [if_neg h2, List.mem_cons]
    have h3 : lessR t u = true := ((lessR_tri u t).resolve_left h1).resolve_left h2
    constructor
    · rintro (g | g)
      · exact .inl g
      refine .inr ⟨g, fun h4 => ?_⟩
      rcases List.mem_cons.1 g with g | g
      · rw [g] at h4; exact h2 h4
      have := lessR_trans h3 (h'.1 e g)
      rw [h4, lessR_irr] at this; cases this
    rintro (g | g)
    · exact .inl g
    exact .inr g.1
theorem rput_srt (t : Rec) (v : β) : ∀ {l : Ls β}, Srt l → Srt (rput t v l)
  | [], _ => List.pairwise_singleton _ _
  | (u, x) :: r, h => by
    have h' := List.pairwise_cons.1 h
    unfold rput
    by_cases h1 : lessR u t = true
    · rw [if_pos h1]
      refine List.pairwise_cons.2 ⟨fun e he => ?_, rput_srt t v h'.2⟩
      rcases (rput_mem t v h'.2 e).1 he with g | g
      · rw [g]; exact h1
      exact h'.1 e g.1
    rw [if_neg h1]
    by_cases h2 : u = t
    · rw [if_pos h2]
      subst h2
      exact List.pairwise_cons.2 ⟨fun e he => h'.1 e he, h'.2⟩
    rw [if_neg h2]
    have h3 : lessR t u = true := ((lessR_tri u t).resolve_left h1).resolve_left h2
    refine List.pairwise_cons.2 ⟨fun e he => ?_, h⟩
    rcases List.mem_cons.1 he with g | g
    · rw [g]; exact h3
    exact lessR_trans h3 (h'.1 e g)
theorem rdrop_srt (t : Rec) {l : Ls β} (h : Srt l) : Srt (rdrop t l) := h.filter _
theorem rdrop_mem (t : Rec) (l : Ls β) (e : Rec × β) : e ∈ rdrop t l ↔ e ∈ l ∧ e.1 ≠ t := by simp [rdrop]
theorem srt_eq {a b : Ls β} (ha : Srt a) (hb : Srt b) (h : ∀ e, e ∈ a ↔ e ∈ b) : a = b := by
  induction a generalizing b with
  | nil =>
    rcases b with _ | ⟨y, t⟩
    · rfl
    exact absurd ((h y).2 (.head _)) (by simp)
  | cons x r ih =>
    rcases b with _ | ⟨y, t⟩
    · exact absurd ((h x).1 (.head _)) (by simp)
    have ha' := List.pairwise_cons.1 ha
    have hb' := List.pairwise_cons.1 hb
    have hxy : x = y := by
      rcases List.mem_cons.1 ((h x).1 (.head _)) with e | e
      · exact e
      rcases List.mem_cons.1 ((h y).2 (.head _)) with e2 | e2
      · exact e2.symm
      have := lessR_trans (hb'.1 x e) (ha'.1 y e2)
      rw [lessR_irr] at this; cases this
    subst hxy
    rw [ih ha'.2 hb'.2 fun z => ⟨fun hz => ?_, fun hz => ?_⟩]
    · rcases List.mem_cons.1 ((h z).1 (.tail _ hz)) with rfl | e
      · have := ha'.1 z hz; rw [lessR_irr] at this; cases this
      exact e
    rcases List.mem_cons.1 ((h z).2 (.tail _ hz)) with rfl | e
    · have := hb'.1 z hz; rw [lessR_irr] at this; cases this
    exact e
theorem srt_key {l : Ls β} (h : Srt l) {a b : Rec × β} (ha : a ∈ l) (hb : b ∈ l) (he : a.1 = b.1) : a = b := by
  induction l with
  | nil => cases ha
  | cons x r ih =>
    have h' := List.pairwise_cons.1 h
    rcases List.mem_cons.1 ha with g1 | g1 <;> rcases List.mem_cons.1 hb with g2 | g2
    · rw [g1, g2]
    · have := h'.1 b g2; rw [← g1, he, lessR_irr] at this; cases this
    · have := h'.1 a g1; rw [← g2, ← he, lessR_irr] at this; cases this
    exact ih h'.2 g1 g2
theorem srt_nodup {l : Ls β} (h : Srt l) : (l.map (·.1)).Nodup := by
  rw [List.nodup_iff_pairwise_ne, List.pairwise_map]
  exact h.imp fun {a b} g e => by rw [e, lessR_irr] at g; cases g
theorem rget_iff {l : Ls β} (h : Srt l) {t : Rec} {v : β} : rget l t = some v ↔ (t, v) ∈ l := by
  unfold rget
  constructor
  · intro g
    obtain ⟨e, he, rfl⟩ := Option.map_eq_some_iff.1 g
    have h1 := List.find?_some he
    have h2 : e.1 = t := of_decide_eq_true h1
    have := List.mem_of_find?_eq_some he
    rw [← h2]; exact this
  intro g
  have hs : (l.find? fun e => decide (e.1 = t)).isSome = true := by
    rw [List.find?_isSome]; exact ⟨_, g, by simp⟩
  obtain ⟨e, he⟩ := Option.isSome_iff_exists.1 hs
  have h0 := List.find?_some he
  have h1 : e.1 = t := of_decide_eq_true h0
  have h2 := srt_key h (List.mem_of_find?_eq_some he) g h1
  rw [he, h2]; rfl
theorem rget_none {l : Ls β} {t : Rec} : rget l t = none ↔ ∀ e ∈ l, e.1 ≠ t := by grind [rget, Option.map_eq_none_iff]
def rputs (es l : Ls β) : Ls β := es.foldl (fun l e => rput e.1 e.2 l) l
end
end Ix
end
section
namespace Ke
def isb (s : Sub) : Option Bs := if (isbn s.text).2 = true ∧ s.code = 97 then some (isbn s.text).1 else none
end Ke
end
section
namespace Ix
open Ke
def runsF (w : Bs) : Bs → List Bs
  | [] => if w = [] then [] else [w]
  | c :: r => if digit c then runsF (w ++ [c]) r else if w = [] then runsF [] r else w :: runsF [] r
def runsD (s : Bs) : List Bs := runsF [] s
def yearOf (s : Bs) : Option Bs := (runsD s).find? fun x => decide (x.length = 4)
structure V where
  name : Bs
  text : Bs
  skip : Nat
def V.key (v : V) : Bs := sortKey v.text v.skip
def V.ws (v : V) : Row := words v.text
def nTitle : Bs := [116, 105, 116, 108, 101]
def nAuthor : Bs := [97, 117, 116, 104, 111, 114]
def nSubject : Bs := [115, 117, 98, 106, 101, 99, 116]
def nIsbn : Bs := [105, 115, 98, 110]
def nYear : Bs := [121, 101, 97, 114]
def nAny : Bs := [97, 110, 121]
def allText (f : Fld) : Bs := join (f.subs.map (·.text))
def yr (s : Sub) : Option Bs := if s.code = 99 then yearOf s.text else none
def named (f : Fld) : Bs × Row :=
  if f.tag = [50, 52, 53] ∨ f.tag = [50, 52, 54] then (nTitle, [textOf f [97, 98]])
  else if f.tag = [49, 48, 48] ∨ f.tag = [49, 49, 48] ∨ f.tag = [55, 48, 48] then (nAuthor, [textOf f [97]])
  else if f.tag = [54, 48, 48] ∨ f.tag = [54, 53, 48] then (nSubject, [textOf f [97, 120]])
  else if f.tag = [48, 50, 48] then (nIsbn, f.subs.filterMap isb)
  else if f.tag = [50, 54, 48] then (nYear, f.subs.filterMap yr)
  else ([], [])
def skipT (f : Fld) : Nat := if f.tag = [50, 52, 53] then skip f else 0
def anyOk (f : Fld) : Bool := !([48, 48] : Bs).isPrefixOf f.tag && !([57] : Bs).isPrefixOf f.tag
def vals1 (f : Fld) : List V := (named f).2.map (fun s => ⟨(named f).1, s, skipT f⟩) ++ if anyOk f then [⟨nAny, allText f, 0⟩] else []
def vals (fs : List Fld) : List V := fs.flatMap vals1
def ofN (f : Fld) (n : Bs) : List (Bs × Nat) :=
  if n = nTitle then (if f.tag = [50, 52, 53] ∨ f.tag = [50, 52, 54] then [(textOf f [97, 98], skipT f)] else [])
  else if n = nAuthor then (if f.tag = [49, 48, 48] ∨ f.tag = [49, 49, 48] ∨ f.tag = [55, 48, 48] then [(textOf f [97], 0)] else [])
  else if n = nSubject then (if f.tag = [54, 48, 48] ∨ f.tag = [54, 53, 48] then [(textOf f [97, 120], 0)] else [])
  else if n = nIsbn then (if f.tag = [48, 50, 48] then (f.subs.filterMap isb).map fun s => (s, 0) else [])
  else if n = nYear then (if f.tag = [50, 54, 48] then (f.subs.filterMap yr).map fun s => (s, 0) else [])
  else if n = nAny then (if anyOk f then [(allText f, 0)] else [])
  else []
def valsN (fs : List Fld) (n : Bs) : List (Bs × Nat) := fs.flatMap fun f => ofN f n
abbrev V.ts (v : V) : Bs × Nat := (v.text, v.skip)
theorem filter_map_name (n m : Bs) (k : Nat) (l : Row) : ((l.map fun s => (⟨m, s, k⟩ : V)).filter fun v => decide (v.name = n)).map V.ts = if m = n then l.map (fun s => (s, k)) else [] := by
  rw [List.filter_map]
  by_cases h : m = n
  · subst h
    simp only [Function.comp_def, decide_true, List.map_map, if_true]
    rw [List.filter_eq_self.2 fun _ _ => rfl]
  simp [Function.comp_def, h]
theorem ofN_named (f : Fld) (n : Bs) (hn : n ≠ nAny) : (if (named f).1 = n then (named f).2.map (fun s => (s, skipT f)) else []) = ofN f n := by
  unfold ofN
  rw [if_neg (c := n = nAny) hn]
  have h245 : f.tag ≠ [50, 52, 53] → skipT f = 0 := fun h => if_neg h
  unfold named
  split
  · rename_i t1
    have a1 : ¬ (f.tag = [49, 48, 48] ∨ f.tag = [49, 49, 48] ∨ f.tag = [55, 48, 48]) := by rintro (g | g | g) <;> rw [g] at t1 <;> revert t1 <;> decide
    have a2 : ¬ (f.tag = [54, 48, 48] ∨ f.tag = [54, 53, 48]) := by rintro (g | g) <;> rw [g] at t1 <;> revert t1 <;> decide
    have a3 : ¬ f.tag = [48, 50, 48] := by intro g; rw [g] at t1; revert t1; decide
    have a4 : ¬ f.tag = [50, 54, 48] := by intro g; rw [g] at t1; revert t1; decide
    rw [if_neg a1, if_neg a2, if_neg a3, if_neg a4]
    by_cases n1 : n = nTitle
    · subst n1; simp
    simp [n1, Ne.symm n1]
  rename_i t1
  have hk : skipT f = 0 := h245 fun g => t1 (.inl g)
  rw [hk]
  split
  · rename_i t2
    have a2 : ¬ (f.tag = [54, 48, 48] ∨ f.tag = [54, 53, 48]) := by rintro (g | g) <;> rw [g] at t2 <;> revert t2 <;> decide
    have a3 : ¬ f.tag = [48, 50, 48] := by intro g; rw [g] at t2; revert t2; decide
    have a4 : ¬ f.tag = [50, 54, 48] := by intro g; rw [g] at t2; revert t2; decide
    rw [if_neg a2, if_neg a3, if_neg a4]
    by_cases n1 : n = nAuthor
    · subst n1; simp [nAuthor, nTitle]
    simp [n1, Ne.symm n1]
  split
  · rename_i t3
    have a3 : ¬ f.tag = [48, 50, 48] := by intro g; rw [g] at t3; revert t3; decide
    have a4 : ¬ f.tag = [50, 54, 48] := by intro g; rw [g] at t3; revert t3; decide
    rw [if_neg a3, if_neg a4]
    by_cases n1 : n = nSubject
    · subst n1; simp [nAuthor, nTitle, nSubject]
    simp [n1, Ne.symm n1]
  split
  · rename_i t4
    have a4 : ¬ f.tag = [50, 54, 48] := by intro g; rw [g] at t4; revert t4; decide
    rw [if_neg a4]
    by_cases n1 : n = nIsbn
    · subst n1; simp [nAuthor, nTitle, nSubject, nIsbn]
    simp [n1, Ne.symm n1]
  split
  · by_cases n1 : n = nYear
    · subst n1; simp [nAuthor, nTitle, nSubject, nIsbn, nYear]
    simp [n1, Ne.symm n1]
  simp
theorem ofN_eq (f : Fld) (n : Bs) : ((vals1 f).filter fun v => decide (v.name = n)).map V.ts = ofN f n := by
  unfold vals1
  rw [List.filter_append, List.map_append, filter_map_name]
  by_cases hn : n = nAny
  · subst hn
    have h1 : (named f).1 ≠ nAny := by
      unfold named
      split
      · exact of_decide_eq_true rfl
      split
      · exact of_decide_eq_true rfl
      split
      · exact of_decide_eq_true rfl
      split
      · exact of_decide_eq_true rfl
      split
      · exact of_decide_eq_true rfl
      exact of_decide_eq_true rfl
    rw [if_neg h1]
    have h2 : ofN f nAny = if anyOk f then [(allText f, 0)] else [] := by
      unfold ofN
      rw [if_neg (c := nAny = nTitle) (by decide), if_neg (c := nAny = nAuthor) (by decide), if_neg (c := nAny = nSubject) (by decide), if_neg (c := nAny = nIsbn) (by decide), if_neg (c := nAny = nYear) (by decide), if_pos (c := nAny = nAny) rfl]
    rw [h2]
    by_cases g : anyOk f = true
    · rw [if_pos g, if_pos g]; simp
    rw [if_neg g, if_neg g]; rfl
  rw [ofN_named f n hn]
  by_cases g : anyOk f = true
  · rw [if_pos g]; simp [Ne.symm hn]
  rw [if_neg g]; simp
theorem valsN_eq (fs : List Fld) (n : Bs) : ((vals fs).filter fun v => decide (v.name = n)).map V.ts = valsN fs n := by
  unfold vals valsN
  induction fs with
  | nil => rfl
  | cons f r ih => rw [List.flatMap_cons, List.filter_append, List.map_append, ofN_eq, ih, List.flatMap_cons]
abbrev Ix := Ls (List V)
def within (w : Row) : Row → Bool
  | [] => w.isEmpty
  | x :: r => w.isPrefixOf (x :: r) || within w r
def hasW (n : Bs) (w : Row) (vs : List V) : Bool := vs.any fun v => decide (v.name = n) && within w v.ws
def hasK (n k : Bs) (vs : List V) : Bool := vs.any fun v => decide (v.name = n) && decide (v.key = k)
def phrase (L : Ix) (n : Bs) (w : Row) : List Rec := if w = [] then [] else (L.filter fun e => hasW n w e.2).map (·.1)
def word (L : Ix) (n s : Bs) : List Rec := if (words s).length = 1 then phrase L n (words s) else []
def withK (L : Ix) (n k : Bs) : List Rec := if k = [] then [] else (L.filter fun e => hasK n k e.2).map (·.1)
def keyOf (n s : Bs) : Bs := if (isbn s).2 = true ∧ n = nIsbn then sortKey (isbn s).1 0 else sortKey s 0
def keysOf (n : Bs) (vs : List V) : Row := ((vs.filter fun v => decide (v.name = n)).map V.key).filter fun k => decide (k ≠ [])
def keysAll (L : Ix) (n begin : Bs) : Row := ((L.flatMap fun e => keysOf n e.2).filter fun k => decide (¬ k < begin)).foldl put []
def scan (L : Ix) (n s : Bs) (most : Int) : List (Bs × Nat) := ((keysAll L n (keyOf n s)).take most.toNat).map fun k => (k, (withK L n k).length)
def sortOf (L : Ix) (t : Rec) : Bs := match rget L t with
  | none => []
  | some vs => match vs.find? fun v => decide (v.name = nTitle) with
    | none => []
    | some v => v.key
theorem within_iff {w : Row} : ∀ {l : Row}, within w l = true ↔ w <:+: l
  | [] => by
    unfold within
    rw [List.infix_nil]
    cases w <;> simp
  | x :: r => by
    unfold within
    rw [Bool.or_eq_true, within_iff, List.infix_cons_iff, List.isPrefixOf_iff_prefix]
theorem within_one {x : Bs} {l : Row} : within [x] l = true ↔ x ∈ l := by
  rw [within_iff]
  constructor
  · rintro ⟨s, t, rfl⟩; simp
  intro h
  obtain ⟨s, t, rfl⟩ := List.append_of_mem h
  exact ⟨s, t, by simp⟩
theorem within_mem {x : Bs} {w l : Row} (h : within (x :: w) l = true) : x ∈ l := by
  rw [within_iff] at h
  exact h.subset (.head _)
end Ix
end
section
namespace Ix
open Ke
abbrev Pl := Bs × Bs
def plW (vs : List V) : List Pl := vs.flatMap fun v => v.ws.map fun w => (v.name, w)
def plK (vs : List V) : List Pl := vs.flatMap fun v => if v.key = [] then [] else [(v.name, v.key)]
def cnt (pl : List V → List Pl) (L : Ix) (p : Pl) (t : Rec) : Nat := match rget L t with
  | none => 0
  | some vs => (pl vs).count p
def way (f : Pl → Rec → Nat) (t : Rec) (n : Pl → Nat) (p : Pl) (u : Rec) : Nat := if u = t then n p else f p u
theorem rget_rput {L : Ix} (h : Srt L) (t u : Rec) (v : List V) : rget (rput t v L) u = if u = t then some v else rget L u := by
  by_cases hu : u = t
  · rw [if_pos hu, rget_iff (rput_srt t v h), rput_mem t v h, hu]; exact .inl rfl
  rw [if_neg hu]
  cases hg : rget L u with
  | none =>
    rw [rget_none] at hg ⊢
    intro e he
    rcases (rput_mem t v h e).1 he with g | g
    · rw [g]; exact Ne.symm hu
    exact hg e g.1
  | some x =>
    rw [rget_iff h] at hg
    rw [rget_iff (rput_srt t v h), rput_mem t v h]
    exact .inr ⟨hg, hu⟩
theorem rget_rdrop {L : Ix} (h : Srt L) (t u : Rec) : rget (rdrop t L) u = if u = t then none else rget L u := by
  by_cases hu : u = t
  · rw [if_pos hu, rget_none]
    intro e he
    rw [hu]; exact ((rdrop_mem t L e).1 he).2
  rw [if_neg hu]
  cases hg : rget L u with
  | none =>
    rw [rget_none] at hg ⊢
    exact fun e he => hg e ((rdrop_mem t L e).1 he).1
  | some x =>
    rw [rget_iff h] at hg
    rw [rget_iff (rdrop_srt t h), rdrop_mem]
    exact ⟨hg, hu⟩
theorem cnt_rput {pl : List V → List Pl} {L : Ix} (h : Srt L) (t : Rec) (v : List V) : cnt pl (rput t v L) = way (cnt pl L) t fun p => (pl v).count p := by
  funext p u
  unfold cnt way
  rw [rget_rput h]
  by_cases hu : u = t
  · rw [if_pos hu, if_pos hu]
  rw [if_neg hu, if_neg hu]
theorem cnt_rdrop {pl : List V → List Pl} {L : Ix} (h : Srt L) (t : Rec) : cnt pl (rdrop t L) = way (cnt pl L) t fun _ => 0 := by
  funext p u
  unfold cnt way
  rw [rget_rdrop h]
  by_cases hu : u = t
  · rw [if_pos hu, if_pos hu]
  rw [if_neg hu, if_neg hu]
theorem cnt_some {pl : List V → List Pl} {L : Ix} {t : Rec} {vs : List V} (h : rget L t = some vs) : cnt pl L = way (cnt pl L) t fun p => (pl vs).count p := by unfold way cnt; grind
theorem cnt_none {pl : List V → List Pl} {L : Ix} {t : Rec} (h : rget L t = none) : cnt pl L = way (cnt pl L) t fun _ => 0 := by unfold way cnt; grind
theorem rput_rdrop {L : Ix} (h : Srt L) (t : Rec) (v : List V) : rput t v (rdrop t L) = rput t v L := by grind [rdrop_mem, srt_eq, rput_srt, rdrop_srt, rput_mem]
theorem cnt_titles {pl : List V → List Pl} {L : Ix} (h : Srt L) {p : Pl} {ts : List Rec} (h1 : ts.Pairwise fun a b => lessR a b = true) (h2 : ∀ t, t ∈ ts ↔ cnt pl L p t ≠ 0) : ts = (L.filter fun e => decide (p ∈ pl e.2)).map (·.1) := by
  have key : ts.map (fun t => (t, ())) = ((L.filter fun e => decide (p ∈ pl e.2)).map fun e => (e.1, ())) := by
    refine srt_eq (β := Unit) ?_ ?_ fun e => ?_
    · unfold Srt; rw [List.pairwise_map]; exact h1
    · unfold Srt; rw [List.pairwise_map]; exact List.Pairwise.filter _ h
    rw [List.mem_map, List.mem_map]
    constructor
    · rintro ⟨t, ht, rfl⟩
      have h3 := (h2 t).1 ht
      unfold cnt at h3
      cases hg : rget L t with
      | none => rw [hg] at h3; exact absurd rfl h3
      | some vs =>
        rw [hg] at h3
        have h4 : p ∈ pl vs := List.one_le_count_iff.1 (Nat.one_le_iff_ne_zero.2 h3)
        exact ⟨(t, vs), List.mem_filter.2 ⟨(rget_iff h).1 hg, decide_eq_true h4⟩, rfl⟩
    rintro ⟨⟨t, vs⟩, ht, rfl⟩
    rw [List.mem_filter] at ht
    refine ⟨t, (h2 t).2 ?_, rfl⟩
    unfold cnt
    rw [(rget_iff h).2 ht.1]
    exact Nat.one_le_iff_ne_zero.1 (List.one_le_count_iff.2 (of_decide_eq_true ht.2))
  have := congrArg (List.map (·.1)) key
  simpa [List.map_map, Function.comp_def] using this
theorem plW_iff {vs : List V} {n w : Bs} : (n, w) ∈ plW vs ↔ hasW n [w] vs = true := by
  unfold plW hasW
  rw [List.mem_flatMap, List.any_eq_true]
  constructor
  · rintro ⟨v, hv, h⟩
    obtain ⟨x, hx, he⟩ := List.mem_map.1 h
    cases he
    exact ⟨v, hv, by simp [within_one, hx]⟩
  rintro ⟨v, hv, h⟩
  rw [Bool.and_eq_true, decide_eq_true_eq, within_one] at h
  exact ⟨v, hv, List.mem_map.2 ⟨w, h.2, by rw [h.1]⟩⟩
theorem plK_iff {vs : List V} {n k : Bs} : (n, k) ∈ plK vs ↔ k ≠ [] ∧ hasK n k vs = true := by unfold plK hasK; grind
theorem titles_word {L : Ix} (h : Srt L) {n w : Bs} {ts : List Rec} (h1 : ts.Pairwise fun a b => lessR a b = true) (h2 : ∀ t, t ∈ ts ↔ cnt plW L (n, w) t ≠ 0) : ts = phrase L n [w] := by
  rw [cnt_titles h h1 h2]
  unfold phrase
  rw [if_neg (by simp)]
  congr 2
  funext e
  rw [Bool.eq_iff_iff, decide_eq_true_eq, plW_iff]
theorem titles_key {L : Ix} (h : Srt L) {n k : Bs} {ts : List Rec} (h1 : ts.Pairwise fun a b => lessR a b = true) (h2 : ∀ t, t ∈ ts ↔ cnt plK L (n, k) t ≠ 0) : ts = withK L n k := by
  rw [cnt_titles h h1 h2]
  unfold withK
  by_cases hk : k = []
  · rw [if_pos hk]
    have : (L.filter fun e => decide ((n, k) ∈ plK e.2)) = [] := by
      rw [List.filter_eq_nil_iff]
      intro e _
      rw [decide_eq_true_eq, plK_iff]
      exact fun g => g.1 hk
    rw [this]; rfl
  rw [if_neg hk]
  congr 2
  funext e
  rw [Bool.eq_iff_iff, decide_eq_true_eq, plK_iff]
  exact ⟨fun g => g.2, fun g => ⟨hk, g⟩⟩
theorem phrase_of {L : Ix} (n x : Bs) (w : Row) (p : Rec → Bool) (hs : Srt L) (hp : ∀ t vs, rget L t = some vs → p t = hasW n (x :: w) vs) : (phrase L n [x]).filter p = phrase L n (x :: w) := by
  unfold phrase
  rw [if_neg (by simp), if_neg (by simp), List.filter_map, List.filter_filter]
  congr 1
  refine List.filter_congr fun e he => ?_
  have h1 : rget L e.1 = some e.2 := (rget_iff hs).2 he
  show (p e.1 && hasW n [x] e.2) = hasW n (x :: w) e.2
  rw [hp _ _ h1]
  cases h2 : hasW n (x :: w) e.2 with
  | false => rfl
  | true =>
    rw [Bool.true_and]
    unfold hasW at h2 ⊢
    rw [List.any_eq_true] at h2 ⊢
    obtain ⟨v, hv, h3⟩ := h2
    rw [Bool.and_eq_true] at h3
    exact ⟨v, hv, by rw [Bool.and_eq_true]; exact ⟨h3.1, within_one.2 (within_mem h3.2)⟩⟩
end Ix
end
section
namespace Ix
open Ke
theorem keysOf_mem {n k : Bs} {vs : List V} : k ∈ keysOf n vs ↔ (n, k) ∈ plK vs := by
  rw [plK_iff]
  unfold keysOf hasK
  rw [List.mem_filter, List.mem_map, decide_eq_true_eq, List.any_eq_true]
  constructor
  · rintro ⟨⟨v, hv, rfl⟩, hne⟩
    rw [List.mem_filter, decide_eq_true_eq] at hv
    exact ⟨hne, v, hv.1, by simp [hv.2]⟩
  rintro ⟨hne, v, hv, h⟩
  rw [Bool.and_eq_true, decide_eq_true_eq, decide_eq_true_eq] at h
  exact ⟨⟨v, List.mem_filter.2 ⟨hv, decide_eq_true h.1⟩, h.2⟩, hne⟩
theorem cnt_pos {pl : List V → List Pl} {L : Ix} (h : Srt L) {p : Pl} : (∃ t, cnt pl L p t ≠ 0) ↔ ∃ e ∈ L, p ∈ pl e.2 := by
  constructor
  · rintro ⟨t, ht⟩
    unfold cnt at ht
    cases hg : rget L t with
    | none => rw [hg] at ht; exact absurd rfl ht
    | some vs =>
      rw [hg] at ht
      exact ⟨(t, vs), (rget_iff h).1 hg, List.one_le_count_iff.1 (Nat.one_le_iff_ne_zero.2 ht)⟩
  rintro ⟨⟨t, vs⟩, he, hp⟩
  refine ⟨t, ?_⟩
  unfold cnt
  rw [(rget_iff h).2 he]
  exact Nat.one_le_iff_ne_zero.1 (List.one_le_count_iff.2 hp)
theorem keysAll_inc (L : Ix) (n b : Bs) : Inc (keysAll L n b) := puts_inc _ List.Pairwise.nil
theorem keysAll_mem {L : Ix} (h : Srt L) {n b k : Bs} : k ∈ keysAll L n b ↔ ¬ k < b ∧ ∃ t, cnt plK L (n, k) t ≠ 0 := by
  unfold keysAll
  rw [puts_mem, cnt_pos h, List.mem_filter, List.mem_flatMap, decide_eq_true_eq]
  constructor
  · rintro (⟨⟨e, he, hk⟩, hb⟩ | g)
    · exact ⟨hb, e, he, keysOf_mem.1 hk⟩
    cases g
  rintro ⟨hb, e, he, hk⟩
  exact .inl ⟨⟨e, he, keysOf_mem.2 hk⟩, hb⟩
theorem scan_all {L : Ix} (h : Srt L) {n b : Bs} {ls : List (Bs × Nat)} (h1 : Inc (ls.map (·.1))) (h2 : ∀ k, k ∈ ls.map (·.1) ↔ ¬ k < b ∧ ∃ t, cnt plK L (n, k) t ≠ 0) (h3 : ∀ x ∈ ls, x.2 = (withK L n x.1).length) : ls = (keysAll L n b).map fun k => (k, (withK L n k).length) := by
  have he : ls.map (·.1) = keysAll L n b := inc_eq h1 (keysAll_inc L n b) fun k => by rw [h2, keysAll_mem h]
  rw [← he, List.map_map]
  conv => lhs; rw [← List.map_id ls]
  refine List.map_congr_left fun x hx => ?_
  show x = (x.1, (withK L n x.1).length)
  rw [← h3 x hx]
theorem scan_take (L : Ix) (n s : Bs) (most : Int) : ((keysAll L n (keyOf n s)).map fun k => (k, (withK L n k).length)).take most.toNat = scan L n s most := by
  unfold scan; rw [← List.map_take]
theorem with_len {L : Ix} (h : Srt L) {n k : Bs} {ts : List Rec} (hn : ts.Nodup) (h2 : ∀ t, t ∈ ts ↔ cnt plK L (n, k) t ≠ 0) : ts.length = (withK L n k).length := by
  have hsn : (withK L n k).Nodup := by
    unfold withK
    split
    · exact .nil
    exact (srt_nodup h).sublist (List.filter_sublist.map _)
  refine List.Perm.length_eq ((List.perm_ext_iff_of_nodup hn hsn).2 fun t => ?_)
  rw [h2]
  unfold withK
  by_cases hk : k = []
  · rw [if_pos hk]
    refine ⟨fun g => ?_, fun g => by cases g⟩
    obtain ⟨e, _, hp⟩ := (cnt_pos h).1 ⟨t, g⟩
    exact absurd hk (plK_iff.1 hp).1
  rw [if_neg hk, List.mem_map]
  constructor
  · intro g
    unfold cnt at g
    cases hg : rget L t with
    | none => rw [hg] at g; exact absurd rfl g
    | some vs =>
      rw [hg] at g
      have := plK_iff.1 (List.one_le_count_iff.1 (Nat.one_le_iff_ne_zero.2 g))
      exact ⟨(t, vs), List.mem_filter.2 ⟨(rget_iff h).1 hg, this.2⟩, rfl⟩
  rintro ⟨⟨u, vs⟩, he, rfl⟩
  rw [List.mem_filter] at he
  unfold cnt
  rw [(rget_iff h).2 he.1]
  exact Nat.one_le_iff_ne_zero.1 (List.one_le_count_iff.2 (plK_iff.2 ⟨hk, he.2⟩))
end Ix
end
section
namespace Ix
open Ke
def textsL : List Bs := [[69, 109, 109, 97],
  [84, 104, 101, 32, 115, 101, 97],
  [195, 156, 98, 101, 114, 32, 100, 101, 110, 32, 70, 108, 117, 195, 159],
  [87, 97, 114, 32, 97, 110, 100, 32, 112, 101, 97, 99, 101],
  [119, 97, 114, 32, 38, 32, 80, 69, 65, 67, 69],
  [65, 117, 115, 116, 101, 110, 44, 32, 74, 97, 110, 101],
  [84, 111, 108, 115, 116, 111, 121],
  [49, 57, 56, 52],
  [57, 55, 56, 48, 51, 48, 54, 52, 48, 54, 49, 53, 55],
  [48, 51, 48, 54, 52, 48, 54, 49, 53, 50],
  [76, 111, 110, 100, 111, 110],
  [83, 101, 97, 32, 115, 116, 111, 114, 105, 101, 115],
  [65],
  [],
  [69, 109, 109, 97, 32, 97, 110, 100, 32, 116, 104, 101, 32, 115, 101, 97],
  [49, 57, 57, 57],
  [99, 49, 57, 57, 57, 46],
  [82, 105, 118, 101, 114, 115],
  [79, 99, 101, 97, 110, 115, 32, 45, 45, 32, 72, 105, 115, 116, 111, 114, 121],
  [112, 101, 97, 99, 101]]
def tagsL : List Bs := [[48, 48, 49],
  [50, 52, 53],
  [49, 48, 48],
  [48, 50, 48],
  [54, 53, 48],
  [55, 48, 48],
  [50, 54, 48],
  [53, 48, 48],
  [57, 48, 48],
  [57, 52, 57],
  [48, 48, 56],
  [50, 52, 54],
  [54, 48, 48],
  [49, 49, 48],
  [52, 57, 48],
  [48, 48, 51],
  [57, 122, 57],
  [50, 52],
  [57, 57, 57],
  [48]]
def indsL : List Bs := [[49, 48],
  [32, 32],
  [49, 32],
  [48, 48],
  [48, 32],
  [32, 48],
  [51, 32],
  [49, 50]]
def codesL : Bs := [97, 98, 99, 48, 97, 118, 120, 113]
def textN (n : Int) : Bs := textsL.getD (n % 20).toNat []
def tagN (n : Int) : Bs := tagsL.getD (n % 20).toNat []
structure Four where
  x0 : Int
  x1 : Int
  x2 : Int
  x3 : Int
def subN (q : Four) (j : Nat) : Sub := ⟨codesL.getD ((q.x2.tdiv 3 + (j : Int) * (1 + q.x1 % 3)) % 8).toNat 0, textN (Go.IntKind.wrap .i64 (q.x3 + 3 * (j : Int)))⟩
def isC (t : Bs) : Prop := 1 < t.length ∧ t.take 2 = [48, 48]
instance (t : Bs) : Decidable (isC t) := by unfold isC; exact inferInstance
def fldN (q : Four) : Fld := if isC (tagN q.x0) then ⟨tagN q.x0, [], textN q.x3, .slice none 0 0, []⟩
  else ⟨tagN q.x0, indsL.getD (q.x1 % 8).toNat [], [], .slice none 0 0, (List.range (1 + (q.x2 % 3).toNat)).map fun j => subN q j⟩
def madeR (l : List Four) : List Fld := (l.take 20).map fldN
structure ActL where
  drop : Bool
  src : Int
  num : Int
  fs : List Four
def ActL.title (a : ActL) : Rec := (a.src, a.num)
def ActL.record (a : ActL) : List Fld := madeR (a.fs.take 8)
def ActL.vs (a : ActL) : List V := vals a.record
def act (L : Ix) (a : ActL) : Ix := if a.drop = true then rdrop a.title L else rput a.title a.vs L
def play (l : List ActL) : Ix := (l.take 20).foldl act []
theorem act_srt {L : Ix} (h : Srt L) (a : ActL) : Srt (act L a) := by grind [act, rdrop_srt, rput_srt]
theorem acts_srt : ∀ (l : List ActL) {L : Ix}, Srt L → Srt (l.foldl act L)
  | [], _, h => h
  | a :: r, _, h => acts_srt r (act_srt h a)
theorem play_srt (l : List ActL) : Srt (play l) := acts_srt _ List.Pairwise.nil
theorem textN_len (n : Int) : (textN n).length ≤ 17 := by
  unfold textN
  generalize (n % 20).toNat = k
  rcases Nat.lt_or_ge k 20 with h | h
  · have : ∀ k, k < 20 → (textsL.getD k []).length ≤ 17 := by decide
    exact this k h
  rw [List.getD_eq_getElem?_getD, List.getElem?_eq_none (by simpa [textsL] using h)]; simp
end Ix
end
section
namespace Ix
open Ke
open Go Go.Lib
theorem digit_nat (c : UInt8) : digit c = decide (48 ≤ c.toNat ∧ c.toNat ≤ 57) := by simp_all [digit, UInt8.le_iff_toNat_le]
def nod (r : Nat) : Bool := decide (r < 48) || decide (57 < r)
theorem decodeL_N (c : UInt8) (r : Bs) : decodeL (c :: r) = decodeN (r.length + 1) c.toNat (r.getD 0 0).toNat (r.getD 1 0).toNat (r.getD 2 0).toNat := by
  have := decode_N ⟨(c :: r).toArray⟩ 0
  simp only [List.length_cons, Nat.sub_zero, Nat.zero_add, List.getD_cons_zero, List.getD_cons_succ] at this
  exact this
theorem decodeL_high (c : UInt8) (r : Bs) (h : 128 ≤ c.toNat) : 128 ≤ (decodeL (c :: r)).1 ∧ ∀ x ∈ (c :: r).take (decodeL (c :: r)).2, 128 ≤ x.toNat := by
  have key : ∀ k n : Nat, (128 ≤ k ∧ ∀ x ∈ (c :: r).take n, 128 ≤ x.toNat) → 128 ≤ ((k, n) : Nat × Nat).1 ∧ ∀ x ∈ (c :: r).take ((k, n) : Nat × Nat).2, 128 ≤ x.toNat := fun _ _ h => h
  have h1 : 128 ≤ ((65533, 1) : Nat × Nat).1 ∧ ∀ x ∈ (c :: r).take ((65533, 1) : Nat × Nat).2, 128 ≤ x.toNat := ⟨by decide, fun x hx => by simp at hx; rw [hx]; exact h⟩
  rw [decodeL_N]
  unfold decodeN
  rw [if_neg (by omega)]
  split
  · rename_i g
    split
    · refine key _ _ ⟨by omega, fun x hx => ?_⟩
      rcases r with _ | ⟨d, r⟩
      · simp at hx; rw [hx]; exact h
      simp at hx g
      rcases hx with rfl | rfl
      · exact h
      omega
    exact h1
  split
  · rename_i g
    split
    · refine key _ _ ⟨by omega, fun x hx => ?_⟩
      rcases r with _ | ⟨d, _ | ⟨e, r⟩⟩
      · simp at hx; rw [hx]; exact h
      · simp at g
      simp at hx g
      rcases hx with rfl | rfl | rfl
      · exact h
      · omega
      omega
    exact h1
  split
  · rename_i g
    split
    · refine key _ _ ⟨by omega, fun x hx => ?_⟩
      rcases r with _ | ⟨d, _ | ⟨e, _ | ⟨f, r⟩⟩⟩
      · simp at hx; rw [hx]; exact h
      · simp at g
      · simp at g
      simp at hx g
      rcases hx with rfl | rfl | rfl | rfl
      · exact h
      · omega
      · omega
      omega
    exact h1
  exact h1
theorem runsF_nod : ∀ (q : Bs) (w r : Bs), (∀ x ∈ q, digit x = false) → q ≠ [] → runsF w (q ++ r) = (if w = [] then [] else [w]) ++ runsF [] r
  | [], _, _, _, h => absurd rfl h
  | [c], w, r, h, _ => by
    show runsF w (c :: r) = _
    rw [runsF, h c (.head _)]
    simp only [Bool.false_eq_true, if_false]
    split <;> rfl
  | c :: d :: q, w, r, h, _ => by
    have ih := runsF_nod (d :: q) [] r (fun x hx => h x (.tail _ hx)) (by simp)
    rw [if_pos rfl, List.nil_append] at ih
    show runsF w (c :: ((d :: q) ++ r)) = _
    rw [runsF, h c (.head _), ih]
    simp only [Bool.false_eq_true, if_false]
    split <;> rfl
theorem runsF_dig (w : Bs) (c : UInt8) (r : Bs) (h : digit c = true) : runsF w (c :: r) = runsF (w ++ [c]) r := by rw [runsF, if_pos h]
theorem spansD (s : ByteArray) : ∀ (f pos : Nat) (st : Option Nat) (acc : List (Nat × Nat)), s.size ≤ pos + f → pos ≤ s.size → (∀ a, st = some a → a < pos) →
    acc.map (fun p => pieceU s.data.toList p.1 p.2) ++ runsF (openPiece s.data.toList st pos) (s.data.toList.drop pos) = (closeSpans s (spansFromP nod s f pos st acc)).map (fun p => pieceU s.data.toList p.1 p.2)
  | 0, pos, st, acc, h, hp, hst => by
    obtain rfl : pos = s.size := by omega
    have hd : s.data.toList.drop s.size = [] := List.drop_eq_nil_of_le (by rw [← size_eq]; exact Nat.le_refl _)
    rw [hd, runsF]
    cases st with
    | none => simp [spansFromP, closeSpans, openPiece]
    | some a =>
      have := pieceU_ne s.data.toList a s.size (hst a rfl) (by rw [← size_eq]; exact Nat.le_refl _)
      simp [spansFromP, closeSpans, openPiece, this]
  | f + 1, pos, st, acc, h, hp, hst => by
    by_cases hlt : pos < s.size
    · have hlt' : pos < s.data.toList.length := by rw [← size_eq]; exact hlt
      have hdc : decodeL (s.data.toList.drop pos) = Utf8.decode s pos := decodeL_drop s pos
      obtain ⟨c, hc⟩ : ∃ c, s.data.toList.drop pos = c :: s.data.toList.drop (pos + 1) := ⟨s.data.toList[pos], (List.getElem_cons_drop hlt').symm⟩
      have hw := width_pos s pos
      have hwn : pos + (Utf8.decode s pos).2 ≤ s.size := by
        have := decodeN_le_n' (s.size - pos) (s.get! pos).toNat (s.get! (pos + 1)).toNat (s.get! (pos + 2)).toNat (s.get! (pos + 3)).toNat (by omega)
        rw [← decode_at] at this
        omega
      simp only [spansFromP, if_pos hlt]
      by_cases hdig : digit c = true
      · have hcn : 48 ≤ c.toNat ∧ c.toNat ≤ 57 := by rw [digit_nat] at hdig; exact of_decide_eq_true hdig
        have h1 : Utf8.decode s pos = (c.toNat, 1) := by
          rw [← hdc, hc]
          rw [decodeL_N]
          unfold decodeN
          rw [if_pos (by omega)]
        have h2 : nod c.toNat = false := by unfold nod; simp; omega
        rw [h1]
        simp only [h2, Bool.false_eq_true, if_false]
        rw [hc, runsF_dig _ _ _ hdig]
        cases st with
        | none =>
          have ih := spansD s f (pos + 1) (some pos) acc (by omega) (by omega) (fun a h => by cases h; omega)
          have e : openPiece s.data.toList none pos ++ [c] = openPiece s.data.toList (some pos) (pos + 1) := by
            show [] ++ [c] = pieceU s.data.toList pos (pos + 1)
            unfold pieceU
            rw [hc, Nat.add_sub_cancel_left]; rfl
          rw [e]; exact ih
        | some a =>
          have ih := spansD s f (pos + 1) (some a) acc (by omega) (by omega) (fun b h => by cases h; have := hst a rfl; omega)
          have e : openPiece s.data.toList (some a) pos ++ [c] = openPiece s.data.toList (some a) (pos + 1) := by
            have := pieceU_grow s.data.toList a pos 1 (by have := hst a rfl; omega)
            rw [hc] at this
            exact this
          rw [e]; exact ih
      have h3 : nod (Utf8.decode s pos).1 = true ∧ ∀ x ∈ (s.data.toList.drop pos).take (Utf8.decode s pos).2, digit x = false := by
        rw [← hdc, hc]
        by_cases h128 : c.toNat < 128
        · have h1 : decodeL (c :: s.data.toList.drop (pos + 1)) = (c.toNat, 1) := by
            rw [decodeL_N]
            unfold decodeN
            rw [if_pos h128]
          rw [h1]
          refine ⟨?_, fun x hx => ?_⟩
          · rw [digit_nat, decide_eq_true_eq] at hdig
            unfold nod
            simp; omega
          simp at hx; rw [hx]; simpa using hdig
        obtain ⟨g1, g2⟩ := decodeL_high c (s.data.toList.drop (pos + 1)) (by omega)
        refine ⟨by unfold nod; simp; omega, fun x hx => ?_⟩
        have := g2 x hx
        rw [digit_nat]; simp; omega
      have hsplit : s.data.toList.drop pos = (s.data.toList.drop pos).take (Utf8.decode s pos).2 ++ s.data.toList.drop (pos + (Utf8.decode s pos).2) := by
        rw [← List.drop_drop, List.take_append_drop]
      have hqne : (s.data.toList.drop pos).take (Utf8.decode s pos).2 ≠ [] := by
        intro h0
        have := congrArg List.length h0
        rw [List.length_take, List.length_drop] at this
        simp at this
        omega
      simp only [h3.1, if_true]
      rw [hsplit, runsF_nod _ _ _ h3.2 hqne]
      cases st with
      | none =>
        have ih := spansD s f (pos + (Utf8.decode s pos).2) none acc (by omega) hwn (fun a h => by cases h)
        simpa [openPiece] using ih
      | some a =>
        have hpn := pieceU_ne s.data.toList a pos (hst a rfl) (by rw [← size_eq]; omega)
        have ih := spansD s f (pos + (Utf8.decode s pos).2) none (acc ++ [(a, pos)]) (by omega) hwn (fun a h => by cases h)
        simpa [openPiece, hpn] using ih
    have hps : pos = s.size := by omega
    have hd : s.data.toList.drop pos = [] := List.drop_eq_nil_of_le (by rw [← size_eq]; omega)
    rw [spansFromP_end nod s _ pos st acc hlt, hd, runsF]
    subst hps
    cases st with
    | none => simp [closeSpans, openPiece]
    | some a =>
      have := pieceU_ne s.data.toList a s.size (hst a rfl) (by rw [← size_eq]; exact Nat.le_refl _)
      simp [closeSpans, openPiece, this]
theorem pieceU_extract (s : ByteArray) (a b : Nat) : s.extract a b = ⟨(pieceU s.data.toList a b).toArray⟩ := by
  apply ByteArray.ext
  rw [ByteArray.data_extract]
  apply Array.ext'
  rw [Array.toList_extract]
  unfold pieceU
  simp [List.extract_eq_take_drop]
theorem fieldsD (s : Bs) : goFieldsP nod ⟨s.toArray⟩ = (runsD s).map fun x => ⟨x.toArray⟩ := by
  have h := spansD ⟨s.toArray⟩ (ByteArray.mk s.toArray).size 0 none [] (by omega) (by omega) (fun _ h => by cases h)
  simp only [List.map_nil, List.nil_append, openPiece, List.drop_zero] at h
  unfold goFieldsP spansOfP runsD
  rw [h, List.map_map]
  refine List.map_congr_left fun p _ => ?_
  rw [pieceU_extract]; rfl
theorem runsF_digs : ∀ (d w r : Bs), (∀ x ∈ d, digit x = true) → runsF w (d ++ r) = runsF (w ++ d) r
  | [], w, r, _ => by rw [List.nil_append, List.append_nil]
  | c :: d, w, r, h => by
    show runsF w (c :: (d ++ r)) = _
    rw [runsF_dig _ _ _ (h c (.head _)), runsF_digs d _ r fun x hx => h x (.tail _ hx), List.append_assoc]; rfl
theorem runsF_close (w r : Bs) (h : r = [] ∨ ∃ c q, r = c :: q ∧ digit c = false) : runsF w r = (if w = [] then [] else [w]) ++ runsF [] (r.drop 1) := by
  rcases h with rfl | ⟨c, q, rfl, hc⟩
  · rw [runsF, List.drop_nil, runsF, if_pos rfl, List.append_nil]
  rw [runsF, hc]
  simp only [Bool.false_eq_true, if_false, List.drop_one, List.tail_cons]
  split <;> rfl
theorem year_step (t : Bs) : yearOf t = if (t.takeWhile digit).length = 4 then some (t.take 4) else yearOf (t.drop ((t.takeWhile digit).length + 1)) := by
  have hsplit : t.takeWhile digit ++ t.dropWhile digit = t := List.takeWhile_append_dropWhile
  have hd : ∀ x ∈ t.takeWhile digit, digit x = true := fun x hx => List.all_eq_true.1 List.all_takeWhile x hx
  have hr : t.dropWhile digit = [] ∨ ∃ c q, t.dropWhile digit = c :: q ∧ digit c = false := by
    cases h : t.dropWhile digit with
    | nil => exact .inl rfl
    | cons c q =>
      refine .inr ⟨c, q, rfl, ?_⟩
      have := List.head?_dropWhile_not digit t
      rw [h] at this
      simpa using this
  have htake : t.take (t.takeWhile digit).length = t.takeWhile digit := by
    have h := List.take_left (l₁ := t.takeWhile digit) (l₂ := t.dropWhile digit)
    rwa [hsplit] at h
  have hdrop : (t.dropWhile digit).drop 1 = t.drop ((t.takeWhile digit).length + 1) := by
    have : t.drop (t.takeWhile digit).length = t.dropWhile digit := by
      have h := List.drop_left (l₁ := t.takeWhile digit) (l₂ := t.dropWhile digit)
      rwa [hsplit] at h
    rw [← this, List.drop_drop]
  have hruns : runsD t = (if t.takeWhile digit = [] then [] else [t.takeWhile digit]) ++ runsD (t.drop ((t.takeWhile digit).length + 1)) := by
    unfold runsD
    conv => lhs; rw [← hsplit]
    rw [runsF_digs _ _ _ hd, List.nil_append, runsF_close _ _ hr, hdrop]
  unfold yearOf
  rw [hruns, List.find?_append]
  by_cases h4 : (t.takeWhile digit).length = 4
  · rw [if_pos h4]
    have hne : t.takeWhile digit ≠ [] := by intro h0; rw [h0] at h4; cases h4
    rw [if_neg hne]
    have hf : [t.takeWhile digit].find? (fun x => decide (x.length = 4)) = some (t.takeWhile digit) := by simp [h4]
    rw [hf]
    rw [h4] at htake
    rw [htake]; rfl
  rw [if_neg h4]
  by_cases hne : t.takeWhile digit = []
  · rw [if_pos hne]; rfl
  have hf : [t.takeWhile digit].find? (fun x => decide (x.length = 4)) = none := by simp [h4]
  rw [if_neg hne, hf]; rfl
theorem year_nil : yearOf [] = none := rfl
end Ix
end
section
namespace Go.Sx
open Go Go.RowKit
theorem Ctr.of_row {P : Program} {f : FuncId} {args : List Value} {I : Heap} {T : TypeId} {l : List (List UInt8)} {vals : List Value} (hv : vals = l.map str) (he : Enters P f)
    (h : ∀ w, Calls P f args.toArray w fun e w' => ∃ A, e = .returned (.slice (some ⟨A, 0, none⟩) l.length l.length) ∧ w.heap.size ≤ A ∧ w'.ownsRow w.heap.size T 1 (.slice (some ⟨A, 0, none⟩) l.length l.length) l.length vals ∧ Below w.heap.size w w') :
    Ctr P f args I [] (fun e I' H' => ∃ v, e = .returned v ∧ StrS T I' l v ∧ H' = []) := by
  refine ⟨he, fun w hw => (h w).mono ?_⟩
  rintro e w' ⟨A, rfl, hA, hown, hB⟩
  obtain ⟨r1, -, -, -⟩ := hw
  have hlt : ∀ {b : Nat} {o : Obj}, I b = some o → b < w.heap.size := fun {b o} hb => by
    have := r1 b o hb
    rcases Nat.lt_or_ge b w.heap.size with h' | h'
    · exact h'
    rw [Array.getElem?_eq_none h'] at this; cases this
  obtain ⟨-, hown⟩ := hown
  obtain ⟨g, cap, cur, hs, -, hc, hn, -, hsz, htk⟩ := hown.resolve_left fun g => by cases g.1
  cases hs
  have hcel : (.cells cur T (0, 0) : Obj) = cel T (l.map str ++ cur.toList.drop l.length) := by
    unfold cel
    rw [← hv, ← htk, Nat.mul_one, List.take_append_drop]
  rw [hcel] at hc
  have hst : St w [] I I [(A, cel T (l.map str ++ cur.toList.drop l.length))] w' :=
    ⟨hB.os, hB.tape, hB.output, hB.size, fun b hb _ => hB.block b hb, fun b o hb => by rw [hB.block b (hlt hb)]; exact r1 b o hb, fun p hp => by rw [List.mem_singleton.1 hp]; exact hc, by simp, fun p hp => by
      rw [List.mem_singleton.1 hp]
      cases hI : I A with
      | none => rfl
      | some o => have := hlt hI; omega, fun p hp => by rw [List.mem_singleton.1 hp]; exact .inr hA, fun _ _ => rfl, Le.refl _, noDr⟩
  have hst2 := hst.persist hA
  exact ⟨_, _, hst2, _, rfl, .inr ⟨A, l.length, _, rfl, Nat.le_refl _, hput_at _ _ _⟩, rfl⟩
theorem Ctr.of_rowO {P : Program} {f : FuncId} {args : List Value} {I : Heap} {T : TypeId} {l : List (List UInt8)} {vals : List Value} (hv : vals = l.map str) (he : Enters P f)
    (h : ∀ w, (∀ b o, I b = some o → w.heap[b]? = some o) → Calls P f args.toArray w fun e w' => ∃ A, e = .returned (.slice (some ⟨A, 0, none⟩) l.length l.length) ∧ w.heap.size ≤ A ∧ w'.ownsRow w.heap.size T 1 (.slice (some ⟨A, 0, none⟩) l.length l.length) l.length vals ∧ Below w.heap.size w w') :
    Ctr P f args I [] (fun e _ H' => ∃ b sp, e = .returned (.slice (some ⟨b, 0, none⟩) l.length l.length) ∧ H' = [(b, cel T (l.map str ++ sp))]) := by
  refine ⟨he, fun w hw => (h w hw.1).mono ?_⟩
  rintro e w' ⟨A, rfl, hA, hown, hB⟩
  obtain ⟨r1, -, -, -⟩ := hw
  have hlt : ∀ {b : Nat} {o : Obj}, I b = some o → b < w.heap.size := fun {b o} hb => by
    have := r1 b o hb
    rcases Nat.lt_or_ge b w.heap.size with h' | h'
    · exact h'
    rw [Array.getElem?_eq_none h'] at this; cases this
  obtain ⟨-, hown⟩ := hown
  obtain ⟨g, cap, cur, hs, -, hc, hn, -, hsz, htk⟩ := hown.resolve_left fun g => by cases g.1
  cases hs
  have hcel : (.cells cur T (0, 0) : Obj) = cel T (l.map str ++ cur.toList.drop l.length) := by
    unfold cel
    rw [← hv, ← htk, Nat.mul_one, List.take_append_drop]
  rw [hcel] at hc
  have hst : St w [] I I [(A, cel T (l.map str ++ cur.toList.drop l.length))] w' :=
    ⟨hB.os, hB.tape, hB.output, hB.size, fun b hb _ => hB.block b hb, fun b o hb => by rw [hB.block b (hlt hb)]; exact r1 b o hb, fun p hp => by rw [List.mem_singleton.1 hp]; exact hc, by simp, fun p hp => by
      rw [List.mem_singleton.1 hp]
      cases hI : I A with
      | none => rfl
      | some o => have := hlt hI; omega, fun p hp => by rw [List.mem_singleton.1 hp]; exact .inr hA, fun _ _ => rfl, Le.refl _, noDr⟩
  exact ⟨_, _, hst, _, _, rfl, rfl⟩
end Go.Sx
end
section
set_option maxHeartbeats 40000000
namespace Go.Proofs.YtekmeaoblpfnpaaGreatDoor
open _root_.Go.Proofs.Tryz
open Go Go.Sx
def sel (codes : List UInt8) (s : Ke.Sub) : Bool := decide (codes = []) || codes.contains s.code
def txs (codes : List UInt8) (ss : List Ke.Sub) : List (List UInt8) := (ss.filter (sel codes)).map (·.text)
def textX (f : Ke.Fld) (codes : List UInt8) : List UInt8 := Ke.join (txs codes f.subs)
theorem textX_of {f : Ke.Fld} {codes : List UInt8} (h : codes ≠ []) : textX f codes = Ke.textOf f codes := by
  unfold textX Ke.textOf Ke.texts txs
  congr 2
  refine List.filter_congr fun s _ => ?_
  unfold sel; rw [decide_eq_false h]; rfl
theorem textX_all (f : Ke.Fld) : textX f [] = Ix.allText f := by
  unfold textX Ix.allText txs
  rw [show f.subs.filter (sel []) = f.subs from List.filter_eq_self.2 fun _ _ => rfl]
theorem txs_next {codes : List UInt8} {ss : List Ke.Sub} {k : Nat} {s : Ke.Sub} (h : ss[k]? = some s) : txs codes (ss.take (k + 1)) = txs codes (ss.take k) ++ (if sel codes s = true then [s.text] else []) := by
  obtain ⟨hlt, hg⟩ := List.getElem?_eq_some_iff.1 h
  unfold txs
  rw [List.take_succ_eq_append_getElem hlt, hg, List.filter_append, List.map_append]
  by_cases hc : sel codes s = true
  · rw [if_pos hc, List.filter_cons_of_pos hc]; rfl
  rw [if_neg hc, List.filter_cons_of_neg hc]; rfl
theorem txs_len (codes : List UInt8) (ss : List Ke.Sub) : (txs codes ss).length ≤ ss.length := by
  unfold txs; rw [List.length_map]; exact List.length_filter_le _ _
theorem txs_sum (codes : List UInt8) : ∀ ss : List Ke.Sub, ((txs codes ss).map List.length).sum ≤ textsLen ss
  | [] => by simp [txs]
  | s :: r => by
    have := txs_sum codes r
    unfold txs textsLen at this ⊢
    rw [List.filter_cons]
    split
    · simp only [List.map_cons, List.sum_cons]; omega
    simp only [List.map_cons, List.sum_cons]; omega
theorem textX_len (f : Ke.Fld) (codes : List UInt8) : (textX f codes).length ≤ textsLen f.subs + f.subs.length := by
  have h1 := join_len (txs codes f.subs); have h2 := txs_sum codes f.subs; have h3 := txs_len codes f.subs
  unfold textX; omega
theorem text_mem {ss : List Ke.Sub} {s : Ke.Sub} (h : s ∈ ss) : s.text.length ≤ textsLen ss := by
  unfold textsLen
  induction ss with
  | nil => cases h
  | cons a r ih =>
    rw [List.map_cons, List.sum_cons]
    rcases List.mem_cons.1 h with e | e
    · rw [e]; omega
    have := ih e; omega
abbrev four (x : List UInt8) : Bool := decide (x.length = 4)
def idxI {α : Type} (p : α → Bool) (l : List α) : Int := match l.findIdx? p with
  | some k => (k : Int)
  | none => -1
theorem idxI_none {α : Type} {p : α → Bool} {l : List α} (h : ∀ x ∈ l, p x = false) : idxI p l = -1 := by
  unfold idxI
  rw [List.findIdx?_eq_none_iff.2 fun x hx => by simpa using h x hx]
theorem idxI_at {α : Type} {p : α → Bool} {l : List α} {k : Nat} {x : α} (h : ∀ y ∈ l.take k, p y = false) (hx : l[k]? = some x) (hp : p x = true) : idxI p l = (k : Int) := by
  obtain ⟨hlt, hg⟩ := List.getElem?_eq_some_iff.1 hx
  unfold idxI
  have : l.findIdx? p = some k := by
    rw [List.findIdx?_eq_some_iff_getElem]
    refine ⟨hlt, by rw [hg]; exact hp, fun j hj => ?_⟩
    have h1 : l[j]'(by omega) ∈ l.take k := by
      rw [List.mem_take_iff_getElem]
      exact ⟨j, by omega, rfl⟩
    rw [h _ h1]; exact Bool.false_ne_true
  rw [this]
theorem false_next {α : Type} {p : α → Bool} {l : List α} {k : Nat} {x : α} (h : ∀ y ∈ l.take k, p y = false) (hx : l[k]? = some x) (hp : p x = false) : ∀ y ∈ l.take (k + 1), p y = false := fun y hy => by
  obtain ⟨hlt, hg⟩ := List.getElem?_eq_some_iff.1 hx
  rw [List.take_succ_eq_append_getElem hlt, hg, List.mem_append, List.mem_singleton] at hy
  rcases hy with hy | rfl
  · exact h y hy
  exact hp
theorem idxI_cases {α : Type} (p : α → Bool) (l : List α) : (idxI p l = -1 ∧ l.find? p = none) ∨ ∃ (k : Nat) (x : α), idxI p l = (k : Int) ∧ l[k]? = some x ∧ l.find? p = some x := by
  by_cases h : ∃ k, ∃ x, l[k]? = some x ∧ p x = true ∧ ∀ y ∈ l.take k, p y = false
  · obtain ⟨k, x, h1, h2, h3⟩ := h
    refine .inr ⟨k, x, idxI_at h3 h1 h2, h1, ?_⟩
    obtain ⟨hlt, hg⟩ := List.getElem?_eq_some_iff.1 h1
    rw [List.find?_eq_some_iff_append]
    refine ⟨h2, l.take k, l.drop (k + 1), ?_, fun y hy => by simp [h3 y hy]⟩
    rw [← hg, List.getElem_cons_drop, List.take_append_drop]
  have hall : ∀ k, k ≤ l.length → ∀ y ∈ l.take k, p y = false := by
    intro k
    induction k with
    | zero => intro _ y hy; simp at hy
    | succ k ih =>
      intro hk
      have hx := List.getElem?_eq_getElem (l := l) (i := k) (by omega)
      have h1 := ih (by omega)
      refine false_next h1 hx ?_
      cases hp : p l[k] with
      | false => rfl
      | true => exact absurd ⟨k, _, hx, hp, h1⟩ h
  have h2 : ∀ y ∈ l, p y = false := fun y hy => hall l.length (Nat.le_refl _) y (by rw [List.take_length]; exact hy)
  exact .inl ⟨idxI_none h2, List.find?_eq_none.2 fun y hy => by simp [h2 y hy]⟩
theorem skip_char {f : Ke.Fld} {c : UInt8} (h : f.ind[1]? = some c) : Ke.skip f = if Ke.digit c = true then c.toNat - 48 else 0 := by
  unfold Ke.skip; rw [h]
theorem strC_row {I : Heap} {l : List (List UInt8)} {v : Value} : StrP I l v ↔ RowS (fun s => [str s]) I l v := by
  unfold StrP RowS
  rw [show l.map str = l.flatMap fun s => [str s] by induction l with | nil => rfl | cons a r ih => rw [List.map_cons, List.flatMap_cons, ih]; rfl]
theorem itext_ok (f : Ke.Fld) (codes : List UInt8) (hn : f.subs.length ≤ 2000000) (htx : textsLen f.subs ≤ 3000000) (I : Heap) (hr : RowS subC I f.subs f.sv) : Pure Tryz.prog 150 [.agg (fldC f).toArray, str codes] I (str (textX f codes)) := by
 refine Ctr.toPure ?_
 obtain ⟨p2, c2, hsv, hc2, hp2⟩ := hr
 refine xob func150 fun w0 hw0 => ?_
 refine axn 3 ?_
 intro b1 hb1
 refine axn 13 ?_
 refine J.ev 9 (.slice p2 f.subs.length c2) rfl hsv ?_
 refine axn 5 ?_
 refine Cj.keep (Keeps.d Keeps.n) ?_
 refine Cj.loop (ι := Nat × Gs) (fun j => j.1 ≤ f.subs.length ∧ gOk w0.heap.size 1 (txs codes (f.subs.take j.1)).length ((txs codes (f.subs.take j.1)).map str) j.2) (fun j => f.subs.length - j.1) (fun j => [(1, str codes), (5, gV (txs codes (f.subs.take j.1)).length j.2), (9, .slice p2 f.subs.length c2), (10, i64 (f.subs.length : Int)), (11, i64 (j.1 : Int))]) (fun j => _) (fun j => gH 9 ((txs codes (f.subs.take j.1)).map str) j.2) (0, none) ⟨Nat.zero_le _, rfl, rfl⟩ ⟨rfl, rfl, rfl, rfl, rfl, trivial⟩ rfl rfl ?_
 rintro ⟨j, g⟩ ⟨hj, hg⟩
 dsimp only at hj hg ⊢
 have htl := txs_len codes (f.subs.take j)
 rw [List.length_take, Nat.min_eq_left hj] at htl
 refine axc (fun hc2 hc2p => ?_) (fun hc2 hc2p => ?_)
 ·
  refine axn 5 ?_
  have hlt : j < f.subs.length := by omega
  obtain ⟨sb, hsget⟩ : ∃ x, f.subs[j]? = some x := ⟨_, List.getElem?_eq_getElem hlt⟩
  obtain ⟨sbk, so, scs, sty, sfr, sp2, rfl, hsbk, hsd⟩ := hp2 (ne_nil_of hlt)
  have hnx := txs_next (codes := codes) hsget
  refine xix (so + j * 2) ?_
  refine J.z (yl_loadAgg rfl rfl isAgg176 sizeOf176 (Blk.imm hsbk) (row_from subC_len hsd hsget) rfl) ?_
  refine axn 1 ?_
  intro b3 hb3
  refine axg (fun hg4 hg4p => ?_) (fun hg4 hg4p => ?_)
  ·
   have hsel : sel codes sb = true := by unfold sel; rw [decide_eq_true (eq_of_beq hg4)]; rfl
   rw [if_pos hsel] at hnx
   refine axn 14 ?_
   intro b6 hb6
   refine xap 15 [_, _] hg ?_
   intro g7 hg7
   refine axn 8 ?_
   refine Ej.keep (Keeps.d (Keeps.d Keeps.r)) ?_
   refine Ej.round (j + 1, g7) ⟨by dsimp only; omega, by dsimp only; rw [hnx, List.map_append, List.length_append]; exact hg7⟩ (by dsimp only; omega) ⟨rfl, by dsimp only; rw [hnx, List.length_append]; rfl, rfl, rfl, rfl, trivial⟩ rfl (by dsimp only; rw [hnx, List.map_append]; rfl)
  have hce : codes ≠ [] := ne_of_beq_false hg4
  refine xpu (IndexByte_ok _ _ _) ?_
  refine axc (fun hc8 hc8p => ?_) (fun hc8 hc8p => ?_)
  ·
   have hsel : sel codes sb = true := by unfold sel; rw [decide_eq_false hce, ← index_has]; exact hc8
   rw [if_pos hsel] at hnx
   refine axn 5 ?_
   intro b9 hb9
   refine xap 15 [_, _] hg ?_
   intro g10 hg10
   refine axn 8 ?_
   refine Ej.keep (Keeps.d (Keeps.d Keeps.r)) ?_
   refine Ej.round (j + 1, g10) ⟨by dsimp only; omega, by dsimp only; rw [hnx, List.map_append, List.length_append]; exact hg10⟩ (by dsimp only; omega) ⟨rfl, by dsimp only; rw [hnx, List.length_append]; rfl, rfl, rfl, rfl, trivial⟩ rfl (by dsimp only; rw [hnx, List.map_append]; rfl)
  have hsel : ¬ sel codes sb = true := by unfold sel; rw [decide_eq_false hce, ← index_has]; exact fun e => Bool.noConfusion (e.symm.trans hc8)
  rw [if_neg hsel] at hnx
  refine axn 7 ?_
  refine Ej.keep (Keeps.d Keeps.r) ?_
  refine Ej.round (j + 1, g) ⟨by dsimp only; omega, by dsimp only; rw [hnx, List.append_nil]; exact hg⟩ (by dsimp only; omega) ⟨rfl, by dsimp only; rw [hnx, List.append_nil]; rfl, rfl, rfl, rfl, trivial⟩ rfl (by dsimp only; rw [hnx, List.append_nil])
 refine axn 6 ?_
 have hfull : f.subs.take j = f.subs := List.take_of_length_le (by omega)
 rw [hfull] at hg ⊢
 have htl2 := textX_len f codes
 refine Cj.perm (H' := gH _ _ _ ++ []) (.of_eq (List.append_nil _)) ?_
 refine Cj.keepS hg (fun I8 hle8 hv => ?_)
 refine xpu (Join_ok (txs codes f.subs) _ (by have := txs_len codes f.subs; omega) (by have e : Ke.join (txs codes f.subs) = textX f codes := rfl; rw [e]; omega) _ hv) ?_
 refine axe ?_
 exact ⟨rfl, rfl⟩
theorem skip_ok (f : Ke.Fld) (hi : f.ind.length ≤ 2000000) (I : Heap) : Pure Tryz.prog 148 [.agg (fldC f).toArray] I (i64 ((Ix.skipT f : Nat) : Int)) := by
 refine Ctr.toPure ?_
 refine xob func148 fun w0 hw0 => ?_
 refine axn 3 ?_
 intro b1 hb1
 refine axg (fun hg2 hg2p => ?_) (fun hg2 hg2p => ?_)
 ·
  have htag : f.tag = [50, 52, 53] := eq_of_beq hg2
  refine axg (fun hg3 hg3p => ?_) (fun hg3 hg3p => ?_)
  ·
   have hl1 : 1 < f.ind.length := by have h := of_decide_eq_true hg3; omega
   obtain ⟨c, hget⟩ : ∃ c, f.ind[1]? = some c := ⟨_, List.getElem?_eq_getElem hl1⟩
   refine axn 2 ?_
   refine J.zg (q4 underlying9 hget) ?_
   refine axg (fun hg4 hg4p => ?_) (fun hg4 hg4p => ?_)
   ·
    have h48 : 48 ≤ c.toNat := by have h := of_decide_eq_true hg4; omega
    refine axn 2 ?_
    refine J.zg (q4 underlying9 hget) ?_
    refine axc (fun hc5 hc5p => ?_) (fun hc5 hc5p => ?_)
    ·
     have h57 : c.toNat ≤ 57 := by have h := of_decide_eq_true hc5; omega
     have hdg : Ke.digit c = true := by rw [Ix.digit_nat]; simp only [decide_eq_true_eq]; omega
     refine axn 4 ?_
     refine J.z (q4 underlying9 hget) ?_
     refine J.z (yl_sub rfl rfl rfl (w8 (by omega))) ?_
     refine axn 1 ?_
     refine J.ev 28 (i64 ((c.toNat - 48 : Nat) : Int)) rfl (congrArg i64 ((w64 (by omega)).trans (by omega))) ?_
     refine axr ?_
     rw [show Ix.skipT f = Ke.skip f from if_pos htag]
     rw [skip_char hget, if_pos hdg]
     exact ⟨rfl, rfl⟩
    have hdg : ¬ Ke.digit c = true := by rw [Ix.digit_nat]; have h := of_decide_eq_false hc5; simp only [decide_eq_true_eq]; omega
    refine axr ?_
    rw [show Ix.skipT f = Ke.skip f from if_pos htag]
    rw [skip_char hget, if_neg hdg]
    exact ⟨rfl, rfl⟩
   have hdg : ¬ Ke.digit c = true := by rw [Ix.digit_nat]; have h := of_decide_eq_false hg4; simp only [decide_eq_true_eq]; omega
   refine axr ?_
   rw [show Ix.skipT f = Ke.skip f from if_pos htag]
   rw [skip_char hget, if_neg hdg]
   exact ⟨rfl, rfl⟩
  have hl1 : ¬ 1 < f.ind.length := by have h := of_decide_eq_false hg3; omega
  refine axr ?_
  rw [show Ix.skipT f = Ke.skip f from if_pos htag]
  rw [skip_no hl1]
  exact ⟨rfl, rfl⟩
 have htag : ¬ f.tag = [50, 52, 53] := ne_of_beq_false hg2
 refine axr ?_
 rw [show Ix.skipT f = 0 from if_neg htag]
 exact ⟨rfl, rfl⟩
theorem year1_ok (s : List UInt8) (I : Heap) : Pure Tryz.prog 259 [str s] I (.bool (decide (s.length = 4))) := by
 refine Ctr.toPure ?_
 refine xob func259 fun w0 hw0 => ?_
 refine axn 10 ?_
 refine J.ev 5 (.bool (decide (s.length = 4))) rfl (congrArg Value.bool (by rw [Bool.eq_iff_iff, beq_iff_eq, decide_eq_true_eq]; omega)) ?_
 refine axe ?_
 exact ⟨rfl, rfl⟩
theorem notDigit_ok (c : Nat) (I : Heap) : Pure Tryz.prog 257 [.int .i32 (c : Int)] I (.bool (Ix.nod c)) := by
 refine Ctr.toPure ?_
 refine xob func257 fun w0 hw0 => ?_
 refine axg (fun hg1 hg1p => ?_) (fun hg1 hg1p => ?_)
 ·
  refine axe ?_
  have e : Ix.nod c = true := by unfold Ix.nod; have h := of_decide_eq_true hg1; rw [decide_eq_true (by omega : c < 48)]; rfl
  rw [e]
  exact ⟨rfl, rfl⟩
 refine axe ?_
 refine ⟨?_, rfl⟩
 have h := of_decide_eq_false hg1
 unfold Ix.nod
 rw [decide_eq_false (by omega : ¬ c < 48), Bool.false_or]
 exact congrArg (fun b => Ending.returned (Value.bool b)) (decide_eq_decide.2 (by omega))
theorem FieldsFunc_ok (s : List UInt8) (hs : s.length ≤ 4000000000) (I : Heap) : Ctr Tryz.prog 256 [str s, .func (.func 257) #[] #[]] I [] (fun e I' H' => ∃ v, e = .returned v ∧ StrS 9 I' (Ix.runsD s) v ∧ H' = []) := by
  have hz : ∀ x : Nat, x ≤ 1114111 → ∀ W : World, Calls Tryz.prog 257 #[.int .i32 (x : Int)] W fun e w' => e = .returned (.bool (Ix.nod x)) ∧ RowKit.Below W.heap.size W w' := fun x _ W => by
    have h := (notDigit_ok x (fun _ => none)).2 W (by unfold Ready; exact ⟨(fun b o hb => by cases hb), (fun p hp => by cases hp), List.Pairwise.nil, (fun p hp => by cases hp)⟩)
    exact h.mono fun e w' ⟨I', H', hs, h1, _⟩ => ⟨h1, hs.os, hs.tape, hs.output, hs.size, fun k hk => hs.frm k hk (by simp)⟩
  have hrun : Lib.goFieldsP Ix.nod ⟨s.toArray⟩ = (Ix.runsD s).map fun x => ⟨x.toArray⟩ := Ix.fieldsD s
  refine Ctr.of_row (vals := ((Ix.runsD s).map fun x => (⟨x.toArray⟩ : ByteArray)).map Value.string) (by rw [List.map_map]; rfl) (Enters.of func256 (by decide) rfl) fun w => ?_
  have h := Tryz.strings_FieldsFunc_grows 257 #[] (enters_of func257 (by kernel_rfl) rfl) Ix.nod ⟨s.toArray⟩ w (by rw [size_mk]; omega) (fun W x hx _ => hz x hx W)
  rw [hrun, List.length_map] at h
  exact h
theorem IndexFuncS_ok (l : List (List UInt8)) (v : Value) (pq : List UInt8 → Bool) (g : Nat) (cap : List Value) (hl : l.length ≤ 100000000000000) (I : Heap) (hr : StrP I l v) (hcl : ∀ x ∈ l, Pure Tryz.prog g (str x :: cap) I (.bool (pq x))) : Pure Tryz.prog 258 [v, .func (.func g) #[] cap.toArray] I (i64 (idxI pq l)) := by
 refine Ctr.toPure ?_
 obtain ⟨p, c, rfl, hc, hp⟩ := hr
 refine xob func258 fun w0 hw0 => ?_
 refine axn 14 ?_
 refine Cj.loop (ι := Nat) (fun j => j ≤ l.length ∧ ∀ x ∈ l.take j, pq x = false) (fun j => l.length - j) (fun j => [(0, .slice p l.length c), (1, .func (.func g) #[] cap.toArray), (7, i64 (l.length : Int)), (8, i64 (j : Int))]) (fun j => I) (fun j => []) 0 ⟨Nat.zero_le _, fun g hg => by simp at hg⟩ ⟨rfl, rfl, rfl, rfl, trivial⟩ rfl rfl ?_
 rintro j ⟨hj, hall⟩
 refine axc (fun hc1 hc1p => ?_) (fun hc1 hc1p => ?_)
 ·
  have hlt : j < l.length := by omega
  obtain ⟨x, hget⟩ : ∃ x, l[j]? = some x := ⟨_, List.getElem?_eq_getElem hlt⟩
  obtain ⟨fb, fo, fcs, fty, ffr, sp, rfl, hfb, hfd⟩ := hp (ne_nil_of hlt)
  refine xix (fo + j) ?_
  refine J.z (yl_load rfl rfl isAgg9 (Blk.imm hfb) (str_from hfd hget)) ?_
  refine xpu (hcl x (List.mem_of_getElem? hget)) ?_
  refine ax0 (fun hc2 => ?_) (fun hc2 => ?_)
  ·
   have ht : pq x = true := hc2
   refine axe ?_
   rw [idxI_at hall hget ht]
   exact ⟨rfl, rfl⟩
  have hnt : pq x = false := hc2
  refine axn 7 ?_
  refine Ej.round (j + 1) ⟨by omega, false_next hall hget hnt⟩ (by omega) ⟨rfl, rfl, rfl, rfl, trivial⟩ rfl rfl
 have hfull : l.take j = l := List.take_of_length_le (by omega)
 rw [hfull] at hall
 refine axe ?_
 rw [idxI_none hall]
 exact ⟨rfl, rfl⟩
theorem runsF_len : ∀ (s w : List UInt8), (Ix.runsF w s).length ≤ s.length + w.length
  | [], w => by
    unfold Ix.runsF
    split
    · simp
    rename_i h; have : 0 < w.length := List.length_pos_iff.2 h; simp only [List.length_cons, List.length_nil]; omega
  | c :: r, w => by
    unfold Ix.runsF
    split
    · have := runsF_len r (w ++ [c]); rw [List.length_append] at this; simp only [List.length_cons, List.length_nil] at this ⊢; omega
    split
    · have := runsF_len r []; simp only [List.length_nil, List.length_cons] at this ⊢; omega
    rename_i h
    have := runsF_len r []; have h2 : 0 < w.length := List.length_pos_iff.2 h
    simp only [List.length_nil, List.length_cons] at this ⊢; omega
theorem runsD_len (s : List UInt8) : (Ix.runsD s).length ≤ s.length := by
  have := runsF_len s []
  exact this
theorem iyear_ok (s : List UInt8) (hs : s.length ≤ 100000000) (I : Heap) : Pure Tryz.prog 215 [str s] I (.tuple #[str ((Ix.yearOf s).getD []), .bool (Ix.yearOf s).isSome]) := by
 refine Ctr.toPure ?_
 have hrl := runsD_len s
 refine xob func215 fun w0 hw0 => ?_
 refine xca (FieldsFunc_ok s (by omega) _) ?_
 intro v1 I2 H3 hle4 hp5
 obtain ⟨vl, h, hl, rfl⟩ := hp5; cases h
 refine xpu (IndexFuncS_ok (Ix.runsD s) _ four 259 [] (by omega) _ (StrP.of hl) (fun x _ => year1_ok x _)) ?_
 refine axc (fun hc11 hc11p => ?_) (fun hc11 hc11p => ?_)
 ·
  have hfind : Ix.yearOf s = none := ((idxI_cases four (Ix.runsD s)).resolve_right (fun ⟨k, x, h, _⟩ => by rw [h] at hc11p; omega)).2
  refine axe ?_
  rw [hfind]
  exact ⟨rfl, rfl⟩
 obtain ⟨k, y, hkk, hget, hfind⟩ := (idxI_cases four (Ix.runsD s)).resolve_left (fun h => by rw [h.1] at hc11p; omega)
 obtain ⟨yb, yc, ysp, rfl, hyb⟩ := hl.some (fun e => by rw [e] at hget; cases hget)
 rw [hkk]
 have hklt := (List.getElem?_eq_some_iff.1 hget).1
 refine xix k ?_
 refine J.z (yl_load rfl rfl isAgg9 (Blk.imm hyb) (str_get hget)) ?_
 refine axe ?_
 rw [show Ix.yearOf s = some y from hfind]
 exact ⟨rfl, rfl⟩
end Go.Proofs.YtekmeaoblpfnpaaGreatDoor
end
section
set_option maxHeartbeats 40000000
namespace Go.Proofs.YtekmeaoblpfnpaaGreatDoor
open _root_.Go.Proofs.Tryz
open Go Go.Sx
def pickU (u : List UInt8 → List UInt8 × Bool) (code : UInt8) (s : Ke.Sub) : Option (List UInt8) := if (u s.text).2 = true ∧ s.code = code then some (u s.text).1 else none
def uy (s : List UInt8) : List UInt8 × Bool := ((Ix.yearOf s).getD [], (Ix.yearOf s).isSome)
theorem pick_yr : pickU uy 99 = Ix.yr := by
  funext s
  unfold pickU uy Ix.yr
  by_cases h : s.code = 99
  · rw [if_pos h]
    cases hy : Ix.yearOf s.text with
    | none => simp
    | some y => simp [h]
  rw [if_neg h, if_neg (fun g => h g.2)]
theorem fm_next {u : List UInt8 → List UInt8 × Bool} {code : UInt8} {ss : List Ke.Sub} {k : Nat} {s : Ke.Sub} (h : ss[k]? = some s) : (ss.take (k + 1)).filterMap (pickU u code) = (ss.take k).filterMap (pickU u code) ++ (if (u s.text).2 = true ∧ s.code = code then [(u s.text).1] else []) := by
  obtain ⟨hlt, hg⟩ := List.getElem?_eq_some_iff.1 h
  rw [List.take_succ_eq_append_getElem hlt, hg, List.filterMap_append]
  by_cases hc : (u s.text).2 = true ∧ s.code = code
  · rw [if_pos hc]; simp [pickU, hc]
  rw [if_neg hc]; simp [pickU, hc]
theorem pre_eq {s p : List UInt8} (_h : p.length ≤ s.length) : p.isPrefixOf s = ((s.take p.length).drop 0 == p) := by
  rw [List.drop_zero, Bool.eq_iff_iff, List.isPrefixOf_iff_prefix, beq_iff_eq, List.prefix_iff_eq_take]
  exact ⟨fun e => e.symm, fun e => e.symm⟩
theorem pre_no {s p : List UInt8} (h : ¬ p.length ≤ s.length) : p.isPrefixOf s = false := by
  rw [Bool.eq_false_iff, Ne, List.isPrefixOf_iff_prefix]
  exact fun e => h e.length_le
theorem StrS_sl {T : TypeId} {I : Heap} {l : List (List UInt8)} {v : Value} (h : StrS T I l v) : ∃ p c, v = .slice p l.length c := by
  rcases h with ⟨rfl, rfl⟩ | ⟨b, c, sp, rfl, _, _⟩
  · exact ⟨none, 0, rfl⟩
  exact ⟨_, c, rfl⟩
theorem vw_one {I : Heap} {l : List (List UInt8)} {a b w : Value} (h : StrS 9 I l w) (ha : Value.oneCell' a = true) (hb : Value.oneCell' b = true) : [a, b, w].all Value.oneCell' = true := by
  obtain ⟨p, c, rfl⟩ := StrS_sl h
  simp only [List.all_cons, List.all_nil, ha, hb, Bool.and_true, Bool.true_and]; rfl
def EOK (fs : List Ke.Fld) : Prop := fs.length ≤ 1000 ∧ ∀ f ∈ fs, f.subs.length ≤ 1000 ∧ textsLen f.subs ≤ 3000000 ∧ f.ind.length ≤ 2000000
abbrev VW := Ix.V × Value
def vwC (x : VW) : List Value := [str x.1.name, str x.1.key, x.2]
theorem vwC_len (x : VW) : (vwC x).length = 3 := rfl
def ValsX (I : Heap) (xs : List VW) (vs : List Ix.V) : Prop := xs.map (·.1) = vs ∧ ∀ x ∈ xs, StrS 9 I x.1.ws x.2
theorem ValsX.mono {I I' : Heap} {xs : List VW} {vs : List Ix.V} (h : ValsX I xs vs) (hle : Le I I') : ValsX I' xs vs := ⟨h.1, fun x hx => (h.2 x hx).mono hle⟩
theorem ValsX.len {I : Heap} {xs : List VW} {vs : List Ix.V} (h : ValsX I xs vs) : xs.length = vs.length := by rw [← h.1, List.length_map]
theorem ValsX.add {I : Heap} {xs : List VW} {vs : List Ix.V} (h : ValsX I xs vs) {v : Ix.V} {w : Value} (hw : StrS 9 I v.ws w) : ValsX I (xs ++ [(v, w)]) (vs ++ [v]) :=
  ⟨by rw [List.map_append, h.1]; rfl, fun x hx => by
    rcases List.mem_append.1 hx with g | g
    · exact h.2 x g
    rw [List.mem_singleton.1 g]; exact hw⟩
def ValsS (I : Heap) (vs : List Ix.V) (v : Value) : Prop := ∃ xs, RowT 142 vwC I xs v ∧ ValsX I xs vs
theorem ValsS.mono {I I' : Heap} {vs : List Ix.V} {v : Value} (h : ValsS I vs v) (hle : Le I I') : ValsS I' vs v := let ⟨xs, h1, h2⟩ := h; ⟨xs, h1.mono hle, h2.mono hle⟩
theorem named_len (f : Ke.Fld) (h : f.subs.length ≤ 1000) : (Ix.named f).2.length ≤ 1000 := by
  unfold Ix.named
  repeat' split
  all_goals first
    | exact Nat.le_trans (List.length_filterMap_le _ _) h
    | simp
theorem fm_text {p : Ke.Sub → Option (List UInt8)} {ss : List Ke.Sub} {s : List UInt8} {n : Nat} (hp : ∀ x ∈ ss, ∀ y, p x = some y → y.length ≤ n) (h : s ∈ ss.filterMap p) : s.length ≤ n := by
  obtain ⟨x, hx, he⟩ := List.mem_filterMap.1 h
  exact hp x hx s he
theorem isbn_len (s : List UInt8) : (Ke.isbn s).1.length ≤ 13 := by
  unfold Ke.isbn Ke.isbnN
  split
  · simp only [List.length_append, List.length_take, List.length_cons, List.length_nil]; omega
  split
  · rename_i h; have := h.1; dsimp only; omega
  simp
theorem yearOf_len {s y : List UInt8} (h : Ix.yearOf s = some y) : y.length = 4 := by
  have h1 := List.find?_some h
  exact of_decide_eq_true h1
theorem named_text {f : Ke.Fld} {s : List UInt8} (h : s ∈ (Ix.named f).2) : s.length ≤ textsLen f.subs + f.subs.length + 13 := by
  have ht : ∀ c : List UInt8, (Ke.textOf f c).length ≤ textsLen f.subs + f.subs.length := textOf_len f
  unfold Ix.named at h
  repeat' split at h
  all_goals first
    | (rw [List.mem_singleton] at h; rw [h]; have := ht [97, 98]; have := ht [97]; have := ht [97, 120]; omega)
    | (refine Nat.le_trans (fm_text (n := 13) (fun x _ y hy => ?_) h) (by omega); unfold Ke.isb at hy; split at hy; (cases hy; exact isbn_len _); cases hy)
    | (refine Nat.le_trans (fm_text (n := 13) (fun x _ y hy => ?_) h) (by omega); unfold Ix.yr at hy; split at hy; (have := yearOf_len hy; omega); cases hy)
    | cases h
theorem vals1_len (f : Ke.Fld) (h : f.subs.length ≤ 1000) : (Ix.vals1 f).length ≤ 1001 := by
  have := named_len f h
  unfold Ix.vals1
  rw [List.length_append, List.length_map]
  split <;> simp <;> omega
theorem vals_take (fs : List Ke.Fld) (h : EOK fs) (j : Nat) : (Ix.vals (fs.take j)).length ≤ j * 1001 := by
  induction j with
  | zero => simp [Ix.vals]
  | succ j ih =>
    rcases Nat.lt_or_ge j fs.length with hj | hj
    · rw [List.take_succ_eq_append_getElem hj]
      unfold Ix.vals at ih ⊢
      rw [List.flatMap_append, List.length_append]
      have := vals1_len fs[j] (h.2 _ (List.getElem_mem hj)).1
      simp only [List.flatMap_cons, List.flatMap_nil, List.append_nil]
      omega
    rw [List.take_of_length_le hj] at ih
    rw [List.take_of_length_le (show fs.length ≤ j + 1 by omega)]
    exact Nat.le_trans ih (Nat.mul_le_mul_right _ (Nat.le_succ j))
theorem vals_next {fs : List Ke.Fld} {j : Nat} {f : Ke.Fld} (h : fs[j]? = some f) : Ix.vals (fs.take (j + 1)) = Ix.vals (fs.take j) ++ Ix.vals1 f := by
  obtain ⟨hlt, hg⟩ := List.getElem?_eq_some_iff.1 h
  rw [List.take_succ_eq_append_getElem hlt, hg]
  unfold Ix.vals
  rw [List.flatMap_append]; simp
abbrev nv (f : Ke.Fld) (s : List UInt8) : Ix.V := ⟨(Ix.named f).1, s, Ix.skipT f⟩
theorem map_next {α β : Type} (g : α → β) {l : List α} {k : Nat} {x : α} (h : l[k]? = some x) : (l.take (k + 1)).map g = (l.take k).map g ++ [g x] := by
  obtain ⟨hlt, hg⟩ := List.getElem?_eq_some_iff.1 h
  rw [List.take_succ_eq_append_getElem hlt, hg, List.map_append]; rfl
structure VA where
  j : Nat
  J : Heap
  xs : List VW
  g : Gs
theorem sHasPrefix_ok (s p : List UInt8) (hp : p.length ≤ 1000000) (I : Heap) : Pure Tryz.prog 216 [str s, str p] I (.bool (p.isPrefixOf s)) := by
 refine Ctr.toPure ?_
 refine xob func216 fun w0 hw0 => ?_
 refine axg (fun hg1 hg1p => ?_) (fun hg1 hg1p => ?_)
 ·
  have hge : p.length ≤ s.length := by have h := of_decide_eq_true hg1; omega
  refine axn 3 ?_
  refine J.zg (yl_sliceStr (p := 0) (q := p.length) rfl rfl underlying9 rfl ⟨_, rfl⟩ (by omega) (by omega)) ?_
  refine axe ?_
  refine ⟨?_, rfl⟩
  rw [pre_eq hge]
 have hge : ¬ p.length ≤ s.length := by have h := of_decide_eq_false hg1; omega
 refine axe ?_
 rw [pre_no hge]
 exact ⟨rfl, rfl⟩
theorem HasPrefix_ok (s p : List UInt8) (hp : p.length ≤ 1000000) (I : Heap) : Pure Tryz.prog 149 [str s, str p] I (.bool (p.isPrefixOf s)) := by
 refine Ctr.toPure ?_
 refine xob func149 fun w0 hw0 => ?_
 refine xpu (sHasPrefix_ok s p hp _) ?_
 refine axe ?_
 exact ⟨rfl, rfl⟩
theorem subfields_ok (f : Ke.Fld) (code : UInt8) (g0 : Nat) (u : List UInt8 → List UInt8 × Bool) (hn : f.subs.length ≤ 2000000) (htx : textsLen f.subs ≤ 3000000) (hu : ∀ s J, s.length ≤ 100000000 → Pure Tryz.prog g0 [str s] J (.tuple #[str (u s).1, .bool (u s).2])) (I : Heap) (hr : RowS subC I f.subs f.sv) : Ctr Tryz.prog 214 [.agg (fldC f).toArray, u8 code, .func (.func g0) #[] #[]] I []
    (fun e I' H' => ∃ v, e = .returned v ∧ StrS 9 I' (f.subs.filterMap (pickU u code)) v ∧ H' = []) := by
 obtain ⟨p2, c2, hsv, hc2, hp2⟩ := hr
 refine xob func214 fun w0 hw0 => ?_
 refine axn 3 ?_
 intro b1 hb1
 refine axn 13 ?_
 refine J.ev 13 (.slice p2 f.subs.length c2) rfl hsv ?_
 refine axn 5 ?_
 refine Cj.keep (Keeps.d Keeps.n) ?_
 refine Cj.loop (ι := Nat × Gs) (fun j => j.1 ≤ f.subs.length ∧ gOk w0.heap.size 1 ((f.subs.take j.1).filterMap (pickU u code)).length (((f.subs.take j.1).filterMap (pickU u code)).map str) j.2) (fun j => f.subs.length - j.1) (fun j => [(1, u8 code), (2, .func (.func g0) #[] #[]), (7, gV ((f.subs.take j.1).filterMap (pickU u code)).length j.2), (13, .slice p2 f.subs.length c2), (14, i64 (f.subs.length : Int)), (15, i64 (j.1 : Int))]) (fun j => _) (fun j => gH 9 (((f.subs.take j.1).filterMap (pickU u code)).map str) j.2) (0, none) ⟨Nat.zero_le _, rfl, rfl⟩ ⟨rfl, rfl, rfl, rfl, rfl, rfl, trivial⟩ rfl rfl ?_
 rintro ⟨j, g⟩ ⟨hj, hg⟩
 dsimp only at hj hg ⊢
 have htl := List.length_filterMap_le (pickU u code) (f.subs.take j)
 rw [List.length_take, Nat.min_eq_left hj] at htl
 refine axc (fun hc2 hc2p => ?_) (fun hc2 hc2p => ?_)
 ·
  refine axn 5 ?_
  have hlt : j < f.subs.length := by omega
  obtain ⟨sb, hsget⟩ : ∃ x, f.subs[j]? = some x := ⟨_, List.getElem?_eq_getElem hlt⟩
  obtain ⟨sbk, so, scs, sty, sfr, sp2, rfl, hsbk, hsd⟩ := hp2 (ne_nil_of hlt)
  have hsl := text_mem (List.mem_of_getElem? hsget)
  have hnx := fm_next (u := u) (code := code) hsget
  refine xix (so + j * 2) ?_
  refine J.z (yl_loadAgg rfl rfl isAgg176 sizeOf176 (Blk.imm hsbk) (row_from subC_len hsd hsget) rfl) ?_
  refine axn 1 ?_
  intro b3 hb3
  refine xpu (hu sb.text _ (by omega)) ?_
  refine axg (fun hg4 hg4p => ?_) (fun hg4 hg4p => ?_)
  ·
   have hcd : sb.code = code := UInt8.toNat_inj.1 (by have h := eq_of_beq hg4; omega)
   refine ax0 (fun hc5 => ?_) (fun hc5 => ?_)
   ·
    rw [if_pos ⟨hc5, hcd⟩] at hnx
    refine axn 4 ?_
    intro b6 hb6
    refine xap 15 [_, _] hg ?_
    intro g7 hg7
    refine axn 8 ?_
    refine Ej.keep (Keeps.d (Keeps.d Keeps.r)) ?_
    refine Ej.round (j + 1, g7) ⟨by dsimp only; omega, by dsimp only; rw [hnx, List.map_append, List.length_append]; exact hg7⟩ (by dsimp only; omega) ⟨rfl, rfl, by dsimp only; rw [hnx, List.length_append]; rfl, rfl, rfl, rfl, trivial⟩ rfl (by dsimp only; rw [hnx, List.map_append]; rfl)
   rw [if_neg (fun g => Bool.noConfusion (g.1.symm.trans hc5))] at hnx
   refine axn 7 ?_
   refine Ej.keep (Keeps.d Keeps.r) ?_
   refine Ej.round (j + 1, g) ⟨by dsimp only; omega, by dsimp only; rw [hnx, List.append_nil]; exact hg⟩ (by dsimp only; omega) ⟨rfl, rfl, by dsimp only; rw [hnx, List.append_nil]; rfl, rfl, rfl, rfl, trivial⟩ rfl (by dsimp only; rw [hnx, List.append_nil])
  have hcd : sb.code ≠ code := fun e => ne_of_beq_false hg4 (by rw [e])
  rw [if_neg (fun g => hcd g.2)] at hnx
  refine axn 12 ?_
  refine Ej.keep (Keeps.d Keeps.r) ?_
  refine Ej.round (j + 1, g) ⟨by dsimp only; omega, by dsimp only; rw [hnx, List.append_nil]; exact hg⟩ (by dsimp only; omega) ⟨rfl, rfl, by dsimp only; rw [hnx, List.append_nil]; rfl, rfl, rfl, rfl, trivial⟩ rfl (by dsimp only; rw [hnx, List.append_nil])
 refine axn 6 ?_
 have hfull : f.subs.take j = f.subs := List.take_of_length_le (by omega)
 rw [hfull] at hg ⊢
 refine Cj.perm (H' := gH _ _ _ ++ []) (.of_eq (List.append_nil _)) ?_
 refine Cj.keepS hg (fun I8 hle8 hv => ?_)
 refine axe ?_
 exact ⟨_, rfl, hv, rfl⟩
theorem named_ok (f : Ke.Fld) (hn : f.subs.length ≤ 2000000) (htx : textsLen f.subs ≤ 3000000) (I : Heap) (hr : RowS subC I f.subs f.sv) : Ctr Tryz.prog 147 [.agg (fldC f).toArray] I []
    (fun e I' H' => ∃ v, e = .returned (.tuple #[str (Ix.named f).1, v]) ∧ StrS 9 I' (Ix.named f).2 v ∧ H' = []) := by
 refine xob func147 fun w0 hw0 => ?_
 refine axn 3 ?_
 intro b1 hb1
 refine axc (fun hc2 hc2p => ?_) (fun hc2 hc2p => ?_)
 ·
  refine xpu (itext_ok f [97, 98] hn htx _ hr) ?_
  refine J.ev 10 (str (Ke.textOf f [97, 98])) rfl (congrArg str (textX_of (List.cons_ne_nil _ _))) ?_
  refine axn 1 ?_
  intro b4 hb4
  refine axn 7 ?_
  have hnm : Ix.named f = (Ix.nTitle, [Ke.textOf f [97, 98]]) := by simp [Ix.named, *]
  rw [hnm]
  refine Ej.persist hb4 (fun I6 hle5 hb4i => ?_)
  have hr := hr.mono hle5
  refine axr ?_
  exact ⟨_, rfl, .inr ⟨b4, 1, [], rfl, Nat.le_refl _, hb4i⟩, rfl⟩
 refine axc (fun hc7 hc7p => ?_) (fun hc7 hc7p => ?_)
 ·
  refine xpu (itext_ok f [97, 98] hn htx _ hr) ?_
  refine J.ev 10 (str (Ke.textOf f [97, 98])) rfl (congrArg str (textX_of (List.cons_ne_nil _ _))) ?_
  refine axn 1 ?_
  intro b8 hb8
  refine axn 7 ?_
  have hnm : Ix.named f = (Ix.nTitle, [Ke.textOf f [97, 98]]) := by simp [Ix.named, *]
  rw [hnm]
  refine Ej.persist hb8 (fun I10 hle9 hb8i => ?_)
  have hr := hr.mono hle9
  refine axr ?_
  exact ⟨_, rfl, .inr ⟨b8, 1, [], rfl, Nat.le_refl _, hb8i⟩, rfl⟩
 refine axc (fun hc11 hc11p => ?_) (fun hc11 hc11p => ?_)
 ·
  refine xpu (itext_ok f [97] hn htx _ hr) ?_
  refine J.ev 17 (str (Ke.textOf f [97])) rfl (congrArg str (textX_of (List.cons_ne_nil _ _))) ?_
  refine axn 1 ?_
  intro b13 hb13
  refine axn 7 ?_
  have hnm : Ix.named f = (Ix.nAuthor, [Ke.textOf f [97]]) := by simp [Ix.named, *]
  rw [hnm]
  refine Ej.persist hb13 (fun I15 hle14 hb13i => ?_)
  have hr := hr.mono hle14
  refine axr ?_
  exact ⟨_, rfl, .inr ⟨b13, 1, [], rfl, Nat.le_refl _, hb13i⟩, rfl⟩
 refine axc (fun hc16 hc16p => ?_) (fun hc16 hc16p => ?_)
 ·
  refine xpu (itext_ok f [97] hn htx _ hr) ?_
  refine J.ev 17 (str (Ke.textOf f [97])) rfl (congrArg str (textX_of (List.cons_ne_nil _ _))) ?_
  refine axn 1 ?_
  intro b18 hb18
  refine axn 7 ?_
  have hnm : Ix.named f = (Ix.nAuthor, [Ke.textOf f [97]]) := by simp [Ix.named, *]
  rw [hnm]
  refine Ej.persist hb18 (fun I20 hle19 hb18i => ?_)
  have hr := hr.mono hle19
  refine axr ?_
  exact ⟨_, rfl, .inr ⟨b18, 1, [], rfl, Nat.le_refl _, hb18i⟩, rfl⟩
 refine axc (fun hc21 hc21p => ?_) (fun hc21 hc21p => ?_)
 ·
  refine xpu (itext_ok f [97] hn htx _ hr) ?_
  refine J.ev 17 (str (Ke.textOf f [97])) rfl (congrArg str (textX_of (List.cons_ne_nil _ _))) ?_
  refine axn 1 ?_
  intro b22 hb22
  refine axn 7 ?_
  have hnm : Ix.named f = (Ix.nAuthor, [Ke.textOf f [97]]) := by simp [Ix.named, *]
  rw [hnm]
  refine Ej.persist hb22 (fun I24 hle23 hb22i => ?_)
  have hr := hr.mono hle23
  refine axr ?_
  exact ⟨_, rfl, .inr ⟨b22, 1, [], rfl, Nat.le_refl _, hb22i⟩, rfl⟩
 refine axc (fun hc25 hc25p => ?_) (fun hc25 hc25p => ?_)
 ·
  refine xpu (itext_ok f [97, 120] hn htx _ hr) ?_
  refine J.ev 23 (str (Ke.textOf f [97, 120])) rfl (congrArg str (textX_of (List.cons_ne_nil _ _))) ?_
  refine axn 1 ?_
  intro b27 hb27
  refine axn 7 ?_
  have hnm : Ix.named f = (Ix.nSubject, [Ke.textOf f [97, 120]]) := by simp [Ix.named, *]
  rw [hnm]
  refine Ej.persist hb27 (fun I29 hle28 hb27i => ?_)
  have hr := hr.mono hle28
  refine axr ?_
  exact ⟨_, rfl, .inr ⟨b27, 1, [], rfl, Nat.le_refl _, hb27i⟩, rfl⟩
 refine axc (fun hc30 hc30p => ?_) (fun hc30 hc30p => ?_)
 ·
  refine xpu (itext_ok f [97, 120] hn htx _ hr) ?_
  refine J.ev 23 (str (Ke.textOf f [97, 120])) rfl (congrArg str (textX_of (List.cons_ne_nil _ _))) ?_
  refine axn 1 ?_
  intro b31 hb31
  refine axn 7 ?_
  have hnm : Ix.named f = (Ix.nSubject, [Ke.textOf f [97, 120]]) := by simp [Ix.named, *]
  rw [hnm]
  refine Ej.persist hb31 (fun I33 hle32 hb31i => ?_)
  have hr := hr.mono hle32
  refine axr ?_
  exact ⟨_, rfl, .inr ⟨b31, 1, [], rfl, Nat.le_refl _, hb31i⟩, rfl⟩
 refine axc (fun hc34 hc34p => ?_) (fun hc34 hc34p => ?_)
 ·
  refine xca (subfields_ok f 97 137 Ke.isbn hn htx (fun s J h => Isbn_ok s h J) _ hr) ?_
  intro v35 I36 H37 hle38 hp39
  have hr := hr.mono hle38
  obtain ⟨vl, h, hv, rfl⟩ := hp39; cases h
  refine axn 7 ?_
  have hnm : Ix.named f = (Ix.nIsbn, f.subs.filterMap Ke.isb) := by simp [Ix.named, *]
  rw [hnm]
  refine axr ?_
  exact ⟨_, rfl, hv, rfl⟩
 refine axc (fun hc40 hc40p => ?_) (fun hc40 hc40p => ?_)
 ·
  refine xca (subfields_ok f 99 215 uy hn htx (fun s J h => iyear_ok s h J) _ hr) ?_
  intro v41 I42 H43 hle44 hp45
  have hr := hr.mono hle44
  obtain ⟨vl, h, hv, rfl⟩ := hp45; cases h
  refine axn 7 ?_
  have hnm : Ix.named f = (Ix.nYear, f.subs.filterMap Ix.yr) := by simp [Ix.named, *]
  rw [hnm]
  refine axr ?_
  rw [← pick_yr]
  exact ⟨_, rfl, hv, rfl⟩
 refine axn 10 ?_
 have hnm : Ix.named f = ([], []) := by simp [Ix.named, *]
 rw [hnm]
 refine axr ?_
 exact ⟨_, rfl, .inl ⟨rfl, rfl⟩, rfl⟩
theorem valuesOf_ok (fs : List Ke.Fld) (v : Value) (rk rl : UInt8) (hok : EOK fs) (I : Heap) (hr0 : RecS I fs v) : Ctr Tryz.prog 95 [recV rk rl v] I []
    (fun e I' H' => ∃ w, e = .returned w ∧ ValsS I' (Ix.vals fs) w ∧ H' = []) := by
 have hfs := hok.1
 obtain ⟨p, c, rfl, hc, -⟩ := id hr0.1
 refine xob func95 fun w0 hw0 => ?_
 refine axn 3 ?_
 intro b1 hb1
 refine axn 18 ?_
 refine Cj.keep (Keeps.d Keeps.n) ?_
 refine Cj.loop (ι := VA) (fun y => y.j ≤ fs.length ∧ Le I y.J ∧ ValsX y.J y.xs (Ix.vals (fs.take y.j)) ∧ gOk w0.heap.size 3 y.xs.length (y.xs.flatMap vwC) y.g) (fun y => fs.length - y.j) (fun y => [(3, gV y.xs.length y.g), (12, .slice p fs.length c), (13, i64 (fs.length : Int)), (14, i64 (y.j : Int))]) (fun y => y.J) (fun y => gH 142 (y.xs.flatMap vwC) y.g) ⟨0, _, [], none⟩ ⟨Nat.zero_le _, Le.refl _, ⟨rfl, fun x hx => by cases hx⟩, rfl, rfl⟩ ⟨rfl, rfl, rfl, rfl, trivial⟩ rfl rfl ?_
 rintro ⟨j, Jh, xs, g⟩ ⟨hj, hIJ, hX, hg⟩
 dsimp only at hj hIJ hX hg ⊢
 have hr := hr0.mono hIJ
 have hxl := hX.len
 have hvl := vals_take fs hok j
 refine axc (fun hc2 hc2p => ?_) (fun hc2 hc2p => ?_)
 ·
  have hlt : j < fs.length := by omega
  obtain ⟨f, hget⟩ : ∃ f, fs[j]? = some f := ⟨_, List.getElem?_eq_getElem hlt⟩
  have hfm := List.mem_of_getElem? hget
  obtain ⟨hk1, hk2, hk3⟩ := hok.2 f hfm
  obtain ⟨⟨p1, c1, hpe, hc1, hp⟩, hsub⟩ := id hr
  cases hpe
  obtain ⟨fb, fo, fcs, fty, ffr, sp, rfl, hfb, hfd⟩ := hp (ne_nil_of hlt)
  have hrf := hsub f hfm
  clear hsub
  obtain ⟨p2, c2, hsv, -, -⟩ := id hrf
  have hnl := named_len f hk1
  have htl3 := textX_len f []
  rw [textX_all] at htl3
  refine xix (fo + j * 4) ?_
  refine J.z (yl_loadAgg rfl rfl isAgg108 sizeOf108 (Blk.imm hfb) (row_from fldC_len hfd hget) rfl) ?_
  refine axn 1 ?_
  intro b3 hb3
  refine J.op rfl (op_store 0 rfl rfl rfl rfl rfl (fldC_one hsv) sizeOf108 rfl rfl (LSpl.c (LSpl.c (LSpl.c (LSpl.c LSpl.z)))) LSet.z ?_)
  refine xca (named_ok f (by omega) hk2 _ hrf) ?_
  intro v4 I5 H6 hle7 hp8
  have hr := hr.mono hle7
  have hX := hX.mono hle7
  have hIJ := hIJ.mono hle7
  have hfb := hle7 _ _ hfb
  have hrf := hrf.mono hle7
  obtain ⟨vl, h, hls, rfl⟩ := hp8; cases h
  obtain ⟨lp, lc, rfl⟩ := StrS_sl hls
  refine axn 16 ?_
  refine Cj.keep (Keeps.k Keeps.r) ?_
  refine Cj.loop (ι := VA) (fun y => y.j ≤ (Ix.named f).2.length ∧ Le I5 y.J ∧ ValsX y.J y.xs (Ix.vals (fs.take j) ++ ((Ix.named f).2.take y.j).map (nv f)) ∧ gOk w0.heap.size 3 y.xs.length (y.xs.flatMap vwC) y.g) (fun y => (Ix.named f).2.length - y.j) (fun y => [(3, gV y.xs.length y.g), (5, ptr b3 0), (6, str (Ix.named f).1), (12, .slice (some ⟨fb, fo, none⟩) fs.length c), (13, i64 (fs.length : Int)), (14, i64 (j : Int)), (23, .slice lp (Ix.named f).2.length lc), (24, i64 ((Ix.named f).2.length : Int)), (25, i64 (y.j : Int))]) (fun y => y.J) (fun y => (b3, cel 108 (fldC f)) :: gH 142 (y.xs.flatMap vwC) y.g) ⟨0, _, xs, g⟩ ⟨Nat.zero_le _, Le.refl _, by dsimp only; rw [List.take_zero, List.map_nil, List.append_nil]; exact hX, hg⟩ ⟨rfl, rfl, rfl, rfl, rfl, rfl, rfl, rfl, rfl, trivial⟩ rfl rfl ?_
  rintro ⟨q, Kh, xs, g⟩ ⟨hq, hIK, hX, hg⟩
  dsimp only at hq hIK hX hg ⊢
  have hIJ := hIJ.mono hIK
  have hr := hr.mono hIK
  have hrf := hrf.mono hIK
  have hls := hls.mono hIK
  have hfb := hIK _ _ hfb
  have hxl := hX.len
  rw [List.length_append, List.length_map, List.length_take, Nat.min_eq_left hq] at hxl
  refine axc (fun hc9 hc9p => ?_) (fun hc9 hc9p => ?_)
  ·
   have hqlt : q < (Ix.named f).2.length := by omega
   obtain ⟨s, hqget⟩ : ∃ s, (Ix.named f).2[q]? = some s := ⟨_, List.getElem?_eq_getElem hqlt⟩
   have hsl := named_text (List.mem_of_getElem? hqget)
   obtain ⟨lb, lc1, lsp, hle1, hlb⟩ := hls.some (ne_nil_of hqlt)
   cases hle1
   refine xix q ?_
   refine J.z (yl_load rfl rfl isAgg9 (Blk.imm hlb) (str_get hqget)) ?_
   refine xpu (skip_ok f hk3 _) ?_
   refine xpu (Sort_ok s ((Ix.skipT f : Nat) : Int) (by omega) _) ?_
   refine xca (Words_ok s (by omega) _) ?_
   intro v10 I11 H12 hle13 hp14
   have hr := hr.mono hle13
   have hX := hX.mono hle13
   have hrf := hrf.mono hle13
   have hls := hls.mono hle13
   have hfb := hle13 _ _ hfb
   have hIJ := hIJ.mono hle13
   have hIK := hIK.mono hle13
   have hlb := hle13 _ _ hlb
   obtain ⟨vw1, h, hw1, rfl⟩ := hp14; cases h
   obtain ⟨pvw1, cvw1, rfl⟩ := StrS_sl hw1
   refine J.z (yl_buildS (pl := #[(0, 1), (1, 1), (2, 1)]) rfl rfl zeroValue142 rfl underlying142 (fun w => by simp [sizeOf69, sizeOf9]) (LBld.part rfl rfl rfl (LSpl.c LSpl.z) (LBld.part rfl rfl rfl (LSpl.s (LSpl.c LSpl.z)) (LBld.part rfl rfl rfl (LSpl.s (LSpl.s (LSpl.c LSpl.z))) LBld.none)))) ?_
   refine J.op rfl (q3 underlying140 sizeOf142 zeroValue142 (LCat.agg rfl LCat.none) ?_)
   intro b15 hb15
   refine J.op rfl (op_append (by' := 55) [_, _] rfl rfl rfl rfl rfl underlying140 (.inr ⟨_, underlying140⟩) (by kernel_rfl) sizeOf142 zeroValue142 rfl hg rfl (Src.slice (Blk.at 0 rfl) rfl rfl (vw_one hw1 rfl rfl)) (by omega) ?_)
   intro g16 hg16
   refine axn 8 ?_
   refine Ej.keep (Keeps.d (Keeps.k Keeps.r)) ?_
   refine Ej.round ⟨q + 1, _, xs ++ [(nv f s, _)], g16⟩ ⟨by dsimp only; omega, hIK, by dsimp only; rw [map_next (nv f) hqget, ← List.append_assoc]; exact hX.add hw1, by dsimp only; rw [List.length_append, List.flatMap_append]; exact hg16⟩ (by dsimp only; omega) ⟨by dsimp only; rw [List.length_append]; rfl, rfl, rfl, rfl, rfl, rfl, rfl, rfl, rfl, trivial⟩ rfl (by dsimp only; rw [List.flatMap_append]; rfl)
  rw [List.take_of_length_le (by omega : (Ix.named f).2.length ≤ q)] at hX
  refine xpu (HasPrefix_ok f.tag [48, 48] (by decide) _) ?_
  refine axh (fun hg17 => ?_) (fun hg17 => ?_)
  ·
   refine xpu (HasPrefix_ok f.tag [57] (by decide) _) ?_
   refine ax0 (fun hc18 => ?_) (fun hc18 => ?_)
   ·
    have hany : Ix.anyOk f = true := by unfold Ix.anyOk; rw [Bool.and_eq_true]; exact ⟨hg17, hc18⟩
    refine xpu (itext_ok f [] (by omega) hk2 _ hrf) ?_
    refine J.ev 52 (str (Ix.allText f)) rfl (congrArg str (textX_all f)) ?_
    refine xpu (Sort_ok (Ix.allText f) 0 (by omega) _) ?_
    refine xca (Words_ok (Ix.allText f) (by omega) _) ?_
    intro v19 I20 H21 hle22 hp23
    have hr := hr.mono hle22
    have hX := hX.mono hle22
    have hrf := hrf.mono hle22
    have hls := hls.mono hle22
    have hfb := hle22 _ _ hfb
    have hIJ := hIJ.mono hle22
    have hIK := hIK.mono hle22
    obtain ⟨vw2, h, hw2, rfl⟩ := hp23; cases h
    obtain ⟨pvw2, cvw2, rfl⟩ := StrS_sl hw2
    refine J.z (yl_buildS (pl := #[(0, 1), (1, 1), (2, 1)]) rfl rfl zeroValue142 rfl underlying142 (fun w => by simp [sizeOf69, sizeOf9]) (LBld.part rfl rfl rfl (LSpl.c LSpl.z) (LBld.part rfl rfl rfl (LSpl.s (LSpl.c LSpl.z)) (LBld.part rfl rfl rfl (LSpl.s (LSpl.s (LSpl.c LSpl.z))) LBld.none)))) ?_
    refine J.op rfl (q3 underlying140 sizeOf142 zeroValue142 (LCat.agg rfl LCat.none) ?_)
    intro b24 hb24
    refine J.op rfl (op_append (by' := 55) [_, _] rfl rfl rfl rfl rfl underlying140 (.inr ⟨_, underlying140⟩) (by kernel_rfl) sizeOf142 zeroValue142 rfl hg rfl (Src.slice (Blk.at 0 rfl) rfl rfl (vw_one hw2 rfl rfl)) (by omega) ?_)
    intro g25 hg25
    refine axn 8 ?_
    refine Ej.keep (Keeps.d (Keeps.d Keeps.r)) ?_
    refine Ej.round ⟨j + 1, _, xs ++ [(⟨Ix.nAny, Ix.allText f, 0⟩, _)], g25⟩ ⟨by dsimp only; omega, hIJ, by dsimp only; rw [vals_next hget]; unfold Ix.vals1; rw [if_pos hany, ← List.append_assoc]; exact hX.add hw2, by dsimp only; rw [List.length_append, List.flatMap_append]; exact hg25⟩ (by dsimp only; omega) ⟨by dsimp only; rw [List.length_append]; rfl, rfl, rfl, rfl, trivial⟩ rfl (by dsimp only; rw [List.flatMap_append]; rfl)
   have hany : ¬ Ix.anyOk f = true := by unfold Ix.anyOk; rw [Bool.and_eq_true]; exact fun e => Bool.noConfusion (e.2.symm.trans hc18)
   refine axn 7 ?_
   refine Ej.keep (Keeps.d Keeps.r) ?_
   refine Ej.round ⟨j + 1, _, xs, g⟩ ⟨by dsimp only; omega, hIJ, by dsimp only; rw [vals_next hget]; unfold Ix.vals1; rw [if_neg hany, List.append_nil]; exact hX, by dsimp only; exact hg⟩ (by dsimp only; omega) ⟨rfl, rfl, rfl, rfl, trivial⟩ rfl rfl
  have hany : ¬ Ix.anyOk f = true := by unfold Ix.anyOk; rw [Bool.and_eq_true]; exact fun e => Bool.noConfusion (e.1.symm.trans hg17)
  refine axn 15 ?_
  refine Ej.keep (Keeps.d Keeps.r) ?_
  refine Ej.round ⟨j + 1, _, xs, g⟩ ⟨by dsimp only; omega, hIJ, by dsimp only; rw [vals_next hget]; unfold Ix.vals1; rw [if_neg hany, List.append_nil]; exact hX, by dsimp only; exact hg⟩ (by dsimp only; omega) ⟨rfl, rfl, rfl, rfl, trivial⟩ rfl rfl
 refine axn 6 ?_
 have hfull : fs.take j = fs := List.take_of_length_le (by omega)
 rw [hfull] at hX
 refine Cj.perm (H' := gH _ _ _ ++ []) (.of_eq (List.append_nil _)) ?_
 refine Cj.keepT vwC_len (by decide) hg rfl (fun I8 hle8 hv => ?_)
 have hX := hX.mono hle8
 refine axe ?_
 exact ⟨_, rfl, ⟨xs, hv, hX⟩, rfl⟩
end Go.Proofs.YtekmeaoblpfnpaaGreatDoor
end
section
namespace Go.Sx
open Go
section
variable {α β : Type}
variable {cx : Cx} {Q : Qt} {en : Env} {f : β → List Value} {sz : Nat} {T : TypeId} {R : HL} {c : Code}
end
end Go.Sx
end
