/-
  Book numbers in plain Lean. Own text; no program in sight. Conditions: none.
-/
import Derived.Test.YtnogdccoekfnoaaGreatDoorKeSpec
namespace Ke
def okb (c : UInt8) : Bool := digit c || c == 88 || c == 120 || c == 32 || c == 45
def nb (c : UInt8) : Bool := !(c == 32 || c == 45)
def up (c : UInt8) : UInt8 := if c = 120 then 88 else c
def norm (s : Bs) : Bs := ((s.takeWhile okb).filter nb).map up
def csum : Nat → Bs → Nat
  | _, [] => 0
  | k, c :: r => (c.toNat - 48) * (1 + 2 * (k % 2)) + csum (k + 1) r
def check (s : Bs) : UInt8 := UInt8.ofNat (48 + (10 - csum 0 (s.take 12) % 10) % 10)
def val (c : UInt8) : Nat := if c = 88 then 10 else c.toNat - 48
def rsum : Nat → Bs → Nat
  | _, [] => 0
  | k, c :: r => (10 - k) * val c + rsum (k + 1) r
def rightShort (s : Bs) : Bool := rsum 0 s % 11 == 0 && digits (s.take 9)
def isbnN (t : Bs) : Bs × Bool :=
  if t.length = 10 ∧ rightShort t = true then ([57, 55, 56] ++ t.take 9 ++ [check ([57, 55, 56] ++ t.take 9)], true)
  else if t.length = 13 ∧ digits t = true ∧ check t = t.getD 12 0 then (t, true)
  else ([], false)
def isbn (s : Bs) : Bs × Bool := isbnN (norm s)
/-! ### Made numbers -/
def dgt (x : UInt8) : UInt8 := 48 + x % 10
def ends (s : Bs) (q1 : UInt8) : UInt8 := let n := (11 - rsum 0 s % 11) % 11; if n = 10 then (if q1.toNat % 2 = 1 then 120 else 88) else UInt8.ofNat (48 + n)
def seps : List Bs := [[], [45], [32], [45, 45]]
def tails : List Bs := [[], [32, 40, 112, 98, 107, 46, 41], [57], [59]]
def numb (l : List UInt8) (q0 q1 q2 q3 : UInt8) : Bs :=
  let s12 := l.map dgt
  let s := if q0.toNat % 2 = 1 then s12.take 9 else s12
  let e := if q0.toNat % 2 = 1 then ends (s12.take 9) q1 else check s12
  let e := if q2.toNat % 4 = 3 then 48 + q2 / 4 % 10 else e
  let s := s ++ [e]
  let a := q3.toNat % s.length
  s.take a ++ seps.getD (q1.toNat / 2 % 4) [] ++ s.drop a ++ tails.getD (q3.toNat / 16 % 4) []
/-! ### Laws -/
theorem byte_all {p : UInt8 → Prop} (h : ∀ n < 256, p (UInt8.ofNat n)) (c : UInt8) : p c := by
  have := h c.toNat c.toNat_lt
  rwa [UInt8.ofNat_toNat] at this
theorem digit_iff {c : UInt8} : digit c = true ↔ 48 ≤ c.toNat ∧ c.toNat ≤ 57 := by
  simp [digit, UInt8.le_iff_toNat_le]
theorem digit_ok {c : UInt8} (h : digit c = true) : okb c = true ∧ nb c = true ∧ up c = c := by
  revert h
  exact byte_all (p := fun c => digit c = true → okb c = true ∧ nb c = true ∧ up c = c) (by decide +kernel) c
theorem digits_cons {c : UInt8} {r : Bs} : digits (c :: r) = (digit c && digits r) := rfl
theorem digits_app {a b : Bs} : digits (a ++ b) = (digits a && digits b) := by simp [digits, List.all_append]
theorem norm_all {s : Bs} (h : s.all okb = true) : norm s = (s.filter nb).map up := by
  have h1 : ∀ l : Bs, l.all okb = true → l.takeWhile okb = l := by
    intro l
    induction l with
    | nil => intro _; rfl
    | cons c r ih =>
      intro h
      rw [List.all_cons, Bool.and_eq_true] at h
      rw [List.takeWhile_cons_of_pos h.1, ih h.2]
  unfold norm
  rw [h1 s h]
theorem map_same : ∀ {s : Bs}, (∀ c ∈ s, up c = c) → s.map up = s
  | [], _ => rfl
  | c :: r, h => by rw [List.map_cons, h c (.head _), map_same fun d hd => h d (.tail _ hd)]
theorem norm_digits {s : Bs} (h : digits s = true) : norm s = s := by
  have h1 : ∀ c ∈ s, digit c = true := fun c hc => List.all_eq_true.1 h c hc
  rw [norm_all (List.all_eq_true.2 fun c hc => (digit_ok (h1 c hc)).1), List.filter_eq_self.2 fun c hc => (digit_ok (h1 c hc)).2.1]
  exact map_same fun c hc => (digit_ok (h1 c hc)).2.2
theorem dgt_digit (x : UInt8) : digit (dgt x) = true := byte_all (p := fun x => digit (dgt x) = true) (by decide +kernel) x
theorem map_dgt (l : List UInt8) : digits (l.map dgt) = true := List.all_eq_true.2 fun c hc => by
  obtain ⟨x, _, rfl⟩ := List.mem_map.1 hc
  exact dgt_digit x
theorem check_digit (s : Bs) : digit (check s) = true := by
  rw [digit_iff]
  unfold check
  have h : 48 + (10 - csum 0 (s.take 12) % 10) % 10 < 256 := by omega
  rw [UInt8.toNat_ofNat_of_lt' h]
  omega
theorem csum_app : ∀ (a b : Bs) (k : Nat), csum k (a ++ b) = csum k a + csum (k + a.length) b
  | [], b, k => by simp [csum]
  | c :: r, b, k => by
    simp only [List.cons_append, csum, List.length_cons, csum_app r b (k + 1)]
    rw [show k + 1 + r.length = k + (r.length + 1) by omega]
    omega
/-- All thirteen digits together. -/
theorem check_iff {t : Bs} (hl : t.length = 13) (hd : digits t = true) : check t = t.getD 12 0 ↔ csum 0 t % 10 = 0 := by
  obtain ⟨u, e, rfl⟩ : ∃ u e, t = u ++ [e] := ⟨t.dropLast, t.getLast (by intro h; rw [h] at hl; cases hl), (List.dropLast_concat_getLast _).symm⟩
  have hu : u.length = 12 := by simp at hl; omega
  have he : 48 ≤ e.toNat ∧ e.toNat ≤ 57 := by
    rw [digits_app, Bool.and_eq_true] at hd
    have := hd.2
    simp only [digits, List.all_cons, List.all_nil, Bool.and_true] at this
    exact digit_iff.1 this
  have h1 : (u ++ [e]).take 12 = u := by rw [← hu]; simp
  have h2 : (u ++ [e]).getD 12 0 = e := by rw [← hu]; simp [List.getD]
  have h3 : csum 0 (u ++ [e]) = csum 0 u + (e.toNat - 48) := by rw [csum_app, hu]; simp [csum]
  rw [h2, h3]
  unfold check
  rw [h1]
  have h4 : 48 + (10 - csum 0 u % 10) % 10 < 256 := by omega
  constructor
  · intro h
    have := congrArg UInt8.toNat h
    rw [UInt8.toNat_ofNat_of_lt' h4] at this
    omega
  · intro h
    apply UInt8.toNat.inj
    rw [UInt8.toNat_ofNat_of_lt' h4]
    omega
theorem csum_set : ∀ (s : Bs) (i k : Nat) (c : UInt8), k < s.length → ∃ w, (w = 1 ∨ w = 3) ∧ csum i (s.set k c) + ((s.getD k 0).toNat - 48) * w = csum i s + (c.toNat - 48) * w
  | [], _, _, _, h => by simp at h
  | d :: r, i, 0, c, _ => ⟨1 + 2 * (i % 2), by omega, by simp [csum, List.getD]; omega⟩
  | d :: r, i, k + 1, c, h => by
    obtain ⟨w, hw, h1⟩ := csum_set r (i + 1) k c (by simpa using h)
    refine ⟨w, hw, ?_⟩
    simp only [List.set_cons_succ, csum, List.getD_cons_succ]
    omega
theorem digits_set {s : Bs} {k : Nat} {c : UInt8} (h : digits s = true) (hc : digit c = true) : digits (s.set k c) = true := List.all_eq_true.2 fun d hd => by
  rcases List.mem_or_eq_of_mem_set hd with hd | rfl
  · exact List.all_eq_true.1 h d hd
  · exact hc
theorem isbn_13 {t : Bs} (hl : t.length = 13) (hd : digits t = true) : isbn t = if csum 0 t % 10 = 0 then (t, true) else ([], false) := by
  unfold isbn isbnN
  rw [norm_digits hd, if_neg (by omega)]
  have := check_iff hl hd
  by_cases h : csum 0 t % 10 = 0
  · rw [if_pos ⟨hl, hd, this.2 h⟩, if_pos h]
  · rw [if_neg (fun h' => h (this.1 h'.2.2)), if_neg h]
/-- A number with one digit changed is none. -/
theorem isbn_changed {t : Bs} {k : Nat} {c : UInt8} (hl : t.length = 13) (hd : digits t = true) (h0 : csum 0 t % 10 = 0) (hk : k < 13) (hc : digit c = true) (hne : c ≠ t.getD k 0) : (isbn (t.set k c)).2 = false := by
  have hl2 : (t.set k c).length = 13 := by simpa using hl
  rw [isbn_13 hl2 (digits_set hd hc)]
  obtain ⟨w, hw, h1⟩ := csum_set t 0 k c (by omega)
  have hg : t.getD k 0 ∈ t := by
    have : k < t.length := by omega
    simp [List.getD, this]
  have h2 := digit_iff.1 (List.all_eq_true.1 hd _ hg)
  have h3 := digit_iff.1 hc
  have h4 : c.toNat ≠ (t.getD k 0).toNat := fun h => hne (UInt8.toNat.inj h)
  rw [if_neg]
  rcases hw with rfl | rfl
  · omega
  · omega
theorem rsum_app : ∀ (a b : Bs) (k : Nat), rsum k (a ++ b) = rsum k a + rsum (k + a.length) b
  | [], b, k => by simp [rsum]
  | c :: r, b, k => by
    simp only [List.cons_append, rsum, List.length_cons, rsum_app r b (k + 1)]
    rw [show k + 1 + r.length = k + (r.length + 1) by omega]
    omega
theorem ends_ok (s : Bs) (q1 : UInt8) : okb (ends s q1) = true ∧ nb (ends s q1) = true ∧ val (up (ends s q1)) = (11 - rsum 0 s % 11) % 11 := by
  have key : ∀ n < 11, ∀ b : Bool, let e : UInt8 := if n = 10 then (if b = true then 120 else 88) else UInt8.ofNat (48 + n); okb e = true ∧ nb e = true ∧ val (up e) = n := by decide +kernel
  have := key ((11 - rsum 0 s % 11) % 11) (Nat.mod_lt _ (by decide)) (decide (q1.toNat % 2 = 1))
  simpa [ends] using this
theorem digits_val {s : Bs} (h : digits s = true) : s.map up = s := map_same fun c hc => (digit_ok (List.all_eq_true.1 h c hc)).2.2
theorem sep_ok (n : Nat) : (seps.getD n []).all (fun c => okb c && !nb c) = true := by
  rcases n with _ | _ | _ | _ | n <;> rfl
/-- A short number with a right check digit, however it is written. -/
theorem isbn_short (s : Bs) (q1 : UInt8) (a n : Nat) (hl : s.length = 9) (hd : digits s = true) :
    isbn ((s ++ [ends s q1]).take a ++ seps.getD n [] ++ (s ++ [ends s q1]).drop a) = ([57, 55, 56] ++ s ++ [check ([57, 55, 56] ++ s)], true) := by
  obtain ⟨e1, e2, e3⟩ := ends_ok s q1
  have hs : ∀ c ∈ s ++ [ends s q1], okb c = true ∧ nb c = true := fun c hc => by
    rcases List.mem_append.1 hc with hc | hc
    · have := digit_ok (List.all_eq_true.1 hd c hc); exact ⟨this.1, this.2.1⟩
    · simp at hc; subst hc; exact ⟨e1, e2⟩
  have hsep : ∀ c ∈ seps.getD n [], okb c = true ∧ nb c = false := fun c hc => by
    have := List.all_eq_true.1 (sep_ok n) c hc
    simpa using this
  have hall : ((s ++ [ends s q1]).take a ++ seps.getD n [] ++ (s ++ [ends s q1]).drop a).all okb = true := List.all_eq_true.2 fun c hc => by
    rcases List.mem_append.1 hc with hc | hc
    · rcases List.mem_append.1 hc with hc | hc
      · exact (hs c (List.mem_of_mem_take hc)).1
      · exact (hsep c hc).1
    · exact (hs c (List.mem_of_mem_drop hc)).1
  have hf : ((s ++ [ends s q1]).take a ++ seps.getD n [] ++ (s ++ [ends s q1]).drop a).filter nb = s ++ [ends s q1] := by
    rw [List.filter_append, List.filter_append, List.filter_eq_self.2 fun c hc => (hs c (List.mem_of_mem_take hc)).2, List.filter_eq_nil_iff.2 fun c hc => by rw [(hsep c hc).2]; simp, List.filter_eq_self.2 fun c hc => (hs c (List.mem_of_mem_drop hc)).2, List.append_nil, List.take_append_drop]
  have hn : norm ((s ++ [ends s q1]).take a ++ seps.getD n [] ++ (s ++ [ends s q1]).drop a) = s ++ [up (ends s q1)] := by
    rw [norm_all hall, hf, List.map_append, digits_val hd]; rfl
  unfold isbn
  rw [hn]
  have ht : (s ++ [up (ends s q1)]).take 9 = s := by rw [← hl]; simp
  have hr : rightShort (s ++ [up (ends s q1)]) = true := by
    unfold rightShort
    rw [ht, hd, rsum_app, hl]
    simp only [rsum, e3, Nat.zero_add, Bool.and_true, beq_iff_eq]
    omega
  unfold isbnN
  rw [if_pos ⟨by simp [hl], hr⟩, ht]
theorem long_ok (s : Bs) (hl : s.length = 9) (hd : digits s = true) : let n := [57, 55, 56] ++ s ++ [check ([57, 55, 56] ++ s)]; n.length = 13 ∧ digits n = true ∧ csum 0 n % 10 = 0 := by
  have h1 : ([57, 55, 56] ++ s ++ [check ([57, 55, 56] ++ s)]).length = 13 := by simp [hl]
  have h2 : digits ([57, 55, 56] ++ s ++ [check ([57, 55, 56] ++ s)]) = true := by
    rw [digits_app, digits_app, hd]
    have : digits [check ([57, 55, 56] ++ s)] = true := by simp [digits, check_digit]
    rw [this]; rfl
  refine ⟨h1, h2, (check_iff h1 h2).1 ?_⟩
  have h3 : ([57, 55, 56] ++ s).length = 12 := by simp [hl]
  have h4 : ([57, 55, 56] ++ s ++ [check ([57, 55, 56] ++ s)]).getD 12 0 = check ([57, 55, 56] ++ s) := by
    rw [List.getD, List.getElem?_append_right (by omega), h3]; rfl
  rw [h4]
  unfold check
  have h5 : ([57, 55, 56] ++ s ++ [check ([57, 55, 56] ++ s)]).take 12 = ([57, 55, 56] ++ s).take 12 := by
    rw [List.take_append_of_le_length (by omega)]
  unfold check at h5
  rw [h5]
end Ke
