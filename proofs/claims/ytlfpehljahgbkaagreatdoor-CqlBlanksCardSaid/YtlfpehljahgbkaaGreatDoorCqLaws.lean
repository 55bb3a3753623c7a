/-
  Plain facts on chapter 11's functions. Own text. Conditions: none.
-/
import Derived.Test.YtlfpehljahgbkaaGreatDoorSx
import Derived.Test.YtlfpehljahgbkaaGreatDoorCqSpec
namespace Go.Sx
theorem u8_eq (c d : UInt8) : ((c.toNat : Int) = (d.toNat : Int)) ↔ c = d := by
  constructor
  · intro h; exact UInt8.toNat_inj.1 (by omega)
  · intro h; subst h; rfl
theorem nb (a n : Nat) : ((a : Int) == (n : Int)) = (a == n) := by rw [Bool.eq_iff_iff, beq_iff_eq, beq_iff_eq]; omega
theorem nb1 (a : Nat) : ((a : Int) == 1) = (a == 1) := nb a 1
theorem u8_is {c d : UInt8} (h : (c.toNat : Int) = (d.toNat : Int)) : c = d := (u8_eq c d).1 h
theorem u8_not {c d : UInt8} (h : ¬ (c.toNat : Int) = (d.toNat : Int)) : c ≠ d := fun e => h ((u8_eq c d).2 e)
theorem cut1 {s : List UInt8} {k : Nat} {c : UInt8} (h : s[k]? = some c) : (s.take (k + 1)).drop k = [c] := by
  obtain ⟨hlt, hg⟩ := List.getElem?_eq_some_iff.1 h
  rw [List.take_succ_eq_append_getElem hlt, hg, List.drop_append, List.drop_eq_nil_of_le (by simp; omega)]
  simp [Nat.min_eq_left (Nat.le_of_lt hlt)]
theorem cut2 {s : List UInt8} {k : Nat} {c d : UInt8} (h : s[k]? = some c) (h2 : s[k + 1]? = some d) : (s.take (k + 2)).drop k = [c, d] := by
  obtain ⟨hlt, hg⟩ := List.getElem?_eq_some_iff.1 h2
  rw [List.take_succ_eq_append_getElem hlt, hg, List.drop_append_of_le_length (by simp; omega), cut1 h]
  rfl
theorem u8_lit (c : UInt8) (n : Nat) (h : n < 256) : ((c.toNat : Int) == (n : Int)) = (c == UInt8.ofNat n) := by
  rw [Bool.eq_iff_iff, beq_iff_eq, beq_iff_eq]
  have : (UInt8.ofNat n).toNat = n := by simp [Nat.mod_eq_of_lt h]
  rw [← UInt8.toNat_inj, this]; omega
end Go.Sx
namespace Cq
theorem quoted_end (r : List UInt8) : quoted (34 :: r) = some ([], 1) := by rw [quoted.eq_def]; simp
theorem quoted_byte (c : UInt8) (r : List UInt8) (h34 : c ≠ 34) (h92 : c ≠ 92) : quoted (c :: r) = (quoted r).map fun p => (c :: p.1, p.2 + 1) := by
  rw [quoted.eq_def]; simp [h34, h92]
theorem quoted_esc (d : UInt8) (r : List UInt8) : quoted (92 :: d :: r) = (quoted r).map fun p => (d :: p.1, p.2 + 2) := by
  rw [quoted.eq_def]; simp
theorem quoted_bare : quoted [92] = none := by rw [quoted.eq_def]; simp
theorem quoted_nil : quoted [] = none := by rw [quoted.eq_def]
def quotedAt (s : List UInt8) (i : Nat) : List UInt8 × Nat :=
  match quoted (s.drop (i + 1)) with
  | some (t, n) => (t, i + 1 + n)
  | none => ([], 0)
structure QInv (s : List UInt8) (i k : Nat) (out : List UInt8) : Prop where
  le : k ≤ s.length + 1
  lo : i + 1 ≤ k
  ol : out.length ≤ k
  eq : (quoted (s.drop k)).map (fun p => (out ++ p.1, p.2 + (k - (i + 1)))) = quoted (s.drop (i + 1))
theorem QInv.start (s : List UInt8) (i : Nat) (hi : i < s.length) : QInv s i (i + 1) [] := by
  refine ⟨by omega, by omega, by simp, ?_⟩
  cases quoted (s.drop (i + 1)) <;> simp
theorem drop_get {s : List UInt8} {k : Nat} {c : UInt8} (h : s[k]? = some c) : s.drop k = c :: s.drop (k + 1) := by
  obtain ⟨hlt, hg⟩ := List.getElem?_eq_some_iff.1 h
  rw [List.drop_eq_getElem_cons hlt, hg]
theorem QInv.byte {s : List UInt8} {i k : Nat} {out : List UInt8} (h : QInv s i k out) (hlt : k < s.length) (c : UInt8) (hc : s[k]? = some c) (h34 : c ≠ 34) (h92 : c ≠ 92) : QInv s i (k + 1) (out ++ [c]) := by
  have hlo := h.lo
  refine ⟨by omega, by omega, by have := h.ol; simp; omega, ?_⟩
  rw [← h.eq, drop_get hc, quoted_byte c _ h34 h92]
  cases quoted (s.drop (k + 1)) with
  | none => rfl
  | some p => simp; omega
theorem QInv.esc {s : List UInt8} {i k : Nat} {out : List UInt8} (h : QInv s i k out) (_hlt : k < s.length) (c : UInt8) (hc : s[k]? = some c) (h92 : c = 92) (d : UInt8) (hd : s[k + 1]? = some d) : QInv s i (k + 2) (out ++ [d]) := by
  have hlo := h.lo
  obtain ⟨hlt2, _⟩ := List.getElem?_eq_some_iff.1 hd
  refine ⟨by omega, by omega, by have := h.ol; simp; omega, ?_⟩
  rw [← h.eq, drop_get hc, drop_get hd, h92, quoted_esc]
  cases quoted (s.drop (k + 1 + 1)) with
  | none => rfl
  | some p => simp; omega
theorem QInv.fin {s : List UInt8} {i k : Nat} {out : List UInt8} (h : QInv s i k out) (hlt : k < s.length) (c : UInt8) (hc : s[k]? = some c) (h92 : c = 92) (hk : s.length ≤ k + 1) : QInv s i (k + 2) out := by
  have hlo := h.lo
  refine ⟨by omega, by omega, by have := h.ol; omega, ?_⟩
  rw [← h.eq, drop_get hc, h92, List.drop_eq_nil_of_le hk, List.drop_eq_nil_of_le (by omega), quoted_bare, quoted_nil]
  rfl
theorem QInv.quote {s : List UInt8} {i k : Nat} {out : List UInt8} (h : QInv s i k out) (c : UInt8) (hc : s[k]? = some c) (h34 : c = 34) : quotedAt s i = (out, k + 1) := by
  have hlo := h.lo
  unfold quotedAt
  rw [← h.eq, drop_get hc, h34, quoted_end]
  simp; omega
theorem QInv.past {s : List UInt8} {i k : Nat} {out : List UInt8} (h : QInv s i k out) (hk : s.length ≤ k) : quotedAt s i = ([], 0) := by
  unfold quotedAt
  rw [← h.eq, List.drop_eq_nil_of_le hk, quoted_nil]
  rfl
end Cq
namespace Go.Sx
/-- A slice of texts in the persistent part. -/
def StrSl (T : TypeId) (I : Heap) (l : List (List UInt8)) (v : Value) : Prop := ∃ b c sp, v = .slice (some ⟨b, 0, none⟩) l.length c ∧ I b = some (cel T (l.map str ++ sp))
theorem StrSl.mono {T : TypeId} {I I' : Heap} {l : List (List UInt8)} {v : Value} (h : StrSl T I l v) (hle : Le I I') : StrSl T I' l v :=
  let ⟨b, c, sp, h1, h2⟩ := h; ⟨b, c, sp, h1, hle _ _ h2⟩
theorem str_get {l : List (List UInt8)} {sp : List Value} {k : Nat} {x : List UInt8} (h : l[k]? = some x) : (l.map str ++ sp)[k]? = some (str x) := by
  obtain ⟨hlt, hg⟩ := List.getElem?_eq_some_iff.1 h
  rw [List.getElem?_append_left (by simpa using hlt)]
  simp [h]
abbrev tokV (t : Cq.Tok) : Value := .agg #[i64 t.kind, str t.text, i64 t.pos]
end Go.Sx
namespace Cq
structure SInv (s : List UInt8) (k : Nat) (l : List UInt8) : Prop where
  le : k ≤ s.length
  eq : l = (s.take k).map low ++ s.drop k
theorem SInv.len {s : List UInt8} {k : Nat} {l : List UInt8} (h : SInv s k l) : l.length = s.length := by
  have := h.le
  rw [h.eq]; simp; omega
theorem SInv.get {s : List UInt8} {k : Nat} {l : List UInt8} {c : UInt8} (h : SInv s k l) (hc : s[k]? = some c) : l[k]? = some c := by
  have := h.le
  rw [h.eq, List.getElem?_append_right (by simp; omega)]
  simp [Nat.min_eq_left h.le, hc]
theorem SInv.next {s : List UInt8} {k : Nat} {l : List UInt8} {c : UInt8} (h : SInv s k l) (hc : s[k]? = some c) : SInv s (k + 1) (l.set k (low c)) := by
  obtain ⟨hlt, hg⟩ := List.getElem?_eq_some_iff.1 hc
  refine ⟨by omega, ?_⟩
  rw [h.eq, List.set_append_right _ _ (by simp; omega), List.take_succ_eq_append_getElem hlt, hg, drop_get hc]
  simp [Nat.min_eq_left h.le]
theorem SInv.same {s : List UInt8} {k : Nat} {l : List UInt8} {c : UInt8} (h : SInv s k l) (hc : s[k]? = some c) (hl : low c = c) : SInv s (k + 1) l := by
  have := h.next hc
  rw [hl] at this
  rwa [show l.set k c = l from by
    apply List.ext_getElem?
    intro j
    rw [List.getElem?_set]
    split
    · rename_i hj; subst hj
      have := h.get hc
      split
      · exact this.symm
      · rename_i h'; simp [List.getElem?_eq_none (Nat.not_lt.1 h')] at this
    · rfl] at this
theorem SInv.done {s : List UInt8} {k : Nat} {l : List UInt8} (h : SInv s k l) (hk : s.length ≤ k) : l = small s := by
  rw [h.eq, List.take_of_length_le hk, List.drop_eq_nil_of_le hk]; simp [small]
end Cq
namespace Cq
theorem quoted_len : ∀ (n : Nat) (r : List UInt8) (p : List UInt8 × Nat), r.length ≤ n → quoted r = some p → 1 ≤ p.2 ∧ p.2 ≤ r.length ∧ p.1.length ≤ r.length
  | _, [], p, _, h => by rw [quoted_nil] at h; cases h
  | 0, _ :: _, _, hn, _ => by simp at hn
  | n + 1, c :: r, p, hn, h => by
    by_cases h34 : c = 34
    · subst h34; rw [quoted_end] at h; cases h; simp
    · by_cases h92 : c = 92
      · subst h92
        cases r with
        | nil => rw [quoted_bare] at h; cases h
        | cons d r' =>
          rw [quoted_esc] at h
          cases hq : quoted r' with
          | none => rw [hq] at h; cases h
          | some q =>
            rw [hq] at h; cases h
            have := quoted_len n r' q (by simp at hn; omega) hq
            simp; omega
      · rw [quoted_byte c r h34 h92] at h
        cases hq : quoted r with
        | none => rw [hq] at h; cases h
        | some q =>
          rw [hq] at h; cases h
          have := quoted_len n r q (by simp at hn; omega) hq
          simp; omega
theorem head_len (rest : List UInt8) (j : Nat) (h : over (head rest j).1 = false) : 1 ≤ (head rest j).2 ∧ (head rest j).2 ≤ rest.length := by
  cases rest with
  | nil => simp [head, over] at h
  | cons c r =>
    unfold head at *
    by_cases h34 : c = 34
    · simp only [h34, if_true] at *
      cases hq : quoted r with
      | none => rw [hq] at h; simp [over] at h
      | some q =>
        have := quoted_len _ r q (Nat.le_refl _) hq
        simp; omega
    · simp only [h34, if_false] at *
      split
      · rename_i h1
        have : r ≠ [] := fun he => by simp [he] at h1
        have := List.length_pos_iff.2 this
        simp; omega
      · split
        · rename_i h1
          have : r ≠ [] := fun he => by simp [he] at h1
          have := List.length_pos_iff.2 this
          simp; omega
        · split
          · rename_i h1 h2 h3
            simp [h3, over] at h
            simp_all
          · split
            · rename_i hp
              constructor
              · simp [hp]
              · exact (List.takeWhile_sublist _).length_le
            · simp
theorem skip_le (s : List UInt8) (i : Nat) (h : i ≤ s.length) : i ≤ skip s i ∧ skip s i ≤ s.length := by
  unfold skip
  have := (List.takeWhile_sublist (p := blank) (l := s.drop i)).length_le
  simp at this; omega
theorem lex_len (s : List UInt8) (i : Nat) (hi : i ≤ s.length) (h : over (lex s i).1 = false) : i < (lex s i).2 ∧ (lex s i).2 ≤ s.length := by
  have h1 := skip_le s i hi
  have h2 := head_len (s.drop (skip s i)) (skip s i) h
  simp only [lex] at *
  simp at h2; omega
theorem toks_fuel (s : List UInt8) : ∀ (n f f' i : Nat), i ≤ s.length → s.length - i ≤ n → s.length - i < f → s.length - i < f' → toks s f i = toks s f' i
  | n, 0, _, i, _, _, h, _ => by omega
  | n, _, 0, i, _, _, _, h => by omega
  | n, f + 1, f' + 1, i, hi, hn, h1, h2 => by
    simp only [toks]
    cases ho : over (lex s i).1 with
    | true => rfl
    | false =>
      have hl := lex_len s i hi ho
      cases n with
      | zero => omega
      | succ n =>
        simp only [Bool.false_eq_true, if_false]
        rw [toks_fuel s n f f' _ hl.2 (by omega) (by omega) (by omega)]
def toksI (s : List UInt8) (i : Nat) : List Tok := toks s (s.length + 1 - i) i
theorem toksI_eq (s : List UInt8) (i : Nat) (hi : i ≤ s.length) : toksI s i = if over (lex s i).1 then [(lex s i).1] else (lex s i).1 :: toksI s (lex s i).2 := by
  unfold toksI
  obtain ⟨f, hf⟩ : ∃ f, s.length + 1 - i = f + 1 := ⟨s.length - i, by omega⟩
  rw [hf, toks]
  cases ho : over (lex s i).1 with
  | true => rfl
  | false =>
    have hl := lex_len s i hi ho
    simp only [Bool.false_eq_true, if_false]
    rw [toks_fuel s s.length f (s.length + 1 - (lex s i).2) _ hl.2 (by omega) (by omega) (by omega)]
theorem skip_blank {s : List UInt8} {k : Nat} {c : UInt8} (h : s[k]? = some c) (hb : blank c = true) : skip s k = skip s (k + 1) := by
  unfold skip
  rw [drop_get h, List.takeWhile_cons, if_pos hb]
  simp; omega
theorem skip_not {s : List UInt8} {k : Nat} {c : UInt8} (h : s[k]? = some c) (hb : blank c = false) : skip s k = k := by
  unfold skip
  rw [drop_get h, List.takeWhile_cons, hb]
  simp
theorem lex_at {s : List UInt8} {k : Nat} {c : UInt8} (h : s[k]? = some c) (hb : blank c = false) : lex s k = ((head (c :: s.drop (k + 1)) k).1, k + (head (c :: s.drop (k + 1)) k).2) := by
  unfold lex
  rw [skip_not h hb, drop_get h]
theorem lex_end (s : List UInt8) : lex s s.length = (⟨0, [], s.length⟩, s.length) := by
  unfold lex
  have : skip s s.length = s.length := by unfold skip; simp
  rw [this]; simp [head]
structure TInv (s : List UInt8) (k : Nat) (outs : List Tok) : Prop where
  le : k ≤ s.length
  eq : tokens s = outs ++ toksI s k
  num : outs.length ≤ k
theorem TInv.start (s : List UInt8) : TInv s 0 [] := ⟨Nat.zero_le _, by simp [tokens, toksI], by simp⟩
theorem TInv.blank {s : List UInt8} {k : Nat} {outs : List Tok} {c : UInt8} (h : TInv s k outs) (hc : s[k]? = some c) (hb : Cq.blank c = true) : TInv s (k + 1) outs := by
  obtain ⟨hlt, _⟩ := List.getElem?_eq_some_iff.1 hc
  have hlex : lex s k = lex s (k + 1) := by unfold lex; rw [skip_blank hc hb]
  refine ⟨by omega, ?_, by have := h.num; omega⟩
  rw [h.eq, toksI_eq s k h.le, toksI_eq s (k + 1) (by omega), hlex]
theorem TInv.push {s : List UInt8} {k k2 : Nat} {outs : List Tok} {t : Tok} (h : TInv s k outs) (hl : lex s k = (t, k2)) (ho : over t = false) : TInv s k2 (outs ++ [t]) := by
  have h1 := lex_len s k h.le (by rw [hl]; exact ho)
  rw [hl] at h1
  refine ⟨h1.2, ?_, by have := h.num; simp; simp at h1; omega⟩
  rw [h.eq, toksI_eq s k h.le, hl]
  simp [ho]
theorem TInv.last {s : List UInt8} {k k2 : Nat} {outs : List Tok} {t : Tok} (h : TInv s k outs) (hl : lex s k = (t, k2)) (ho : over t = true) : tokens s = outs ++ [t] := by
  rw [h.eq, toksI_eq s k h.le, hl]
  simp [ho]
structure WInv (s : List UInt8) (k n : Nat) : Prop where
  lo : k ≤ n
  le : n ≤ s.length
  all : (s.drop k).takeWhile Cq.plain = (s.take n).drop k ++ (s.drop n).takeWhile Cq.plain
theorem WInv.start {s : List UInt8} {k : Nat} (h : k ≤ s.length) : WInv s k k := ⟨Nat.le_refl _, h, by simp⟩
theorem WInv.next {s : List UInt8} {k n : Nat} {c : UInt8} (h : WInv s k n) (hc : s[n]? = some c) (hp : Cq.plain c = true) : WInv s k (n + 1) := by
  obtain ⟨hlt, hg⟩ := List.getElem?_eq_some_iff.1 hc
  have := h.lo
  refine ⟨by omega, by omega, ?_⟩
  rw [h.all, drop_get hc, List.takeWhile_cons, if_pos hp, List.take_succ_eq_append_getElem hlt, hg, List.drop_append_of_le_length (by simp; omega)]
  simp
theorem WInv.stop {s : List UInt8} {k n : Nat} (h : WInv s k n) (hs : ∀ c, s[n]? = some c → Cq.plain c = false) : (s.drop k).takeWhile Cq.plain = (s.take n).drop k := by
  rw [h.all]
  cases hc : s[n]? with
  | none =>
    have : s.drop n = [] := List.drop_eq_nil_of_le (by simpa using hc)
    rw [this]; simp
  | some c => rw [drop_get hc, List.takeWhile_cons, hs c hc]; simp
theorem plain_blank {c : UInt8} (h : plain c = true) : c ≠ 34 ∧ c ≠ 61 ∧ c ≠ 62 := by
  refine ⟨?_, ?_, ?_⟩ <;> (intro e; subst e; revert h; decide)
theorem lex_quote {s : List UInt8} {k : Nat} {c : UInt8} (h : s[k]? = some c) (hb : blank c = false) (h34 : c = 34) :
    ((quotedAt s k).2 = 0 → lex s k = (⟨4, [], k⟩, s.length)) ∧ ((quotedAt s k).2 ≠ 0 → lex s k = (⟨2, (quotedAt s k).1, k⟩, (quotedAt s k).2)) := by
  obtain ⟨hlt, _⟩ := List.getElem?_eq_some_iff.1 h
  rw [lex_at h hb]
  subst h34
  unfold head quotedAt
  simp only [if_true]
  cases hq : quoted (s.drop (k + 1)) with
  | none => simp; omega
  | some p => simp; omega
theorem lex_word {s : List UInt8} {k n : Nat} {c : UInt8} (h : s[k]? = some c) (hb : blank c = false) (hp : plain c = true) (hw : WInv s k n) (hs : ∀ c, s[n]? = some c → Cq.plain c = false) :
    lex s k = (⟨3, (s.take n).drop k, k⟩, n) := by
  rw [lex_at h hb]
  have hpb := plain_blank hp
  have h1 := hw.stop hs
  rw [drop_get h] at h1
  have hlen := congrArg List.length h1
  have := hw.lo
  have := hw.le
  unfold head
  simp only [hpb.1, hpb.2.1, hpb.2.2, false_and, if_false, hp, if_true, h1]
  simp at hlen ⊢
  omega
theorem lex_two {s : List UInt8} {k : Nat} {c : UInt8} (h : s[k]? = some c) (hb : blank c = false) (hc : c = 61 ∨ c = 62) (h2 : s[k + 1]? = some 61) : lex s k = (⟨1, [c, 61], k⟩, k + 2) := by
  rw [lex_at h hb, drop_get h2]
  unfold head
  rcases hc with rfl | rfl <;> simp
theorem lex_bad {s : List UInt8} {k : Nat} {c : UInt8} (h : s[k]? = some c) (hb : blank c = false) (hc : c = 62) (h2 : s[k + 1]? ≠ some 61) : lex s k = (⟨4, [], k⟩, k) := by
  rw [lex_at h hb]
  subst hc
  unfold head
  have : (s.drop (k + 1)).head? ≠ some 61 := by rw [List.head?_drop]; exact h2
  rw [List.head?_drop] at this
  simp [this]
theorem lex_one {s : List UInt8} {k : Nat} {c : UInt8} (h : s[k]? = some c) (hb : blank c = false) (h34 : c ≠ 34) (hp : plain c = false) (h62 : c ≠ 62) (h2 : ¬ (c = 61 ∧ s[k + 1]? = some 61)) : lex s k = (⟨1, [c], k⟩, k + 1) := by
  rw [lex_at h hb]
  unfold head
  have : ¬ (c = 61 ∧ (s.drop (k + 1)).head? = some 61) := by rw [List.head?_drop]; exact h2
  rw [List.head?_drop] at this
  simp [this, h34, h62, hp]
def tokC (t : Tok) : List Go.Value := [Go.Sx.i64 t.kind, Go.Sx.str t.text, Go.Sx.i64 t.pos]
end Cq
namespace Go.Sx
/-- A slice of tokens in the persistent part. -/
def TokSl (T : TypeId) (I : Heap) (l : List Cq.Tok) (v : Value) : Prop := ∃ b c sp, v = .slice (some ⟨b, 0, none⟩) l.length c ∧ I b = some (cel T (l.flatMap Cq.tokC ++ sp))
theorem TokSl.mono {T : TypeId} {I I' : Heap} {l : List Cq.Tok} {v : Value} (h : TokSl T I l v) (hle : Le I I') : TokSl T I' l v :=
  let ⟨b, c, sp, h1, h2⟩ := h; ⟨b, c, sp, h1, hle _ _ h2⟩
end Go.Sx
namespace Go.Sx
open Cq
/-- A list of queries in memory: its cells are the first ones of cs. -/
def QC (I : Heap) : Qs → List Value → Prop
  | .nil, _ => True
  | .cons k i r t ps rest, cs => ∃ p c tl, cs = i64 k :: str i :: str r :: str t :: .slice p ps.len c :: tl ∧
      (ps = .nil ∨ ∃ (b off : Nat) (cs' : List Value) (T : TypeId) (fr : Nat × Nat), p = some ⟨b, off, none⟩ ∧ I b = some (.cells cs'.toArray T fr) ∧ QC I ps (cs'.drop off)) ∧ QC I rest tl
theorem QC.mono {I I' : Heap} (hle : Le I I') : ∀ {q : Qs} {cs : List Value}, QC I q cs → QC I' q cs
  | .nil, _, _ => trivial
  | .cons _ _ _ _ _ps _rest, _, ⟨p, c, tl, h1, h2, h3⟩ => ⟨p, c, tl, h1, h2.imp id fun ⟨b, off, cs', T, fr, g1, g2, g3⟩ => ⟨b, off, cs', T, fr, g1, hle _ _ g2, QC.mono hle g3⟩, QC.mono hle h3⟩
/-- A query as a value: p, c are the address and the capacity of its parts. -/
def PS (I : Heap) (ps : Qs) (p : Option Addr) : Prop := ps = .nil ∨ ∃ (b off : Nat) (cs' : List Value) (T : TypeId) (fr : Nat × Nat), p = some ⟨b, off, none⟩ ∧ I b = some (.cells cs'.toArray T fr) ∧ QC I ps (cs'.drop off)
theorem PS.mono {I I' : Heap} {ps : Qs} {p : Option Addr} (h : PS I ps p) (hle : Le I I') : PS I' ps p :=
  h.imp id fun ⟨b, off, cs', T, fr, g1, g2, g3⟩ => ⟨b, off, cs', T, fr, g1, hle _ _ g2, QC.mono hle g3⟩
abbrev qCells (q : Qn) (p : Option Addr) (c : Nat) : List Value := [i64 q.k, str q.i, str q.r, str q.t, .slice p q.ps.len c]
def QV (I : Heap) (q : Qn) (v : Value) : Prop := ∃ p c, v = .agg (qCells q p c).toArray ∧ PS I q.ps p
theorem QV.mono {I I' : Heap} {q : Qn} {v : Value} (h : QV I q v) (hle : Le I I') : QV I' q v := let ⟨p, c, h1, h2⟩ := h; ⟨p, c, h1, h2.mono hle⟩
theorem PS.two {I : Heap} {a b : Qn} {pa pb : Option Addr} {ca cb : Nat} {bl T : Nat} (ha : PS I a.ps pa) (hb : PS I b.ps pb) (h : I bl = some (cel T (qCells a pa ca ++ (qCells b pb cb ++ [])))) : PS I (a.push (b.push .nil)) (some ⟨bl, 0, none⟩) :=
  .inr ⟨bl, 0, _, T, (0, 0), rfl, h, pa, ca, _, rfl, ha, pb, cb, _, rfl, hb, trivial⟩
/-- Where a token lies. -/
theorem tok_at : ∀ {all : List Tok} {sp : List Value} {k : Nat} {t : Tok} {r : List Tok}, all.drop k = t :: r → ((all.flatMap tokC ++ sp).drop (k * 3)).take 3 = tokC t
  | [], _, k, t, r, h => by simp at h
  | x :: l, sp, 0, t, r, h => by
    simp at h
    obtain ⟨rfl, rfl⟩ := h
    simp [tokC]
  | x :: l, sp, k + 1, t, r, h => by
    have h' : l.drop k = t :: r := by simpa using h
    have := tok_at (sp := sp) h'
    rw [← this, List.flatMap_cons, List.append_assoc]
    have : (k + 1) * 3 = (tokC x).length + k * 3 := by simp [tokC]; omega
    rw [this, drop_app]
theorem tok_cell {all : List Tok} {sp : List Value} {k : Nat} {t : Tok} {r : List Tok} (h : all.drop k = t :: r) (j : Nat) (hj : j < 3) : (all.flatMap tokC ++ sp)[k * 3 + j]? = (tokC t)[j]? := by
  have := tok_at (sp := sp) h
  rw [← this, List.getElem?_take, if_pos hj, List.getElem?_drop]
theorem drop_lt {α : Type} {all : List α} {k : Nat} {t : α} {r : List α} (h : all.drop k = t :: r) : k < all.length := by
  rcases Nat.lt_or_ge k all.length with h' | h'
  · exact h'
  · rw [List.drop_eq_nil_of_le h'] at h; cases h
theorem drop_next {α : Type} {all : List α} {k : Nat} {t : α} {r : List α} (h : all.drop k = t :: r) : all.drop (k + 1) = r := by
  rw [← List.drop_drop, h]; rfl
end Go.Sx
namespace Cq
/-- A rest of the tokens: the last one ends them. -/
def Rst (ts : List Tok) : Prop := ∃ l t, ts = l ++ [t] ∧ over t = true
theorem Rst.cons {t : Tok} {r : List Tok} (h : Rst (t :: r)) (ho : over t = false) : Rst r := by
  obtain ⟨l, x, he, hx⟩ := h
  cases l with
  | nil => simp at he; obtain ⟨rfl, rfl⟩ := he; rw [ho] at hx; cases hx
  | cons y l => simp at he; exact ⟨l, x, he.2, hx⟩
theorem Rst.ne {ts : List Tok} (h : Rst ts) : ∃ t r, ts = t :: r := by
  obtain ⟨l, x, he, hx⟩ := h
  cases l with
  | nil => exact ⟨x, [], he⟩
  | cons y l => exact ⟨y, l ++ [x], he⟩
theorem over_lp {t : Tok} (h : lp t = true) : over t = false := by
  simp only [lp, Bool.and_eq_true, beq_iff_eq] at h; simp [over, h.1]
theorem over_rp {t : Tok} (h : rp t = true) : over t = false := by
  simp only [rp, Bool.and_eq_true, beq_iff_eq] at h; simp [over, h.1]
theorem over_term {t : Tok} (h : isTerm t = true) : over t = false := by
  simp only [isTerm, Bool.and_eq_true, Bool.or_eq_true, beq_iff_eq] at h; rcases h.1 with h | h <;> simp [over, h]
theorem over_op {t : Tok} (h : operator t ≠ 0) : over t = false := by
  unfold operator at h
  split at h
  · exact absurd rfl h
  · rename_i h1
    have h2 : t.kind = 3 := by simpa using h1
    simp [over, h2]
theorem over_rel {t : Tok} (h : relation t = true) : over t = false := by
  simp only [relation, Bool.and_eq_true, Bool.or_eq_true, beq_iff_eq] at h; rcases h.2 with h | h <;> simp [over, h]
/-- What is left is shorter, and still a rest of the tokens. -/
def Less (ts : List Tok) : Res → Prop
  | .ok _ ts2 => Rst ts2 ∧ ts2.length < ts.length
  | .err _ _ => True
theorem less : ∀ f, (∀ deep ts, Rst ts → Less ts (clause f deep ts)) ∧ (∀ deep ts, Rst ts → Less ts (query f deep ts)) ∧ ∀ deep q ts, Rst ts → ∀ q2 ts2, more f deep q ts = .ok q2 ts2 → Rst ts2 ∧ ts2.length ≤ ts.length
  | 0 => ⟨fun _ _ _ => by simp [clause, Less], fun _ _ _ => by simp [query, Less], fun _ _ _ _ _ _ h => by simp [more] at h⟩
  | f + 1 => by
    obtain ⟨hc, hq, hm⟩ := less f
    refine ⟨fun deep ts hg => ?_, fun deep ts hg => ?_, fun deep q ts hg q2 ts2 h => ?_⟩
    · obtain ⟨t, r, rfl⟩ := hg.ne
      unfold clause
      by_cases h1 : lp t = true
      · have hr := hg.cons (over_lp h1)
        rw [if_pos h1]
        split
        · trivial
        · have := hq (deep + 1) r hr
          cases hx : query f (deep + 1) r with
          | err p e => trivial
          | ok q ts2 =>
            rw [hx] at this
            obtain ⟨hg2, hl⟩ := this
            obtain ⟨t2, r2, rfl⟩ := hg2.ne
            simp only []
            split
            · rename_i h2
              exact ⟨hg2.cons (over_rp h2), by simp at hl ⊢; omega⟩
            · trivial
      · rw [if_neg h1]
        by_cases h2 : isTerm t = true
        · have hr := hg.cons (over_term h2)
          rw [if_neg (by simp [h2])]
          obtain ⟨t2, r2, rfl⟩ := hr.ne
          cases h3 : t.kind == 3 with
          | false => exact ⟨hr, by simp⟩
          | true =>
            simp only []
            by_cases h4 : relation t2 = true
            · rw [if_pos h4]
              have hr2 := hr.cons (over_rel h4)
              split
              · trivial
              · obtain ⟨t3, r3, rfl⟩ := hr2.ne
                simp only []
                by_cases h5 : isTerm t3 = true
                · rw [if_pos h5]; exact ⟨hr2.cons (over_term h5), by simp; omega⟩
                · rw [if_neg h5]; trivial
            · rw [if_neg h4]; exact ⟨hr, by simp⟩
        · rw [if_pos (by simpa using h2)]; trivial
    · unfold query
      have := hc deep ts hg
      cases hx : clause f deep ts with
      | err p e => trivial
      | ok q ts2 =>
        rw [hx] at this
        simp only []
        cases hy : more f deep q ts2 with
        | err p e => trivial
        | ok q3 ts3 =>
          have := hm deep q ts2 this.1 q3 ts3 hy
          have h1 := this
          rename_i h0
          exact ⟨h1.1, by have := h0.2; omega⟩
    · obtain ⟨t, r, rfl⟩ := hg.ne
      unfold more at h
      by_cases h1 : operator t = 0
      · rw [if_pos h1] at h; cases h; exact ⟨hg, Nat.le_refl _⟩
      · rw [if_neg h1] at h
        have hr := hg.cons (over_op h1)
        have := hc deep r hr
        cases hx : clause f deep r with
        | err p e => rw [hx] at h; cases h
        | ok q3 ts3 =>
          rw [hx] at h this
          have h2 := hm deep _ ts3 this.1 q2 ts2 h
          have h3 := this.2
          exact ⟨h2.1, by simp; omega⟩
end Cq
namespace Go.Sx
open Cq
/-- The reference's parser in memory. -/
abbrev RP (pb bt ct n : Nat) (k deep a e : Nat) : HL := [(pb, cel 88 [.slice (some ⟨bt, 0, none⟩) n ct, i64 k, i64 deep, i64 a, i64 e])]
def ROut (pb bt ct : Nat) (all : List Tok) (deep : Nat) (res : Res) : Ending → Heap → HL → Prop := fun en I' H' =>
  match res with
  | .ok q ts2 => ∃ v k2, en = .returned v ∧ QV I' q v ∧ H' = RP pb bt ct all.length k2 deep 0 0 ∧ all.drop k2 = ts2
  | .err pos e => ∃ q p c k2 deep2, en = .returned (.agg (qCells q p c).toArray) ∧ H' = RP pb bt ct all.length k2 deep2 pos e ∧ e ≠ 0
theorem ROut.ret {pb bt ct : Nat} {all : List Tok} {deep : Nat} {res : Res} {en : Ending} {I' : Heap} {H' : HL} (h : ROut pb bt ct all deep res en I' H') : ∃ v, en = .returned v := by
  cases res with
  | ok q ts => obtain ⟨v, _, h, _⟩ := h; exact ⟨v, h⟩
  | err p e => obtain ⟨_, _, _, _, _, h, _⟩ := h; exact ⟨_, h⟩
structure RPre (I : Heap) (bt : Nat) (all : List Tok) (spt : List Value) (k : Nat) (ts : List Tok) : Prop where
  blk : I bt = some (cel 50 (all.flatMap tokC ++ spt))
  drop : all.drop k = ts
  good : Rst ts
  len : all.length ≤ 1000000001
  txt : ∀ t ∈ all, t.text.length ≤ 1000000000
theorem RPre.mono {I I' : Heap} {bt : Nat} {all : List Tok} {spt : List Value} {k : Nat} {ts : List Tok} (h : RPre I bt all spt k ts) (hle : Le I I') : RPre I' bt all spt k ts := ⟨hle _ _ h.blk, h.drop, h.good, h.len, h.txt⟩
theorem RPre.to {I : Heap} {bt : Nat} {all : List Tok} {spt : List Value} {k k2 : Nat} {ts ts2 : List Tok} (h : RPre I bt all spt k ts) (h1 : all.drop k2 = ts2) (h2 : Rst ts2) : RPre I bt all spt k2 ts2 := ⟨h.blk, h1, h2, h.len, h.txt⟩
theorem RPre.tx {I : Heap} {bt : Nat} {all : List Tok} {spt : List Value} {k : Nat} {t : Tok} {r : List Tok} (h : RPre I bt all spt k (t :: r)) : t.text.length ≤ 1000000000 :=
  h.txt t (List.mem_of_mem_drop (by rw [h.drop]; exact .head _))
end Go.Sx
