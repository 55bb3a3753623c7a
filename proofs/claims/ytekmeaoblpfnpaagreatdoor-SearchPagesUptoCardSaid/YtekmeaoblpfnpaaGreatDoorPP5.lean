/-
  Own texts on the laws of the seat, joined: the logic, and contracts of functions. Conditions: none.
-/
import Derived.Test.YtekmeaoblpfnpaaGreatDoorNmP
import Derived.Test.YtekmeaoblpfnpaaGreatDoorPP4
import Derived.Lib.Join
import Derived.Lib.SlTrimSet
import Derived.Shelf.Strings.SlTrimAscii
set_option maxRecDepth 100000
set_option maxHeartbeats 40000000
set_option maxRecDepth 100000
set_option maxHeartbeats 40000000
namespace Ke
theorem enc_len (c : Nat) : (enc c).length ≤ 4 := by grind [enc]
theorem tab_len : tab.all (fun p => decide (p.2.length ≤ 4)) = true := by decide +kernel
theorem mem_lookup : ∀ {l : List (Nat × Bs)} {c : Nat} {s : Bs}, l.lookup c = some s → ∃ p ∈ l, p.2 = s
  | [], _, _, h => by cases h
  | (a, b) :: r, c, s, h => by
    rw [List.lookup_cons] at h
    split at h
    · cases h; exact ⟨_, .head _, rfl⟩
    obtain ⟨p, h1, h2⟩ := mem_lookup h
    exact ⟨p, .tail _ h1, h2⟩
theorem char_len (c : Nat) : (char c).length ≤ 4 := by
  unfold char
  split
  · exact enc_len c
  split
  · exact enc_len _
  split
  · simp
  split
  · simp
  split
  · rename_i s hs
    obtain ⟨p, h1, rfl⟩ := mem_lookup hs
    exact of_decide_eq_true (List.all_eq_true.1 tab_len p h1)
  split
  · exact enc_len _
  split
  · exact enc_len _
  split
  · exact enc_len _
  simp
theorem wf_end (w : Bs) : wf w [] = if w = [] then [] else [w] := rfl
theorem wf_in {c : Nat} (h : char c ≠ [32]) (w : Bs) (r : List Nat) : wf w (c :: r) = wf (w ++ char c) r := by
  show (if char c = [32] then _ else _) = _
  rw [if_neg h]
theorem wf_out {c : Nat} (h : char c = [32]) {w : Bs} (hw : w ≠ []) (r : List Nat) : wf w (c :: r) = w :: wf [] r := by
  show (if char c = [32] then (if w = [] then _ else _) else _) = _
  rw [if_pos h, if_neg hw]
theorem wf_out0 {c : Nat} (h : char c = [32]) (r : List Nat) : wf [] (c :: r) = wf [] r := by
  show (if char c = [32] then (if ([] : Bs) = [] then _ else _) else _) = _
  rw [if_pos h, if_pos rfl]
theorem drop_at {α : Type} {l : List α} {k : Nat} {x : α} {r : List α} (h : l.drop k = x :: r) : l[k]? = some x ∧ l.drop (k + 1) = r := by
  have h1 := congrArg List.head? h
  have h2 := congrArg List.tail h
  rw [List.head?_drop] at h1
  rw [List.tail_drop] at h2
  exact ⟨h1, h2⟩
structure WInv (s : Bs) (i k : Nat) (w : Bs) : Prop where
  le : i ≤ s.length
  wl : w.length ≤ 4 * i
  kl : k ≤ (words s).length
  eq : (words s).drop k = wf w (runes (s.drop i))
theorem WInv.start (s : Bs) : WInv s 0 0 [] := ⟨Nat.zero_le _, Nat.zero_le _, Nat.zero_le _, rfl⟩
theorem WInv.in {s : Bs} {i k : Nat} {w : Bs} (h : WInv s i k w) (hi : i < s.length) (hc : char (Go.Utf8.decode ⟨s.toArray⟩ i).1 ≠ [32]) : WInv s (i + (Go.Utf8.decode ⟨s.toArray⟩ i).2) k (w ++ char (Go.Utf8.decode ⟨s.toArray⟩ i).1) := by
  obtain ⟨h1, h2⟩ := decode_width s hi
  refine ⟨h2, ?_, h.kl, by rw [h.eq, runes_at hi, wf_in hc]⟩
  have := char_len (Go.Utf8.decode ⟨s.toArray⟩ i).1
  have := h.wl
  rw [List.length_append]; omega
theorem WInv.out0 {s : Bs} {i k : Nat} (h : WInv s i k []) (hi : i < s.length) (hc : char (Go.Utf8.decode ⟨s.toArray⟩ i).1 = [32]) : WInv s (i + (Go.Utf8.decode ⟨s.toArray⟩ i).2) k [] := by
  obtain ⟨h1, h2⟩ := decode_width s hi
  exact ⟨h2, by simp, h.kl, by rw [h.eq, runes_at hi, wf_out0 hc]⟩
theorem WInv.out {s : Bs} {i k : Nat} {w : Bs} (h : WInv s i k w) (hi : i < s.length) (hc : char (Go.Utf8.decode ⟨s.toArray⟩ i).1 = [32]) (hw : w ≠ []) : (words s)[k]? = some w ∧ WInv s (i + (Go.Utf8.decode ⟨s.toArray⟩ i).2) (k + 1) [] := by
  obtain ⟨h1, h2⟩ := decode_width s hi
  have he := h.eq
  rw [runes_at hi, wf_out hc hw] at he
  obtain ⟨g1, g2⟩ := drop_at he
  exact ⟨g1, h2, by simp, (List.getElem?_eq_some_iff.1 g1).1, g2⟩
theorem WInv.last {s : Bs} {i k : Nat} {w : Bs} (h : WInv s i k w) (hi : ¬ i < s.length) (hw : w ≠ []) : (words s)[k]? = some w ∧ k + 1 = (words s).length := by
  have he := h.eq
  rw [runes_end (by omega), wf_end, if_neg hw] at he
  obtain ⟨g1, g2⟩ := drop_at he
  have := congrArg List.length g2
  have := (List.getElem?_eq_some_iff.1 g1).1
  simp at *
  exact ⟨g1, by omega⟩
theorem WInv.end0 {s : Bs} {i k : Nat} (h : WInv s i k []) (hi : ¬ i < s.length) : k = (words s).length := by
  have he := h.eq
  have := h.kl
  rw [runes_end (by omega), wf_end, if_pos rfl] at he
  have := congrArg List.length he
  simp at this
  omega
def total : List Bs → Nat
  | [] => 0
  | a :: r => a.length + total r
theorem wf_len : ∀ (r : List Nat) (w : Bs), (wf w r).length ≤ r.length + 1 ∧ total (wf w r) ≤ w.length + 4 * r.length
  | [], w => by
    unfold wf
    split
    · exact ⟨by simp, by simp [total]⟩
    exact ⟨by simp, by simp [total]⟩
  | c :: r, w => by
    unfold wf
    have h0 := wf_len r []
    split
    · split
      · simp only [List.length_cons, List.length_nil] at *; omega
      simp only [List.length_cons, List.length_nil, total] at *; omega
    have h1 := wf_len r (w ++ char c)
    have h2 := char_len c
    simp only [List.length_cons, List.length_append] at *; omega
theorem join_len : ∀ l : List Bs, (join l).length ≤ total l + l.length
  | [] => by simp [join]
  | [a] => by simp [join, total]
  | a :: b :: r => by
    have := join_len (b :: r)
    simp only [join, total, List.length_append, List.length_cons, List.length_nil] at *
    omega
theorem words_len (s : Bs) : (words s).length ≤ s.length + 1 ∧ (join (words s)).length ≤ 5 * s.length + 1 := by grind [words, runes, List.length_nil, wf_len, join_len, runes_len]
theorem words_each (s : Bs) : ∀ w ∈ words s, w.length ≤ 4 * s.length := by
  have h : ∀ (l : List Bs), ∀ w ∈ l, w.length ≤ total l := by
    intro l
    induction l with
    | nil => intro w hw; cases hw
    | cons a r ih =>
      intro w hw
      rcases List.mem_cons.1 hw with rfl | hw
      · simp [total]
      have := ih w hw; simp only [total]; omega
  intro w hw
  have h1 := (wf_len (runes s) []).2
  have h3 := runes_len s.length s
  have h4 := h _ w hw
  unfold words runes at *
  simp only [List.length_nil] at h1
  omega
theorem join_lib : ∀ l : List Bs, Go.Lib.join l [32] = join l
  | [] => rfl
  | [a] => Go.Lib.join_one a [32]
  | a :: b :: r => by
    have h := join_lib (b :: r)
    rw [Go.Lib.join_cons] at h ⊢
    show a ++ Go.Lib.joinTail [32] (b :: r) = a ++ [32] ++ join (b :: r)
    rw [← h]
    simp [Go.Lib.joinTail]
def tens : Bs := [48, 49, 50, 51, 52, 53, 54, 55, 56, 57]
theorem tens_digit (c : UInt8) : tens.contains c = digit c := by
  have h : ∀ n < 256, tens.contains (UInt8.ofNat n) = digit (UInt8.ofNat n) := by decide +kernel
  have := h c.toNat c.toNat_lt
  rwa [UInt8.ofNat_toNat] at this
theorem drop_keeps {p : UInt8 → Bool} {c : UInt8} : ∀ {l : Bs}, c ∈ l → p c = false → c ∈ l.dropWhile p
  | [], h, _ => by cases h
  | d :: r, h, hp => by
    rw [List.dropWhile_cons]
    split
    · rename_i hd
      rcases List.mem_cons.1 h with rfl | h
      · rw [hp] at hd; cases hd
      exact drop_keeps h hp
    exact h
theorem drop_all {p : UInt8 → Bool} : ∀ {l : Bs}, (∀ c ∈ l, p c = true) → l.dropWhile p = []
  | [], _ => rfl
  | d :: r, h => by rw [List.dropWhile_cons_of_pos (h d (.head _))]; exact drop_all fun c hc => h c (.tail _ hc)
theorem trim_digits (s : Bs) : (Go.Lib.trimS s tens == []) = digits s := by
  unfold Go.Lib.trimS Go.Lib.trimLeftS Go.Lib.trimRightS digits
  cases hd : s.all digit with
  | true =>
    have h : ∀ c ∈ s.reverse, tens.contains c = true := fun c hc => by rw [tens_digit]; exact List.all_eq_true.1 hd c (List.mem_reverse.1 hc)
    rw [drop_all h]; rfl
  | false =>
    obtain ⟨c, hc, hn⟩ : ∃ c ∈ s, digit c = false := by
      have := List.all_eq_false.1 hd
      obtain ⟨c, hc, hn⟩ := this
      exact ⟨c, hc, by simpa using hn⟩
    have h1 : tens.contains c = false := by rw [tens_digit]; exact hn
    have h2 := drop_keeps (p := (tens.contains ·)) (List.mem_reverse.2 (drop_keeps (p := (tens.contains ·)) (List.mem_reverse.2 hc) h1)) h1
    rw [beq_eq_false_iff_ne]
    intro he
    rw [he] at h2; cases h2
theorem dropLast_take (w : Bs) : w.take (w.length - 1) = w.dropLast := by rw [List.dropLast_eq_take]
theorem strip_len (w : Bs) : (strip w).length ≤ w.length + 1 := by
  unfold strip
  have h : ∀ (l : Bs) (p : UInt8 → Bool), (l.dropWhile p).length ≤ l.length := by
    intro l p
    induction l with
    | nil => simp
    | cons a r ih => rw [List.dropWhile_cons]; split <;> simp only [List.length_cons] <;> omega
  have := h w.dropLast (· == 48)
  rw [List.length_append, List.length_drop]
  rw [List.length_dropLast] at this
  omega
theorem sortWord_len (w : Bs) : (sortWord w).length ≤ w.length + 3 := by grind [sortWord, number, List.length_append, List.length_cons, List.length_nil, strip_len]
theorem sort_len (s : Bs) : (join ((words s).map sortWord)).length ≤ 8 * s.length + 4 := by
  have h1 := wf_len (runes s) []
  have h3 := runes_len s.length s
  have h2 := join_len ((words s).map sortWord)
  have h4 : ∀ l : List Bs, total (l.map sortWord) ≤ total l + 3 * l.length := by
    intro l
    induction l with
    | nil => simp [total]
    | cons a r ih =>
      have := sortWord_len a
      simp only [List.map_cons, total, List.length_cons]; omega
  have h5 := h4 (words s)
  rw [List.length_map] at h2
  unfold words runes at *
  simp only [List.length_nil] at h1
  omega
end Ke
namespace Go.Proofs.YtekmeaoblpfnpaaGreatDoor
open Go Go.Sx
theorem Len_bld (b : Nat) (l : List UInt8) (p : Bool) (g : Gs) (hg : gOk 0 1 l.length (bcs l) g) (I : Heap) : Ctr Tryz.prog 131 [ptr b 0] I (BldH b l p g) (fun e _I' H' => e = .returned (i64 l.length) ∧ H' = BldH b l p g) :=
  (Ctr.frame (gH 5 (bcs l) g) (Len_ok b _ l.length g hg I)).mono fun _ _ _ _ ⟨H1, h1, h2, h3⟩ => ⟨h2, by rw [h1, h3]; rfl⟩
theorem Reset_bld (b : Nat) (x y : Value) (R : HL) (I : Heap) : Ctr Tryz.prog 133 [ptr b 0] I ((b, cel 204 [x, y]) :: R) (fun e _I' H' => e = .returned (.tuple #[]) ∧ H' = BldH b [] false none) :=
  (Ctr.frame R (Reset_ok b x y I)).drop fun _ _ _ ⟨H1, h1, h2, h3⟩ => ⟨_, by rw [h1, h3]; exact List.sublist_append_left _ _, h2, rfl⟩
structure WSt where
  i : Nat
  w : List UInt8
  p : Bool
  g : Gs
  k : Nat
  I : Heap
  H : HL
theorem words1_ok (sb : Nat) (s : List UInt8) (hs : s.length ≤ 1000000000) (I : Heap) (hsb : I sb = some (cel 9 [str s])) : Gen Tryz.prog 127 [] [ptr sb 0] I ((Ke.words s).map fun w => [str w]) := by
 refine ⟨Enters.of Tryz.func127 (by decide) rfl, fun l Y Z hmono hYS H hY0 => ?_⟩
 refine Ctr.ob Tryz.func127 ?_
 intro w0 hw0
 refine Cj.sr (J.op rfl (op_callN rfl rfl rfl rfl rfl (letters_ok _) ?_ (fun _ _ _ _ ⟨_, h, _⟩ => by cases h) (fun _ _ ⟨_, h, _⟩ => by cases h)))
 intro v2 I3 H4 hle5 hn1 hp6
 have hsb := hle5 _ _ hsb
 obtain ⟨tb, h, rfl⟩ := hp6; cases h
 have hY0 := hmono _ _ _ _ hle5 hY0
 refine J.persist (hn1 _ (.head _)) (fun I9 hle9 hT => ?_)
 have hsb := hle9 _ _ hsb
 have hY0 := hmono _ _ _ _ hle9 hY0
 refine J.z q1 ?_
 refine J.nssr (J.op rfl (q21 Tryz.zeroValue204 ?_))
 intro b7 hb7
 refine J.nsss (Cj.region (J.z (q3 tA9 (Blk.imm hsb)) ?_))
 refine J.op rfl (op_range rfl rfl rfl rfl tU9 ?_)
 intro b8 hb8
 refine J.ns (Cj.block (Cj.loop (ι := WSt) (fun j => Ke.WInv s j.i j.k j.w ∧ gOk 0 1 j.w.length (bcs j.w) j.g ∧ (Tab j.I tb ∧ j.I sb = some (cel 9 [str s])) ∧ Y j.k j.I j.H) (fun j => s.length - j.i) (fun j => [(0, .func (.yield l) #[] #[]), (3, .map (some tb)), (4, ptr b7 0), (10, ptr b8 0)]) (fun j => j.I) (fun j => (b8, .stringIter ⟨s.toArray⟩ j.i) :: (BldH b7 j.w j.p j.g ++ j.H)) ⟨0, [], false, none, 0, _, H⟩ ⟨Ke.WInv.start s, ⟨rfl, rfl⟩, ⟨hT, hsb⟩, hY0⟩ ⟨rfl, rfl, rfl, rfl, trivial⟩ rfl rfl ?_))
 rintro ⟨i, w, p, g, k, I, H⟩ ⟨hw, hg, ⟨hT, hsb⟩, hY⟩
 dsimp only at hw hg hT hsb hY ⊢
 have hwl := hw.wl
 have hwi := hw.le
 rcases Nat.lt_or_ge i s.length with hp | hp
 ·have hd := Ke.decode_width s hp
  have hdl := Ke.decode_le s i
  refine Cj.sr (J.op rfl (op_next 0 rfl rfl rfl rfl rfl (by rw [size_mk]; omega) LSet.z ?_))
  refine J.z q11 ?_
  refine J.nss (Cj.cond rfl (fun hc9 => ?_) (fun hc9 => Bool.noConfusion (Eq.trans (Eq.symm rfl) hc9)))
  refine Cj.ks (Cj.block (Cj.sr (J.z q11 ?_)))
  refine J.z q1 ?_
  refine J.nssr (J.z q0 ?_)
  refine J.z q0 ?_
  refine J.op rfl (op_pure rfl rfl rfl rfl rfl (fold_ok _ tb hdl _ hT) ?_)
  refine J.z q1 ?_
  refine J.nsss (Cj.region (J.z q0 ?_))
  refine J.z (yl_neqStr rfl rfl rfl) ?_
  refine J.cd (fun hc10 => ?_) (fun hc10 => ?_)
  ·have hc10p := bne_iff_ne.1 hc10
   have hc : Ke.char (Utf8.decode ⟨s.toArray⟩ i).1 ≠ [32] := bne_iff_ne.1 hc10
   refine Cj.sr (J.z q0 ?_)
   refine J.perm (H' := BldH _ _ _ _ ++ (_ :: _)) List.perm_middle ?_
   refine J.op rfl (op_call (H1 := BldH _ _ _ _) (R := _ :: _) rfl rfl rfl rfl rfl (WriteString_ok _ w (Ke.char (Utf8.decode ⟨s.toArray⟩ i).1) p g hg (by omega) (by have := Ke.char_len (Utf8.decode ⟨s.toArray⟩ i).1; omega) _) ?_ (fun _ _ _ _ h => by cases h.1) (fun _ _ h => by cases h.1))
   intro v11 I12 H13 hle14 hp15
   have hsb := hle14 _ _ hsb
   have hT := hT.mono hle14
   obtain ⟨h, g2, hg2, rfl⟩ := hp15; cases h
   have hY := hmono _ _ _ _ hle14 hY
   refine J.perm (H' := _ :: (_ ++ _)) List.perm_middle.symm ?_
   refine J.ns (Cj.exit (Ej.seqExit (Ej.blkExit (Ej.round ⟨i + (Utf8.decode ⟨s.toArray⟩ i).2, w ++ Ke.char (Utf8.decode ⟨s.toArray⟩ i).1, true, g2, k, _, H⟩ ⟨hw.in hp hc, hg2, ⟨hT, hsb⟩, hY⟩ (by dsimp only; omega) ⟨rfl, rfl, rfl, rfl, trivial⟩ rfl rfl))))
  have hc10p := bne_f hc10
  have hc : Ke.char (Utf8.decode ⟨s.toArray⟩ i).1 = [32] := by have h := hc10; simpa using h
  refine Cj.ks (Cj.seq (Cj.sr (J.perm (H' := BldH _ _ _ _ ++ (_ :: _)) List.perm_middle ?_)))
  refine J.op rfl (op_call (H1 := BldH _ _ _ _) (R := _ :: _) rfl rfl rfl rfl rfl (Len_bld _ w p g hg _) ?_ (fun _ _ _ _ h => by cases h.1) (fun _ _ h => by cases h.1))
  intro v16 I17 H18 hle19 hp20
  have hsb := hle19 _ _ hsb
  have hT := hT.mono hle19
  obtain ⟨h, rfl⟩ := hp20; cases h
  have hY := hmono _ _ _ _ hle19 hY
  refine J.perm (H' := _ :: (_ ++ _)) List.perm_middle.symm ?_
  refine J.z (yl_gtr rfl rfl rfl) ?_
  refine J.z q0 ?_
  refine J.split 23 rfl (fun hg21 => ?_) (fun hg21 => ?_)
  rotate_left
  ·obtain rfl : w = [] := List.length_eq_zero_iff.1 (by have := odf hg21; omega)
   refine q12 2 23 24 true hg21 ?_
   refine q12 2 23 25 true hg21 ?_
   refine q12 2 23 26 true hg21 ?_
   refine q12 2 23 27 true hg21 ?_
   refine J.z (q23 hg21) ?_
   refine J.c0 (fun hc33 => ?_)
   refine Cj.ks (Cj.region (J.perm (H' := BldH _ _ _ _ ++ (_ :: _)) List.perm_middle ?_))
   refine J.op rfl (op_call (H1 := BldH _ _ _ _) (R := _ :: _) rfl rfl rfl rfl rfl (Reset_bld _ _ _ _ _) ?_ (fun _ _ _ _ h => by cases h.1) (fun _ _ h => by cases h.1))
   intro v34 I35 H36 hle37 hp38
   have hsb := hle37 _ _ hsb
   have hT := hT.mono hle37
   obtain ⟨h, rfl⟩ := hp38; cases h
   have hY := hmono _ _ _ _ hle37 hY
   refine J.perm (H' := _ :: (_ ++ _)) List.perm_middle.symm ?_
   refine J.nil (Ej.blkNormal (Ej.round ⟨i + (Utf8.decode ⟨s.toArray⟩ i).2, [], false, none, k, _, H⟩ ⟨hw.out0 hp hc, ⟨rfl, rfl⟩, ⟨hT, hsb⟩, hY⟩ (by dsimp only; omega) ⟨rfl, rfl, rfl, rfl, trivial⟩ rfl rfl))

  have hwn : w ≠ [] := fun h => by have := odt hg21; rw [h] at this; simp at this
  refine q13 2 23 true hg21 (q7 q0 ?_)
  refine J.perm (H' := BldH _ _ _ _ ++ (_ :: _)) List.perm_middle ?_
  refine J.opG 2 23 true _ rfl rfl rfl hg21 (op_call (H1 := BldH _ _ _ _) (R := _ :: _) rfl rfl rfl rfl rfl (String_ok _ w p g hg (fun h => absurd h hwn) (by omega) _) ?_ (fun _ _ _ _ h => by cases h.1) (fun _ _ h => by cases h.1))
  intro v22 I23 H24 hle25 hp26
  have hsb := hle25 _ _ hsb
  have hT := hT.mono hle25
  obtain ⟨h, y0, z0, rfl⟩ := hp26; cases h
  have hY := hmono _ _ _ _ hle25 hY
  refine J.perm (H' := _ :: (_ ++ _)) List.perm_middle.symm ?_
  refine J.yieldG [_, _] 2 23 true _ rfl rfl rfl hg21 rfl rfl rfl rfl rfl (hYS k [str w] (by rw [List.getElem?_map, (hw.out hp hc hwn).1]; rfl) _ H hY) ?_ (fun _ _ _ h => by rcases h with ⟨h, _⟩ | ⟨h, _⟩ <;> cases h) (fun _ _ h => by rcases h with ⟨h, _⟩ | ⟨h, _⟩ <;> cases h)
  intro v3 I3 H3 hle3 hp3
  have hsb := hle3 _ _ hsb
  have hT := hT.mono hle3
  obtain ⟨t3, h3, hYZ⟩ : ∃ t : Bool, v3 = .bool t ∧ ((t = true ∧ Y (k + 1) I3 H3) ∨ (t = false ∧ Z I3 H3)) := by
    rcases hp3 with ⟨h, h2⟩ | ⟨h, h2⟩
    · cases h; exact ⟨true, rfl, .inl ⟨rfl, h2⟩⟩
    cases h; exact ⟨false, rfl, .inr ⟨rfl, h2⟩⟩
  subst h3
  refine q13 2 23 true hg21 (q7 (yl_not rfl rfl) ?_)
  refine J.z (q22 hg21) ?_
  refine J.cd (fun hc27 => ?_) (fun hc27 => ?_)
  ·have hZ3 : Z I3 H3 := by
     rcases hYZ with ⟨rfl, _⟩ | ⟨_, h⟩
     · exact Bool.noConfusion hc27
     exact h
   refine Cj.rs (Ej.blkRet (Ej.loopRet (Ej.blkRet (Ej.seqRet (Ej.keep (H' := H3) (List.Sublist.cons _ (List.Sublist.cons _ (List.Sublist.refl _))) ?_)))))
   exact Ej.ret0 rfl rfl ⟨rfl, .inr hZ3⟩
  have hY3 : Y (k + 1) I3 H3 := by
    rcases hYZ with ⟨_, h⟩ | ⟨rfl, _⟩
    · exact h
    exact Bool.noConfusion hc27
  refine Cj.ks (Cj.region (J.perm (H' := [_] ++ (_ :: _)) List.perm_middle ?_))
  refine J.op rfl (op_call (H1 := [_]) (R := _ :: _) rfl rfl rfl rfl rfl (Reset_bld _ _ _ _ _) ?_ (fun _ _ _ _ h => by cases h.1) (fun _ _ h => by cases h.1))
  intro v28 I29 H30 hle31 hp32
  have hsb := hle31 _ _ hsb
  have hT := hT.mono hle31
  obtain ⟨h, rfl⟩ := hp32; cases h
  have hY3 := hmono _ _ _ _ hle31 hY3
  refine J.perm (H' := _ :: (_ ++ _)) List.perm_middle.symm ?_
  refine J.nil (Ej.blkNormal (Ej.round ⟨i + (Utf8.decode ⟨s.toArray⟩ i).2, [], false, none, k + 1, _, H3⟩ ⟨(hw.out hp hc hwn).2, ⟨rfl, rfl⟩, ⟨hT, hsb⟩, hY3⟩ (by dsimp only; omega) ⟨rfl, rfl, rfl, rfl, trivial⟩ rfl rfl))
 refine Cj.sr (J.op rfl (op_nextEnd 0 rfl rfl rfl rfl rfl (by rw [size_mk]; omega) ?_))
 refine J.z q11 ?_
 refine J.nss (Cj.cond rfl (fun hc39 => Bool.noConfusion (Eq.trans (Eq.symm rfl) hc39)) (fun hc39 => ?_))
 refine Cj.xl (Cj.sr (J.perm (H' := BldH _ _ _ _ ++ (_ :: _)) List.perm_middle ?_))
 refine J.op rfl (op_call (H1 := BldH _ _ _ _) (R := _ :: _) rfl rfl rfl rfl rfl (Len_bld _ w p g hg _) ?_ (fun _ _ _ _ h => by cases h.1) (fun _ _ h => by cases h.1))
 intro v40 I41 H42 hle43 hp44
 obtain ⟨h, rfl⟩ := hp44; cases h
 have hY := hmono _ _ _ _ hle43 hY
 refine J.perm (H' := _ :: (_ ++ _)) List.perm_middle.symm ?_
 refine J.z (yl_gtr rfl rfl rfl) ?_
 refine J.cd (fun hc45 => ?_) (fun hc45 => ?_)
 ·have hc45p := odt hc45
  have hwn : w ≠ [] := fun h => by have := odt hc45; rw [h] at this; simp at this
  refine Cj.region (J.z q0 ?_)
  refine J.perm (H' := BldH _ _ _ _ ++ (_ :: _)) List.perm_middle ?_
  refine J.op rfl (op_call (H1 := BldH _ _ _ _) (R := _ :: _) rfl rfl rfl rfl rfl (String_ok _ w p g hg (fun h => absurd h hwn) (by omega) _) ?_ (fun _ _ _ _ h => by cases h.1) (fun _ _ h => by cases h.1))
  intro v46 I47 H48 hle49 hp50
  obtain ⟨h, y0, z0, rfl⟩ := hp50; cases h
  have hY := hmono _ _ _ _ hle49 hY
  refine J.perm (H' := _ :: (_ ++ _)) List.perm_middle.symm ?_
  refine J.yield [_, _] rfl rfl rfl rfl rfl rfl (hYS k [str w] (by rw [List.getElem?_map, (hw.last (by omega) hwn).1]; rfl) _ H hY) ?_ (fun _ _ _ h => by rcases h with ⟨h, _⟩ | ⟨h, _⟩ <;> cases h) (fun _ _ h => by rcases h with ⟨h, _⟩ | ⟨h, _⟩ <;> cases h)
  intro v3 I3 H3 hle3 hp3
  refine J.nil (Ej.keep (H' := H3) (List.Sublist.cons _ (List.Sublist.cons _ (List.Sublist.refl _))) ?_)
  refine Ej.end0 rfl rfl ⟨rfl, ?_⟩
  rcases hp3 with ⟨_, h2⟩ | ⟨_, h2⟩
  · refine .inl ?_
    rw [List.length_map, ← (hw.last (by omega) hwn).2]; exact h2
  exact .inr h2
 have hc45p := odf hc45
 obtain rfl : w = [] := List.length_eq_zero_iff.1 (by have := odf hc45; omega)
 refine Cj.skip (Ej.keep (H' := H) (List.Sublist.cons _ (List.sublist_append_right _ _)) ?_)
 refine Ej.end0 rfl rfl ⟨rfl, .inl ?_⟩
 rw [List.length_map, ← hw.end0 (by omega)]; exact hY
open _root_.Go.Proofs.Tryz
theorem Join_ok (l : List (List UInt8)) (v : Value) (hl : l.length ≤ 1000000000000) (hj : (Ke.join l).length ≤ 1000000000000) (I : Heap) (hv : StrS 9 I l v) : Pure Tryz.prog 203 [v, str [32]] I (str (Ke.join l)) := by
  rcases hv with ⟨rfl, rfl⟩ | ⟨b, c, sp, rfl, hc, hb⟩
  · exact Pure.of_same (Enters.of func203 (by decide) rfl) fun w _ => (Tryz.strings_Join_none none 0 ⟨#[32]⟩ w).mono fun e w' ⟨h1, h2⟩ => ⟨by rw [h1]; rfl, h2⟩
  refine Pure.of_below (Enters.of func203 (by decide) rfl) fun w hw => ?_
  have hbw := hw.1 _ _ hb
  have hblt : b < w.heap.size := by
    rcases Nat.lt_or_ge b w.heap.size with h' | h'
    · exact h'
    simp [Array.getElem?_eq_none h'] at hbw
  have hmap : (l.map fun x => (⟨x.toArray⟩ : ByteArray)).map (fun x => x.data.toList) = l := by
    rw [List.map_map]; exact (List.map_congr_left fun x _ => by simp).trans (List.map_id l)
  have hjoin : Lib.join l [32] = Ke.join l := Ke.join_lib l
  have h := Tryz.strings_Join b 0 c (l.map fun x => ⟨x.toArray⟩) ⟨#[32]⟩ w (fun j x hx => by
    rw [List.getElem?_map] at hx
    cases hj : l[j]? with
    | none => rw [hj] at hx; cases hx
    | some y =>
      rw [hj] at hx; cases hx
      rw [Nat.zero_add]
      exact cell_of_heap hbw (str_get hj)) hblt (by simp; omega) (by simpa using hc) (by rw [hmap, show (⟨#[32]⟩ : ByteArray).data.toList = [32] from rfl, hjoin]; omega)
  rw [hmap, show (⟨#[32]⟩ : ByteArray).data.toList = [32] from rfl, hjoin, List.length_map] at h
  exact h
theorem words_ok (s : List UInt8) (I : Heap) : Ctr Tryz.prog 76 [str s] I [] (fun e _I' H' => ∃ b, e = .returned (.func (.func 127) #[] #[ptr b 0]) ∧ H' = [(b, cel 9 [str s])]) := by
 refine Ctr.ob func76 ?_
 intro w0 hw0
 refine Cj.sr (J.op rfl (q15 ?_))
 intro b1 hb1
 refine J.z q1 ?_
 refine J.nssr (J.z (yl_makeFunc rfl rfl rfl) ?_)
 refine J.z q1 ?_
 refine J.ns (Cj.ret (q5 ?_))
 exact ⟨b1, rfl, rfl⟩
theorem take_next {l : List (List UInt8)} {k : Nat} {x : List UInt8} (h : l[k]? = some x) : (l.take (k + 1)).map str = (l.take k).map str ++ [str x] := by
  obtain ⟨hlt, hg⟩ := List.getElem?_eq_some_iff.1 h
  rw [List.take_succ_eq_append_getElem hlt, hg, List.map_append]; rfl
theorem AppendSeq_ok (ws : List (List UInt8)) (f : Nat) (fst cap : List Value) (I : Heap) (hl : ws.length ≤ 1000000000000) (hgen : Gen Tryz.prog f fst cap I (ws.map fun w => [str w])) : Ctr Tryz.prog 126 [.slice none 0 0, .func (.func f) fst.toArray cap.toArray] I []
    (fun e _I' H' => ∃ g, gOk 0 1 ws.length (ws.map str) g ∧ e = .returned (gV ws.length g) ∧ H' = gH 9 (ws.map str) g) := by
 refine Ctr.of_bodyM func126 rfl (by decide) (Nat.le_of_ble_eq_true rfl) ?_
 intro w0 hw0
 refine Cj.sr (J.op rfl (q15 ?_))
 intro b1 hb1
 refine J.z q1 ?_
 refine J.nsss (Cj.region (J.z q0 ?_))
 refine J.ns (Cj.block (Cj.rangeFunc (ps := [7]) (H1 := [_]) (R := []) (ws.map fun w => [str w]) (fun k I' H' => k ≤ ws.length ∧ ∃ g, gOk 0 1 k ((ws.take k).map str) g ∧ H' = (b1, cel 69 [gV k g]) :: gH 9 ((ws.take k).map str) g) (fun _ _ _ => False) rfl (one_blt rfl) (seq1 _ _) rfl hgen (fun _ _ _ _ _ h => h) ⟨Nat.zero_le _, none, ⟨rfl, rfl⟩, rfl⟩ ?_ ?_ ?_))
 ·intro l r k args I1 Hk w1 hk hle hY
  obtain ⟨x, hx, rfl⟩ := seq1_at hk
  obtain ⟨hkl, g, hg, rfl⟩ := hY
  have hlt := (List.getElem?_eq_some_iff.1 hx).1
  refine Cj.region (J.z q1 ?_)
  refine J.nil (Ej.asg ?_)
  refine Cj.block (Cj.region (J.z (q3 tA69 (Blk.at 1 rfl)) ?_))
  refine J.z q0 ?_
  refine J.op rfl (q17 tU69 tS9 tZ9 (LCat.one rfl LCat.none) ?_)
  intro b2 hb2
  refine J.op rfl (op_appendB 0 (Nat.zero_le _) (by' := 15) [_, _, _] rfl rfl rfl rfl rfl tU69 (.inr ⟨_, tU69⟩) (by kernel_rfl) tS9 tZ9 rfl hg rfl (Src.slice (Blk.at 0 rfl) rfl rfl rfl) (by omega) ?_)
  intro g3 hg3
  refine J.op rfl (op_store 2 rfl rfl rfl rfl (gV_cells _ _) (gV_one _ _) tS69 rfl rfl (LSpl.c LSpl.z) (LSet.s (LSet.s LSet.z)) ?_)
  refine J.nil (Ej.blkNormal (Ej.pull (Pull.s Pull.z) ?_))
  refine Ej.keep (Keeps.k (Keeps.d (Keeps.k Keeps.r))) ?_
  exact Ej.rdNormal ⟨hlt, _, by rw [take_next hx]; exact hg3, by rw [take_next hx]; rfl⟩
 ·intro mb4 I2 H2 hle hY
  rw [List.length_map] at hY
  obtain ⟨hkl, g, hg, rfl⟩ := hY
  rw [List.take_length] at hg
  rw [List.take_length]
  refine Ej.blkNormal (Ej.seq (Cj.sr (J.z (q3 tA69 (Blk.at 1 rfl)) ?_)))
  refine J.z q1 ?_
  refine J.ns (Cj.ret (Ej.leaveM (.inl rfl) ?_))
  refine LvJ.mark 0 rfl LSet.z ?_
  refine LvJ.keep (Keeps.d (Keeps.d Keeps.r)) ?_
  exact LvJ.ret1 rfl rfl ⟨g, hg, rfl, List.append_nil _⟩
 exact fun _ _ _ _ _ hZ => hZ.elim
theorem Collect_ok (ws : List (List UInt8)) (f : Nat) (fst cap : List Value) (I : Heap) (hl : ws.length ≤ 1000000000000) (hgen : Gen Tryz.prog f fst cap I (ws.map fun w => [str w])) : Ctr Tryz.prog 75 [.func (.func f) fst.toArray cap.toArray] I []
    (fun e _I' H' => ∃ g, gOk 0 1 ws.length (ws.map str) g ∧ e = .returned (gV ws.length g) ∧ H' = gH 9 (ws.map str) g) := by
 refine Ctr.ob func75 ?_
 intro w0 hw0
 refine Cj.sr (J.z q1 ?_)
 refine J.nssr (J.z q0 ?_)
 refine J.op rfl (op_call (H1 := []) rfl rfl rfl rfl rfl (AppendSeq_ok ws f fst cap _ hl hgen) ?_ (fun _ _ _ _ ⟨_, _, h, _⟩ => by cases h) (fun _ _ ⟨_, _, h, _⟩ => by cases h))
 intro v1 I2 H3 hle4 hp5
 obtain ⟨g, hg, h, rfl⟩ := hp5; cases h
 refine J.z q1 ?_
 refine J.ns (Cj.ret (q5 ?_))
 exact ⟨g, hg, rfl, List.append_nil _⟩
theorem Words_ok (s : List UInt8) (hs : s.length ≤ 1000000000) (I : Heap) : Ctr Tryz.prog 30 [str s] I [] (fun e I' H' => ∃ v, e = .returned v ∧ StrS 9 I' (Ke.words s) v ∧ H' = []) := by
 have hwl := Ke.words_len s
 refine Ctr.ob func30 ?_
 intro w0 hw0
 refine Cj.sr (J.z q1 ?_)
 refine J.nssr (J.z q0 ?_)
 refine J.op rfl (op_callN rfl rfl rfl rfl rfl (words_ok s _) ?_ (fun _ _ _ _ ⟨_, h, _⟩ => by cases h) (fun _ _ ⟨_, h, _⟩ => by cases h))
 intro v2 I3 H4 hle5 hn1 hp6
 obtain ⟨sb, h, rfl⟩ := hp6; cases h
 refine J.persist (hn1 _ (.head _)) (fun I9 hle9 hsb => ?_)
 refine J.op rfl (op_callN rfl rfl rfl rfl rfl (Collect_ok (Ke.words s) _ [] [ptr sb 0] _ (by omega) (words1_ok sb s hs _ hsb)) ?_ (fun _ _ _ _ ⟨_, _, h, _⟩ => by cases h) (fun _ _ ⟨_, _, h, _⟩ => by cases h))
 intro v8 I9 H10 hle11 hn7 hp12
 obtain ⟨g, hg, h, rfl⟩ := hp12; cases h
 refine J.keepS (hg.base hn7) (fun I8 hle8 hv => ?_)
 refine J.z q1 ?_
 refine J.ns (Cj.ret (q5 ?_))
 exact ⟨_, rfl, hv, rfl⟩
theorem ascii_of_all {l : List UInt8} (h : l.all (fun b => decide (b.toNat < 128)) = true) : ∀ (j : Nat) b, (⟨l.toArray⟩ : ByteArray).data.toList[j]? = some b → b.toNat < 128 := fun j b hb => by
  rw [ba_list] at hb
  exact odt (List.all_eq_true.1 h b (lmg hb))
theorem Trim_ok (s : List UInt8) (hs : s.length ≤ 1000000000000) (I : Heap) : Pure Tryz.prog 246 [str s, str Ke.tens] I (str (Lib.trimS s Ke.tens)) :=
  Pure.of_below (Enters.of func246 (by decide) rfl) fun w _ => by
    have h := Any.strings_Trim_laid Tryz.lays160 (by kernel_rfl) ⟨s.toArray⟩ ⟨Ke.tens.toArray⟩ w (by rw [size_mk]; omega) (by decide) (ascii_of_all (by decide))
    rw [ba_list, ba_list] at h
    exact h
theorem TrimLeft0_ok (s : List UInt8) (I : Heap) : Pure Tryz.prog 202 [str s, str [48]] I (str (s.dropWhile (· == 48))) :=
  Pure.of_same (Enters.of func202 (by decide) rfl) fun w _ => by
    have h := Tryz.strings_TrimLeft_one ⟨s.toArray⟩ 48 (by decide) w
    rw [ba_list] at h
    exact h
theorem perm_back2 {a b : Nat × Obj} {G : HL} : (G ++ [a, b]).Perm (a :: (b :: G ++ [])) := by
  rw [List.append_nil]; exact List.perm_append_comm
theorem conv8 {n : Nat} (h : n < 256) : IntKind.u8.wrap (n : Int) = ((UInt8.ofNat n).toNat : Int) := by
  rw [show (UInt8.ofNat n).toNat = n by simp; omega]
  simp [IntKind.wrap, IntKind.bits, IntKind.signed]; omega
theorem take_nextM {f : List UInt8 → List UInt8} {l : List (List UInt8)} {k : Nat} {x : List UInt8} (h : l[k]? = some x) : ((l.take (k + 1)).map f).map str = ((l.take k).map f).map str ++ [str (f x)] := by
  obtain ⟨hlt, hg⟩ := List.getElem?_eq_some_iff.1 h
  rw [List.take_succ_eq_append_getElem hlt, hg, List.map_append, List.map_append]; rfl
theorem isDigits_ok (s : List UInt8) (hs : s.length ≤ 1000000000000) (I : Heap) : Pure Tryz.prog 201 [str s] I (.bool (Ke.digits s)) := by
 refine Ctr.ob func201 ?_
 intro w0 hw0
 refine Cj.sr (J.z q1 ?_)
 refine J.nssr (J.z q0 ?_)
 refine J.op rfl (op_pure rfl rfl rfl rfl rfl (Trim_ok s hs _) ?_)
 refine J.z (yl_eqlStr rfl rfl rfl) ?_
 refine J.z q1 ?_
 refine J.ns (Cj.ret (q5 ?_))
 exact ⟨congrArg (fun b => Ending.returned (.bool b)) (Ke.trim_digits s), rfl, rfl⟩
theorem Sort_ok (s : List UInt8) (skip : Int) (hs : s.length ≤ 100000000) (I : Heap) : Pure Tryz.prog 138 [str s, i64 skip] I (str (Ke.sortKey s skip)) := by
 refine Ctr.toPure ?_
 have hcl : (Ke.cut s skip).length ≤ s.length := by unfold Ke.cut; simp
 have hwl := Ke.words_len (Ke.cut s skip)
 have hjl := Ke.sort_len (Ke.cut s skip)
 refine Ctr.of_bodyM func138 rfl (by decide) (Nat.le_of_ble_eq_true rfl) ?_
 intro w0 hw0
 refine Cj.sr (J.z q1 ?_)
 refine J.nssr (J.z q0 ?_)
 refine J.z q0 ?_
 refine J.z (yl_max2 rfl rfl rfl) ?_
 refine J.z q0 ?_
 refine J.z (yl_lenStr rfl rfl tU9) ?_
 refine J.z (yl_min2 rfl rfl rfl) ?_
 refine J.eqv 13 rfl (show _ = i64 (((min (max skip 0) (s.length : Int)).toNat : Nat) : Int) from (congrArg i64 (by omega))) ?_
 refine J.z (yl_sliceStr (p := (min (max skip 0) (s.length : Int)).toNat) (q := s.length) rfl rfl tU9 ⟨_, rfl⟩ rfl (by omega) (by omega)) ?_
 refine J.eqv 14 rfl (show _ = str (Ke.cut s skip) from (by rw [List.take_length]; rfl)) ?_
 refine J.z q1 ?_
 refine J.nssr (J.op rfl (q21 tZ69 ?_))
 intro b1 hb1
 refine J.nsss (Cj.region (J.z q0 ?_))
 refine J.op rfl (op_callN rfl rfl rfl rfl rfl (words_ok (Ke.cut s skip) _) ?_ (fun _ _ _ _ ⟨_, h, _⟩ => by cases h) (fun _ _ ⟨_, h, _⟩ => by cases h))
 intro v3 I4 H5 hle6 hn2 hp7
 obtain ⟨sb, h, rfl⟩ := hp7; cases h
 refine J.persist (hn2 _ (.head _)) (fun I9 hle9 hsb => ?_)
 refine J.ns (Cj.block (Cj.rangeFunc (ps := [17]) (H1 := [_]) (R := []) ((Ke.words (Ke.cut s skip)).map fun w => [str w]) (fun k I' H' => k ≤ (Ke.words (Ke.cut s skip)).length ∧ ∃ g, gOk 0 1 k ((((Ke.words (Ke.cut s skip)).take k).map Ke.sortWord).map str) g ∧ H' = (b1, cel 69 [gV k g]) :: gH 9 ((((Ke.words (Ke.cut s skip)).take k).map Ke.sortWord).map str) g) (fun _ _ _ => False) rfl (one_blt rfl) (seq1 _ _) rfl (words1_ok sb _ (by omega) _ hsb) (fun _ _ _ _ _ h => h) ⟨Nat.zero_le _, none, ⟨rfl, rfl⟩, rfl⟩ ?_ ?_ ?_))
 ·intro l r k args I1 Hk w1 hk hle hY
  obtain ⟨x, hx, rfl⟩ := seq1_at hk
  obtain ⟨hkl, g, hg, rfl⟩ := hY
  have hlt := (List.getElem?_eq_some_iff.1 hx).1
  have hxm := lmg hx
  have hxl := Ke.words_each _ x hxm
  have hxn : 0 < x.length := List.length_pos_iff.2 (Ke.words_ne _ _ x hxm)
  have hsl := Ke.strip_len x
  refine Cj.region (J.z q1 ?_)
  refine J.nil (Ej.asg ?_)
  refine Cj.block (Cj.seq (Cj.sr (J.z q0 ?_)))
  refine J.op rfl (op_pure rfl rfl rfl rfl rfl (isDigits_ok x (by omega) _) ?_)
  refine J.cd (fun hc8 => ?_) (fun hc8 => ?_)
  ·have hdg : Ke.digits x = true := hc8
   have hsw : Ke.sortWord x = Ke.number x := by unfold Ke.sortWord; rw [hdg]; rfl
   refine Cj.seq (Cj.drawSel [] [] 13 (by kernel_rfl) ?_)
   refine JA.fix fx1 (fun fx9 => ?_)
   refine JA.tk 0 rfl fx9 q0 ?_
   refine JA.tk 1 rfl fx9 q0 ?_
   refine JA.tk 2 rfl fx9 (yl_lenStr rfl rfl tU9) ?_
   refine JA.tk 3 rfl fx9 (yl_sub rfl rfl rfl (w64 (by omega))) ?_
   refine JA.eqv 23 rfl (show _ = i64 ((x.length - 1 : Nat) : Int) from (congrArg i64 (by omega))) ?_
   refine JA.tk 4 rfl fx9 (yl_sliceStr (p := 0) (q := x.length - 1) rfl rfl tU9 rfl ⟨_, rfl⟩ (by omega) (by omega)) ?_
   refine JA.eqv 24 rfl (show _ = str (x.take (x.length - 1)) from (by rw [List.drop_zero])) ?_
   refine JA.tk 6 rfl fx9 q0 ?_
   refine JA.tk 7 rfl fx9 q0 ?_
   refine JA.tk 8 rfl fx9 (yl_lenStr rfl rfl tU9) ?_
   refine JA.tk 9 rfl fx9 (yl_sub rfl rfl rfl (w64 (by omega))) ?_
   refine JA.eqv 29 rfl (show _ = i64 ((x.length - 1 : Nat) : Int) from (congrArg i64 (by omega))) ?_
   refine JA.tk 10 rfl fx9 (yl_sliceStr (p := x.length - 1) (q := x.length) rfl rfl tU9 ⟨_, rfl⟩ rfl (by omega) (by omega)) ?_
   refine JA.eqv 30 rfl (show _ = str (x.drop (x.length - 1)) from (by rw [List.take_length])) ?_
   refine q4 5 rfl (op_pure rfl rfl rfl rfl rfl (TrimLeft0_ok (x.take (x.length - 1)) _) ?_)
   refine ⟨fx0, ?_⟩
   refine JA.fix fx1 (fun fx10 => ?_)
   refine JA.tk 11 rfl fx10 (yl_cat rfl rfl rfl (by rw [Ke.dropLast_take]; have := hsl; unfold Ke.strip at this; rw [List.length_append] at this; omega)) ?_
   refine JA.eqv 31 rfl (show _ = str (Ke.strip x) from (by rw [Ke.dropLast_take]; rfl)) ?_
   refine JA.tk 12 rfl fx10 q1 ?_
   refine q8 ?_
   refine Ej.seq (Cj.sr (J.z q0 ?_))
   refine J.z (yl_lenStr rfl rfl tU9) ?_
   refine J.z (yl_min2 rfl rfl rfl) ?_
   refine J.eqv 34 rfl (show _ = i64 ((min (Ke.strip x).length 99 : Nat) : Int) from (congrArg i64 (by split <;> omega))) ?_
   refine J.z q1 ?_
   refine J.nsr (J.z q0 ?_)
   refine J.z (yl_quo rfl rfl rfl (by decide) (w64 (by show _ ≤ ((min (Ke.strip x).length 99 / 10 : Nat) : Int) ∧ ((min (Ke.strip x).length 99 / 10 : Nat) : Int) ≤ _; omega))) ?_
   refine J.eqv 36 rfl (show _ = i64 ((min (Ke.strip x).length 99 / 10 : Nat) : Int) from rfl) ?_
   refine J.z (yl_add rfl rfl rfl (w64 (by omega))) ?_
   refine J.eqv 37 rfl (show _ = i64 ((48 + min (Ke.strip x).length 99 / 10 : Nat) : Int) from (congrArg i64 (by omega))) ?_
   refine J.z (yl_convInt rfl rfl tU3 tU5) ?_
   refine J.eqv 38 rfl (show _ = u8 (UInt8.ofNat (48 + min (Ke.strip x).length 99 / 10)) from (congrArg (Value.int .u8) (conv8 (by omega)))) ?_
   refine J.z q0 ?_
   refine J.z (yl_rem rfl rfl rfl (by decide)) ?_
   refine J.eqv 40 rfl (show _ = i64 ((min (Ke.strip x).length 99 % 10 : Nat) : Int) from rfl) ?_
   refine J.z (yl_add rfl rfl rfl (w64 (by omega))) ?_
   refine J.eqv 41 rfl (show _ = i64 ((48 + min (Ke.strip x).length 99 % 10 : Nat) : Int) from (congrArg i64 (by omega))) ?_
   refine J.z (yl_convInt rfl rfl tU3 tU5) ?_
   refine J.eqv 42 rfl (show _ = u8 (UInt8.ofNat (48 + min (Ke.strip x).length 99 % 10)) from (congrArg (Value.int .u8) (conv8 (by omega)))) ?_
   refine J.op rfl (q17 tU192 tS5 tZ5 (LCat.one rfl (LCat.one rfl LCat.none)) ?_)
   intro b11 hb11
   refine J.z (yl_toStr [UInt8.ofNat (48 + min (Ke.strip x).length 99 / 10), UInt8.ofNat (48 + min (Ke.strip x).length 99 % 10)] rfl rfl rfl tU192 tU9 tU5 (Blk.at 0 rfl) rfl) ?_
   refine J.z q0 ?_
   refine J.z (yl_cat rfl rfl rfl (by first | omega | (simp only [List.length_append]; omega) | (simp; omega))) ?_
   refine J.eqv 46 rfl (show _ = str (Ke.number x) from rfl) ?_
   refine J.z q1 ?_
   refine J.nsr (J.z (q3 tA69 (Blk.at 2 rfl)) ?_)
   refine J.z q0 ?_
   refine J.op rfl (q17 tU69 tS9 tZ9 (LCat.one rfl LCat.none) ?_)
   intro b12 hb12
   refine J.op rfl (op_appendB 0 (Nat.zero_le _) (by' := 15) [_, _, _, _] rfl rfl rfl rfl rfl tU69 (.inr ⟨_, tU69⟩) (by kernel_rfl) tS9 tZ9 rfl hg rfl (Src.slice (Blk.at 0 rfl) rfl rfl rfl) (by omega) ?_)
   intro g13 hg13
   refine J.op rfl (op_store 3 rfl rfl rfl rfl (gV_cells _ _) (gV_one _ _) tS69 rfl rfl (LSpl.c LSpl.z) (LSet.s (LSet.s (LSet.s LSet.z))) ?_)
   refine J.nil (Ej.blkNormal (Ej.pull (Pull.s (Pull.s Pull.z)) ?_))
   refine Ej.keep (Keeps.k (Keeps.d (Keeps.d (Keeps.k Keeps.r)))) ?_
   exact Ej.rdNormal ⟨hlt, _, by rw [take_nextM hx, hsw]; exact hg13, by rw [take_nextM hx, hsw]; rfl⟩
  have hdg : Ke.digits x = false := hc8
  have hsw : Ke.sortWord x = x := by unfold Ke.sortWord; rw [hdg]; rfl
  refine Cj.ks (Cj.region (J.z (q3 tA69 (Blk.at 1 rfl)) ?_))
  refine J.z q0 ?_
  refine J.op rfl (q17 tU69 tS9 tZ9 (LCat.one rfl LCat.none) ?_)
  intro b14 hb14
  refine J.op rfl (op_appendB 0 (Nat.zero_le _) (by' := 15) [_, _, _] rfl rfl rfl rfl rfl tU69 (.inr ⟨_, tU69⟩) (by kernel_rfl) tS9 tZ9 rfl hg rfl (Src.slice (Blk.at 0 rfl) rfl rfl rfl) (by omega) ?_)
  intro g15 hg15
  refine J.op rfl (op_store 2 rfl rfl rfl rfl (gV_cells _ _) (gV_one _ _) tS69 rfl rfl (LSpl.c LSpl.z) (LSet.s (LSet.s LSet.z)) ?_)
  refine J.nil (Ej.blkNormal (Ej.pull (Pull.s Pull.z) ?_))
  refine Ej.keep (Keeps.k (Keeps.d (Keeps.k Keeps.r))) ?_
  exact Ej.rdNormal ⟨hlt, _, by rw [take_nextM hx, hsw]; exact hg15, by rw [take_nextM hx, hsw]; rfl⟩
 ·intro mb16 I2 H2 hle hY
  rw [List.length_map] at hY
  obtain ⟨hkl, g, hg, rfl⟩ := hY
  rw [List.take_length] at hg
  rw [show (Ke.words (Ke.cut s skip)).take (Ke.words (Ke.cut s skip)).length = Ke.words (Ke.cut s skip) from List.take_length]
  refine Ej.blkNormal (Ej.seq (Cj.seq (Cj.isNew rfl (fun hnew => ?_))))
  refine Cj.perm (H' := gH _ _ _ ++ [_, _]) perm_back2 ?_
  refine Cj.keepS (hg.base (fun p hp => hnew p (.tail _ (.tail _ (List.mem_append_left _ hp))))) (fun I8 hle8 hv => ?_)
  refine Cj.region (J.z (q3 tA69 (Blk.at 1 rfl)) ?_)
  refine J.op rfl (op_pure rfl rfl rfl rfl rfl (Join_ok ((Ke.words (Ke.cut s skip)).map Ke.sortWord) _ (by rw [List.length_map]; omega) (by omega) _ hv) ?_)
  refine J.z q1 ?_
  refine J.ns (Cj.ret (Ej.leaveM (.inl rfl) ?_))
  refine LvJ.mark 0 rfl LSet.z ?_
  refine LvJ.keep (List.nil_sublist _) ?_
  exact LvJ.ret1 rfl rfl ⟨rfl, rfl⟩
 exact fun _ _ _ _ _ hZ => hZ.elim
theorem validRune_is (r : Int) (h : Lib.validRune r = true) : Utf8.valid r = true := by
  unfold Lib.validRune at h; unfold Utf8.valid; simp at h ⊢; omega
theorem ValidRune_ok (r : Int) (I : Heap) : ∃ b, Pure Tryz.prog 268 [.int .i32 r] I (.bool b) ∧ (b = true → Utf8.valid r = true) :=
  ⟨_, Pure.of_same (Enters.of func268 (by decide) rfl) fun w _ => Tryz.utf8_ValidRune r w, validRune_is r⟩
theorem IndexByte_ok (l : List UInt8) (c : UInt8) (I : Heap) : Pure Tryz.prog 217 [str l, u8 c] I (i64 (Lib.indexByte l c)) :=
  Pure.of_same (Enters.of func217 (by decide) rfl) fun w _ => by
    have h := Tryz.strings_IndexByte ⟨l.toArray⟩ c.toNat w
    have e : ((c.toNat : Int)).toNat.toUInt8 = c := by simp
    rw [ba_list, e] at h
    exact h
theorem indexByte_none {l : List UInt8} {c : UInt8} (h : ∀ d ∈ l, d.toNat < 128) (hc : 128 ≤ c.toNat) : Lib.indexByte l c = -1 := by
  induction l with
  | nil => rfl
  | cons d l ih =>
    have hd := h d (.head _)
    have hn : (d == c) = false := by rw [beq_eq_false_iff_ne]; intro e; subst e; omega
    rw [Lib.indexByte, hn, ih fun x hx => h x (.tail _ hx)]; rfl
theorem enc_last {r : Int} (hv : Utf8.valid r = true) (h128 : 128 ≤ r) : 2 ≤ (Utf8.encode r).data.toList.length ∧ (Utf8.encode r).data.toList.length ≤ 4 ∧ ∃ c, (Utf8.encode r).data.toList[(Utf8.encode r).data.toList.length - 1]? = some c ∧ 128 ≤ c.toNat := by
  obtain ⟨h1, h2, h3⟩ := encode_facts r hv h128
  have hs : (Utf8.encode r).data.toList.length = (Utf8.encode r).size := rfl
  rw [hs]
  have hlt : (Utf8.encode r).size - 1 < (Utf8.encode r).size := by omega
  exact ⟨h1, h2, _, Lib.data_getElem? (Utf8.encode r) _ hlt, h3 hlt⟩
theorem dec_ascii {l : List UInt8} {i : Nat} {c : UInt8} (h : l[i]? = some c) (hc : c.toNat < 128) : Utf8.decode ⟨l.toArray⟩ i = (c.toNat, 1) := by
  obtain ⟨hlt, hg⟩ := List.getElem?_eq_some_iff.1 h
  have hs : i < (⟨l.toArray⟩ : ByteArray).size := by rw [size_mk]; exact hlt
  have he : (⟨l.toArray⟩ : ByteArray)[i]'hs = c := by simp [ByteArray.getElem_eq_getElem_data, hg]
  rw [decode_ascii _ _ hs (by rw [he]; exact hc), he]
theorem IndexRune_high (ch : List UInt8) (hch : ∀ c ∈ ch, c.toNat < 128) (h4 : 4 ≤ ch.length) (hlen : ch.length ≤ 1000000) (r : Int) (h128 : 128 ≤ r) (hr : r ≤ 2147483647) (I : Heap) : Pure Tryz.prog 239 [str ch, .int .i32 r] I (i64 (-1)) := by
 refine Ctr.toPure ?_
 obtain ⟨bv, hval⟩ := ValidRune_ok r I
 refine Ctr.ob func239 ?_
 intro w0 hw0
 refine Cj.sr (J.z q1 ?_)
 refine J.ns (Cj.block (Cj.sr (J.z q0 ?_)))
 refine J.z (yl_leq rfl rfl rfl) ?_
 refine J.z q0 ?_
 refine J.opG 2 163 true _ rfl rfl rfl (decide_eq_true (by omega)) (q7 q0 ?_)
 refine J.opG 2 163 true _ rfl rfl rfl (decide_eq_true (by omega)) (q7 q18 ?_)
 refine J.z (yl_pick1 rfl rfl (decide_eq_true (by omega)) rfl) ?_
 refine J.z q1 ?_
 refine J.ns (Cj.cond rfl (fun hc1 => Bool.noConfusion (Eq.trans (Eq.symm (decide_eq_false (by omega))) hc1)) (fun hc1 => ?_))
 refine Cj.sr (J.z q0 ?_)
 refine J.z q19 ?_
 refine J.z q1 ?_
 refine J.cd (fun hc2 => ?_) (fun hc2 => ?_)
 ·have hc2p := ebq hc2
  refine Cj.seq (Cj.sr (J.z q0 ?_))
  refine J.op rfl (op_range rfl rfl rfl rfl tU9 ?_)
  intro b3 hb3
  refine J.ns (Cj.block (Cj.loop (ι := Nat) (fun i => True) (fun i => ch.length - i) (fun i => [(0, str ch), (1, .int .i32 r), (174, str ch), (175, ptr b3 0)]) (fun i => I) (fun i => [(b3, .stringIter ⟨ch.toArray⟩ i)]) 0 trivial ⟨rfl, rfl, rfl, rfl, trivial⟩ rfl rfl ?_))
  rintro i -
  rcases Nat.lt_or_ge i ch.length with hp | hp
  ·obtain ⟨c, hget⟩ : ∃ c, ch[i]? = some c := ⟨_, lgg hp⟩
   have hdec := dec_ascii hget (hch c (lmg hget))
   refine Cj.sr (J.op rfl (op_next 0 rfl rfl rfl rfl rfl (by rw [size_mk]; omega) LSet.z ?_))
   refine J.z q11 ?_
   refine J.nss (Cj.cond rfl (fun hc4 => ?_) (fun hc4 => Bool.noConfusion (Eq.trans (Eq.symm rfl) hc4)))
   refine Cj.ks (Cj.block (Cj.sr (J.z q11 ?_)))
   refine J.z q11 ?_
   refine J.z q1 ?_
   refine J.z q1 ?_
   refine J.nssr (J.z q0 ?_)
   refine J.z q19 ?_
   refine J.ns (Cj.cond rfl (fun hc5 => Bool.noConfusion (Eq.trans (Eq.symm (beq_eq_false_iff_ne.2 (by rw [hdec]; dsimp only; have := hch c (lmg hget); omega))) hc5)) (fun hc5 => ?_))
   refine Cj.skip (Ej.blkNormal (Ej.round (i + (Utf8.decode ⟨ch.toArray⟩ i).2) trivial (by rw [hdec]; dsimp only; omega) ⟨rfl, rfl, rfl, rfl, trivial⟩ rfl rfl))

  refine Cj.sr (J.op rfl (op_nextEnd 0 rfl rfl rfl rfl rfl (by rw [size_mk]; omega) ?_))
  refine J.z q11 ?_
  refine J.nss (Cj.cond rfl (fun hc6 => Bool.noConfusion (Eq.trans (Eq.symm rfl) hc6)) (fun hc6 => ?_))
  refine Cj.xl (Cj.sr (J.z q1 ?_))
  refine J.ns (Cj.ret (Ej.blkRet (Ej.bare ?_)))
  refine q5 ?_
  exact ⟨rfl, rfl⟩
 have hc2p := nbf hc2
 refine Cj.sr (J.z q0 ?_)
 refine J.op rfl (op_pure rfl rfl rfl rfl rfl (hval.1) ?_)
 refine J.z (yl_not rfl rfl) ?_
 refine J.z q1 ?_
 refine J.cd (fun hc7 => ?_) (fun hc7 => ?_)
 ·refine Cj.sr (J.z q1 ?_)
  refine J.ns (Cj.ret (Ej.blkRet (q5 ?_)))
  exact ⟨rfl, rfl⟩
 have hvr : Utf8.valid r = true := hval.2 (by simpa using hc7)
 obtain ⟨hl2, hl4, c2, hget2, hc2⟩ := enc_last hvr h128
 obtain ⟨c1, hget1⟩ : ∃ c, ch[(Utf8.encode r).data.toList.length - 1]? = some c := ⟨_, lgg (by omega)⟩
 have hc1 := hch c1 (lmg hget1)
 have hne : (c1.toNat : Int) ≠ c2.toNat := by omega
 have hcut : ∀ d ∈ (ch.take ch.length).drop ((Utf8.encode r).data.toList.length - 1 + 1), d.toNat < 128 := fun d hd => hch d (List.mem_of_mem_take (List.mem_of_mem_drop hd))
 refine Cj.scope ?_
 refine Cj.sr (J.z q0 ?_)
 refine J.z (yl_runeStr rfl rfl tU21 tU9) ?_
 refine J.z q1 ?_
 refine J.nssr (J.z q0 ?_)
 refine J.z (yl_lenStr rfl rfl tU9) ?_
 refine J.z (yl_sub rfl rfl rfl (w64 (by omega))) ?_
 refine J.z q1 ?_
 refine J.nssr (J.z q0 ?_)
 refine J.z q1 ?_
 refine J.nssr (J.z q1 ?_)
 refine J.nss (Cj.block (Cj.loop (ι := Unit) (fun i => True) (fun i => 0) (fun i => [(0, str ch), (7, str (Utf8.encode r).data.toList), (8, i64 ((Utf8.encode r).data.toList.length - 1 : Int)), (9, i64 ((Utf8.encode r).data.toList.length - 1 : Int))]) (fun i => I) (fun i => []) () trivial ⟨rfl, rfl, rfl, rfl, trivial⟩ rfl rfl ?_))
 rintro _ -
 refine Cj.seq (Cj.sr (J.z q0 ?_))
 refine J.z q0 ?_
 refine J.z (yl_lenStr rfl rfl tU9) ?_
 refine J.z q18 ?_
 refine J.ns (Cj.cond rfl (fun hc8 => ?_) (fun hc8 => Bool.noConfusion (Eq.trans (Eq.symm (decide_eq_true (by omega))) hc8)))
 refine Cj.ks (Cj.block (Cj.scope ?_))
 refine Cj.seq (Cj.seq (Cj.drawSel [] [] 7 (by kernel_rfl) ?_))
 refine JA.fix fx1 (fun fx9 => ?_)
 refine JA.tk 0 rfl fx9 q0 ?_
 refine JA.tk 1 rfl fx9 q0 ?_
 refine JA.tk 2 rfl fx9 (yl_index rfl rfl rfl tU9 (by omega) (by rw [show ((((Utf8.encode r).data.toList.length : Int) - 1).toNat) = (Utf8.encode r).data.toList.length - 1 by omega]; exact hget1)) ?_
 refine JA.tk 3 rfl fx9 q0 ?_
 refine JA.tk 4 rfl fx9 q0 ?_
 refine JA.tk 5 rfl fx9 (yl_index rfl rfl rfl tU9 (by omega) (by rw [show ((((Utf8.encode r).data.toList.length : Int) - 1).toNat) = (Utf8.encode r).data.toList.length - 1 by omega]; exact hget2)) ?_
 refine JA.tk 6 rfl fx9 (yl_neq rfl rfl rfl) ?_
 refine q8 ?_
 refine Ej.seq (Cj.cond rfl (fun hc10 => ?_) (fun hc10 => Bool.noConfusion (Eq.trans (Eq.symm (bne_iff_ne.2 hne)) hc10)))
 refine Cj.seq (Cj.drawSel [] [] 9 (by kernel_rfl) ?_)
 refine JA.fix fx1 (fun fx11 => ?_)
 refine JA.tk 0 rfl fx11 q0 ?_
 refine JA.tk 1 rfl fx11 q0 ?_
 refine JA.tk 2 rfl fx11 (yl_add rfl rfl rfl (w64 (by omega))) ?_
 refine JA.eqv 36 rfl (show _ = i64 ((Utf8.encode r).data.toList.length - 1 + 1 : Nat) from (by congr 1; omega)) ?_
 refine JA.tk 3 rfl fx11 (yl_sliceStr (p := (Utf8.encode r).data.toList.length - 1 + 1) (q := ch.length) rfl rfl tU9 ⟨_, rfl⟩ rfl (by omega) (by omega)) ?_
 refine JA.tk 4 rfl fx11 q0 ?_
 refine JA.tk 5 rfl fx11 q0 ?_
 refine JA.tk 6 rfl fx11 (yl_index rfl rfl rfl tU9 (by omega) (by rw [show ((((Utf8.encode r).data.toList.length : Int) - 1).toNat) = (Utf8.encode r).data.toList.length - 1 by omega]; exact hget2)) ?_
 refine q4 7 rfl (op_pure rfl rfl rfl rfl rfl (IndexByte_ok _ _ _) ?_)
 refine ⟨fx0, ?_⟩
 refine JA.eqv 41 rfl (show _ = i64 (-1) from (by rw [indexByte_none hcut hc2])) ?_
 refine JA.fix fx1 (fun fx12 => ?_)
 refine JA.tk 8 rfl fx12 q1 ?_
 refine q8 ?_
 refine Ej.seq (Cj.seq (Cj.sr (J.z q0 ?_)))
 refine J.z q18 ?_
 refine J.ns (Cj.cond rfl (fun hc13 => ?_) (fun hc13 => Bool.noConfusion (Eq.trans (Eq.symm (decide_eq_true (by omega))) hc13)))
 refine Cj.sr (J.z q1 ?_)
 refine J.ns (Cj.rs (Ej.seqRet (Ej.scRet ?_)))
 refine Ej.blkRet (Ej.loopRet (Ej.blkRet (Ej.seqRet (Ej.scRet ?_))))
 refine Ej.blkRet (q5 ?_)
 exact ⟨rfl, rfl⟩
theorem ContainsRune_high (ch : List UInt8) (hch : ∀ c ∈ ch, c.toNat < 128) (h4 : 4 ≤ ch.length) (hlen : ch.length ≤ 1000000) (r : Int) (h128 : 128 ≤ r) (hr : r ≤ 2147483647) (I : Heap) : Pure Tryz.prog 195 [str ch, .int .i32 r] I (.bool false) := by
 refine Ctr.ob func195 ?_
 intro w0 hw0
 refine Cj.sr (J.z q1 ?_)
 refine J.nssr (J.z q0 ?_)
 refine J.z q0 ?_
 refine J.op rfl (op_pure rfl rfl rfl rfl rfl (IndexRune_high ch hch h4 hlen r h128 hr _) ?_)
 refine J.z (yl_geq rfl rfl rfl) ?_
 refine J.z q1 ?_
 refine J.ns (Cj.ret (q5 ?_))
 exact ⟨rfl, rfl, rfl⟩
def bset : List UInt8 := [48, 49, 50, 51, 52, 53, 54, 55, 56, 57, 88, 120, 32, 45]
theorem bset_okb (c : UInt8) : decide (0 ≤ Lib.indexByte bset c) = Ke.okb c := by
  have h : ∀ n < 256, decide (0 ≤ Lib.indexByte bset (UInt8.ofNat n)) = Ke.okb (UInt8.ofNat n) := by decide +kernel
  have := h c.toNat c.toNat_lt
  rwa [UInt8.ofNat_toNat] at this
def okr (r : Nat) : Bool := decide (r < 128) && Ke.okb (UInt8.ofNat r)
theorem ContainsSet_ok (r : Nat) (hr : r ≤ 1114111) (I : Heap) : Pure Tryz.prog 195 [str bset, .int .i32 (r : Int)] I (.bool (okr r)) := by
  rcases Nat.lt_or_ge r 128 with h | h
  · refine Pure.of_same (Enters.of func195 (by decide) rfl) fun w _ => ?_
    have h1 := Tryz.strings_ContainsRune_ascii ⟨bset.toArray⟩ (r : Int) w (by omega) (by omega)
    have e : ((r : Int)).toNat.toUInt8 = UInt8.ofNat r := rfl
    rw [ba_list, e, bset_okb] at h1
    have e2 : okr r = Ke.okb (UInt8.ofNat r) := by simp [okr, h]
    rw [e2]; exact h1
  have e2 : okr r = false := by simp [okr]; omega
  rw [e2]
  exact ContainsRune_high bset (by decide) (by decide) (by decide) (r : Int) (by omega) (by omega) I
theorem Isbn1_ok (r : Nat) (hr : r ≤ 1114111) (I : Heap) : Pure Tryz.prog 194 [.int .i32 (r : Int)] I (.bool (!okr r)) := by
 refine Ctr.ob func194 ?_
 intro w0 hw0
 refine Cj.sr (J.z q1 ?_)
 refine J.nssr (J.z q0 ?_)
 refine J.op rfl (op_pure rfl rfl rfl rfl rfl (ContainsSet_ok r hr _) ?_)
 refine J.z (yl_not rfl rfl) ?_
 refine J.z q1 ?_
 refine J.ns (Cj.ret (q5 ?_))
 exact ⟨rfl, rfl, rfl⟩
theorem dec_big {l : List UInt8} {i : Nat} {c : UInt8} (h : l[i]? = some c) (hc : 128 ≤ c.toNat) : 128 ≤ (Utf8.decode ⟨l.toArray⟩ i).1 := by
  have h1 : Lib.decodeL (l.drop i) = Utf8.decode ⟨l.toArray⟩ i := Lib.decodeL_drop ⟨l.toArray⟩ i
  rw [← h1, drop_cons h, Lib.decodeL_N]
  simp only [List.getD_cons_zero]
  unfold Lib.decodeN
  rw [if_neg (by omega)]
  split
  · split
    · assumption
    decide
  split
  · split
    · rename_i h2; exact nlt (by decide) h2.1
    decide
  split
  · split
    · rename_i h2; exact nlt (by decide) h2.1
    decide
  decide
theorem rune_ok {l : List UInt8} {i : Nat} {c : UInt8} (h : l[i]? = some c) (hok : okr (Utf8.decode ⟨l.toArray⟩ i).1 = true) : Ke.okb c = true ∧ (Utf8.decode ⟨l.toArray⟩ i).2 = 1 := by
  rcases Nat.lt_or_ge c.toNat 128 with hc | hc
  · rw [dec_ascii h hc] at hok ⊢
    simp only [okr, Bool.and_eq_true, UInt8.ofNat_toNat] at hok
    exact ⟨hok.2, rfl⟩
  have := dec_big h hc
  simp only [okr, Bool.and_eq_true, decide_eq_true_eq] at hok
  omega
theorem rune_bad {l : List UInt8} {i : Nat} {c : UInt8} (h : l[i]? = some c) (hok : okr (Utf8.decode ⟨l.toArray⟩ i).1 = false) : Ke.okb c = false := by
  rcases Nat.lt_or_ge c.toNat 128 with hc | hc
  · rw [dec_ascii h hc] at hok
    simpa [okr, hc] using hok
  have h1 : ∀ n < 256, 128 ≤ n → Ke.okb (UInt8.ofNat n) = false := by decide +kernel
  have := h1 c.toNat c.toNat_lt hc
  rwa [UInt8.ofNat_toNat] at this
theorem all_next {l : List UInt8} {i : Nat} {c : UInt8} (h : (l.take i).all Ke.okb = true) (hc : l[i]? = some c) (hok : Ke.okb c = true) : (l.take (i + 1)).all Ke.okb = true := by
  obtain ⟨hlt, hg⟩ := List.getElem?_eq_some_iff.1 hc
  rw [List.take_succ_eq_append_getElem hlt, hg, List.all_append, h]
  simp [hok]
theorem take_while {l : List UInt8} : ∀ {i : Nat} {c : UInt8}, (l.take i).all Ke.okb = true → l[i]? = some c → Ke.okb c = false → l.takeWhile Ke.okb = l.take i := by
  induction l with
  | nil => intro i c _ h; simp at h
  | cons a r ih =>
    intro i c h hc hok
    cases i with
    | zero => simp at hc; subst hc; rw [List.takeWhile_cons_of_neg (by simp [hok])]; rfl
    | succ i =>
      simp only [List.take_succ_cons, List.all_cons, Bool.and_eq_true] at h
      rw [List.takeWhile_cons_of_pos h.1, ih h.2 (by simpa using hc) hok, List.take_succ_cons]
theorem take_while_all {l : List UInt8} (h : l.all Ke.okb = true) : l.takeWhile Ke.okb = l := by
  induction l with
  | nil => rfl
  | cons a r ih =>
    rw [List.all_cons, Bool.and_eq_true] at h
    rw [List.takeWhile_cons_of_pos h.1, ih h.2]
def endsAt (s : List UInt8) (n : Int) : Prop := (n = -1 ∧ s.takeWhile Ke.okb = s) ∨ ∃ k : Nat, n = k ∧ k ≤ s.length ∧ s.takeWhile Ke.okb = s.take k
theorem indexFunc_ok (s : List UInt8) (I : Heap) : Ctr Tryz.prog 238 [str s, .func (.func 194) #[] #[], .bool true] I [] (fun e _I' H' => ∃ n, e = .returned (i64 n) ∧ endsAt s n ∧ H' = []) := by
 refine Ctr.ob func238 ?_
 intro w0 hw0
 refine Cj.sr (J.z q1 ?_)
 refine J.nsss (Cj.region (J.z q0 ?_))
 refine J.op rfl (op_range rfl rfl rfl rfl tU9 ?_)
 intro b1 hb1
 refine J.ns (Cj.block (Cj.loop (ι := Nat) (fun i => i ≤ s.length ∧ (s.take i).all Ke.okb = true) (fun i => s.length - i) (fun i => [(1, .func (.func 194) #[] #[]), (2, .bool true), (10, ptr b1 0)]) (fun i => I) (fun i => [(b1, .stringIter ⟨s.toArray⟩ i)]) 0 ⟨Nat.zero_le _, rfl⟩ ⟨rfl, rfl, rfl, trivial⟩ rfl rfl ?_))
 rintro i ⟨hi, hall⟩
 rcases Nat.lt_or_ge i s.length with hp | hp
 ·have hd := Ke.decode_width s hp
  have hdl := Ke.decode_le s i
  obtain ⟨c, hget⟩ : ∃ c, s[i]? = some c := ⟨_, lgg hp⟩
  refine Cj.sr (J.op rfl (op_next 0 rfl rfl rfl rfl rfl (by rw [size_mk]; omega) LSet.z ?_))
  refine J.z q11 ?_
  refine J.nss (Cj.cond rfl (fun hc2 => ?_) (fun hc2 => Bool.noConfusion (Eq.trans (Eq.symm rfl) hc2)))
  refine Cj.ks (Cj.block (Cj.sr (J.z q11 ?_)))
  refine J.z q11 ?_
  refine J.z q1 ?_
  refine J.z q1 ?_
  refine J.nssr (J.z q0 ?_)
  refine J.z q0 ?_
  refine J.op rfl (op_pure rfl rfl rfl rfl rfl (Isbn1_ok _ hdl _) ?_)
  refine J.z q0 ?_
  refine J.z (yl_eqlBool rfl rfl rfl tU4) ?_
  refine J.cd (fun hc3 => ?_) (fun hc3 => ?_)
  ·have hok : okr (Utf8.decode ⟨s.toArray⟩ i).1 = false := by have h := hc3; simpa using h
   refine Cj.sr (J.z q0 ?_)
   refine J.z q1 ?_
   refine J.ns (Cj.ret (Ej.blkRet (Ej.loopRet (Ej.blkRet (Ej.seqRet (Ej.bare ?_))))))
   refine q5 ?_
   exact ⟨_, rfl, .inr ⟨i, rfl, hi, take_while hall hget (rune_bad hget hok)⟩, rfl⟩
  have hok : okr (Utf8.decode ⟨s.toArray⟩ i).1 = true := by have h := hc3; simpa using h
  refine Cj.skip (Ej.blkNormal (Ej.round (i + (Utf8.decode ⟨s.toArray⟩ i).2) ⟨hd.2, by rw [(rune_ok hget hok).2]; exact all_next hall hget (rune_ok hget hok).1⟩ (by omega) ⟨rfl, rfl, rfl, trivial⟩ rfl rfl))

 refine Cj.sr (J.op rfl (op_nextEnd 0 rfl rfl rfl rfl rfl (by rw [size_mk]; omega) ?_))
 refine J.z q11 ?_
 refine J.nss (Cj.cond rfl (fun hc4 => Bool.noConfusion (Eq.trans (Eq.symm rfl) hc4)) (fun hc4 => ?_))
 refine Cj.xl (Cj.sr (J.z q1 ?_))
 refine J.ns (Cj.ret (Ej.bare ?_))
 refine q5 ?_
 exact ⟨_, rfl, .inl ⟨rfl, take_while_all (by rw [List.take_of_length_le (by omega)] at hall; exact hall)⟩, rfl⟩
theorem IndexFunc_ok (s : List UInt8) (I : Heap) : Ctr Tryz.prog 193 [str s, .func (.func 194) #[] #[]] I [] (fun e _I' H' => ∃ n, e = .returned (i64 n) ∧ endsAt s n ∧ H' = []) := by
 refine Ctr.ob func193 ?_
 intro w0 hw0
 refine Cj.sr (J.z q1 ?_)
 refine J.nssr (J.z q0 ?_)
 refine J.z q0 ?_
 refine J.op rfl (op_call (H1 := []) rfl rfl rfl rfl rfl (indexFunc_ok s _) ?_ (fun _ _ _ _ ⟨_, h, _⟩ => by cases h) (fun _ _ ⟨_, h, _⟩ => by cases h))
 intro v1 I2 H3 hle4 hp5
 obtain ⟨n, h, hn, rfl⟩ := hp5; cases h
 refine J.z q1 ?_
 refine J.ns (Cj.ret (q5 ?_))
 exact ⟨_, rfl, hn, rfl⟩
