/-
  Own texts on the laws of the seat, joined: the logic, and contracts of functions. Conditions: none.
-/
import Derived.Test.YtekmeaoblpfnpaaGreatDoorNmS
import Derived.Test.YtekmeaoblpfnpaaGreatDoorPS9
set_option linter.all false
set_option maxRecDepth 100000
set_option maxHeartbeats 40000000
section
namespace Go.Proofs.YtekmeaoblpfnpaaGreatDoor
open _root_.Go.Proofs.Tryz
open Go Go.Sx
theorem mod_eq (n : Int) {m : Int} (hm : 0 < m) : (n.tmod m + m).tmod m = n % m := by
  have h1 := Int.tmod_lt_of_pos n hm
  have h2 : -m < n.tmod m := by
    have := Int.lt_tmod_of_pos n hm
    omega
  rw [Int.tmod_eq_emod_of_nonneg (by omega), Int.add_emod_right, Int.tmod_def, Int.sub_mul_emod_self_left]
def OX (p : List UInt8 × List UInt8) : List Value := [str p.1, str p.2]
theorem b7F {k a b} (h : Ke.rows[k]? = some (a, b)) : (Ke.rows.flatMap OX)[k * 2]? = some (str a) ∧ (Ke.rows.flatMap OX)[k * 2 + 1]? = some (str b) := by
  have h0 := lK (f := OX) (n := 2) (cs := Ke.rows.flatMap OX) (sp := []) (o := 0) (fun _ => rfl) (by simp) h 0 (by decide)
  have h1 := lK (f := OX) (n := 2) (cs := Ke.rows.flatMap OX) (sp := []) (o := 0) (fun _ => rfl) (by simp) h 1 (by decide)
  rw [Nat.zero_add] at h0 h1
  exact ⟨h0, h1⟩
theorem a5J : ∀ {l : List (Nat × List UInt8)} {c : Nat} {a : List UInt8}, (l.map (·.1)).Nodup → (c, a) ∈ l → l.lookup c = some a
  | (d, b) :: r, c, a, hn, h => by
    simp only [List.map_cons, List.nodup_cons] at hn
    rw [List.lookup_cons]
    rcases List.mem_cons.1 h with h | h
    · cases h; simp
    have : c ≠ d := fun e => hn.1 (e ▸ List.mem_map.2 ⟨_, h, rfl⟩)
    rw [show (c == d) = false from by simpa using this]
    exact a5J hn.2 h
theorem a0z {c} : ∀ {l : List (List UInt8 × List UInt8)} {k : Nat} {a b : List UInt8}, l[k]? = some (a, b) → c ∈ Ke.runes b → (c, a) ∈ Ke.qE l
  | [], _, _, _, h, _ => by simp at h
  | (x, y) :: r, 0, a, b, h, hc => by
    simp at h; obtain ⟨rfl, rfl⟩ := h
    exact List.mem_append_left _ (List.mem_map.2 ⟨c, hc, rfl⟩)
  | (x, y) :: r, k + 1, a, b, h, hc => List.mem_append_right _ (a0z (l := r) (by simpa using h) hc)
theorem a8q {k j c : Nat} {a b} (h : Ke.rows[k]? = some (a, b)) (hj : (Ke.runes b)[j]? = some c) : Ke.tab.lookup c = some a := by
  refine a5J Ke.a2S ?_
  rw [← Ke.a0v]
  exact a0z h (lV hj)
theorem b0p {k c a b} (h : Ke.rows[k]? = some (a, b)) (h1 : c ∉ (Ke.qE (Ke.rows.take k)).map (·.1)) (h2 : c ∉ Ke.runes b) : c ∉ (Ke.qE (Ke.rows.take (k + 1))).map (·.1) := by
  rw [Ke.VZ h, List.map_append, List.mem_append, List.map_map]
  rintro (g | g)
  · exact h1 g
  obtain ⟨x, hx, rfl⟩ := List.mem_map.1 g
  exact h2 hx
theorem a9J {c k} (hk : ¬ k < 31) (h : c ∉ (Ke.qE (Ke.rows.take k)).map (·.1)) : Ke.tab.lookup c = none := by
  rw [List.take_of_length_le (show Ke.rows.length ≤ k by show 31 ≤ k; omega), Ke.a0v] at h
  exact Ke.LD h
theorem b1t {l : List Nat} {k c d} (h : c ∉ l.take k) (hg : l[k]? = some d) (hd : d ≠ c) : c ∉ l.take (k + 1) := by
  obtain ⟨hlt, hg⟩ := List.getElem?_eq_some_iff.1 hg
  rw [List.take_succ_eq_append_getElem hlt, hg, List.mem_append, List.mem_singleton]
  rintro (e | e)
  · exact h e
  exact hd e.symm
theorem WS : ∀ (f : Nat) (s : List UInt8) (i : Nat) (acc : Array Value), s.length - i ≤ f → Conv.runesFrom ⟨s.toArray⟩ f i acc = acc ++ (rcs (Ke.runes (s.drop i))).toArray
  | 0, s, i, acc, h => by
    rw [Ke.EU (by omega)]
    simp [Conv.runesFrom, rcs]
  | f + 1, s, i, acc, h => by
    unfold Conv.runesFrom
    by_cases hi : i < s.length
    · rw [if_pos (by rw [size_mk]; exact hi)]
      have hw := Ke.wM s hi
      rw [Ke.JC hi]
      dsimp only
      rw [WS f s _ _ (by omega)]
      simp [rcs]
    rw [if_neg (by rw [size_mk]; exact hi), Ke.EU (by omega)]
    simp [rcs]
theorem runes_all s : Conv.runesFrom ⟨s.toArray⟩ s.length 0 #[] = (rcs (Ke.runes s)).toArray := by
  rw [WS _ _ _ _ (by omega), List.drop_zero]; simp
theorem a0n s : (Ke.runes s).length ≤ s.length := Ke.EL _ _
theorem b2J I : jO Tryz.prog 232 [] I [] (fun e I' H' => ∃ b, e = .returned (.slice (some ⟨b, 0, none⟩) 31 31) ∧ H' = [(b, jM 281 (Ke.rows.flatMap OX))]) := by
 refine jT func232 fun w0 hw0 => ?_
 refine jL 39 ?_
 intro b1 hb1
 refine jW ?_
 exact ⟨b1, rfl, rfl⟩
theorem b0N (c : Nat) I : Pure Tryz.prog 181 [.int .i32 (c : Int)] I (str ((Ke.tab.lookup c).getD [])) := by
 refine jO.toPure ?_
 refine jT func181 fun w0 hw0 => ?_
 refine uF (b2J _) ?_
 intro v2 I3 H4 hle5 hn1 hp6
 obtain ⟨tb, h, rfl⟩ := hp6; cases h
 refine J.persist (hn1 _ (.head _)) (fun I9 hle9 htb => ?_)
 refine jL 10 ?_
 refine Cj.loop (ι := Nat) (fun k => k ≤ 31 ∧ c ∉ (Ke.qE (Ke.rows.take k)).map (·.1)) (fun k => 31 - k) (fun k => [(0, .int .i32 (c : Int)), (3, .slice (some ⟨tb, 0, none⟩) 31 31), (4, i64 (k : Int))]) (fun k => _) (fun k => []) 0 ⟨Nat.zero_le _, by simp [Ke.qE]⟩ ⟨rfl, rfl, rfl, trivial⟩ rfl rfl ?_
 rintro k ⟨hk, hno⟩
 refine jR (fun hc7 hc7p => ?_) (fun hc7 hc7p => ?_)
 ·refine jL 5 ?_
  have hlt : k < 31 := by omega
  obtain ⟨⟨a, b⟩, hget⟩ : ∃ p, Ke.rows[k]? = some p := ⟨_, kV (show k < Ke.rows.length from hlt)⟩
  obtain ⟨-, -, hbl⟩ := Ke.a2N _ (lV hget)
  dsimp only at hbl
  have hrb := a0n b
  refine kG (k * 2) ?_
  refine J.z (oQ (off' := k * 2 + 1) rfl rfl rfl underlying281 kY (by decide) (by decide) (by simp)) ?_
  refine J.z (jP rfl rfl lN (jV.BU htb) (b7F hget).2) ?_
  refine J.op rfl (ZC (runes_all b) rfl rfl rfl rfl lJ underlying197 a8a ?_)
  intro b8 c9 sp10 hb8
  refine jL 9 ?_
  refine Cj.loop (ι := Nat) (fun j => j ≤ (Ke.runes b).length ∧ c ∉ (Ke.runes b).take j) (fun j => (Ke.runes b).length - j) (fun j => [(0, .int .i32 (c : Int)), (3, .slice (some ⟨tb, 0, none⟩) 31 31), (4, i64 (k : Int)), (5, .slice (some ⟨b8, 0, none⟩) (Ke.runes b).length c9), (6, i64 (j : Int))]) (fun j => _) (fun j => [(b8, jM 21 (rcs (Ke.runes b) ++ sp10))]) 0 ⟨Nat.zero_le _, by simp⟩ ⟨rfl, rfl, rfl, rfl, rfl, trivial⟩ rfl rfl ?_
  rintro j ⟨hj, hnj⟩
  refine jR (fun hc11 hc11p => ?_) (fun hc11 hc11p => ?_)
  ·refine jL 5 ?_
   have hjl : j < (Ke.runes b).length := by omega
   obtain ⟨d, hgj⟩ : ∃ d, (Ke.runes b)[j]? = some d := ⟨_, kV hjl⟩
   refine kG j ?_
   refine J.z (jP rfl rfl isAgg21 (jV.at 0 rfl) (a6X hgj)) ?_
   refine jR (fun hc12 hc12p => ?_) (fun hc12 hc12p => ?_)
   ·have hdc : d = c := by have h := lQ hc12; omega
    subst hdc
    refine kG (k * 2) ?_
    refine J.z (oQ (off' := k * 2) rfl rfl rfl underlying281 kY (by decide) (by decide) (by simp)) ?_
    refine J.z (jP rfl rfl lN (jV.BU htb) (b7F hget).1) ?_
    refine kF ?_
    rw [a8q hget hgj]
    exact ⟨rfl, rfl⟩
   have hne : d ≠ c := fun e => lW hc12 (by rw [e])
   refine jL 8 ?_
   refine Ej.round (j + 1) ⟨by omega, b1t hnj hgj hne⟩ (by omega) ⟨rfl, rfl, rfl, rfl, rfl, trivial⟩ rfl rfl
  have hnb : c ∉ Ke.runes b := by rw [List.take_of_length_le (by omega)] at hnj; exact hnj
  refine jL 11 ?_
  refine Ej.keep (Keeps.d Keeps.n) ?_
  refine Ej.round (k + 1) ⟨by omega, b0p hget hno hnb⟩ (by omega) ⟨rfl, rfl, rfl, trivial⟩ rfl rfl
 refine jW ?_
 rw [a9J (by omega) hno]
 exact ⟨rfl, rfl⟩
theorem b7t {c x} (h : Ke.tab.lookup c = some x) : x ≠ [] := by
  have h1 : Ke.tab.all (fun p => decide (p.2 ≠ [])) = true := by decide +kernel
  obtain ⟨p, hp, rfl⟩ := Ke.NK h
  simpa using List.all_eq_true.1 h1 p hp
theorem b2F (c : Nat) (hc : c ≤ 1114111) I : Pure Tryz.prog 125 [.int .i32 (c : Int)] I (str (Ke.char c)) := by
 refine jT func125 fun w0 hw0 => ?_
 refine jL 5 ?_
 refine Cj.join (ι := Unit) (fun _u => ¬ ((97 ≤ c ∧ c ≤ 122) ∨ (48 ≤ c ∧ c ≤ 57))) (fun _u => [(0, .int .i32 (c : Int))]) (fun _u => I) (fun _u => []) ?_ (fun hcut => ?_)
 ·intro _ a0
  refine Cj.join (ι := Unit) (fun _u => ¬ ((97 ≤ c ∧ c ≤ 122) ∨ (48 ≤ c ∧ c ≤ 57)) ∧ ¬ (65 ≤ c ∧ c ≤ 90)) (fun _u => [(0, .int .i32 (c : Int))]) (fun _u => I) (fun _u => []) ?_ (fun hcut => ?_)
  ·rintro - ⟨a0, a1⟩
   refine Cj.join (ι := Unit) (fun _u => ¬ ((97 ≤ c ∧ c ≤ 122) ∨ (48 ≤ c ∧ c ≤ 57)) ∧ ¬ (65 ≤ c ∧ c ≤ 90) ∧ 128 ≤ c) (fun _u => [(0, .int .i32 (c : Int))]) (fun _u => I) (fun _u => []) ?_ (fun hcut => ?_)
   ·rintro - ⟨a0, a1, a2⟩
    refine Cj.join (ι := Unit) (fun _u => ¬ ((97 ≤ c ∧ c ≤ 122) ∨ (48 ≤ c ∧ c ≤ 57)) ∧ ¬ (65 ≤ c ∧ c ≤ 90) ∧ 128 ≤ c ∧ ¬ ((768 ≤ c ∧ c ≤ 879) ∨ (65056 ≤ c ∧ c ≤ 65071))) (fun _u => [(0, .int .i32 (c : Int))]) (fun _u => I) (fun _u => []) ?_ (fun hcut => ?_)
    ·rintro - ⟨a0, a1, a2, a3⟩
     refine kC (b0N c _) ?_
     refine jL 3 ?_
     refine Cj.join (ι := Unit) (fun _u => ¬ ((97 ≤ c ∧ c ≤ 122) ∨ (48 ≤ c ∧ c ≤ 57)) ∧ ¬ (65 ≤ c ∧ c ≤ 90) ∧ 128 ≤ c ∧ ¬ ((768 ≤ c ∧ c ≤ 879) ∨ (65056 ≤ c ∧ c ≤ 65071)) ∧ Ke.tab.lookup c = none ∧ c ≠ 962 ∧ ¬ ((945 ≤ c ∧ c ≤ 969) ∨ (1072 ≤ c ∧ c ≤ 1103)) ∧ ¬ (((913 ≤ c ∧ c ≤ 937) ∧ c ≠ 930) ∨ (1040 ≤ c ∧ c ≤ 1071))) (fun _u => [(0, .int .i32 (c : Int))]) (fun _u => I) (fun _u => []) ?_ (fun hcut => ?_)
     ·rintro - ⟨a0, a1, a2, a3, a4, a5, a6, a7⟩
      refine jW ?_
      refine ⟨?_, rfl, rfl⟩
      refine congrArg (fun l => Ending.returned (str l)) ?_
      unfold Ke.char
      rw [if_neg (by omega), if_neg (by omega), if_neg (by omega), if_neg (by omega), a4]
      simp only
      rw [if_neg a5, if_neg a6, if_neg a7]
     refine jR (fun hc1 hc1p => ?_) (fun hc1 hc1p => ?_)
     ·obtain ⟨x, hx⟩ : ∃ x, Ke.tab.lookup c = some x := by
        have h := bne_iff_ne.1 hc1
        cases hl : Ke.tab.lookup c with
        | none => rw [hl] at h; exact absurd rfl h
        | some x => exact ⟨x, rfl⟩
      refine Cj.ev 3 (str x) rfl (by rw [hx]; rfl) ?_
      refine jW ?_
      refine ⟨?_, rfl, rfl⟩
      refine congrArg (fun l => Ending.returned (str l)) ?_
      unfold Ke.char
      rw [if_neg (by omega), if_neg (by omega), if_neg (by omega), if_neg (by omega), hx]
     have hx : Ke.tab.lookup c = none := by
       have h := sF hc1
       cases hl : Ke.tab.lookup c with
       | none => rfl
       | some x => rw [hl] at h; exact absurd h (b7t hl)
     refine jR (fun hc2 hc2p => ?_) (fun hc2 hc2p => ?_)
     ·refine jL 3 ?_
      intro b3 hb3
      refine kF ?_
      refine ⟨?_, rfl, rfl⟩
      refine congrArg (fun l => Ending.returned (str l)) ?_
      unfold Ke.char
      rw [if_neg (by omega), if_neg (by omega), if_neg (by omega), if_neg (by omega), hx]
      simp only
      rw [if_pos (by omega)]; rfl
     refine Cj.join (ι := Bool) (fun y => (y = true → ((945 ≤ c ∧ c ≤ 969) ∨ (1072 ≤ c ∧ c ≤ 1103))) ∧ (y = false → ¬ ((945 ≤ c ∧ c ≤ 969) ∨ (1072 ≤ c ∧ c ≤ 1103)))) (fun y => [(0, .int .i32 (c : Int)), (58, .bool y)]) (fun y => I) (fun y => []) ?_ (fun hcut => ?_)
     ·rintro y ⟨hy1, hy2⟩
      refine mQ (fun hc4 => ?_) (fun hc4 => ?_)
      ·have hcc := hy1 hc4
       refine jL 4 ?_
       intro b5 hb5
       refine kF ?_
       refine ⟨?_, rfl, rfl⟩
       refine congrArg (fun l => Ending.returned (str l)) ?_
       unfold Ke.char
       rw [if_neg (by omega), if_neg (by omega), if_neg (by omega), if_neg (by omega), hx]
       simp only
       rw [if_neg (by omega), if_pos (by omega)]; exact Ke.qX (by unfold Ke.wK; omega)
      have hcc := hy2 hc4
      refine Cj.join (ι := Bool) (fun y => (y = true → (((913 ≤ c ∧ c ≤ 937) ∧ c ≠ 930) ∨ (1040 ≤ c ∧ c ≤ 1071))) ∧ (y = false → ¬ (((913 ≤ c ∧ c ≤ 937) ∧ c ≠ 930) ∨ (1040 ≤ c ∧ c ≤ 1071)))) (fun y => [(0, .int .i32 (c : Int)), (76, .bool y)]) (fun y => I) (fun y => []) ?_ (fun hcut => ?_)
      ·rintro y ⟨hy1, hy2⟩
       refine mQ (fun hc6 => ?_) (fun hc6 => ?_)
       ·have hcc := hy1 hc6
        refine jL 5 ?_
        intro b7 hb7
        refine kF ?_
        refine ⟨?_, rfl, rfl⟩
        refine congrArg (fun l => Ending.returned (str l)) ?_
        unfold Ke.char
        rw [if_neg (by omega), if_neg (by omega), if_neg (by omega), if_neg (by omega), hx]
        simp only
        rw [if_neg (by omega), if_neg (by omega), if_pos (by omega)]; exact (congrArg (fun n : Int => (Utf8.encode n).data.toList) (by omega)).trans (Ke.qX (c := c + 32) (by unfold Ke.wK; omega))
       have hcc := hy2 hc6
       refine jL 2 ?_
       exact hcut () _ _ _ ⟨by omega, by omega, by omega, by omega, hx, by omega, by omega, by omega⟩ ⟨rfl, trivial⟩ rfl rfl
      refine mP (fun hg8 hg8p => ?_) (fun hg8 hg8p => ?_)
      ·refine mP (fun hg9 hg9p => ?_) (fun hg9 hg9p => ?_)
       ·refine mP (fun hg10 hg10p => ?_) (fun hg10 hg10p => ?_)
        ·refine jL 9 ?_
         exact hcut _ _ _ _ ⟨fun h => by first | omega | (simp at h; omega) | (cases h; done), fun h => by first | omega | (simp at h; omega) | (cases h; done)⟩ ⟨rfl, rfl, trivial⟩ rfl rfl
        refine mP (fun hg11 hg11p => ?_) (fun hg11 hg11p => ?_)
        ·refine jL 6 ?_
         exact hcut _ _ _ _ ⟨fun h => by first | omega | (simp at h; omega) | (cases h; done), fun h => by first | omega | (simp at h; omega) | (cases h; done)⟩ ⟨rfl, rfl, trivial⟩ rfl rfl
        refine jL 6 ?_
        exact hcut _ _ _ _ ⟨fun h => by first | omega | (simp at h; omega) | (cases h; done), fun h => by first | omega | (simp at h; omega) | (cases h; done)⟩ ⟨rfl, rfl, trivial⟩ rfl rfl
       refine mP (fun hg12 hg12p => ?_) (fun hg12 hg12p => ?_)
       ·refine jL 6 ?_
        exact hcut _ _ _ _ ⟨fun h => by first | omega | (simp at h; omega) | (cases h; done), fun h => by first | omega | (simp at h; omega) | (cases h; done)⟩ ⟨rfl, rfl, trivial⟩ rfl rfl
       refine jL 6 ?_
       exact hcut _ _ _ _ ⟨fun h => by first | omega | (simp at h; omega) | (cases h; done), fun h => by first | omega | (simp at h; omega) | (cases h; done)⟩ ⟨rfl, rfl, trivial⟩ rfl rfl
      refine mP (fun hg13 hg13p => ?_) (fun hg13 hg13p => ?_)
      ·refine jL 6 ?_
       exact hcut _ _ _ _ ⟨fun h => by first | omega | (simp at h; omega) | (cases h; done), fun h => by first | omega | (simp at h; omega) | (cases h; done)⟩ ⟨rfl, rfl, trivial⟩ rfl rfl
      refine jL 6 ?_
      exact hcut _ _ _ _ ⟨fun h => by first | omega | (simp at h; omega) | (cases h; done), fun h => by first | omega | (simp at h; omega) | (cases h; done)⟩ ⟨rfl, rfl, trivial⟩ rfl rfl
     refine mP (fun hg14 hg14p => ?_) (fun hg14 hg14p => ?_)
     ·refine mP (fun hg15 hg15p => ?_) (fun hg15 hg15p => ?_)
      ·refine jL 9 ?_
       exact hcut _ _ _ _ ⟨fun h => by first | omega | (simp at h; omega) | (cases h; done), fun h => by first | omega | (simp at h; omega) | (cases h; done)⟩ ⟨rfl, rfl, trivial⟩ rfl rfl
      refine mP (fun hg16 hg16p => ?_) (fun hg16 hg16p => ?_)
      ·refine jL 6 ?_
       exact hcut _ _ _ _ ⟨fun h => by first | omega | (simp at h; omega) | (cases h; done), fun h => by first | omega | (simp at h; omega) | (cases h; done)⟩ ⟨rfl, rfl, trivial⟩ rfl rfl
      refine jL 6 ?_
      exact hcut _ _ _ _ ⟨fun h => by first | omega | (simp at h; omega) | (cases h; done), fun h => by first | omega | (simp at h; omega) | (cases h; done)⟩ ⟨rfl, rfl, trivial⟩ rfl rfl
     refine mP (fun hg17 hg17p => ?_) (fun hg17 hg17p => ?_)
     ·refine jL 6 ?_
      exact hcut _ _ _ _ ⟨fun h => by first | omega | (simp at h; omega) | (cases h; done), fun h => by first | omega | (simp at h; omega) | (cases h; done)⟩ ⟨rfl, rfl, trivial⟩ rfl rfl
     refine jL 6 ?_
     exact hcut _ _ _ _ ⟨fun h => by first | omega | (simp at h; omega) | (cases h; done), fun h => by first | omega | (simp at h; omega) | (cases h; done)⟩ ⟨rfl, rfl, trivial⟩ rfl rfl
    refine Cj.join (ι := Bool) (fun y => (y = true → ((768 ≤ c ∧ c ≤ 879) ∨ (65056 ≤ c ∧ c ≤ 65071))) ∧ (y = false → ¬ ((768 ≤ c ∧ c ≤ 879) ∨ (65056 ≤ c ∧ c ≤ 65071)))) (fun y => [(0, .int .i32 (c : Int)), (46, .bool y)]) (fun y => I) (fun y => []) ?_ (fun hcut => ?_)
    ·rintro y ⟨hy1, hy2⟩
     refine mQ (fun hc18 => ?_) (fun hc18 => ?_)
     ·have hcc := hy1 hc18
      refine jW ?_
      refine ⟨?_, rfl, rfl⟩
      refine congrArg (fun l => Ending.returned (str l)) ?_
      unfold Ke.char
      rw [if_neg (by omega), if_neg (by omega), if_neg (by omega), if_pos (by omega)]
     have hcc := hy2 hc18
     refine jL 1 ?_
     exact hcut () _ _ _ ⟨by omega, by omega, by omega, by omega⟩ ⟨rfl, trivial⟩ rfl rfl
    refine mP (fun hg19 hg19p => ?_) (fun hg19 hg19p => ?_)
    ·refine mP (fun hg20 hg20p => ?_) (fun hg20 hg20p => ?_)
     ·refine jL 8 ?_
      exact hcut _ _ _ _ ⟨fun h => by first | omega | (simp at h; omega) | (cases h; done), fun h => by first | omega | (simp at h; omega) | (cases h; done)⟩ ⟨rfl, rfl, trivial⟩ rfl rfl
     refine mP (fun hg21 hg21p => ?_) (fun hg21 hg21p => ?_)
     ·refine jL 5 ?_
      exact hcut _ _ _ _ ⟨fun h => by first | omega | (simp at h; omega) | (cases h; done), fun h => by first | omega | (simp at h; omega) | (cases h; done)⟩ ⟨rfl, rfl, trivial⟩ rfl rfl
     refine jL 5 ?_
     exact hcut _ _ _ _ ⟨fun h => by first | omega | (simp at h; omega) | (cases h; done), fun h => by first | omega | (simp at h; omega) | (cases h; done)⟩ ⟨rfl, rfl, trivial⟩ rfl rfl
    refine mP (fun hg22 hg22p => ?_) (fun hg22 hg22p => ?_)
    ·refine jL 5 ?_
     exact hcut _ _ _ _ ⟨fun h => by first | omega | (simp at h; omega) | (cases h; done), fun h => by first | omega | (simp at h; omega) | (cases h; done)⟩ ⟨rfl, rfl, trivial⟩ rfl rfl
    refine jL 5 ?_
    exact hcut _ _ _ _ ⟨fun h => by first | omega | (simp at h; omega) | (cases h; done), fun h => by first | omega | (simp at h; omega) | (cases h; done)⟩ ⟨rfl, rfl, trivial⟩ rfl rfl
   refine jR (fun hc23 hc23p => ?_) (fun hc23 hc23p => ?_)
   ·refine jW ?_
    refine ⟨?_, rfl, rfl⟩
    refine congrArg (fun l => Ending.returned (str l)) ?_
    unfold Ke.char
    rw [if_neg (by omega), if_neg (by omega), if_pos (by omega)]
   refine jL 1 ?_
   exact hcut () _ _ _ ⟨by omega, by omega, by omega⟩ ⟨rfl, trivial⟩ rfl rfl
  refine mP (fun hg24 hg24p => ?_) (fun hg24 hg24p => ?_)
  ·refine jR (fun hc25 hc25p => ?_) (fun hc25 hc25p => ?_)
   ·refine jL 5 ?_
    intro b26 hb26
    refine kF ?_
    refine ⟨?_, rfl, rfl⟩
    refine congrArg (fun l => Ending.returned (str l)) ?_
    unfold Ke.char
    rw [if_neg (by omega), if_pos (by omega)]; exact (congrArg (fun n : Int => (Utf8.encode n).data.toList) (by omega)).trans (Ke.qX (c := c + 32) (by unfold Ke.wK; omega))
   refine jL 1 ?_
   exact hcut () _ _ _ ⟨by omega, by omega⟩ ⟨rfl, trivial⟩ rfl rfl
  refine jL 7 ?_
  exact hcut () _ _ _ ⟨by omega, by omega⟩ ⟨rfl, trivial⟩ rfl rfl
 refine Cj.join (ι := Bool) (fun y => (y = true → ((97 ≤ c ∧ c ≤ 122) ∨ (48 ≤ c ∧ c ≤ 57))) ∧ (y = false → ¬ ((97 ≤ c ∧ c ≤ 122) ∨ (48 ≤ c ∧ c ≤ 57)))) (fun y => [(0, .int .i32 (c : Int)), (17, .bool y)]) (fun y => I) (fun y => []) ?_ (fun hcut => ?_)
 ·rintro y ⟨hy1, hy2⟩
  refine mQ (fun hc28 => ?_) (fun hc28 => ?_)
  ·have hcc := hy1 hc28
   refine jL 4 ?_
   intro b29 hb29
   refine kF ?_
   refine ⟨?_, rfl, rfl⟩
   refine congrArg (fun l => Ending.returned (str l)) ?_
   unfold Ke.char
   rw [if_pos (by omega)]; exact Ke.qX (by unfold Ke.wK; omega)
  have hcc := hy2 hc28
  refine jL 1 ?_
  exact hcut () _ _ _ (by omega) ⟨rfl, trivial⟩ rfl rfl
 refine mP (fun hg30 hg30p => ?_) (fun hg30 hg30p => ?_)
 ·refine mP (fun hg31 hg31p => ?_) (fun hg31 hg31p => ?_)
  ·refine jL 8 ?_
   exact hcut _ _ _ _ ⟨fun h => by first | omega | (simp at h; omega) | (cases h; done), fun h => by first | omega | (simp at h; omega) | (cases h; done)⟩ ⟨rfl, rfl, trivial⟩ rfl rfl
  refine mP (fun hg32 hg32p => ?_) (fun hg32 hg32p => ?_)
  ·refine jL 5 ?_
   exact hcut _ _ _ _ ⟨fun h => by first | omega | (simp at h; omega) | (cases h; done), fun h => by first | omega | (simp at h; omega) | (cases h; done)⟩ ⟨rfl, rfl, trivial⟩ rfl rfl
  refine jL 5 ?_
  exact hcut _ _ _ _ ⟨fun h => by first | omega | (simp at h; omega) | (cases h; done), fun h => by first | omega | (simp at h; omega) | (cases h; done)⟩ ⟨rfl, rfl, trivial⟩ rfl rfl
 refine mP (fun hg33 hg33p => ?_) (fun hg33 hg33p => ?_)
 ·refine jL 5 ?_
  exact hcut _ _ _ _ ⟨fun h => by first | omega | (simp at h; omega) | (cases h; done), fun h => by first | omega | (simp at h; omega) | (cases h; done)⟩ ⟨rfl, rfl, trivial⟩ rfl rfl
 refine jL 5 ?_
 exact hcut _ _ _ _ ⟨fun h => by first | omega | (simp at h; omega) | (cases h; done), fun h => by first | omega | (simp at h; omega) | (cases h; done)⟩ ⟨rfl, rfl, trivial⟩ rfl rfl
theorem AP s (hs : s.length ≤ 1000000000) I : jO Tryz.prog 69 [str s] I [] (fun e I' H' => ∃ g, kZ 0 1 (Ke.words s).length ((Ke.words s).map str) g ∧ e = .returned (gV (Ke.words s).length g) ∧ H' = gH 9 ((Ke.words s).map str) g) := by
 have hrl := a0n s
 refine jT func69 fun w0 hw0 => ?_
 refine jL 18 ?_
 refine J.op rfl (ZC (runes_all s) rfl rfl rfl rfl lJ underlying197 a8a ?_)
 intro b1 c2 sp3 hb1
 refine jL 10 ?_
 refine Cj.loop (ι := Nat × List UInt8 × List (List UInt8) × Gs) (fun x => x.1 ≤ (Ke.runes s).length ∧ Ke.words s = x.2.2.1 ++ Ke.wf x.2.1 ((Ke.runes s).drop x.1) ∧ x.2.1.length ≤ 4 * x.1 ∧ x.2.2.1.length ≤ x.1 ∧ kZ 0 1 x.2.2.1.length (x.2.2.1.map str) x.2.2.2) (fun x => (Ke.runes s).length - x.1) (fun x => [(3, gV x.2.2.1.length x.2.2.2), (4, str x.2.1), (5, .slice (some ⟨b1, 0, none⟩) (Ke.runes s).length c2), (6, i64 (x.1 : Int))]) (fun x => I) (fun x => (b1, jM 21 (rcs (Ke.runes s) ++ sp3)) :: gH 9 (x.2.2.1.map str) x.2.2.2) (0, [], [], none) ⟨Nat.zero_le _, rfl, Nat.zero_le _, Nat.zero_le _, rfl, rfl⟩ ⟨rfl, rfl, rfl, rfl, trivial⟩ rfl rfl ?_
 rintro ⟨k, w, acc, g⟩ ⟨hk, hws, hwl, hal, hg⟩
 dsimp only at hk hws hwl hal hg ⊢
 refine jR (fun hc4 hc4p => ?_) (fun hc4 hc4p => ?_)
 ·refine jL 5 ?_
  have hlt : k < (Ke.runes s).length := by omega
  obtain ⟨c, hget⟩ : ∃ c, (Ke.runes s)[k]? = some c := ⟨_, kV hlt⟩
  have hdr := drop_cons hget
  have hcl := Ke.PD c
  have hcm : c ≤ 1114111 := Ke.a3B _ _ c (lV hget)
  refine kG k ?_
  refine J.z (jP rfl rfl isAgg21 (jV.at 0 rfl) (a6X hget)) ?_
  refine kC (b2F c hcm _) ?_
  refine jR (fun hc5 hc5p => ?_) (fun hc5 hc5p => ?_)
  ·have hne : Ke.char c ≠ [32] := bne_iff_ne.1 hc5
   refine jL 4 ?_
   refine J.z (oW rfl rfl rfl (by omega)) ?_
   refine jL 12 ?_
   refine Ej.round (k + 1, w ++ Ke.char c, acc, g) ⟨by dsimp only; omega, by dsimp only; rw [hws, hdr, Ke.b4V hne], by dsimp only; rw [List.length_append]; omega, by dsimp only; omega, hg⟩ (by dsimp only; omega) ⟨rfl, rfl, rfl, rfl, trivial⟩ rfl rfl
  have he : Ke.char c = [32] := sF hc5
  refine jR (fun hc6 hc6p => ?_) (fun hc6 hc6p => ?_)
  ·have hw : w ≠ [] := bne_iff_ne.1 hc6
   refine jL 4 ?_
   intro b7 hb7
   refine J.op rfl (vG 0 (Nat.zero_le _) (by' := 15) [_, _] rfl rfl rfl rfl rfl lI (.inr ⟨_, lI⟩) (by kernel_rfl) kY AQ rfl hg rfl (Src.slice (jV.at 0 rfl) rfl rfl rfl) (by omega) ?_)
   intro g8 hg8
   refine jL 13 ?_
   refine Ej.keep (Keeps.d (Keeps.k Keeps.r)) ?_
   refine Ej.round (k + 1, [], acc ++ [w], g8) ⟨by dsimp only; omega, by dsimp only; rw [hws, hdr, Ke.b0C he hw, List.append_assoc]; rfl, Nat.zero_le _, by dsimp only; rw [List.length_append]; simp only [List.length_cons, List.length_nil]; omega, by dsimp only; rw [List.map_append, List.length_append]; exact hg8⟩ (by dsimp only; omega) ⟨by dsimp only; rw [List.length_append]; rfl, rfl, rfl, rfl, trivial⟩ rfl (by dsimp only; rw [List.map_append]; rfl)
  have hw : w = [] := sF hc6
  refine jL 12 ?_
  refine Ej.round (k + 1, [], acc, g) ⟨by dsimp only; omega, by dsimp only; rw [hws, hdr, hw, Ke.a6S he], Nat.zero_le _, by dsimp only; omega, hg⟩ (by dsimp only; omega) ⟨rfl, rfl, rfl, rfl, trivial⟩ rfl rfl
 have hfull : (Ke.runes s).drop k = [] := List.drop_eq_nil_of_le (by omega)
 refine jR (fun hc9 hc9p => ?_) (fun hc9 hc9p => ?_)
 ·have hw : w ≠ [] := bne_iff_ne.1 hc9
  have hres : Ke.words s = acc ++ [w] := by rw [hws, hfull, Ke.ZI, if_neg hw]
  refine jL 4 ?_
  intro b10 hb10
  refine J.op rfl (vG 0 (Nat.zero_le _) (by' := 15) [_, _] rfl rfl rfl rfl rfl lI (.inr ⟨_, lI⟩) (by kernel_rfl) kY AQ rfl hg rfl (Src.slice (jV.at 0 rfl) rfl rfl rfl) (by omega) ?_)
  intro g11 hg11
  refine jL 10 ?_
  refine Ej.keep (Keeps.d (Keeps.d Keeps.r)) ?_
  refine jW ?_
  rw [hres, List.map_append, List.length_append]
  exact ⟨g11, hg11, rfl, rfl⟩
 have hw : w = [] := sF hc9
 have hres : Ke.words s = acc := by rw [hws, hfull, Ke.ZI, if_pos hw, List.append_nil]
 refine jL 9 ?_
 refine Ej.keep (Keeps.d Keeps.r) ?_
 refine jW ?_
 rw [hres]
 exact ⟨g, hg, rfl, rfl⟩
def mix (ws : List (List UInt8)) (j : Nat) : List (List UInt8) := (ws.take j).map Ke.pX ++ ws.drop j
theorem a0O ws j : (mix ws j).length = ws.length := by unfold mix; simp; omega
theorem a9P {ws j x} (h : ws[j]? = some x) : (mix ws j)[j]? = some x := by
  obtain ⟨hlt, hg⟩ := List.getElem?_eq_some_iff.1 h
  unfold mix
  rw [List.getElem?_append_right (by simp; omega), List.getElem?_drop, List.length_map, List.length_take, Nat.min_eq_left (by omega), Nat.sub_self, Nat.add_zero, h]
theorem a5b {ws j x} (h : ws[j]? = some x) : mix ws (j + 1) = (mix ws j).set j (Ke.pX x) := by
  obtain ⟨hlt, hg⟩ := List.getElem?_eq_some_iff.1 h
  unfold mix
  rw [List.take_succ_eq_append_getElem hlt, hg, List.map_append, drop_cons h, List.set_append_right _ _ (by simp; omega), List.length_map, List.length_take, Nat.min_eq_left (by omega), Nat.sub_self]
  simp
theorem b4k {ws j x} (h : ws[j]? = some x) (hs : Ke.pX x = x) : mix ws (j + 1) = mix ws j := by
  rw [a5b h, hs]
  apply List.ext_getElem?
  intro i
  rw [List.getElem?_set]
  by_cases hi : j = i
  · subst hi; rw [if_pos rfl, a9P h, if_pos (by rw [a0O]; exact (List.getElem?_eq_some_iff.1 h).1)]
  rw [if_neg hi]
theorem b6q {ws j x sp} (h : ws[j]? = some x) : ((mix ws j).map str ++ sp).set j (str (Ke.pX x)) = (mix ws (j + 1)).map str ++ sp := by
  rw [a5b h, List.set_append_left _ _ (by rw [List.length_map, a0O]; exact (List.getElem?_eq_some_iff.1 h).1), List.map_set]
theorem b6j ws {j} (h : ¬ j < ws.length) : mix ws j = ws.map Ke.pX := by
  unfold mix
  rw [List.take_of_length_le (by omega), List.drop_eq_nil_of_le (by omega), List.append_nil]
theorem CO s skip (hs : s.length ≤ 100000000) I : Pure Tryz.prog 26 [str s, i64 skip] I (str (Ke.nT s skip)) := by
 refine jO.toPure ?_
 have hcl : (Ke.cut s skip).length ≤ s.length := by unfold Ke.cut; simp
 have hwl := Ke.rE (Ke.cut s skip)
 have hjl := Ke.XR (Ke.cut s skip)
 refine jT func26 fun w0 hw0 => ?_
 refine jL 9 ?_
 refine J.z (rY rfl rfl rfl) ?_
 refine jL 2 ?_
 refine J.z (rX rfl rfl rfl) ?_
 refine J.ev 13 (i64 (((min (max skip 0) (s.length : Int)).toNat : Nat) : Int)) rfl (congrArg i64 (by omega)) ?_
 refine J.z (lM (p := (min (max skip 0) (s.length : Int)).toNat) (q := s.length) rfl rfl lJ ⟨_, rfl⟩ rfl (by omega) (by omega)) ?_
 refine J.ev 14 (str (Ke.cut s skip)) rfl (by rw [List.take_length]; rfl) ?_
 refine uF (AP (Ke.cut s skip) (by omega) _) ?_
 intro v2 I3 H4 hle5 hn1 hp6
 obtain ⟨g, hg, h, rfl⟩ := hp6; cases h
 replace hg := hg.base hn1
 refine jL 10 ?_
 refine Cj.loop (ι := Nat) (fun j => j ≤ (Ke.words (Ke.cut s skip)).length) (fun j => (Ke.words (Ke.cut s skip)).length - j) (fun j => [(5, gV (Ke.words (Ke.cut s skip)).length g), (6, i64 (j : Int))]) (fun j => _) (fun j => gH 9 ((mix (Ke.words (Ke.cut s skip)) j).map str) g) 0 (Nat.zero_le _) ⟨rfl, rfl, trivial⟩ rfl (by rw [List.append_nil, show mix (Ke.words (Ke.cut s skip)) 0 = (Ke.words (Ke.cut s skip)) by simp [mix]]) ?_
 intro j hj
 refine jL 5 ?_
 refine J.z (a1m hg rfl rfl lI) ?_
 refine jR (fun hc7 hc7p => ?_) (fun hc7 hc7p => ?_)
 ·refine jL 5 ?_
  have hlt : j < (Ke.words (Ke.cut s skip)).length := by omega
  obtain ⟨x, hget⟩ : ∃ x, (Ke.words (Ke.cut s skip))[j]? = some x := ⟨_, kV hlt⟩
  have hxm := lV hget
  have hxl := Ke.xZ _ x hxm
  have hma := a9P hget
  obtain ⟨bg8, cg9, sp10, rfl, hbg8⟩ := hg.some (by omega)
  refine kG j ?_
  refine J.z (jP rfl rfl lN (jV.at 0 rfl) (nR hma)) ?_
  refine kC (a0y x (by omega) _) ?_
  refine mQ (fun hc11 => ?_) (fun hc11 => ?_)
  ·have hsw : Ke.pX x = Ke.number x := by unfold Ke.pX; rw [show Ke.digits x = true from hc11]; rfl
   refine kG j ?_
   refine J.z (jP rfl rfl lN (jV.at 0 rfl) (nR hma)) ?_
   refine kC (b0x x (by omega) _) ?_
   refine J.ev 34 (str (Ke.pX x)) rfl (by rw [hsw]) ?_
   refine kG j ?_
   refine J.op rfl (uM 0 rfl rfl rfl rfl rfl rfl kY rfl (.inl rfl) (by simp only [List.length_append, List.length_map, a0O]; omega) lF.z ?_)
   refine jL 8 ?_
   refine Ej.round (j + 1) (by omega) (by omega) ⟨rfl, rfl, trivial⟩ rfl (by rw [b6q hget]; rfl)
  have hsw : Ke.pX x = x := by unfold Ke.pX; rw [show Ke.digits x = false from hc11]; rfl
  refine jL 8 ?_
  refine Ej.round (j + 1) (by omega) (by omega) ⟨rfl, rfl, trivial⟩ rfl (by rw [b4k hget hsw])
 refine jL 6 ?_
 have hme := b6j (Ke.words (Ke.cut s skip)) (j := j) (by omega)
 rw [hme]
 refine Cj.perm (H' := gH _ _ _ ++ []) (by rw [List.append_nil]) ?_
 have hg2 : kZ w0.heap.size 1 (Ke.words (Ke.cut s skip)).length (((Ke.words (Ke.cut s skip)).map Ke.pX).map str) g := MF hg (by simp)
 refine Cj.yX hg2 (fun I8 hle8 hv => ?_)
 rw [show (Ke.words (Ke.cut s skip)).length = ((Ke.words (Ke.cut s skip)).map Ke.pX).length from (List.length_map _).symm] at hv ⊢
 refine kC (WZ ((Ke.words (Ke.cut s skip)).map Ke.pX) _ (by rw [List.length_map]; omega) (by omega) _ (mZ.of hv)) ?_
 refine jW ?_
 exact ⟨rfl, rfl⟩
end Go.Proofs.YtekmeaoblpfnpaaGreatDoor
end
section
namespace Go.Proofs.YtekmeaoblpfnpaaGreatDoor
open Go Go.Sx
theorem mZ.len {I l v} (h : mZ I l v) : ∃ p c, v = .slice p l.length c := let ⟨p, c, h, _⟩ := h; ⟨p, c, h⟩
theorem b5Z {s x d l} : Ke.pg s d (x :: l) = (if s < x ∧ d = false then [s, x] else [x]) ++ Ke.pg s (d || decide (s < x)) l := by
  rw [Ke.pg]
  by_cases h : s < x
  · cases d
    · rw [if_pos ⟨h, rfl⟩, if_pos ⟨h, rfl⟩]; simp [h]
    rw [if_neg (by simp), if_neg (by simp)]; rfl
  rw [if_neg (fun g => h g.1), if_neg (fun g => h g.1)]; simp [h]
theorem UE s : ∀ (l : List (List UInt8)) (d : Bool), (Ke.pg s d l).length ≤ l.length + 1
  | [], true => Nat.zero_le _
  | [], false => Nat.le_refl _
  | x :: l, d => by
    have := UE s l (d || decide (s < x))
    rw [b5Z, List.length_append, List.length_cons]
    by_cases h : s < x ∧ d = false
    · rw [if_pos h]
      obtain ⟨h1, rfl⟩ := h
      have h2 : Ke.pg s (false || decide (s < x)) l = l := by rw [decide_eq_true h1]; exact Ke.IB s l
      rw [h2]; simp; omega
    rw [if_neg h]; simp; omega
theorem a0M l s : (Ke.put l s).length ≤ l.length + 1 := by
  unfold Ke.put
  split
  · omega
  exact UE s l false
theorem DV : ∀ (xs l : List (List UInt8)), (xs.foldl Ke.put l).length ≤ l.length + xs.length
  | [], l => Nat.le_refl _
  | x :: xs, l => by
    have h1 := DV xs (Ke.put l x)
    have h2 := a0M l x
    simp only [List.foldl_cons, List.length_cons]; omega
theorem b3x xs x : (xs ++ [x]).foldl Ke.put [] = Ke.put (xs.foldl Ke.put []) x := by rw [List.foldl_append]; rfl
theorem XK f codes (hcl : codes.length ≤ 1000) (hn : f.subs.length ≤ 2000000) (htx : lT f.subs ≤ 3000000) I (hr : jU uT I f.subs f.sv) : Pure Tryz.prog 121 [.agg (nY f).toArray, str codes] I (str (Ke.textOf f codes)) := by
 refine jO.toPure ?_
 obtain ⟨p2, c2, hsv, hc2, hp2⟩ := hr
 refine jT Tryz.func121 fun w0 hw0 => ?_
 refine jL 3 ?_
 intro b1 hb1
 refine jL 15 ?_
 refine Cj.loop (ι := Nat × Gs) (fun j => j.1 ≤ f.subs.length ∧ kZ w0.heap.size 1 (tx codes (f.subs.take j.1)).length ((tx codes (f.subs.take j.1)).map str) j.2) (fun j => f.subs.length - j.1) (fun j => [(1, str codes), (2, ptr b1 0), (5, gV (tx codes (f.subs.take j.1)).length j.2), (6, i64 (j.1 : Int))]) (fun j => _) (fun j => (b1, jM 108 (nY f)) :: gH 9 ((tx codes (f.subs.take j.1)).map str) j.2) (0, none) ⟨Nat.zero_le _, rfl, rfl⟩ ⟨rfl, rfl, rfl, rfl, trivial⟩ rfl rfl ?_
 rintro ⟨j, g⟩ ⟨hj, hg⟩
 dsimp only at hj hg ⊢
 have htl := a4Y codes (f.subs.take j)
 rw [List.length_take, Nat.min_eq_left hj] at htl
 refine jL 6 ?_
 refine J.ev 10 (.slice p2 f.subs.length c2) rfl hsv ?_
 refine jR (fun hc2 hc2p => ?_) (fun hc2 hc2p => ?_)
 ·refine jL 5 ?_
  have hlt : j < f.subs.length := by omega
  obtain ⟨sb, hsget⟩ : ∃ x, f.subs[j]? = some x := ⟨_, kV hlt⟩
  obtain ⟨sbk, so, scs, sty, sfr, sp2, rfl, hsbk, hsd⟩ := hp2 (jS hlt)
  have hnx := b7g (codes := codes) hsget
  refine jL 4 ?_
  refine J.ev 17 (.slice (some ⟨sbk, so, none⟩) f.subs.length c2) rfl hsv ?_
  refine kG (so + j * 2) ?_
  refine jL 1 ?_
  refine J.z (jP rfl rfl tA5 (jV.BU hsbk) (lK qO hsd hsget 0 (by decide))) ?_
  refine kC (b7P codes sb.code (by omega) _) ?_
  refine mQ (fun hc3 => ?_) (fun hc3 => ?_)
  ·rw [if_pos hc3] at hnx
   refine jL 4 ?_
   refine J.ev 26 (.slice (some ⟨sbk, so, none⟩) f.subs.length c2) rfl hsv ?_
   refine kG (so + j * 2) ?_
   refine J.z (q2 (off' := so + j * 2 + 1) NT kY) ?_
   refine J.z (jP rfl rfl lN (jV.BU hsbk) (lK qO hsd hsget 1 (by decide))) ?_
   refine jL 1 ?_
   intro b4 hb4
   refine yR 15 [_, _] hg ?_
   intro g5 hg5
   refine jL 9 ?_
   refine Ej.keep (Keeps.d (Keeps.k Keeps.r)) ?_
   refine Ej.round (j + 1, g5) ⟨by dsimp only; omega, by dsimp only; rw [hnx, List.map_append, List.length_append]; exact hg5⟩ (by dsimp only; omega) ⟨rfl, rfl, by dsimp only; rw [hnx, List.length_append]; rfl, rfl, trivial⟩ rfl (by dsimp only; rw [hnx, List.map_append]; rfl)
  rw [if_neg (fun e => Bool.noConfusion (e.symm.trans hc3))] at hnx
  refine jL 8 ?_
  refine Ej.round (j + 1, g) ⟨by dsimp only; omega, by dsimp only; rw [hnx, List.append_nil]; exact hg⟩ (by dsimp only; omega) ⟨rfl, rfl, by dsimp only; rw [hnx, List.append_nil]; rfl, rfl, trivial⟩ rfl (by dsimp only; rw [hnx, List.append_nil])
 refine jL 6 ?_
 have hfull : f.subs.take j = f.subs := List.take_of_length_le (by omega)
 rw [hfull] at hg ⊢
 have htl2 := OG f codes
 refine Cj.perm (H' := gH _ _ _ ++ [_]) List.perm_append_comm ?_
 refine Cj.yX hg (fun I8 hle8 hv => ?_)
 refine kC (WZ (tx codes f.subs) _ (by have := a4Y codes f.subs; omega) (by have e : Ke.join (tx codes f.subs) = Ke.textOf f codes := rfl; rw [e]; omega) _ (mZ.of hv)) ?_
 refine kF ?_
 exact ⟨rfl, rfl⟩
end Go.Proofs.YtekmeaoblpfnpaaGreatDoor
end
section
namespace Go.Proofs.YtekmeaoblpfnpaaGreatDoor
open _root_.Go.Proofs.Tryz
open Go Go.Sx
theorem a0c {α : Type} {p} : ∀ {l : List α} {k : Nat}, (∀ x ∈ l.take k, p x = true) → (∀ x, l[k]? = some x → p x = false) → k ≤ l.length → (l.takeWhile p).length = k
  | [], k, _, _, hk => by have : k = 0 := by simpa using hk
                          subst this; rfl
  | x :: r, 0, _, h2, _ => by rw [List.takeWhile_cons, if_neg (by rw [h2 x rfl]; decide)]; rfl
  | x :: r, k + 1, h1, h2, hk => by
    rw [List.takeWhile_cons, if_pos (h1 x (by rw [List.take_succ_cons]; exact .head _)), List.length_cons, a0c (k := k) (fun y hy => h1 y (by rw [List.take_succ_cons]; exact .tail _ hy)) (fun y hy => h2 y (by rw [List.getElem?_cons_succ]; exact hy)) (by simpa using hk)]
theorem b1E {α : Type} {p : α → Bool} {l : List α} {k x} (h : ∀ y ∈ l.take k, p y = true) (hg : l[k]? = some x) (hx : p x = true) : ∀ y ∈ l.take (k + 1), p y = true := by
  obtain ⟨hlt, hg⟩ := List.getElem?_eq_some_iff.1 hg
  rw [List.take_succ_eq_append_getElem hlt, hg]
  intro y hy
  rcases List.mem_append.1 hy with g | g
  · exact h y g
  rw [List.mem_singleton.1 g]; exact hx
theorem a0I {s k} (h : Ix.rJ s = Ix.rJ (s.drop k)) (h4 : ((s.drop k).takeWhile Ke.digit).length = 4) : uy s = ((s.take (k + 4)).drop k, true) := by
  unfold uy
  rw [h, Ix.a2j, if_pos h4, List.drop_take]
  simp
theorem b5C {s k} (h : Ix.rJ s = Ix.rJ (s.drop k)) (hk : s.length ≤ k) : uy s = ([], false) := by
  unfold uy
  rw [h, List.drop_eq_nil_of_le hk, Ix.b4J]; rfl
theorem a0B {s k n} (h : Ix.rJ s = Ix.rJ (s.drop k)) (hn : ((s.drop k).takeWhile Ke.digit).length = n) (h4 : n ≠ 4) : Ix.rJ s = Ix.rJ (s.drop (k + n + 1)) := by
  rw [h, Ix.a2j, if_neg (by omega), hn, List.drop_drop, Nat.add_assoc]
theorem b3K s (hs : s.length ≤ 1000000000) I : Pure Tryz.prog 122 [str s] I (.tuple #[str (uy s).1, .bool (uy s).2]) := by
 refine jO.toPure ?_
 refine jT func122 fun w0 hw0 => ?_
 refine jL 13 ?_
 refine Cj.loop (ι := Nat) (fun k => k ≤ s.length + 1 ∧ Ix.rJ s = Ix.rJ (s.drop k)) (fun k => s.length + 1 - k) (fun k => [(0, str s), (4, i64 (k : Int))]) (fun k => _) (fun k => []) 0 ⟨Nat.zero_le _, rfl⟩ ⟨rfl, rfl, trivial⟩ rfl rfl ?_
 rintro k ⟨hk, hyr⟩
 refine jR (fun hc1 hc1p => ?_) (fun hc1 hc1p => ?_)
 ·refine jL 11 ?_
  refine Cj.loop (ι := Nat) (fun n => k + n ≤ s.length ∧ ∀ x ∈ (s.drop k).take n, Ke.digit x = true) (fun n => s.length - k - n) (fun n => [(0, str s), (4, i64 (k : Int)), (5, i64 (n : Int))]) (fun n => _) (fun n => []) 0 ⟨by omega, fun x hx => by simp at hx⟩ ⟨rfl, rfl, rfl, trivial⟩ rfl rfl ?_
  rintro n ⟨hkn, hdg⟩
  refine mP (fun hg2 hg2p => ?_) (fun hg2 hg2p => ?_)
  ·have hlt2 : k + n < s.length := by have h := lY hg2; omega
   obtain ⟨c, hget⟩ : ∃ c, s[k + n]? = some c := ⟨_, kV hlt2⟩
   refine jL 4 ?_
   refine J.ev 22 (i64 ((k + n : Nat) : Int)) rfl rfl ?_
   refine J.zg (lD rfl rfl rfl lJ (by omega) hget) ?_
   refine mP (fun hg3 hg3p => ?_) (fun hg3 hg3p => ?_)
   ·have h48 : 48 ≤ c.toNat := by have h := lY hg3; omega
    refine jL 4 ?_
    refine J.ev 30 (i64 ((k + n : Nat) : Int)) rfl rfl ?_
    refine J.zg (lD rfl rfl rfl lJ (by omega) hget) ?_
    refine jR (fun hc4 hc4p => ?_) (fun hc4 hc4p => ?_)
    ·have hdig : Ke.digit c = true := by rw [Ix.wZ]; have h := lY hc4; simp only [decide_eq_true_eq]; omega
     refine jL 9 ?_
     refine Ej.round (n + 1) ⟨by omega, b1E hdg (by rw [List.getElem?_drop]; exact hget) hdig⟩ (by omega) ⟨rfl, rfl, rfl, trivial⟩ rfl rfl
    have hndig : ¬ Ke.digit c = true := by rw [Ix.wZ]; have h := nD hc4; simp only [decide_eq_true_eq]; omega
    refine jL 7 ?_
    have hn : ((s.drop k).takeWhile Ke.digit).length = n := a0c hdg (fun x hx => by rw [List.getElem?_drop, hget] at hx; cases hx; exact Bool.eq_false_iff.2 hndig) (by rw [List.length_drop]; omega)
    refine jR (fun hc5 hc5p => ?_) (fun hc5 hc5p => ?_)
    ·have h4 : n = 4 := by have h := lQ hc5; omega
     have hyy := a0I hyr (hn.trans h4)
     refine jL 6 ?_
     refine J.z (lM (p := k) (q := k + 4) rfl rfl lJ ⟨_, rfl⟩ ⟨_, rfl⟩ (by omega) (by omega)) ?_
     refine jW ?_
     rw [hyy]
     exact ⟨rfl, rfl⟩
    have h4 : n ≠ 4 := by have h := lW hc5; omega
    refine jL 15 ?_
    refine Ej.round (k + n + 1) ⟨by omega, a0B hyr hn (by omega)⟩ (by omega) ⟨rfl, rfl, trivial⟩ rfl rfl
   have hndig : ¬ Ke.digit c = true := by rw [Ix.wZ]; have h := nD hg3; simp only [decide_eq_true_eq]; omega
   refine jL 17 ?_
   have hn : ((s.drop k).takeWhile Ke.digit).length = n := a0c hdg (fun x hx => by rw [List.getElem?_drop, hget] at hx; cases hx; exact Bool.eq_false_iff.2 hndig) (by rw [List.length_drop]; omega)
   refine jR (fun hc7 hc7p => ?_) (fun hc7 hc7p => ?_)
   ·have h4 : n = 4 := by have h := lQ hc7; omega
    have hyy := a0I hyr (hn.trans h4)
    refine jL 6 ?_
    refine J.z (lM (p := k) (q := k + 4) rfl rfl lJ ⟨_, rfl⟩ ⟨_, rfl⟩ (by omega) (by omega)) ?_
    refine jW ?_
    rw [hyy]
    exact ⟨rfl, rfl⟩
   have h4 : n ≠ 4 := by have h := lW hc7; omega
   refine jL 15 ?_
   refine Ej.round (k + n + 1) ⟨by omega, a0B hyr hn (by omega)⟩ (by omega) ⟨rfl, rfl, trivial⟩ rfl rfl
  have hge2 : ¬ k + n < s.length := by have h := nD hg2; omega
  refine jL 25 ?_
  have hn : ((s.drop k).takeWhile Ke.digit).length = n := a0c hdg (fun x hx => absurd (List.getElem?_eq_some_iff.1 hx).1 (by rw [List.length_drop]; omega)) (by rw [List.length_drop]; omega)
  refine jR (fun hc9 hc9p => ?_) (fun hc9 hc9p => ?_)
  ·have h4 : n = 4 := by have h := lQ hc9; omega
   have hyy := a0I hyr (hn.trans h4)
   refine jL 6 ?_
   refine J.z (lM (p := k) (q := k + 4) rfl rfl lJ ⟨_, rfl⟩ ⟨_, rfl⟩ (by omega) (by omega)) ?_
   refine jW ?_
   rw [hyy]
   exact ⟨rfl, rfl⟩
  have h4 : n ≠ 4 := by have h := lW hc9; omega
  refine jL 15 ?_
  refine Ej.round (k + n + 1) ⟨by omega, a0B hyr hn (by omega)⟩ (by omega) ⟨rfl, rfl, trivial⟩ rfl rfl
 refine jW ?_
 rw [b5C hyr (by omega)]
 exact ⟨rfl, rfl⟩
theorem ZP s p (hp : p.length ≤ 1000000) I : Pure Tryz.prog 123 [str s, str p] I (.bool (p.isPrefixOf s)) := by
 refine jO.toPure ?_
 refine jT func123 fun w0 hw0 => ?_
 refine mP (fun hg1 hg1p => ?_) (fun hg1 hg1p => ?_)
 ·have hge : p.length ≤ s.length := by have h := lY hg1; omega
  refine jL 3 ?_
  refine J.zg (lM (p := 0) (q := p.length) rfl rfl lJ rfl ⟨_, rfl⟩ (by omega) (by omega)) ?_
  refine jW ?_
  refine ⟨?_, rfl⟩
  rw [pre_eq hge]
 have hge : ¬ p.length ≤ s.length := by have h := nD hg1; omega
 refine jW ?_
 rw [a9y hge]
 exact ⟨rfl, rfl⟩
theorem a7u f : (Ix.vS f).length ≤ lT f.subs + f.subs.length := by
  have := EK f []
  rwa [EN] at this
theorem a6r f (hn : f.subs.length ≤ 2000000) (htx : lT f.subs ≤ 3000000) I (hr : jU uT I f.subs f.sv) : Pure Tryz.prog 124 [.agg (nY f).toArray] I (str (Ix.vS f)) := by
 refine jO.toPure ?_
 obtain ⟨p2, c2, hsv, hc2, hp2⟩ := hr
 have hal := a7u f
 unfold Ix.vS at hal
 refine jT func124 fun w0 hw0 => ?_
 refine jL 3 ?_
 intro b1 hb1
 refine jL 15 ?_
 refine Cj.loop (ι := Nat) (fun j => j ≤ f.subs.length) (fun j => f.subs.length - j) (fun j => [(1, ptr b1 0), (3, str (Ke.join ((f.subs.map (·.text)).take j))), (4, i64 (j : Int))]) (fun j => _) (fun j => [(b1, jM 108 (nY f))]) 0 (Nat.zero_le _) ⟨rfl, rfl, rfl, trivial⟩ rfl rfl ?_
 intro j hj
 have hjp := JU (f.subs.map (·.text)) j
 have hjp2 := JU (f.subs.map (·.text)) (j + 1)
 refine jL 6 ?_
 refine J.ev 7 (.slice p2 f.subs.length c2) rfl hsv ?_
 refine jR (fun hc2 hc2p => ?_) (fun hc2 hc2p => ?_)
 ·have hlt : j < f.subs.length := by omega
  obtain ⟨sb, hsget⟩ : ∃ x, f.subs[j]? = some x := ⟨_, kV hlt⟩
  have hget : (f.subs.map (·.text))[j]? = some sb.text := by rw [List.getElem?_map, hsget]; rfl
  obtain ⟨sbk, so, scs, sty, sfr, sp2, rfl, hsbk, hsd⟩ := hp2 (jS hlt)
  have hjn := congrArg List.length (AY hget)
  rw [List.length_append] at hjn
  refine jR (fun hc3 hc3p => ?_) (fun hc3 hc3p => ?_)
  ·have hj0 : 0 < j := by have h := lY hc3; omega
   refine jL 2 ?_
   refine J.z (oW rfl rfl rfl (by rw [if_pos hj0, List.length_append] at hjn; simp only [List.length_cons, List.length_nil] at hjn ⊢; omega)) ?_
   refine jL 7 ?_
   refine J.ev 18 (.slice (some ⟨sbk, so, none⟩) f.subs.length c2) rfl hsv ?_
   refine kG (so + j * 2) ?_
   refine J.z (q2 (off' := so + j * 2 + 1) NT kY) ?_
   refine J.z (jP rfl rfl lN (jV.BU hsbk) (lK qO hsd hsget 1 (by decide))) ?_
   refine J.z (oW rfl rfl rfl (by first | (rw [if_pos hj0, List.length_append] at hjn; simp only [List.length_append, List.length_cons, List.length_nil] at hjn ⊢; omega) | (rw [if_neg hj0] at hjn; omega))) ?_
   refine jL 9 ?_
   refine Ej.round (j + 1) (by omega) (by omega) ⟨rfl, by rw [AY hget, if_pos hj0]; rfl, rfl, trivial⟩ rfl rfl
  have hj0 : ¬ 0 < j := by have h := nD hc3; omega
  refine jL 6 ?_
  refine J.ev 18 (.slice (some ⟨sbk, so, none⟩) f.subs.length c2) rfl hsv ?_
  refine kG (so + j * 2) ?_
  refine J.z (q2 (off' := so + j * 2 + 1) NT kY) ?_
  refine J.z (jP rfl rfl lN (jV.BU hsbk) (lK qO hsd hsget 1 (by decide))) ?_
  refine J.z (oW rfl rfl rfl (by first | (rw [if_pos hj0, List.length_append] at hjn; simp only [List.length_append, List.length_cons, List.length_nil] at hjn ⊢; omega) | (rw [if_neg hj0] at hjn; omega))) ?_
  refine jL 9 ?_
  refine Ej.round (j + 1) (by omega) (by omega) ⟨rfl, by rw [AY hget, if_neg hj0]; rfl, rfl, trivial⟩ rfl rfl
 have hfull : (f.subs.map (·.text)).take j = f.subs.map (·.text) := List.take_of_length_le (by rw [List.length_map]; omega)
 refine kF ?_
 rw [hfull]
 exact ⟨rfl, rfl⟩
def DI (x : List UInt8 × Nat) : List Value := [str x.1, i64 (x.2 : Int)]
theorem sQ x : (DI x).length = 2 := rfl
def qK (u : List UInt8 → List UInt8 × Bool) (c : UInt8) (ss : List Ke.Sub) : List (List UInt8 × Nat) := (ss.filterMap (wC u c)).map fun s => (s, 0)
theorem a3J {u c} {ss : List Ke.Sub} {k s} (h : ss[k]? = some s) : qK u c (ss.take (k + 1)) = qK u c (ss.take k) ++ (if (u s.text).2 = true ∧ s.code = c then [((u s.text).1, 0)] else []) := by
  unfold qK
  rw [a7k h, List.map_append]
  congr 1
  split <;> rfl
theorem UN u c ss : (qK u c ss).length ≤ ss.length := by
  unfold qK; rw [List.length_map]; exact List.length_filterMap_le _ _
theorem MP {f : Ke.tC} {t u c j} (h : j = 0 ∨ f.tag = t) (hj : f.subs.length ≤ j) : (if f.tag = t then qK u c f.subs else []) = qK u c (f.subs.take j) := by
  by_cases ht : f.tag = t
  · rw [if_pos ht, List.take_of_length_le hj]
  have h0 := h.resolve_right ht
  subst h0
  rw [if_neg ht]; rfl
theorem VD {f : Ke.tC} {t u c j} (h : j = 0 ∨ f.tag = t) (ht : f.tag ≠ t) : (if f.tag = t then qK u c f.subs else []) = qK u c (f.subs.take j) := by
  have h0 := h.resolve_right ht
  subst h0
  rw [if_neg ht]; rfl
theorem wX {f n} (h : n = Ix.rM) : Ix.WW f n = if f.tag = [50, 52, 53] ∨ f.tag = [50, 52, 54] then [(Ke.textOf f [97, 98], Ix.wF f)] else [] := by subst h; rfl
theorem uK {f n} (h : n = Ix.rF) : Ix.WW f n = if f.tag = [49, 48, 48] ∨ f.tag = [49, 49, 48] ∨ f.tag = [55, 48, 48] then [(Ke.textOf f [97], 0)] else [] := by subst h; rfl
theorem sG {f n} (h : n = Ix.rO) : Ix.WW f n = if f.tag = [54, 48, 48] ∨ f.tag = [54, 53, 48] then [(Ke.textOf f [97, 120], 0)] else [] := by subst h; rfl
theorem zY {f n} (h : n = Ix.uX) : Ix.WW f n = if f.tag = [48, 50, 48] then qK Ke.EX 97 f.subs else [] := by subst h; rfl
theorem zZ {f n} (h : n = Ix.KG) : Ix.WW f n = if f.tag = [50, 54, 48] then qK uy 99 f.subs else [] := by
  subst h
  unfold qK
  rw [a7C]; rfl
theorem wJ {f n} (h : n = Ix.wP) : Ix.WW f n = if Ix.zJ f then [(Ix.vS f, 0)] else [] := by subst h; rfl
theorem of_none {f n} (h1 : n ≠ Ix.rM) (h2 : n ≠ Ix.rF) (h3 : n ≠ Ix.rO) (h4 : n ≠ Ix.uX) (h5 : n ≠ Ix.KG) (h6 : n ≠ Ix.wP) : Ix.WW f n = [] := by
  unfold Ix.WW
  rw [if_neg h1, if_neg h2, if_neg h3, if_neg h4, if_neg h5, if_neg h6]
theorem a7j f n (h : f.subs.length ≤ 1000) : (Ix.WW f n).length ≤ 1000 := by
  by_cases h1 : n = Ix.rM
  · rw [wX h1]; split <;> simp
  by_cases h2 : n = Ix.rF
  · rw [uK h2]; split <;> simp
  by_cases h3 : n = Ix.rO
  · rw [sG h3]; split <;> simp
  by_cases h4 : n = Ix.uX
  · rw [zY h4]; split
    · exact mY (UN _ _ _) h
    simp
  by_cases h5 : n = Ix.KG
  · rw [zZ h5]; split
    · exact mY (UN _ _ _) h
    simp
  by_cases h6 : n = Ix.wP
  · rw [wJ h6]; split <;> simp
  rw [of_none h1 h2 h3 h4 h5 h6]; simp
theorem b7S f n (hn2 : f.subs.length ≤ 2000000) (htx : lT f.subs ≤ 3000000) I (hr : jU uT I f.subs f.sv) : jO Tryz.prog 68 [.agg (nY f).toArray, str n] I [] (fun e I' H' => ∃ w, e = .returned w ∧ jU DI I' (Ix.WW f n) w ∧ H' = []) := by
 obtain ⟨p2, c2, hsv, hc2, hp2⟩ := id hr
 refine jT func68 fun w0 hw0 => ?_
 refine jL 3 ?_
 intro b1 hb1
 refine jL 8 ?_
 refine Cj.join (ι := Heap × Gs) (fun y => kZ w0.heap.size 2 (Ix.WW f n).length ((Ix.WW f n).flatMap DI) y.2) (fun y => [(5, gV (Ix.WW f n).length y.2)]) (fun y => y.1) (fun y => (b1, jM 108 (nY f)) :: gH 62 ((Ix.WW f n).flatMap DI) y.2) ?_ (fun hcut => ?_)
 ·rintro ⟨J9, g⟩ hg
  dsimp only at hg ⊢
  refine jL 7 ?_
  refine Ej.keep (Keeps.d Keeps.r) ?_
  refine Ej.perm (H' := gH 62 (List.flatMap DI (Ix.WW f n)) g ++ []) (.of_eq (List.append_nil _)) ?_
  refine Ej.keepR sQ (by decide) hg rfl (fun I8 hle8 hw8 => ?_)
  refine jW ?_
  exact ⟨_, rfl, hw8, rfl⟩
 refine jR (fun hc2 hc2p => ?_) (fun hc2 hc2p => ?_)
 ·have hn : n = Ix.rM := lQ hc2
  refine jL 5 ?_
  refine Cj.join (ι := Unit) (fun _y => True) (fun _y => [(1, str n), (2, ptr b1 0), (5, .slice none 0 0), (6, i64 (Ix.wF f : Nat))]) (fun _y => I) (fun _y => [(b1, jM 108 (nY f))]) ?_ (fun hcut => ?_)
  ·rintro _ -
   refine Cj.join (ι := Bool) (fun y => (y = true → f.tag = [50, 52, 53] ∨ f.tag = [50, 52, 54]) ∧ (y = false → ¬ (f.tag = [50, 52, 53] ∨ f.tag = [50, 52, 54]))) (fun y => [(1, str n), (2, ptr b1 0), (5, .slice none 0 0), (6, i64 (Ix.wF f : Nat)), (51, .bool y)]) (fun y => I) (fun y => [(b1, jM 108 (nY f))]) ?_ (fun hcut => ?_)
   ·rintro y ⟨hy1, hy2⟩
    refine mQ (fun hc3 => ?_) (fun hc3 => ?_)
    ·have htt := hy1 hc3
     refine kC (XK f [97, 98] (by decide) hn2 htx _ hr) ?_
     refine J.z q1 ?_
     refine J.z (jX (pl := #[(0, 1), (1, 1)]) rfl rfl uQ rfl QF (fun w => by simp [oJ, kY]) (pU.part rfl rfl rfl (nV.c nV.z) (pU.part rfl rfl rfl (nV.s (nV.c nV.z)) pU.none))) ?_
     refine J.op rfl (q6 tX CQ uQ (xG.agg rfl xG.none) ?_)
     intro b4 hb4
     refine J.op rfl (kK (by' := 23) (n := 0) (g := none) (xs := []) [_, _] rfl rfl rfl rfl rfl tX (.inr ⟨_, tX⟩) (by kernel_rfl) CQ uQ rfl ⟨rfl, rfl⟩ rfl (Src.slice (jV.at 0 rfl) rfl rfl rfl) (by omega) ?_)
     intro g5 hg5
     refine jL 3 ?_
     refine Ej.keep (Keeps.d (Keeps.k Keeps.r)) ?_
     exact hcut (_, g5) _ _ _ (by rw [show Ix.WW f n = [(Ke.textOf f [97, 98], Ix.wF f)] from (wX hn).trans (if_pos htt)]; exact hg5) ⟨(by rw [show Ix.WW f n = [(Ke.textOf f [97, 98], Ix.wF f)] from (wX hn).trans (if_pos htt)] <;> rfl), trivial⟩ rfl (by rw [show Ix.WW f n = [(Ke.textOf f [97, 98], Ix.wF f)] from (wX hn).trans (if_pos htt)] <;> rfl)
    have htt := hy2 hc3
    refine jL 2 ?_
    exact hcut (_, none) _ _ _ (by rw [show Ix.WW f n = [] from (wX hn).trans (if_neg htt)]; exact ⟨rfl, rfl⟩) ⟨(by rw [show Ix.WW f n = [] from (wX hn).trans (if_neg htt)] <;> rfl), trivial⟩ rfl (by rw [show Ix.WW f n = [] from (wX hn).trans (if_neg htt)] <;> rfl)
   refine mP (fun hg6 hg6p => ?_) (fun hg6 hg6p => ?_)
   ·have h45 : f.tag = [50, 52, 53] := lQ hg6
    refine jL 5 ?_
    exact hcut _ _ _ _ ⟨fun h => by simp_all, fun h => by simp_all⟩ ⟨rfl, rfl, rfl, rfl, rfl, trivial⟩ rfl rfl
   have h45 : f.tag ≠ [50, 52, 53] := lW hg6
   refine jL 5 ?_
   exact hcut _ _ _ _ ⟨fun h => by simp_all, fun h => by simp_all⟩ ⟨rfl, rfl, rfl, rfl, rfl, trivial⟩ rfl rfl
  refine mP (fun hg7 hg7p => ?_) (fun hg7 hg7p => ?_)
  ·have h45 : f.tag = [50, 52, 53] := lQ hg7
   refine mP (fun hg8 hg8p => ?_) (fun hg8 hg8p => ?_)
   ·have hl1 : 1 < f.ind.length := by have h := lY hg8; omega
    obtain ⟨c, hget⟩ : ∃ c, f.ind[1]? = some c := ⟨_, kV hl1⟩
    have hcl := c.toNat_lt
    refine jL 2 ?_
    refine J.zg (lD rfl rfl rfl lJ (by decide) hget) ?_
    refine mP (fun hg9 hg9p => ?_) (fun hg9 hg9p => ?_)
    ·have h48 : 48 ≤ c.toNat := by have h := lY hg9; omega
     refine jL 2 ?_
     refine J.zg (lD rfl rfl rfl lJ (by decide) hget) ?_
     refine jR (fun hc10 hc10p => ?_) (fun hc10 hc10p => ?_)
     ·have h57 : c.toNat ≤ 57 := by have h := lY hc10; omega
      have hdg : Ke.digit c = true := by rw [Ix.wZ]; simp only [decide_eq_true_eq]; omega
      refine jL 3 ?_
      refine J.z (lD rfl rfl rfl lJ (by decide) hget) ?_
      refine J.z (MZ rfl rfl rfl (w8 (by omega))) ?_
      refine jL 1 ?_
      refine J.ev 43 (i64 ((c.toNat - 48 : Nat) : Int)) rfl (congrArg i64 ((tV (by omega)).trans (by omega))) ?_
      refine jL 2 ?_
      exact hcut () _ _ _ trivial ⟨rfl, rfl, rfl, (congrArg (fun n : Nat => some (i64 (n : Int))) (((if_pos h45).trans ((AX hget).trans (if_pos hdg)) : Ix.wF f = c.toNat - 48)).symm), trivial⟩ rfl rfl
     have hdg : ¬ Ke.digit c = true := by rw [Ix.wZ]; have h := nD hc10; simp only [decide_eq_true_eq]; omega
     refine jL 1 ?_
     exact hcut () _ _ _ trivial ⟨rfl, rfl, rfl, (congrArg (fun n : Nat => some (i64 (n : Int))) (((if_pos h45).trans ((AX hget).trans (if_neg hdg)) : Ix.wF f = 0)).symm), trivial⟩ rfl rfl
    have hdg : ¬ Ke.digit c = true := by rw [Ix.wZ]; have h := nD hg9; simp only [decide_eq_true_eq]; omega
    refine jL 9 ?_
    exact hcut () _ _ _ trivial ⟨rfl, rfl, rfl, (congrArg (fun n : Nat => some (i64 (n : Int))) (((if_pos h45).trans ((AX hget).trans (if_neg hdg)) : Ix.wF f = 0)).symm), trivial⟩ rfl rfl
   have hl1 : ¬ 1 < f.ind.length := by have h := nD hg8; omega
   refine jL 15 ?_
   exact hcut () _ _ _ trivial ⟨rfl, rfl, rfl, (congrArg (fun n : Nat => some (i64 (n : Int))) (((if_pos h45).trans (a7n hl1) : Ix.wF f = 0)).symm), trivial⟩ rfl rfl
  have h45 : f.tag ≠ [50, 52, 53] := lW hg7
  refine jL 21 ?_
  exact hcut () _ _ _ trivial ⟨rfl, rfl, rfl, (congrArg (fun n : Nat => some (i64 (n : Int))) ((if_neg h45 : Ix.wF f = 0)).symm), trivial⟩ rfl rfl
 have nn16 : n ≠ Ix.rM := lW hc2
 refine jR (fun hc14 hc14p => ?_) (fun hc14 hc14p => ?_)
 ·have hn : n = Ix.rF := lQ hc14
  refine Cj.join (ι := Bool) (fun y => (y = true → f.tag = [49, 48, 48] ∨ f.tag = [49, 49, 48] ∨ f.tag = [55, 48, 48]) ∧ (y = false → ¬ (f.tag = [49, 48, 48] ∨ f.tag = [49, 49, 48] ∨ f.tag = [55, 48, 48]))) (fun y => [(1, str n), (2, ptr b1 0), (5, .slice none 0 0), (73, .bool y)]) (fun y => I) (fun y => [(b1, jM 108 (nY f))]) ?_ (fun hcut => ?_)
  ·rintro y ⟨hy1, hy2⟩
   refine mQ (fun hc15 => ?_) (fun hc15 => ?_)
   ·have htt := hy1 hc15
    refine kC (XK f [97] (by decide) hn2 htx _ hr) ?_
    refine J.z (jX (pl := #[(0, 1), (1, 1)]) rfl rfl uQ rfl QF (fun w => by simp [oJ, kY]) (pU.part rfl rfl rfl (nV.c nV.z) pU.none)) ?_
    refine J.op rfl (q6 tX CQ uQ (xG.agg rfl xG.none) ?_)
    intro b16 hb16
    refine J.op rfl (kK (by' := 23) (n := 0) (g := none) (xs := []) [_, _] rfl rfl rfl rfl rfl tX (.inr ⟨_, tX⟩) (by kernel_rfl) CQ uQ rfl ⟨rfl, rfl⟩ rfl (Src.slice (jV.at 0 rfl) rfl rfl rfl) (by omega) ?_)
    intro g17 hg17
    refine jL 3 ?_
    refine Ej.keep (Keeps.d (Keeps.k Keeps.r)) ?_
    exact hcut (_, g17) _ _ _ (by rw [show Ix.WW f n = [(Ke.textOf f [97], 0)] from (uK hn).trans (if_pos htt)]; exact hg17) ⟨(by rw [show Ix.WW f n = [(Ke.textOf f [97], 0)] from (uK hn).trans (if_pos htt)] <;> rfl), trivial⟩ rfl (by rw [show Ix.WW f n = [(Ke.textOf f [97], 0)] from (uK hn).trans (if_pos htt)] <;> rfl)
   have htt := hy2 hc15
   refine jL 2 ?_
   exact hcut (_, none) _ _ _ (by rw [show Ix.WW f n = [] from (uK hn).trans (if_neg htt)]; exact ⟨rfl, rfl⟩) ⟨(by rw [show Ix.WW f n = [] from (uK hn).trans (if_neg htt)] <;> rfl), trivial⟩ rfl (by rw [show Ix.WW f n = [] from (uK hn).trans (if_neg htt)] <;> rfl)
  refine mP (fun hg18 hg18p => ?_) (fun hg18 hg18p => ?_)
  ·have h100 : f.tag = [49, 48, 48] := lQ hg18
   refine jL 10 ?_
   exact hcut _ _ _ _ ⟨fun h => by simp_all, fun h => by simp_all⟩ ⟨rfl, rfl, rfl, rfl, trivial⟩ rfl rfl
  have h100 : f.tag ≠ [49, 48, 48] := lW hg18
  refine mP (fun hg19 hg19p => ?_) (fun hg19 hg19p => ?_)
  ·have h110 : f.tag = [49, 49, 48] := lQ hg19
   refine jL 5 ?_
   exact hcut _ _ _ _ ⟨fun h => by simp_all, fun h => by simp_all⟩ ⟨rfl, rfl, rfl, rfl, trivial⟩ rfl rfl
  have h110 : f.tag ≠ [49, 49, 48] := lW hg19
  refine jL 5 ?_
  exact hcut _ _ _ _ ⟨fun h => by simp_all, fun h => by simp_all⟩ ⟨rfl, rfl, rfl, rfl, trivial⟩ rfl rfl
 have nn59 : n ≠ Ix.rF := lW hc14
 refine jR (fun hc20 hc20p => ?_) (fun hc20 hc20p => ?_)
 ·have hn : n = Ix.rO := lQ hc20
  refine Cj.join (ι := Bool) (fun y => (y = true → f.tag = [54, 48, 48] ∨ f.tag = [54, 53, 48]) ∧ (y = false → ¬ (f.tag = [54, 48, 48] ∨ f.tag = [54, 53, 48]))) (fun y => [(1, str n), (2, ptr b1 0), (5, .slice none 0 0), (89, .bool y)]) (fun y => I) (fun y => [(b1, jM 108 (nY f))]) ?_ (fun hcut => ?_)
  ·rintro y ⟨hy1, hy2⟩
   refine mQ (fun hc21 => ?_) (fun hc21 => ?_)
   ·have htt := hy1 hc21
    refine kC (XK f [97, 120] (by decide) hn2 htx _ hr) ?_
    refine J.z (jX (pl := #[(0, 1), (1, 1)]) rfl rfl uQ rfl QF (fun w => by simp [oJ, kY]) (pU.part rfl rfl rfl (nV.c nV.z) pU.none)) ?_
    refine J.op rfl (q6 tX CQ uQ (xG.agg rfl xG.none) ?_)
    intro b22 hb22
    refine J.op rfl (kK (by' := 23) (n := 0) (g := none) (xs := []) [_, _] rfl rfl rfl rfl rfl tX (.inr ⟨_, tX⟩) (by kernel_rfl) CQ uQ rfl ⟨rfl, rfl⟩ rfl (Src.slice (jV.at 0 rfl) rfl rfl rfl) (by omega) ?_)
    intro g23 hg23
    refine jL 3 ?_
    refine Ej.keep (Keeps.d (Keeps.k Keeps.r)) ?_
    exact hcut (_, g23) _ _ _ (by rw [show Ix.WW f n = [(Ke.textOf f [97, 120], 0)] from (sG hn).trans (if_pos htt)]; exact hg23) ⟨(by rw [show Ix.WW f n = [(Ke.textOf f [97, 120], 0)] from (sG hn).trans (if_pos htt)] <;> rfl), trivial⟩ rfl (by rw [show Ix.WW f n = [(Ke.textOf f [97, 120], 0)] from (sG hn).trans (if_pos htt)] <;> rfl)
   have htt := hy2 hc21
   refine jL 2 ?_
   exact hcut (_, none) _ _ _ (by rw [show Ix.WW f n = [] from (sG hn).trans (if_neg htt)]; exact ⟨rfl, rfl⟩) ⟨(by rw [show Ix.WW f n = [] from (sG hn).trans (if_neg htt)] <;> rfl), trivial⟩ rfl (by rw [show Ix.WW f n = [] from (sG hn).trans (if_neg htt)] <;> rfl)
  refine mP (fun hg24 hg24p => ?_) (fun hg24 hg24p => ?_)
  ·have h600 : f.tag = [54, 48, 48] := lQ hg24
   refine jL 5 ?_
   exact hcut _ _ _ _ ⟨fun h => by simp_all, fun h => by simp_all⟩ ⟨rfl, rfl, rfl, rfl, trivial⟩ rfl rfl
  have h600 : f.tag ≠ [54, 48, 48] := lW hg24
  refine jL 5 ?_
  exact hcut _ _ _ _ ⟨fun h => by simp_all, fun h => by simp_all⟩ ⟨rfl, rfl, rfl, rfl, trivial⟩ rfl rfl
 have nn80 : n ≠ Ix.rO := lW hc20
 refine jR (fun hc25 hc25p => ?_) (fun hc25 hc25p => ?_)
 ·have hn : n = Ix.uX := lQ hc25
  refine jL 6 ?_
  refine Cj.loop (ι := Nat × Gs) (fun y => y.1 ≤ f.subs.length ∧ (y.1 = 0 ∨ f.tag = [48, 50, 48]) ∧ kZ w0.heap.size 2 (qK Ke.EX 97 (f.subs.take y.1)).length ((qK Ke.EX 97 (f.subs.take y.1)).flatMap DI) y.2) (fun y => f.subs.length - y.1) (fun y => [(1, str n), (2, ptr b1 0), (5, gV (qK Ke.EX 97 (f.subs.take y.1)).length y.2), (7, i64 (y.1 : Int))]) (fun y => _) (fun y => (b1, jM 108 (nY f)) :: gH 62 ((qK Ke.EX 97 (f.subs.take y.1)).flatMap DI) y.2) (0, none) ⟨Nat.zero_le _, .inl rfl, rfl, rfl⟩ ⟨rfl, rfl, rfl, rfl, trivial⟩ rfl rfl ?_
  rintro ⟨j, g⟩ ⟨hj, hj0, hg⟩
  dsimp only at hj hj0 hg ⊢
  have hpl := UN Ke.EX 97 (f.subs.take j)
  rw [List.length_take, Nat.min_eq_left hj] at hpl
  refine jL 6 ?_
  refine J.ev 100 (.slice p2 f.subs.length c2) rfl hsv ?_
  refine mP (fun hg26 hg26p => ?_) (fun hg26 hg26p => ?_)
  ·have hlt : j < f.subs.length := by omega
   obtain ⟨sb, hsget⟩ : ∃ x, f.subs[j]? = some x := ⟨_, kV hlt⟩
   obtain ⟨sbk, so, scs, sty, sfr, sp2, rfl, hsbk, hsd⟩ := hp2 (jS hlt)
   have hxl := XW (lV hsget)
   have hnx := a3J (u := Ke.EX) (c := 97) hsget
   refine jR (fun hc27 hc27p => ?_) (fun hc27 hc27p => ?_)
   ·have htg : f.tag = [48, 50, 48] := lQ hc27
    refine jL 8 ?_
    refine J.ev 112 (.slice (some ⟨sbk, so, none⟩) f.subs.length c2) rfl hsv ?_
    refine kG (so + j * 2) ?_
    refine J.z (q2 (off' := so + j * 2 + 1) NT kY) ?_
    refine J.z (jP rfl rfl lN (jV.BU hsbk) (lK qO hsd hsget 1 (by decide))) ?_
    refine kC (a3V sb.text (by omega) _) ?_
    refine pR (fun hg28 => ?_) (fun hg28 => ?_)
    ·have hok : (Ke.EX sb.text).2 = true := hg28
     refine jL 2 ?_
     refine J.ev 123 (.slice (some ⟨sbk, so, none⟩) f.subs.length c2) rfl hsv ?_
     refine jL 1 ?_
     refine J.zg (q7 (off' := so + j * 2) KT KX) ?_
     refine jL 1 ?_
     refine J.zg (jP rfl rfl tA5 (jV.BU hsbk) (lK qO hsd hsget 0 (by decide))) ?_
     refine jR (fun hc29 hc29p => ?_) (fun hc29 hc29p => ?_)
     ·have hcd : sb.code = 97 := UInt8.toNat_inj.1 (by have h := lQ hc29; show sb.code.toNat = 97; omega)
      rw [if_pos ⟨hok, hcd⟩] at hnx
      refine Cj.region (J.z q1 ?_)
      refine J.z q1 ?_
      refine J.z (jX (pl := #[(0, 1), (1, 1)]) rfl rfl uQ rfl QF (fun w => by simp [oJ, kY]) (pU.part rfl rfl rfl (nV.c nV.z) pU.none)) ?_
      refine J.op rfl (q6 tX CQ uQ (xG.agg rfl xG.none) ?_)
      intro b30 hb30
      refine J.op rfl (kK (by' := 23) [_, _] rfl rfl rfl rfl rfl tX (.inr ⟨_, tX⟩) (by kernel_rfl) CQ uQ rfl hg rfl (Src.slice (jV.at 0 rfl) rfl rfl rfl) (by omega) ?_)
      intro g31 hg31
      refine jL 9 ?_
      refine Ej.keep (Keeps.d (Keeps.k Keeps.r)) ?_
      refine Ej.round (j + 1, g31) ⟨by dsimp only; omega, .inr htg, by dsimp only; rw [hnx, List.length_append, List.flatMap_append]; exact hg31⟩ (by dsimp only; omega) ⟨rfl, rfl, by dsimp only; rw [hnx, List.length_append]; rfl, rfl, trivial⟩ rfl (by dsimp only; rw [hnx, List.flatMap_append]; rfl)
     rw [if_neg (fun g => lW hc29 (by rw [g.2]; rfl))] at hnx
     refine jL 8 ?_
     refine Ej.round (j + 1, g) ⟨by dsimp only; omega, .inr htg, by dsimp only; rw [hnx, List.append_nil]; exact hg⟩ (by dsimp only; omega) ⟨rfl, rfl, by dsimp only; rw [hnx, List.append_nil]; rfl, rfl, trivial⟩ rfl (by dsimp only; rw [hnx, List.append_nil])
    rw [if_neg (fun g => Bool.noConfusion (g.1.symm.trans hg28))] at hnx
    refine jL 19 ?_
    refine Ej.round (j + 1, g) ⟨by dsimp only; omega, .inr htg, by dsimp only; rw [hnx, List.append_nil]; exact hg⟩ (by dsimp only; omega) ⟨rfl, rfl, by dsimp only; rw [hnx, List.append_nil]; rfl, rfl, trivial⟩ rfl (by dsimp only; rw [hnx, List.append_nil])
   have htn : f.tag ≠ [48, 50, 48] := lW hc27
   refine jL 5 ?_
   exact hcut (_, g) _ _ _ (by rw [show Ix.WW f n = qK Ke.EX 97 (f.subs.take j) from (zY hn).trans (VD hj0 htn)]; exact hg) ⟨(by rw [show Ix.WW f n = qK Ke.EX 97 (f.subs.take j) from (zY hn).trans (VD hj0 htn)] <;> rfl), trivial⟩ rfl (by rw [show Ix.WW f n = qK Ke.EX 97 (f.subs.take j) from (zY hn).trans (VD hj0 htn)] <;> rfl)
  refine jL 12 ?_
  exact hcut (_, g) _ _ _ (by rw [show Ix.WW f n = qK Ke.EX 97 (f.subs.take j) from (zY hn).trans (MP hj0 (by omega))]; exact hg) ⟨(by rw [show Ix.WW f n = qK Ke.EX 97 (f.subs.take j) from (zY hn).trans (MP hj0 (by omega))] <;> rfl), trivial⟩ rfl (by rw [show Ix.WW f n = qK Ke.EX 97 (f.subs.take j) from (zY hn).trans (MP hj0 (by omega))] <;> rfl)
 have nn96 : n ≠ Ix.uX := lW hc25
 refine jR (fun hc34 hc34p => ?_) (fun hc34 hc34p => ?_)
 ·have hn : n = Ix.KG := lQ hc34
  refine jL 6 ?_
  refine Cj.loop (ι := Nat × Gs) (fun y => y.1 ≤ f.subs.length ∧ (y.1 = 0 ∨ f.tag = [50, 54, 48]) ∧ kZ w0.heap.size 2 (qK uy 99 (f.subs.take y.1)).length ((qK uy 99 (f.subs.take y.1)).flatMap DI) y.2) (fun y => f.subs.length - y.1) (fun y => [(1, str n), (2, ptr b1 0), (5, gV (qK uy 99 (f.subs.take y.1)).length y.2), (10, i64 (y.1 : Int))]) (fun y => _) (fun y => (b1, jM 108 (nY f)) :: gH 62 ((qK uy 99 (f.subs.take y.1)).flatMap DI) y.2) (0, none) ⟨Nat.zero_le _, .inl rfl, rfl, rfl⟩ ⟨rfl, rfl, rfl, rfl, trivial⟩ rfl rfl ?_
  rintro ⟨j, g⟩ ⟨hj, hj0, hg⟩
  dsimp only at hj hj0 hg ⊢
  have hpl := UN uy 99 (f.subs.take j)
  rw [List.length_take, Nat.min_eq_left hj] at hpl
  refine jL 6 ?_
  refine J.ev 139 (.slice p2 f.subs.length c2) rfl hsv ?_
  refine mP (fun hg35 hg35p => ?_) (fun hg35 hg35p => ?_)
  ·have hlt : j < f.subs.length := by omega
   obtain ⟨sb, hsget⟩ : ∃ x, f.subs[j]? = some x := ⟨_, kV hlt⟩
   obtain ⟨sbk, so, scs, sty, sfr, sp2, rfl, hsbk, hsd⟩ := hp2 (jS hlt)
   have hxl := XW (lV hsget)
   have hnx := a3J (u := uy) (c := 99) hsget
   refine jR (fun hc36 hc36p => ?_) (fun hc36 hc36p => ?_)
   ·have htg : f.tag = [50, 54, 48] := lQ hc36
    refine jL 8 ?_
    refine J.ev 151 (.slice (some ⟨sbk, so, none⟩) f.subs.length c2) rfl hsv ?_
    refine kG (so + j * 2) ?_
    refine J.z (q2 (off' := so + j * 2 + 1) NT kY) ?_
    refine J.z (jP rfl rfl lN (jV.BU hsbk) (lK qO hsd hsget 1 (by decide))) ?_
    refine kC (b3K sb.text (by omega) _) ?_
    refine pR (fun hg37 => ?_) (fun hg37 => ?_)
    ·have hok : (uy sb.text).2 = true := hg37
     refine jL 2 ?_
     refine J.ev 162 (.slice (some ⟨sbk, so, none⟩) f.subs.length c2) rfl hsv ?_
     refine jL 1 ?_
     refine J.zg (q7 (off' := so + j * 2) KT KX) ?_
     refine jL 1 ?_
     refine J.zg (jP rfl rfl tA5 (jV.BU hsbk) (lK qO hsd hsget 0 (by decide))) ?_
     refine jR (fun hc38 hc38p => ?_) (fun hc38 hc38p => ?_)
     ·have hcd : sb.code = 99 := UInt8.toNat_inj.1 (by have h := lQ hc38; show sb.code.toNat = 99; omega)
      rw [if_pos ⟨hok, hcd⟩] at hnx
      refine Cj.region (J.z q1 ?_)
      refine J.z q1 ?_
      refine J.z (jX (pl := #[(0, 1), (1, 1)]) rfl rfl uQ rfl QF (fun w => by simp [oJ, kY]) (pU.part rfl rfl rfl (nV.c nV.z) pU.none)) ?_
      refine J.op rfl (q6 tX CQ uQ (xG.agg rfl xG.none) ?_)
      intro b39 hb39
      refine J.op rfl (kK (by' := 23) [_, _] rfl rfl rfl rfl rfl tX (.inr ⟨_, tX⟩) (by kernel_rfl) CQ uQ rfl hg rfl (Src.slice (jV.at 0 rfl) rfl rfl rfl) (by omega) ?_)
      intro g40 hg40
      refine jL 9 ?_
      refine Ej.keep (Keeps.d (Keeps.k Keeps.r)) ?_
      refine Ej.round (j + 1, g40) ⟨by dsimp only; omega, .inr htg, by dsimp only; rw [hnx, List.length_append, List.flatMap_append]; exact hg40⟩ (by dsimp only; omega) ⟨rfl, rfl, by dsimp only; rw [hnx, List.length_append]; rfl, rfl, trivial⟩ rfl (by dsimp only; rw [hnx, List.flatMap_append]; rfl)
     rw [if_neg (fun g => lW hc38 (by rw [g.2]; rfl))] at hnx
     refine jL 8 ?_
     refine Ej.round (j + 1, g) ⟨by dsimp only; omega, .inr htg, by dsimp only; rw [hnx, List.append_nil]; exact hg⟩ (by dsimp only; omega) ⟨rfl, rfl, by dsimp only; rw [hnx, List.append_nil]; rfl, rfl, trivial⟩ rfl (by dsimp only; rw [hnx, List.append_nil])
    rw [if_neg (fun g => Bool.noConfusion (g.1.symm.trans hg37))] at hnx
    refine jL 19 ?_
    refine Ej.round (j + 1, g) ⟨by dsimp only; omega, .inr htg, by dsimp only; rw [hnx, List.append_nil]; exact hg⟩ (by dsimp only; omega) ⟨rfl, rfl, by dsimp only; rw [hnx, List.append_nil]; rfl, rfl, trivial⟩ rfl (by dsimp only; rw [hnx, List.append_nil])
   have htn : f.tag ≠ [50, 54, 48] := lW hc36
   refine jL 5 ?_
   exact hcut (_, g) _ _ _ (by rw [show Ix.WW f n = qK uy 99 (f.subs.take j) from (zZ hn).trans (VD hj0 htn)]; exact hg) ⟨(by rw [show Ix.WW f n = qK uy 99 (f.subs.take j) from (zZ hn).trans (VD hj0 htn)] <;> rfl), trivial⟩ rfl (by rw [show Ix.WW f n = qK uy 99 (f.subs.take j) from (zZ hn).trans (VD hj0 htn)] <;> rfl)
  refine jL 12 ?_
  exact hcut (_, g) _ _ _ (by rw [show Ix.WW f n = qK uy 99 (f.subs.take j) from (zZ hn).trans (MP hj0 (by omega))]; exact hg) ⟨(by rw [show Ix.WW f n = qK uy 99 (f.subs.take j) from (zZ hn).trans (MP hj0 (by omega))] <;> rfl), trivial⟩ rfl (by rw [show Ix.WW f n = qK uy 99 (f.subs.take j) from (zZ hn).trans (MP hj0 (by omega))] <;> rfl)
 have nn135 : n ≠ Ix.KG := lW hc34
 refine jR (fun hc43 hc43p => ?_) (fun hc43 hc43p => ?_)
 ·have hn : n = Ix.wP := lQ hc43
  refine kC (ZP f.tag [48, 48] (by decide) _) ?_
  refine kC (ZP f.tag [57] (by decide) _) ?_
  refine pR (fun hg44 => ?_) (fun hg44 => ?_)
  ·have h00 : ([48, 48] : List UInt8).isPrefixOf f.tag = false := by have h := hg44; simpa using h
   refine mQ (fun hc45 => ?_) (fun hc45 => ?_)
   ·have hany : Ix.zJ f = true := by have h := hc45; unfold Ix.zJ; rw [h00, h]; rfl
    refine kC (a6r f hn2 htx _ hr) ?_
    refine J.z (jX (pl := #[(0, 1), (1, 1)]) rfl rfl uQ rfl QF (fun w => by simp [oJ, kY]) (pU.part rfl rfl rfl (nV.c nV.z) pU.none)) ?_
    refine J.op rfl (q6 tX CQ uQ (xG.agg rfl xG.none) ?_)
    intro b46 hb46
    refine J.op rfl (kK (by' := 23) (n := 0) (g := none) (xs := []) [_, _] rfl rfl rfl rfl rfl tX (.inr ⟨_, tX⟩) (by kernel_rfl) CQ uQ rfl ⟨rfl, rfl⟩ rfl (Src.slice (jV.at 0 rfl) rfl rfl rfl) (by omega) ?_)
    intro g47 hg47
    refine jL 3 ?_
    refine Ej.keep (Keeps.d (Keeps.k Keeps.r)) ?_
    exact hcut (_, g47) _ _ _ (by rw [show Ix.WW f n = [(Ix.vS f, 0)] from (wJ hn).trans (if_pos hany)]; exact hg47) ⟨(by rw [show Ix.WW f n = [(Ix.vS f, 0)] from (wJ hn).trans (if_pos hany)] <;> rfl), trivial⟩ rfl (by rw [show Ix.WW f n = [(Ix.vS f, 0)] from (wJ hn).trans (if_pos hany)] <;> rfl)
   have hany : ¬ Ix.zJ f = true := by have h := hc45; unfold Ix.zJ; rw [h00, h]; simp
   refine jL 2 ?_
   exact hcut (_, none) _ _ _ (by rw [show Ix.WW f n = [] from (wJ hn).trans (if_neg hany)]; exact ⟨rfl, rfl⟩) ⟨(by rw [show Ix.WW f n = [] from (wJ hn).trans (if_neg hany)] <;> rfl), trivial⟩ rfl (by rw [show Ix.WW f n = [] from (wJ hn).trans (if_neg hany)] <;> rfl)
  have hany : ¬ Ix.zJ f = true := by have h := hg44; unfold Ix.zJ; simp only [Bool.not_eq_false'] at h; rw [h]; simp
  refine jL 8 ?_
  exact hcut (_, none) _ _ _ (by rw [show Ix.WW f n = [] from (wJ hn).trans (if_neg hany)]; exact ⟨rfl, rfl⟩) ⟨(by rw [show Ix.WW f n = [] from (wJ hn).trans (if_neg hany)] <;> rfl), trivial⟩ rfl (by rw [show Ix.WW f n = [] from (wJ hn).trans (if_neg hany)] <;> rfl)
 have hn : n ≠ Ix.wP := lW hc43
 refine jL 2 ?_
 exact hcut (_, none) _ _ _ (by rw [show Ix.WW f n = [] from of_none nn16 nn59 nn80 nn96 nn135 hn]; exact ⟨rfl, rfl⟩) ⟨(by rw [show Ix.WW f n = [] from of_none nn16 nn59 nn80 nn96 nn135 hn] <;> rfl), trivial⟩ rfl (by rw [show Ix.WW f n = [] from of_none nn16 nn59 nn80 nn96 nn135 hn] <;> rfl)
theorem a9f {fs : List Ke.tC} {j f} n (h : fs[j]? = some f) : Ix.valsN (fs.take (j + 1)) n = Ix.valsN (fs.take j) n ++ Ix.WW f n := by
  obtain ⟨hlt, hg⟩ := List.getElem?_eq_some_iff.1 h
  rw [List.take_succ_eq_append_getElem hlt, hg]
  unfold Ix.valsN
  rw [List.flatMap_append]; simp
theorem wH n : ∀ (fs : List Ke.tC), (∀ f ∈ fs, f.subs.length ≤ 1000) → (Ix.valsN fs n).length ≤ fs.length * 1000
  | [], _ => by simp [Ix.valsN]
  | f :: r, h => by
    have h1 := wH n r fun x hx => h x (.tail _ hx)
    have h2 := a7j f n (h f (.head _))
    unfold Ix.valsN at h1 ⊢
    rw [List.flatMap_cons, List.length_append, List.length_cons, Nat.add_mul]; omega
theorem GR fs v rk rl n (hok : yE fs) I (hr0 : yJ I fs v) : jO Tryz.prog 25 [a0Z rk rl v, str n] I [] (fun e I' H' => ∃ w, e = .returned w ∧ jU DI I' (Ix.valsN fs n) w ∧ H' = []) := by
 have hfs := hok.1
 obtain ⟨p, c, rfl, hc, -⟩ := id hr0.1
 refine jT func25 fun w0 hw0 => ?_
 refine jL 3 ?_
 intro b1 hb1
 refine jL 15 ?_
 refine Cj.loop (ι := Nat × Heap × Gs) (fun y => y.1 ≤ fs.length ∧ Le I y.2.1 ∧ kZ w0.heap.size 2 (Ix.valsN (fs.take y.1) n).length ((Ix.valsN (fs.take y.1) n).flatMap DI) y.2.2) (fun y => fs.length - y.1) (fun y => [(1, str n), (2, ptr b1 0), (5, gV (Ix.valsN (fs.take y.1) n).length y.2.2), (6, i64 (y.1 : Int))]) (fun y => y.2.1) (fun y => (b1, jM 57 [u8 rk, u8 rl, .slice p fs.length c]) :: gH 62 ((Ix.valsN (fs.take y.1) n).flatMap DI) y.2.2) (0, _, none) ⟨Nat.zero_le _, Le.refl _, rfl, rfl⟩ ⟨rfl, rfl, rfl, rfl, trivial⟩ rfl rfl ?_
 rintro ⟨j, J1, g⟩ ⟨hj, hIJ, hg⟩
 dsimp only at hj hIJ hg ⊢
 have hr := hr0.mono hIJ
 have hvl := wH n (fs.take j) fun f hf => (hok.2 f (List.mem_of_mem_take hf)).1
 rw [List.length_take, Nat.min_eq_left hj] at hvl
 refine jR (fun hc2 hc2p => ?_) (fun hc2 hc2p => ?_)
 ·refine jL 4 ?_
  have hlt : j < fs.length := by omega
  obtain ⟨f, hget⟩ : ∃ f, fs[j]? = some f := ⟨_, kV hlt⟩
  have hfk := hok.2 f (lV hget)
  have hnx := a9f n hget
  have hofl := a7j f n hfk.1
  obtain ⟨⟨p1, c1, hpe, hc1, hp⟩, hsub⟩ := id hr
  cases hpe
  obtain ⟨fb, fo, fcs, fty, ffr, sp, rfl, hfb, hfd⟩ := hp (jS hlt)
  have hsr := hsub f (lV hget)
  obtain ⟨p2, c2, hsv, hc2, hp2⟩ := id hsr
  refine kG (fo + j * 4) ?_
  refine J.z (q3 isAgg108 DW (jV.BU hfb) (kQ QD hfd hget)) ?_
  refine kH (b7S f n (by omega) hfk.2.1 _ hsr) ?_
  intro v3 I4 H5 hle6 hp7
  have hIJ := hIJ.mono hle6
  have hr := hr.mono hle6
  have hfb := hle6 _ _ hfb
  obtain ⟨vhof, h, hof, rfl⟩ := hp7; cases h
  refine J.op rfl (kK (by' := 23) [_] rfl rfl rfl rfl rfl tX (.inr ⟨_, tX⟩) (by kernel_rfl) CQ uQ rfl hg rfl (Src.row sQ hof (fun x _ => rfl)) (by omega) ?_)
  intro g8 hg8
  refine jL 9 ?_
  refine Ej.round (j + 1, _, g8) ⟨by dsimp only; omega, hIJ, by dsimp only; rw [hnx, List.length_append, List.flatMap_append]; exact hg8⟩ (by dsimp only; omega) ⟨rfl, rfl, by dsimp only; rw [hnx, List.length_append]; rfl, rfl, trivial⟩ rfl (by dsimp only; rw [hnx, List.flatMap_append]; rfl)
 refine jL 12 ?_
 refine Ej.keep (Keeps.d Keeps.r) ?_
 have hfull : fs.take j = fs := List.take_of_length_le (by omega)
 rw [hfull] at hg ⊢
 refine Ej.perm (H' := gH 62 ((Ix.valsN fs n).flatMap DI) g ++ []) (.of_eq (List.append_nil _)) ?_
 refine Ej.keepR sQ (by decide) hg rfl (fun I8 hle8 hw8 => ?_)
 refine jW ?_
 exact ⟨_, rfl, hw8, rfl⟩
end Go.Proofs.YtekmeaoblpfnpaaGreatDoor
end
section
namespace Go.Proofs.YtekmeaoblpfnpaaGreatDoor
open _root_.Go.Proofs.Tryz
open Go Go.Sx
theorem b2V {α : Type} {a b : List α} {k x y} (h : a.take k = b.take k) (hx : a[k]? = some x) (hy : b[k]? = some y) (he : x = y) : a.take (k + 1) = b.take (k + 1) := by
  obtain ⟨h1, e1⟩ := List.getElem?_eq_some_iff.1 hx
  obtain ⟨h2, e2⟩ := List.getElem?_eq_some_iff.1 hy
  rw [List.take_succ_eq_append_getElem h1, List.take_succ_eq_append_getElem h2, h, e1, e2, he]
theorem b0t {l s k} (hl : Ke.Inc l) (h1 : ∀ x ∈ l.take k, x < s) (h2 : ∀ x, l[k]? = some x → ¬ x < s ∧ x ≠ s) : l.take k ++ [s] ++ l.drop k = Ke.put l s := by
  have hd : ∀ y ∈ l.drop k, s < y := by
    rcases Nat.lt_or_ge k l.length with g | g
    · have h3 := h2 l[k] (kV g)
      have h4 : s < l[k] := a4u h3.1 (Ne.symm h3.2)
      intro y hy
      rw [← List.getElem_cons_drop g] at hy
      rcases List.mem_cons.1 hy with e | e
      · rw [e]; exact h4
      refine List.lt_trans h4 ?_
      have h5 : (l.drop k).Pairwise (· < ·) := List.Pairwise.sublist (List.drop_sublist k l) hl
      rw [← List.getElem_cons_drop g] at h5
      exact (List.pairwise_cons.1 h5).1 y e
    intro y hy; rw [List.drop_eq_nil_of_le g] at hy; cases hy
  refine Ke.ZR ?_ (Ke.a7l s hl) fun x => ?_
  · unfold Ke.Inc
    rw [List.pairwise_append, List.pairwise_append]
    refine ⟨⟨List.Pairwise.sublist (List.take_sublist k l) hl, List.pairwise_singleton _ _, fun a ha b hb => ?_⟩, List.Pairwise.sublist (List.drop_sublist k l) hl, fun a ha b hb => ?_⟩
    · rw [List.mem_singleton.1 hb]; exact h1 a ha
    rcases List.mem_append.1 ha with g | g
    · exact List.lt_trans (h1 a g) (hd b hb)
    rw [List.mem_singleton.1 g]; exact hd b hb
  rw [Ke.put_mem]
  have h6 : x ∈ l ↔ x ∈ l.take k ∨ x ∈ l.drop k := by rw [← List.mem_append, List.take_append_drop]
  rw [h6, List.mem_append, List.mem_append, List.mem_singleton]
  constructor
  · rintro ((g | g) | g)
    · exact .inr (.inl g)
    · exact .inl g
    exact .inr (.inr g)
  rintro (g | g | g)
  · exact .inl (.inr g)
  · exact .inl (.inl g)
  exact .inr g
theorem b7k {l : List (List UInt8)} {s x k} (h : ∀ y ∈ l.take k, y < s) (hg : l[k]? = some x) (hx : x < s) : ∀ y ∈ l.take (k + 1), y < s := by
  obtain ⟨hlt, hg⟩ := List.getElem?_eq_some_iff.1 hg
  rw [List.take_succ_eq_append_getElem hlt, hg]
  intro y hy
  rcases List.mem_append.1 hy with g | g
  · exact h y g
  rw [List.mem_singleton.1 g]; exact hx
abbrev TU (s : List UInt8) : List Value := [str s]
theorem xC s : (TU s).length = 1 := rfl
theorem a1y a b s : ((([] : List Value) ++ a.flatMap TU) ++ [str s]) ++ b.flatMap TU = (a ++ [s] ++ b).flatMap TU := by simp
theorem PW a b va vb (hal : a.length ≤ 100000000000000) I (ha : jU recC I a va) (hb : jU recC I b vb) : Pure Tryz.prog 20 [va, vb] I (.bool (decide (a = b))) := by
 refine jO.toPure ?_
 obtain ⟨p1, c1, rfl, hc1, hp1⟩ := ha
 obtain ⟨p2, c2, rfl, hc2, hp2⟩ := hb
 refine jT func20 fun w0 hw0 => ?_
 refine jR (fun hc1 hc1p => ?_) (fun hc1 hc1p => ?_)
 ·have hln : a.length ≠ b.length := by have h := bne_iff_ne.1 hc1; omega
  refine jW ?_
  rw [decide_eq_false (fun e => hln (by rw [e]))]
  exact ⟨rfl, rfl⟩
 have hlen : a.length = b.length := by have h := sF hc1; omega
 refine jL 9 ?_
 refine Cj.loop (ι := Nat) (fun j => j ≤ a.length ∧ a.take j = b.take j) (fun j => a.length - j) (fun j => [(0, .slice p1 a.length c1), (1, .slice p2 b.length c2), (5, i64 (j : Int))]) (fun j => _) (fun j => []) 0 ⟨Nat.zero_le _, rfl⟩ ⟨rfl, rfl, rfl, trivial⟩ rfl rfl ?_
 rintro j ⟨hj, hall⟩
 refine jR (fun hc2 hc2p => ?_) (fun hc2 hc2p => ?_)
 ·have hlt : j < a.length := by omega
  obtain ⟨x, hx⟩ : ∃ x, a[j]? = some x := ⟨_, kV hlt⟩
  obtain ⟨y, hy⟩ : ∃ y, b[j]? = some y := ⟨_, kV (by omega)⟩
  obtain ⟨fa, oa, acs, aty, afr, asp, rfl, hfa, had⟩ := hp1 (jS hlt)
  obtain ⟨fb, ob, mO, bty, bfr, bsp, rfl, hfb, hbd⟩ := hp2 (jS (by omega : j < b.length))
  refine jL 5 ?_
  refine Cj.qJ [] [] 9 (by kernel_rfl) ?_
  refine kG (oa + j * 2) ?_
  refine JA.zt 3 rfl (q3 oC kX (jV.BN hfa) (kQ jY had hx)) ?_
  refine kG (ob + j * 2) ?_
  refine JA.zt 7 rfl (q3 oC kX (jV.BN hfb) (kQ jY hbd hy)) ?_
  refine JA.zt 8 rfl (b6R (kv := a9w) (a := x) (b := y) rfl rfl rfl rfl rfl a8p (by kernel_rfl)) ?_
  refine jR (fun hc4 hc4p => ?_) (fun hc4 hc4p => ?_)
  ·have hxy : x ≠ y := bne_iff_ne.1 hc4
   refine jW ?_
   rw [decide_eq_false (fun e => hxy (by rw [e, hy] at hx; exact (Option.some.inj hx).symm))]
   exact ⟨rfl, rfl⟩
  have hxy : x = y := sF hc4
  refine jL 8 ?_
  refine Ej.round (j + 1) ⟨by omega, b2V hall hx hy hxy⟩ (by omega) ⟨rfl, rfl, rfl, trivial⟩ rfl rfl
 refine jW ?_
 rw [List.take_of_length_le (by omega : a.length ≤ j), List.take_of_length_le (by omega : b.length ≤ j)] at hall
 rw [decide_eq_true hall]
 exact ⟨rfl, rfl⟩
theorem a8g a b va vb I (ha : mZ I a va) (hb : mZ I b vb) (hal : a.length ≤ 10000000000000) (hbl : b.length ≤ 10000000000000) : Pure Tryz.prog 229 [vb, va] I (.bool (Ix.within b a)) := by
 refine jO.toPure ?_
 obtain ⟨p1, c1, rfl, hc1, -⟩ := id ha
 obtain ⟨p2, c2, rfl, hc2, -⟩ := id hb
 refine jT func229 fun w0 hw0 => ?_
 refine jL 12 ?_
 refine Cj.loop (ι := Nat) (fun k => k ≤ a.length + 1 ∧ (0 < k → 0 < b.length) ∧ Ix.within b (a.drop k) = Ix.within b a) (fun k => a.length + 1 - k) (fun k => [(0, .slice p2 b.length c2), (1, .slice p1 a.length c1), (5, i64 (k : Int))]) (fun k => _) (fun k => []) 0 ⟨Nat.zero_le _, fun h => absurd h (Nat.lt_irrefl 0), rfl⟩ ⟨rfl, rfl, rfl, trivial⟩ rfl rfl ?_
 rintro k ⟨hk, hb0, hw⟩
 refine jR (fun hc13 hc13p => ?_) (fun hc13 hc13p => ?_)
 ·have hkl : k + b.length ≤ a.length := by omega
  refine jL 12 ?_
  refine J.z (a1z (j := k) (k := (k + b.length)) rfl rfl rfl rfl lI kY rfl (by omega) (by omega)) ?_
  refine kC (b5O _ b _ _ (by rw [List.length_take, List.length_drop]; omega) _ (a3z ha (Nat.le_add_right k b.length) hkl) hb) ?_
  refine mQ (fun hc25 => ?_) (fun hc25 => ?_)
  ·have heq := lY hc25
   rw [Nat.add_sub_cancel_left] at heq
   refine jW ?_
   rw [← hw, ZV heq]
   exact ⟨rfl, rfl⟩
  have hne := nD hc25
  rw [Nat.add_sub_cancel_left] at hne
  refine jL 8 ?_
  refine Ej.round (k + 1) ⟨by omega, fun _ => List.length_pos_iff.2 (fun e => hne (by rw [e]; rfl)), by rw [← hw, WH hkl hne]⟩ (by omega) ⟨rfl, rfl, rfl, trivial⟩ rfl rfl
 refine jW ?_
 rw [← hw, UF (by rw [List.length_drop]; rcases Nat.eq_zero_or_pos k with h | h <;> (first | omega | (have := hb0 h; omega)))]
 exact ⟨rfl, rfl⟩
theorem a1P n s (hs : s.length ≤ 100000000) I : Pure Tryz.prog 24 [str n, str s] I (str (Ix.keyOf n s)) := by
 refine jO.toPure ?_
 have hil := OY s
 refine jT func24 fun w0 hw0 => ?_
 refine kC (a3V s hs _) ?_
 refine pR (fun hg1 => ?_) (fun hg1 => ?_)
 ·refine jR (fun hc2 hc2p => ?_) (fun hc2 hc2p => ?_)
  ·have hk : Ix.keyOf n s = Ke.nT (Ke.EX s).1 0 := if_pos ⟨hg1, lQ hc2⟩
   refine kC (CO (Ke.EX s).1 0 (by omega) _) ?_
   refine jW ?_
   rw [hk]
   exact ⟨rfl, rfl⟩
  have hk : Ix.keyOf n s = Ke.nT s 0 := if_neg (fun g => lW hc2 g.2)
  refine kC (CO s 0 hs _) ?_
  refine jW ?_
  rw [hk]
  exact ⟨rfl, rfl⟩
 have hk : Ix.keyOf n s = Ke.nT s 0 := if_neg (fun g => Bool.noConfusion (g.1.symm.trans hg1))
 refine kC (CO s 0 hs _) ?_
 refine jW ?_
 rw [hk]
 exact ⟨rfl, rfl⟩
theorem b6y l v s (hinc : Ke.Inc l) (hl : l.length ≤ 4300000000000) I (hv0 : mZ I l v) : jO Tryz.prog 231 [v, str s] I [] (fun e I' H' => ∃ w, e = .returned w ∧ mZ I' (Ke.put l s) w ∧ H' = []) := by
 have hrow := CY.1 hv0
 obtain ⟨p, c, rfl, hc, hp⟩ := id hv0
 refine jT func231 fun w0 hw0 => ?_
 refine jL 12 ?_
 refine Cj.loop (ι := Nat) (fun k => k ≤ l.length ∧ ∀ x ∈ l.take k, x < s) (fun k => l.length - k) (fun k => [(0, .slice p l.length c), (1, str s), (5, i64 (k : Int))]) (fun k => _) (fun k => []) 0 ⟨Nat.zero_le _, fun x hx => by simp at hx⟩ ⟨rfl, rfl, rfl, trivial⟩ rfl rfl ?_
 rintro k ⟨hk, hall⟩
 refine mP (fun hg1 hg1p => ?_) (fun hg1 hg1p => ?_)
 ·have hlt : k < l.length := by omega
  obtain ⟨x, hget⟩ : ∃ x, l[k]? = some x := ⟨_, kV hlt⟩
  obtain ⟨lb, lo, lcs, lty, lfr, sp, rfl, hlb, hld⟩ := hp (jS hlt)
  refine jL 2 ?_
  refine J.zg (q7 (off' := lo + k) lI kY) ?_
  refine J.zg (jP rfl rfl lN (jV.BU hlb) (qM hld hget)) ?_
  refine jL 1 ?_
  refine J.zg (RP rfl rfl rfl) ?_
  refine mQ (fun hc2 => ?_) (fun hc2 => ?_)
  ·have hxs : x < s := lY hc2
   refine jL 9 ?_
   refine Ej.round (k + 1) ⟨by omega, b7k hall hget hxs⟩ (by omega) ⟨rfl, rfl, rfl, trivial⟩ rfl rfl
  have hxs : ¬ x < s := nD hc2
  refine mP (fun hg3 hg3p => ?_) (fun hg3 hg3p => ?_)
  ·refine jL 2 ?_
   refine J.zg (q7 (off' := lo + k) lI kY) ?_
   refine J.zg (jP rfl rfl lN (jV.BU hlb) (qM hld hget)) ?_
   refine jR (fun hc4 hc4p => ?_) (fun hc4 hc4p => ?_)
   ·have hxe : x = s := lQ hc4
    refine kF ?_
    rw [show Ke.put l s = l from if_pos (hxe ▸ lV hget)]
    exact ⟨_, rfl, hv0, rfl⟩
   have hxe : x ≠ s := lW hc4
   refine jL 8 ?_
   have htl : (l.take k).length = k := by rw [List.length_take]; omega
   have hdl : (l.drop k).length = l.length - k := List.length_drop
   refine jL 4 ?_
   refine J.z (qF (k := k) rfl rfl rfl lI kY rfl (by omega)) ?_
   refine J.op rfl (kK (by' := 15) (n := 0) (g := none) (xs := []) [] rfl rfl rfl rfl rfl lI (.inr ⟨_, lI⟩) (by kernel_rfl) kY AQ rfl ⟨rfl, rfl⟩ rfl (Src.row xC (jU.take hrow hk) (fun x _ => rfl)) (by omega) ?_)
   intro g5 hg5
   refine jL 8 ?_
   intro b6 hb6
   refine yR 15 [_] hg5 ?_
   intro g7 hg7
   refine jL 8 ?_
   refine J.z (qB (j := k) rfl rfl rfl lI kY rfl (by omega) (by omega)) ?_
   refine J.op rfl (kK (by' := 15) [_] rfl rfl rfl rfl rfl lI (.inr ⟨_, lI⟩) (by kernel_rfl) kY AQ rfl hg7 rfl (Src.row xC (jU.from xC hrow (j := k) hk) (fun x _ => rfl)) (by omega) ?_)
   intro g8 hg8
   refine jL 4 ?_
   refine Ej.keep (Keeps.d Keeps.r) ?_
   have hes := b0t hinc hall (fun y hy => by rw [hget] at hy; cases hy; exact ⟨hxs, hxe⟩)
   have hfl := (a1y (l.take k) (l.drop k) s).trans (congrArg (List.flatMap TU) hes)
   refine Ej.perm (H' := gH 9 ((Ke.put l s).flatMap TU) g8 ++ []) (.of_eq (by rw [← hfl, List.append_nil]; rfl)) ?_
   refine Ej.keepR xC (by decide) (by rw [← hfl]; exact hg8) (by rw [← hes]; simp only [List.length_append, List.length_singleton]; omega) (fun I8 hle8 hw8 => ?_)
   refine jW ?_
   exact ⟨_, rfl, CY.2 hw8, rfl⟩
  omega
 refine jL 23 ?_
 refine J.split 25 rfl (fun hg10 => ?_) (fun hg10 => ?_)
 ·have hg10p := lY hg10
  have hlt : k < l.length := by omega
  obtain ⟨x, hget⟩ : ∃ x, l[k]? = some x := ⟨_, kV hlt⟩
  obtain ⟨lb, lo, lcs, lty, lfr, sp, rfl, hlb, hld⟩ := hp (jS hlt)
  omega
 have hg10p := nD hg10
 refine jL 18 ?_
 have htl : (l.take k).length = k := by rw [List.length_take]; omega
 have hdl : (l.drop k).length = l.length - k := List.length_drop
 refine jL 4 ?_
 refine J.z (qF (k := k) rfl rfl rfl lI kY rfl (by omega)) ?_
 refine J.op rfl (kK (by' := 15) (n := 0) (g := none) (xs := []) [] rfl rfl rfl rfl rfl lI (.inr ⟨_, lI⟩) (by kernel_rfl) kY AQ rfl ⟨rfl, rfl⟩ rfl (Src.row xC (jU.take hrow hk) (fun x _ => rfl)) (by omega) ?_)
 intro g12 hg12
 refine jL 8 ?_
 intro b13 hb13
 refine yR 15 [_] hg12 ?_
 intro g14 hg14
 refine jL 8 ?_
 refine J.z (qB (j := k) rfl rfl rfl lI kY rfl (by omega) (by omega)) ?_
 refine J.op rfl (kK (by' := 15) [_] rfl rfl rfl rfl rfl lI (.inr ⟨_, lI⟩) (by kernel_rfl) kY AQ rfl hg14 rfl (Src.row xC (jU.from xC hrow (j := k) hk) (fun x _ => rfl)) (by omega) ?_)
 intro g15 hg15
 refine jL 4 ?_
 refine Ej.keep (Keeps.d Keeps.r) ?_
 have hes := b0t hinc hall (fun y hy => absurd (List.getElem?_eq_some_iff.1 hy).1 (by omega))
 have hfl := (a1y (l.take k) (l.drop k) s).trans (congrArg (List.flatMap TU) hes)
 refine Ej.perm (H' := gH 9 ((Ke.put l s).flatMap TU) g15 ++ []) (.of_eq (by rw [← hfl, List.append_nil]; rfl)) ?_
 refine Ej.keepR xC (by decide) (by rw [← hfl]; exact hg15) (by rw [← hes]; simp only [List.length_append, List.length_singleton]; omega) (fun I8 hle8 hw8 => ?_)
 refine jW ?_
 exact ⟨_, rfl, CY.2 hw8, rfl⟩
