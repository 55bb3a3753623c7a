/-
  Own texts on the laws of the seat, joined: the logic, and contracts of functions. Conditions: none.
-/
import Derived.Test.YtekmeaoblpfnpaaGreatDoorNmR
import Derived.Test.YtekmeaoblpfnpaaGreatDoorPR9
set_option linter.all false
set_option maxRecDepth 100000
set_option maxHeartbeats 40000000
section
namespace Go.Proofs.YtekmeaoblpfnpaaGreatDoor
open _root_.Go.Proofs.Tryz
open Go Go.Sx
theorem mod_eq (n : Int) {m : Int} (hm : 0 < m) : (n.tmod m + m).tmod m = n % m := by
  have h1 := Int.tmod_lt_of_pos n hm
  have h2 : -m < n.tmod m := by
    have := Int.lt_tmod_of_pos n hm
    omega
  rw [Int.tmod_eq_emod_of_nonneg (by omega), Int.add_emod_right, Int.tmod_def, Int.sub_mul_emod_self_left]
def OB (p : List UInt8 × List UInt8) : List Value := [str p.1, str p.2]
theorem b6i {k a b} (h : Ke.rows[k]? = some (a, b)) : (Ke.rows.flatMap OB)[k * 2]? = some (str a) ∧ (Ke.rows.flatMap OB)[k * 2 + 1]? = some (str b) := by
  have h0 := lW (f := OB) (n := 2) (cs := Ke.rows.flatMap OB) (sp := []) (o := 0) (fun _ => rfl) (by simp) h 0 (by decide)
  have h1 := lW (f := OB) (n := 2) (cs := Ke.rows.flatMap OB) (sp := []) (o := 0) (fun _ => rfl) (by simp) h 1 (by decide)
  rw [Nat.zero_add] at h0 h1
  exact ⟨h0, h1⟩
theorem a4K : ∀ {l : List (Nat × List UInt8)} {c : Nat} {a : List UInt8}, (l.map (·.1)).Nodup → (c, a) ∈ l → l.lookup c = some a
  | (d, b) :: r, c, a, hn, h => by
    simp only [List.map_cons, List.nodup_cons] at hn
    rw [List.lookup_cons]
    rcases List.mem_cons.1 h with h | h
    · cases h; simp
    have : c ≠ d := fun e => hn.1 (e ▸ List.mem_map.2 ⟨_, h, rfl⟩)
    rw [show (c == d) = false from by simpa using this]
    exact a4K hn.2 h
theorem YH {c} : ∀ {l : List (List UInt8 × List UInt8)} {k : Nat} {a b : List UInt8}, l[k]? = some (a, b) → c ∈ Ke.runes b → (c, a) ∈ Ke.pX l
  | [], _, _, _, h, _ => by simp at h
  | (x, y) :: r, 0, a, b, h, hc => by
    simp at h; obtain ⟨rfl, rfl⟩ := h
    exact List.mem_append_left _ (List.mem_map.2 ⟨c, hc, rfl⟩)
  | (x, y) :: r, k + 1, a, b, h, hc => List.mem_append_right _ (YH (l := r) (by simpa using h) hc)
theorem a8f {k j c : Nat} {a b} (h : Ke.rows[k]? = some (a, b)) (hj : (Ke.runes b)[j]? = some c) : Ke.tab.lookup c = some a := by
  refine a4K Ke.a1v ?_
  rw [← Ke.ZH]
  exact YH h (lX hj)
theorem a9M {k c a b} (h : Ke.rows[k]? = some (a, b)) (h1 : c ∉ (Ke.pX (Ke.rows.take k)).map (·.1)) (h2 : c ∉ Ke.runes b) : c ∉ (Ke.pX (Ke.rows.take (k + 1))).map (·.1) := by
  rw [Ke.UZ h, List.map_append, List.mem_append, List.map_map]
  rintro (g | g)
  · exact h1 g
  obtain ⟨x, hx, rfl⟩ := List.mem_map.1 g
  exact h2 hx
theorem a9Q {c k} (hk : ¬ k < 31) (h : c ∉ (Ke.pX (Ke.rows.take k)).map (·.1)) : Ke.tab.lookup c = none := by
  rw [List.take_of_length_le (show Ke.rows.length ≤ k by show 31 ≤ k; omega), Ke.ZH] at h
  exact Ke.KG h
theorem a8R {l : List Nat} {k c d} (h : c ∉ l.take k) (hg : l[k]? = some d) (hd : d ≠ c) : c ∉ l.take (k + 1) := by
  obtain ⟨hlt, hg⟩ := List.getElem?_eq_some_iff.1 hg
  rw [List.take_succ_eq_append_getElem hlt, hg, List.mem_append, List.mem_singleton]
  rintro (e | e)
  · exact h e
  exact hd e.symm
theorem UD : ∀ (f : Nat) (s : List UInt8) (i : Nat) (acc : Array Value), s.length - i ≤ f → Conv.runesFrom ⟨s.toArray⟩ f i acc = acc ++ (rcs (Ke.runes (s.drop i))).toArray
  | 0, s, i, acc, h => by
    rw [Ke.DT (by omega)]
    simp [Conv.runesFrom, rcs]
  | f + 1, s, i, acc, h => by
    unfold Conv.runesFrom
    by_cases hi : i < s.length
    · rw [if_pos (by rw [size_mk]; exact hi)]
      have hw := Ke.wM s hi
      rw [Ke.IE hi]
      dsimp only
      rw [UD f s _ _ (by omega)]
      simp [rcs]
    rw [if_neg (by rw [size_mk]; exact hi), Ke.DT (by omega)]
    simp [rcs]
theorem runes_all s : Conv.runesFrom ⟨s.toArray⟩ s.length 0 #[] = (rcs (Ke.runes s)).toArray := by
  rw [UD _ _ _ _ (by omega), List.drop_zero]; simp
theorem XF s : (Ke.runes s).length ≤ s.length := Ke.DN _ _
theorem b2T I : jO Tryz.prog 232 [] I [] (fun e I' H' => ∃ b, e = .returned (.slice (some ⟨b, 0, none⟩) 31 31) ∧ H' = [(b, jM 281 (Ke.rows.flatMap OB))]) := by
 refine jU func232 fun w0 hw0 => ?_
 refine jL 39 ?_
 intro b1 hb1
 refine jV ?_
 exact ⟨b1, rfl, rfl⟩
theorem b0c (c : Nat) I : Pure Tryz.prog 181 [.int .i32 (c : Int)] I (str ((Ke.tab.lookup c).getD [])) := by
 refine jO.toPure ?_
 refine jU func181 fun w0 hw0 => ?_
 refine sV (b2T _) ?_
 intro v2 I3 H4 hle5 hn1 hp6
 obtain ⟨tb, h, rfl⟩ := hp6; cases h
 refine J.persist (hn1 _ (.head _)) (fun I9 hle9 htb => ?_)
 refine jL 10 ?_
 refine Cj.loop (ι := Nat) (fun k => k ≤ 31 ∧ c ∉ (Ke.pX (Ke.rows.take k)).map (·.1)) (fun k => 31 - k) (fun k => [(0, .int .i32 (c : Int)), (3, .slice (some ⟨tb, 0, none⟩) 31 31), (4, i64 (k : Int))]) (fun k => _) (fun k => []) 0 ⟨Nat.zero_le _, by simp [Ke.pX]⟩ ⟨rfl, rfl, rfl, trivial⟩ rfl rfl ?_
 rintro k ⟨hk, hno⟩
 refine jS (fun hc7 hc7p => ?_) (fun hc7 hc7p => ?_)
 ·refine jL 5 ?_
  have hlt : k < 31 := by omega
  obtain ⟨⟨a, b⟩, hget⟩ : ∃ p, Ke.rows[k]? = some p := ⟨_, kW (show k < Ke.rows.length from hlt)⟩
  obtain ⟨-, -, hbl⟩ := Ke.a2r _ (lX hget)
  dsimp only at hbl
  have hrb := XF b
  refine kJ (k * 2) ?_
  refine J.z (mD (off' := k * 2 + 1) rfl rfl rfl underlying281 kU (by decide) (by decide) (by simp)) ?_
  refine J.z (jP rfl rfl lQ (jR.EH htb) (b6i hget).2) ?_
  refine J.op rfl (XD (runes_all b) rfl rfl rfl rfl lM underlying197 a7m ?_)
  intro b8 c9 sp10 hb8
  refine jL 9 ?_
  refine Cj.loop (ι := Nat) (fun j => j ≤ (Ke.runes b).length ∧ c ∉ (Ke.runes b).take j) (fun j => (Ke.runes b).length - j) (fun j => [(0, .int .i32 (c : Int)), (3, .slice (some ⟨tb, 0, none⟩) 31 31), (4, i64 (k : Int)), (5, .slice (some ⟨b8, 0, none⟩) (Ke.runes b).length c9), (6, i64 (j : Int))]) (fun j => _) (fun j => [(b8, jM 21 (rcs (Ke.runes b) ++ sp10))]) 0 ⟨Nat.zero_le _, by simp⟩ ⟨rfl, rfl, rfl, rfl, rfl, trivial⟩ rfl rfl ?_
  rintro j ⟨hj, hnj⟩
  refine jS (fun hc11 hc11p => ?_) (fun hc11 hc11p => ?_)
  ·refine jL 5 ?_
   have hjl : j < (Ke.runes b).length := by omega
   obtain ⟨d, hgj⟩ : ∃ d, (Ke.runes b)[j]? = some d := ⟨_, kW hjl⟩
   refine kJ j ?_
   refine J.z (jP rfl rfl isAgg21 (jR.at 0 rfl) (a6y hgj)) ?_
   refine jS (fun hc12 hc12p => ?_) (fun hc12 hc12p => ?_)
   ·have hdc : d = c := by have h := lU hc12; omega
    subst hdc
    refine kJ (k * 2) ?_
    refine J.z (mD (off' := k * 2) rfl rfl rfl underlying281 kU (by decide) (by decide) (by simp)) ?_
    refine J.z (jP rfl rfl lQ (jR.EH htb) (b6i hget).1) ?_
    refine kM ?_
    rw [a8f hget hgj]
    exact ⟨rfl, rfl⟩
   have hne : d ≠ c := fun e => lY hc12 (by rw [e])
   refine jL 8 ?_
   refine Ej.round (j + 1) ⟨by omega, a8R hnj hgj hne⟩ (by omega) ⟨rfl, rfl, rfl, rfl, rfl, trivial⟩ rfl rfl
  have hnb : c ∉ Ke.runes b := by rw [List.take_of_length_le (by omega)] at hnj; exact hnj
  refine jL 11 ?_
  refine Ej.keep (Keeps.d Keeps.n) ?_
  refine Ej.round (k + 1) ⟨by omega, a9M hget hno hnb⟩ (by omega) ⟨rfl, rfl, rfl, trivial⟩ rfl rfl
 refine jV ?_
 rw [a9Q (by omega) hno]
 exact ⟨rfl, rfl⟩
theorem b6F {c x} (h : Ke.tab.lookup c = some x) : x ≠ [] := by
  have h1 : Ke.tab.all (fun p => decide (p.2 ≠ [])) = true := by decide +kernel
  obtain ⟨p, hp, rfl⟩ := Ke.MP h
  simpa using List.all_eq_true.1 h1 p hp
theorem b1S (c : Nat) (hc : c ≤ 1114111) I : Pure Tryz.prog 125 [.int .i32 (c : Int)] I (str (Ke.char c)) := by
 refine jU func125 fun w0 hw0 => ?_
 refine jL 5 ?_
 refine Cj.join (ι := Unit) (fun _u => ¬ ((97 ≤ c ∧ c ≤ 122) ∨ (48 ≤ c ∧ c ≤ 57))) (fun _u => [(0, .int .i32 (c : Int))]) (fun _u => I) (fun _u => []) ?_ (fun hcut => ?_)
 ·intro _ a0
  refine Cj.join (ι := Unit) (fun _u => ¬ ((97 ≤ c ∧ c ≤ 122) ∨ (48 ≤ c ∧ c ≤ 57)) ∧ ¬ (65 ≤ c ∧ c ≤ 90)) (fun _u => [(0, .int .i32 (c : Int))]) (fun _u => I) (fun _u => []) ?_ (fun hcut => ?_)
  ·rintro - ⟨a0, a1⟩
   refine Cj.join (ι := Unit) (fun _u => ¬ ((97 ≤ c ∧ c ≤ 122) ∨ (48 ≤ c ∧ c ≤ 57)) ∧ ¬ (65 ≤ c ∧ c ≤ 90) ∧ 128 ≤ c) (fun _u => [(0, .int .i32 (c : Int))]) (fun _u => I) (fun _u => []) ?_ (fun hcut => ?_)
   ·rintro - ⟨a0, a1, a2⟩
    refine Cj.join (ι := Unit) (fun _u => ¬ ((97 ≤ c ∧ c ≤ 122) ∨ (48 ≤ c ∧ c ≤ 57)) ∧ ¬ (65 ≤ c ∧ c ≤ 90) ∧ 128 ≤ c ∧ ¬ ((768 ≤ c ∧ c ≤ 879) ∨ (65056 ≤ c ∧ c ≤ 65071))) (fun _u => [(0, .int .i32 (c : Int))]) (fun _u => I) (fun _u => []) ?_ (fun hcut => ?_)
    ·rintro - ⟨a0, a1, a2, a3⟩
     refine kC (b0c c _) ?_
     refine jL 3 ?_
     refine Cj.join (ι := Unit) (fun _u => ¬ ((97 ≤ c ∧ c ≤ 122) ∨ (48 ≤ c ∧ c ≤ 57)) ∧ ¬ (65 ≤ c ∧ c ≤ 90) ∧ 128 ≤ c ∧ ¬ ((768 ≤ c ∧ c ≤ 879) ∨ (65056 ≤ c ∧ c ≤ 65071)) ∧ Ke.tab.lookup c = none ∧ c ≠ 962 ∧ ¬ ((945 ≤ c ∧ c ≤ 969) ∨ (1072 ≤ c ∧ c ≤ 1103)) ∧ ¬ (((913 ≤ c ∧ c ≤ 937) ∧ c ≠ 930) ∨ (1040 ≤ c ∧ c ≤ 1071))) (fun _u => [(0, .int .i32 (c : Int))]) (fun _u => I) (fun _u => []) ?_ (fun hcut => ?_)
     ·rintro - ⟨a0, a1, a2, a3, a4, a5, a6, a7⟩
      refine jV ?_
      refine ⟨?_, rfl, rfl⟩
      refine congrArg (fun l => Ending.returned (str l)) ?_
      unfold Ke.char
      rw [if_neg (by omega), if_neg (by omega), if_neg (by omega), if_neg (by omega), a4]
      simp only
      rw [if_neg a5, if_neg a6, if_neg a7]
     refine jS (fun hc1 hc1p => ?_) (fun hc1 hc1p => ?_)
     ·obtain ⟨x, hx⟩ : ∃ x, Ke.tab.lookup c = some x := by
        have h := bne_iff_ne.1 hc1
        cases hl : Ke.tab.lookup c with
        | none => rw [hl] at h; exact absurd rfl h
        | some x => exact ⟨x, rfl⟩
      refine Cj.ev 3 (str x) rfl (by rw [hx]; rfl) ?_
      refine jV ?_
      refine ⟨?_, rfl, rfl⟩
      refine congrArg (fun l => Ending.returned (str l)) ?_
      unfold Ke.char
      rw [if_neg (by omega), if_neg (by omega), if_neg (by omega), if_neg (by omega), hx]
     have hx : Ke.tab.lookup c = none := by
       have h := sJ hc1
       cases hl : Ke.tab.lookup c with
       | none => rfl
       | some x => rw [hl] at h; exact absurd h (b6F hl)
     refine jS (fun hc2 hc2p => ?_) (fun hc2 hc2p => ?_)
     ·refine jL 3 ?_
      intro b3 hb3
      refine kM ?_
      refine ⟨?_, rfl, rfl⟩
      refine congrArg (fun l => Ending.returned (str l)) ?_
      unfold Ke.char
      rw [if_neg (by omega), if_neg (by omega), if_neg (by omega), if_neg (by omega), hx]
      simp only
      rw [if_pos (by omega)]; rfl
     refine Cj.join (ι := Bool) (fun y => (y = true → ((945 ≤ c ∧ c ≤ 969) ∨ (1072 ≤ c ∧ c ≤ 1103))) ∧ (y = false → ¬ ((945 ≤ c ∧ c ≤ 969) ∨ (1072 ≤ c ∧ c ≤ 1103)))) (fun y => [(0, .int .i32 (c : Int)), (58, .bool y)]) (fun y => I) (fun y => []) ?_ (fun hcut => ?_)
     ·rintro y ⟨hy1, hy2⟩
      refine mW (fun hc4 => ?_) (fun hc4 => ?_)
      ·have hcc := hy1 hc4
       refine jL 4 ?_
       intro b5 hb5
       refine kM ?_
       refine ⟨?_, rfl, rfl⟩
       refine congrArg (fun l => Ending.returned (str l)) ?_
       unfold Ke.char
       rw [if_neg (by omega), if_neg (by omega), if_neg (by omega), if_neg (by omega), hx]
       simp only
       rw [if_neg (by omega), if_pos (by omega)]; exact Ke.qM (by unfold Ke.wK; omega)
      have hcc := hy2 hc4
      refine Cj.join (ι := Bool) (fun y => (y = true → (((913 ≤ c ∧ c ≤ 937) ∧ c ≠ 930) ∨ (1040 ≤ c ∧ c ≤ 1071))) ∧ (y = false → ¬ (((913 ≤ c ∧ c ≤ 937) ∧ c ≠ 930) ∨ (1040 ≤ c ∧ c ≤ 1071)))) (fun y => [(0, .int .i32 (c : Int)), (76, .bool y)]) (fun y => I) (fun y => []) ?_ (fun hcut => ?_)
      ·rintro y ⟨hy1, hy2⟩
       refine mW (fun hc6 => ?_) (fun hc6 => ?_)
       ·have hcc := hy1 hc6
        refine jL 5 ?_
        intro b7 hb7
        refine kM ?_
        refine ⟨?_, rfl, rfl⟩
        refine congrArg (fun l => Ending.returned (str l)) ?_
        unfold Ke.char
        rw [if_neg (by omega), if_neg (by omega), if_neg (by omega), if_neg (by omega), hx]
        simp only
        rw [if_neg (by omega), if_neg (by omega), if_pos (by omega)]; exact (congrArg (fun n : Int => (Utf8.encode n).data.toList) (by omega)).trans (Ke.qM (c := c + 32) (by unfold Ke.wK; omega))
       have hcc := hy2 hc6
       refine jL 2 ?_
       exact hcut () _ _ _ ⟨by omega, by omega, by omega, by omega, hx, by omega, by omega, by omega⟩ ⟨rfl, trivial⟩ rfl rfl
      refine mX (fun hg8 hg8p => ?_) (fun hg8 hg8p => ?_)
      ·refine mX (fun hg9 hg9p => ?_) (fun hg9 hg9p => ?_)
       ·refine mX (fun hg10 hg10p => ?_) (fun hg10 hg10p => ?_)
        ·refine jL 9 ?_
         exact hcut _ _ _ _ ⟨fun h => by first | omega | (simp at h; omega) | (cases h; done), fun h => by first | omega | (simp at h; omega) | (cases h; done)⟩ ⟨rfl, rfl, trivial⟩ rfl rfl
        refine mX (fun hg11 hg11p => ?_) (fun hg11 hg11p => ?_)
        ·refine jL 6 ?_
         exact hcut _ _ _ _ ⟨fun h => by first | omega | (simp at h; omega) | (cases h; done), fun h => by first | omega | (simp at h; omega) | (cases h; done)⟩ ⟨rfl, rfl, trivial⟩ rfl rfl
        refine jL 6 ?_
        exact hcut _ _ _ _ ⟨fun h => by first | omega | (simp at h; omega) | (cases h; done), fun h => by first | omega | (simp at h; omega) | (cases h; done)⟩ ⟨rfl, rfl, trivial⟩ rfl rfl
       refine mX (fun hg12 hg12p => ?_) (fun hg12 hg12p => ?_)
       ·refine jL 6 ?_
        exact hcut _ _ _ _ ⟨fun h => by first | omega | (simp at h; omega) | (cases h; done), fun h => by first | omega | (simp at h; omega) | (cases h; done)⟩ ⟨rfl, rfl, trivial⟩ rfl rfl
       refine jL 6 ?_
       exact hcut _ _ _ _ ⟨fun h => by first | omega | (simp at h; omega) | (cases h; done), fun h => by first | omega | (simp at h; omega) | (cases h; done)⟩ ⟨rfl, rfl, trivial⟩ rfl rfl
      refine mX (fun hg13 hg13p => ?_) (fun hg13 hg13p => ?_)
      ·refine jL 6 ?_
       exact hcut _ _ _ _ ⟨fun h => by first | omega | (simp at h; omega) | (cases h; done), fun h => by first | omega | (simp at h; omega) | (cases h; done)⟩ ⟨rfl, rfl, trivial⟩ rfl rfl
      refine jL 6 ?_
      exact hcut _ _ _ _ ⟨fun h => by first | omega | (simp at h; omega) | (cases h; done), fun h => by first | omega | (simp at h; omega) | (cases h; done)⟩ ⟨rfl, rfl, trivial⟩ rfl rfl
     refine mX (fun hg14 hg14p => ?_) (fun hg14 hg14p => ?_)
     ·refine mX (fun hg15 hg15p => ?_) (fun hg15 hg15p => ?_)
      ·refine jL 9 ?_
       exact hcut _ _ _ _ ⟨fun h => by first | omega | (simp at h; omega) | (cases h; done), fun h => by first | omega | (simp at h; omega) | (cases h; done)⟩ ⟨rfl, rfl, trivial⟩ rfl rfl
      refine mX (fun hg16 hg16p => ?_) (fun hg16 hg16p => ?_)
      ·refine jL 6 ?_
       exact hcut _ _ _ _ ⟨fun h => by first | omega | (simp at h; omega) | (cases h; done), fun h => by first | omega | (simp at h; omega) | (cases h; done)⟩ ⟨rfl, rfl, trivial⟩ rfl rfl
      refine jL 6 ?_
      exact hcut _ _ _ _ ⟨fun h => by first | omega | (simp at h; omega) | (cases h; done), fun h => by first | omega | (simp at h; omega) | (cases h; done)⟩ ⟨rfl, rfl, trivial⟩ rfl rfl
     refine mX (fun hg17 hg17p => ?_) (fun hg17 hg17p => ?_)
     ·refine jL 6 ?_
      exact hcut _ _ _ _ ⟨fun h => by first | omega | (simp at h; omega) | (cases h; done), fun h => by first | omega | (simp at h; omega) | (cases h; done)⟩ ⟨rfl, rfl, trivial⟩ rfl rfl
     refine jL 6 ?_
     exact hcut _ _ _ _ ⟨fun h => by first | omega | (simp at h; omega) | (cases h; done), fun h => by first | omega | (simp at h; omega) | (cases h; done)⟩ ⟨rfl, rfl, trivial⟩ rfl rfl
    refine Cj.join (ι := Bool) (fun y => (y = true → ((768 ≤ c ∧ c ≤ 879) ∨ (65056 ≤ c ∧ c ≤ 65071))) ∧ (y = false → ¬ ((768 ≤ c ∧ c ≤ 879) ∨ (65056 ≤ c ∧ c ≤ 65071)))) (fun y => [(0, .int .i32 (c : Int)), (46, .bool y)]) (fun y => I) (fun y => []) ?_ (fun hcut => ?_)
    ·rintro y ⟨hy1, hy2⟩
     refine mW (fun hc18 => ?_) (fun hc18 => ?_)
     ·have hcc := hy1 hc18
      refine jV ?_
      refine ⟨?_, rfl, rfl⟩
      refine congrArg (fun l => Ending.returned (str l)) ?_
      unfold Ke.char
      rw [if_neg (by omega), if_neg (by omega), if_neg (by omega), if_pos (by omega)]
     have hcc := hy2 hc18
     refine jL 1 ?_
     exact hcut () _ _ _ ⟨by omega, by omega, by omega, by omega⟩ ⟨rfl, trivial⟩ rfl rfl
    refine mX (fun hg19 hg19p => ?_) (fun hg19 hg19p => ?_)
    ·refine mX (fun hg20 hg20p => ?_) (fun hg20 hg20p => ?_)
     ·refine jL 8 ?_
      exact hcut _ _ _ _ ⟨fun h => by first | omega | (simp at h; omega) | (cases h; done), fun h => by first | omega | (simp at h; omega) | (cases h; done)⟩ ⟨rfl, rfl, trivial⟩ rfl rfl
     refine mX (fun hg21 hg21p => ?_) (fun hg21 hg21p => ?_)
     ·refine jL 5 ?_
      exact hcut _ _ _ _ ⟨fun h => by first | omega | (simp at h; omega) | (cases h; done), fun h => by first | omega | (simp at h; omega) | (cases h; done)⟩ ⟨rfl, rfl, trivial⟩ rfl rfl
     refine jL 5 ?_
     exact hcut _ _ _ _ ⟨fun h => by first | omega | (simp at h; omega) | (cases h; done), fun h => by first | omega | (simp at h; omega) | (cases h; done)⟩ ⟨rfl, rfl, trivial⟩ rfl rfl
    refine mX (fun hg22 hg22p => ?_) (fun hg22 hg22p => ?_)
    ·refine jL 5 ?_
     exact hcut _ _ _ _ ⟨fun h => by first | omega | (simp at h; omega) | (cases h; done), fun h => by first | omega | (simp at h; omega) | (cases h; done)⟩ ⟨rfl, rfl, trivial⟩ rfl rfl
    refine jL 5 ?_
    exact hcut _ _ _ _ ⟨fun h => by first | omega | (simp at h; omega) | (cases h; done), fun h => by first | omega | (simp at h; omega) | (cases h; done)⟩ ⟨rfl, rfl, trivial⟩ rfl rfl
   refine jS (fun hc23 hc23p => ?_) (fun hc23 hc23p => ?_)
   ·refine jV ?_
    refine ⟨?_, rfl, rfl⟩
    refine congrArg (fun l => Ending.returned (str l)) ?_
    unfold Ke.char
    rw [if_neg (by omega), if_neg (by omega), if_pos (by omega)]
   refine jL 1 ?_
   exact hcut () _ _ _ ⟨by omega, by omega, by omega⟩ ⟨rfl, trivial⟩ rfl rfl
  refine mX (fun hg24 hg24p => ?_) (fun hg24 hg24p => ?_)
  ·refine jS (fun hc25 hc25p => ?_) (fun hc25 hc25p => ?_)
   ·refine jL 5 ?_
    intro b26 hb26
    refine kM ?_
    refine ⟨?_, rfl, rfl⟩
    refine congrArg (fun l => Ending.returned (str l)) ?_
    unfold Ke.char
    rw [if_neg (by omega), if_pos (by omega)]; exact (congrArg (fun n : Int => (Utf8.encode n).data.toList) (by omega)).trans (Ke.qM (c := c + 32) (by unfold Ke.wK; omega))
   refine jL 1 ?_
   exact hcut () _ _ _ ⟨by omega, by omega⟩ ⟨rfl, trivial⟩ rfl rfl
  refine jL 7 ?_
  exact hcut () _ _ _ ⟨by omega, by omega⟩ ⟨rfl, trivial⟩ rfl rfl
 refine Cj.join (ι := Bool) (fun y => (y = true → ((97 ≤ c ∧ c ≤ 122) ∨ (48 ≤ c ∧ c ≤ 57))) ∧ (y = false → ¬ ((97 ≤ c ∧ c ≤ 122) ∨ (48 ≤ c ∧ c ≤ 57)))) (fun y => [(0, .int .i32 (c : Int)), (17, .bool y)]) (fun y => I) (fun y => []) ?_ (fun hcut => ?_)
 ·rintro y ⟨hy1, hy2⟩
  refine mW (fun hc28 => ?_) (fun hc28 => ?_)
  ·have hcc := hy1 hc28
   refine jL 4 ?_
   intro b29 hb29
   refine kM ?_
   refine ⟨?_, rfl, rfl⟩
   refine congrArg (fun l => Ending.returned (str l)) ?_
   unfold Ke.char
   rw [if_pos (by omega)]; exact Ke.qM (by unfold Ke.wK; omega)
  have hcc := hy2 hc28
  refine jL 1 ?_
  exact hcut () _ _ _ (by omega) ⟨rfl, trivial⟩ rfl rfl
 refine mX (fun hg30 hg30p => ?_) (fun hg30 hg30p => ?_)
 ·refine mX (fun hg31 hg31p => ?_) (fun hg31 hg31p => ?_)
  ·refine jL 8 ?_
   exact hcut _ _ _ _ ⟨fun h => by first | omega | (simp at h; omega) | (cases h; done), fun h => by first | omega | (simp at h; omega) | (cases h; done)⟩ ⟨rfl, rfl, trivial⟩ rfl rfl
  refine mX (fun hg32 hg32p => ?_) (fun hg32 hg32p => ?_)
  ·refine jL 5 ?_
   exact hcut _ _ _ _ ⟨fun h => by first | omega | (simp at h; omega) | (cases h; done), fun h => by first | omega | (simp at h; omega) | (cases h; done)⟩ ⟨rfl, rfl, trivial⟩ rfl rfl
  refine jL 5 ?_
  exact hcut _ _ _ _ ⟨fun h => by first | omega | (simp at h; omega) | (cases h; done), fun h => by first | omega | (simp at h; omega) | (cases h; done)⟩ ⟨rfl, rfl, trivial⟩ rfl rfl
 refine mX (fun hg33 hg33p => ?_) (fun hg33 hg33p => ?_)
 ·refine jL 5 ?_
  exact hcut _ _ _ _ ⟨fun h => by first | omega | (simp at h; omega) | (cases h; done), fun h => by first | omega | (simp at h; omega) | (cases h; done)⟩ ⟨rfl, rfl, trivial⟩ rfl rfl
 refine jL 5 ?_
 exact hcut _ _ _ _ ⟨fun h => by first | omega | (simp at h; omega) | (cases h; done), fun h => by first | omega | (simp at h; omega) | (cases h; done)⟩ ⟨rfl, rfl, trivial⟩ rfl rfl
theorem yO s (hs : s.length ≤ 1000000000) I : jO Tryz.prog 69 [str s] I [] (fun e I' H' => ∃ g, kZ 0 1 (Ke.words s).length ((Ke.words s).map str) g ∧ e = .returned (gV (Ke.words s).length g) ∧ H' = gH 9 ((Ke.words s).map str) g) := by
 have hrl := XF s
 refine jU func69 fun w0 hw0 => ?_
 refine jL 18 ?_
 refine J.op rfl (XD (runes_all s) rfl rfl rfl rfl lM underlying197 a7m ?_)
 intro b1 c2 sp3 hb1
 refine jL 10 ?_
 refine Cj.loop (ι := Nat × List UInt8 × List (List UInt8) × Gs) (fun x => x.1 ≤ (Ke.runes s).length ∧ Ke.words s = x.2.2.1 ++ Ke.wf x.2.1 ((Ke.runes s).drop x.1) ∧ x.2.1.length ≤ 4 * x.1 ∧ x.2.2.1.length ≤ x.1 ∧ kZ 0 1 x.2.2.1.length (x.2.2.1.map str) x.2.2.2) (fun x => (Ke.runes s).length - x.1) (fun x => [(3, gV x.2.2.1.length x.2.2.2), (4, str x.2.1), (5, .slice (some ⟨b1, 0, none⟩) (Ke.runes s).length c2), (6, i64 (x.1 : Int))]) (fun x => I) (fun x => (b1, jM 21 (rcs (Ke.runes s) ++ sp3)) :: gH 9 (x.2.2.1.map str) x.2.2.2) (0, [], [], none) ⟨Nat.zero_le _, rfl, Nat.zero_le _, Nat.zero_le _, rfl, rfl⟩ ⟨rfl, rfl, rfl, rfl, trivial⟩ rfl rfl ?_
 rintro ⟨k, w, acc, g⟩ ⟨hk, hws, hwl, hal, hg⟩
 dsimp only at hk hws hwl hal hg ⊢
 refine jS (fun hc4 hc4p => ?_) (fun hc4 hc4p => ?_)
 ·refine jL 5 ?_
  have hlt : k < (Ke.runes s).length := by omega
  obtain ⟨c, hget⟩ : ∃ c, (Ke.runes s)[k]? = some c := ⟨_, kW hlt⟩
  have hdr := drop_cons hget
  have hcl := Ke.OE c
  have hcm : c ≤ 1114111 := Ke.a3G _ _ c (lX hget)
  refine kJ k ?_
  refine J.z (jP rfl rfl isAgg21 (jR.at 0 rfl) (a6y hget)) ?_
  refine kC (b1S c hcm _) ?_
  refine jS (fun hc5 hc5p => ?_) (fun hc5 hc5p => ?_)
  ·have hne : Ke.char c ≠ [32] := bne_iff_ne.1 hc5
   refine jL 4 ?_
   refine J.z (oZ rfl rfl rfl (by omega)) ?_
   refine jL 12 ?_
   refine Ej.round (k + 1, w ++ Ke.char c, acc, g) ⟨by dsimp only; omega, by dsimp only; rw [hws, hdr, Ke.b3A hne], by dsimp only; rw [List.length_append]; omega, by dsimp only; omega, hg⟩ (by dsimp only; omega) ⟨rfl, rfl, rfl, rfl, trivial⟩ rfl rfl
  have he : Ke.char c = [32] := sJ hc5
  refine jS (fun hc6 hc6p => ?_) (fun hc6 hc6p => ?_)
  ·have hw : w ≠ [] := bne_iff_ne.1 hc6
   refine jL 4 ?_
   intro b7 hb7
   refine J.op rfl (tV 0 (Nat.zero_le _) (by' := 15) [_, _] rfl rfl rfl rfl rfl lJ (.inr ⟨_, lJ⟩) (by kernel_rfl) kU yN rfl hg rfl (Src.slice (jR.at 0 rfl) rfl rfl rfl) (by omega) ?_)
   intro g8 hg8
   refine jL 13 ?_
   refine Ej.keep (Keeps.d (Keeps.k Keeps.r)) ?_
   refine Ej.round (k + 1, [], acc ++ [w], g8) ⟨by dsimp only; omega, by dsimp only; rw [hws, hdr, Ke.a8W he hw, List.append_assoc]; rfl, Nat.zero_le _, by dsimp only; rw [List.length_append]; simp only [List.length_cons, List.length_nil]; omega, by dsimp only; rw [List.map_append, List.length_append]; exact hg8⟩ (by dsimp only; omega) ⟨by dsimp only; rw [List.length_append]; rfl, rfl, rfl, rfl, trivial⟩ rfl (by dsimp only; rw [List.map_append]; rfl)
  have hw : w = [] := sJ hc6
  refine jL 12 ?_
  refine Ej.round (k + 1, [], acc, g) ⟨by dsimp only; omega, by dsimp only; rw [hws, hdr, hw, Ke.a6t he], Nat.zero_le _, by dsimp only; omega, hg⟩ (by dsimp only; omega) ⟨rfl, rfl, rfl, rfl, trivial⟩ rfl rfl
 have hfull : (Ke.runes s).drop k = [] := List.drop_eq_nil_of_le (by omega)
 refine jS (fun hc9 hc9p => ?_) (fun hc9 hc9p => ?_)
 ·have hw : w ≠ [] := bne_iff_ne.1 hc9
  have hres : Ke.words s = acc ++ [w] := by rw [hws, hfull, Ke.ZX, if_neg hw]
  refine jL 4 ?_
  intro b10 hb10
  refine J.op rfl (tV 0 (Nat.zero_le _) (by' := 15) [_, _] rfl rfl rfl rfl rfl lJ (.inr ⟨_, lJ⟩) (by kernel_rfl) kU yN rfl hg rfl (Src.slice (jR.at 0 rfl) rfl rfl rfl) (by omega) ?_)
  intro g11 hg11
  refine jL 10 ?_
  refine Ej.keep (Keeps.d (Keeps.d Keeps.r)) ?_
  refine jV ?_
  rw [hres, List.map_append, List.length_append]
  exact ⟨g11, hg11, rfl, rfl⟩
 have hw : w = [] := sJ hc9
 have hres : Ke.words s = acc := by rw [hws, hfull, Ke.ZX, if_pos hw, List.append_nil]
 refine jL 9 ?_
 refine Ej.keep (Keeps.d Keeps.r) ?_
 refine jV ?_
 rw [hres]
 exact ⟨g, hg, rfl, rfl⟩
def mix (ws : List (List UInt8)) (j : Nat) : List (List UInt8) := (ws.take j).map Ke.pO ++ ws.drop j
theorem a0t ws j : (mix ws j).length = ws.length := by unfold mix; simp; omega
theorem a9x {ws j x} (h : ws[j]? = some x) : (mix ws j)[j]? = some x := by
  obtain ⟨hlt, hg⟩ := List.getElem?_eq_some_iff.1 h
  unfold mix
  rw [List.getElem?_append_right (by simp; omega), List.getElem?_drop, List.length_map, List.length_take, Nat.min_eq_left (by omega), Nat.sub_self, Nat.add_zero, h]
theorem a4W {ws j x} (h : ws[j]? = some x) : mix ws (j + 1) = (mix ws j).set j (Ke.pO x) := by
  obtain ⟨hlt, hg⟩ := List.getElem?_eq_some_iff.1 h
  unfold mix
  rw [List.take_succ_eq_append_getElem hlt, hg, List.map_append, drop_cons h, List.set_append_right _ _ (by simp; omega), List.length_map, List.length_take, Nat.min_eq_left (by omega), Nat.sub_self]
  simp
theorem b1F {ws j x} (h : ws[j]? = some x) (hs : Ke.pO x = x) : mix ws (j + 1) = mix ws j := by
  rw [a4W h, hs]
  apply List.ext_getElem?
  intro i
  rw [List.getElem?_set]
  by_cases hi : j = i
  · subst hi; rw [if_pos rfl, a9x h, if_pos (by rw [a0t]; exact (List.getElem?_eq_some_iff.1 h).1)]
  rw [if_neg hi]
theorem b4z {ws j x sp} (h : ws[j]? = some x) : ((mix ws j).map str ++ sp).set j (str (Ke.pO x)) = (mix ws (j + 1)).map str ++ sp := by
  rw [a4W h, List.set_append_left _ _ (by rw [List.length_map, a0t]; exact (List.getElem?_eq_some_iff.1 h).1), List.map_set]
theorem b5q ws {j} (h : ¬ j < ws.length) : mix ws j = ws.map Ke.pO := by
  unfold mix
  rw [List.take_of_length_le (by omega), List.drop_eq_nil_of_le (by omega), List.append_nil]
theorem BJ s skip (hs : s.length ≤ 100000000) I : Pure Tryz.prog 26 [str s, i64 skip] I (str (Ke.nT s skip)) := by
 refine jO.toPure ?_
 have hcl : (Ke.cut s skip).length ≤ s.length := by unfold Ke.cut; simp
 have hwl := Ke.qX (Ke.cut s skip)
 have hjl := Ke.VY (Ke.cut s skip)
 refine jU func26 fun w0 hw0 => ?_
 refine jL 9 ?_
 refine J.z (yS rfl rfl rfl) ?_
 refine jL 2 ?_
 refine J.z (uN rfl rfl rfl) ?_
 refine J.ev 13 (i64 (((min (max skip 0) (s.length : Int)).toNat : Nat) : Int)) rfl (congrArg i64 (by omega)) ?_
 refine J.z (lN (p := (min (max skip 0) (s.length : Int)).toNat) (q := s.length) rfl rfl lM ⟨_, rfl⟩ rfl (by omega) (by omega)) ?_
 refine J.ev 14 (str (Ke.cut s skip)) rfl (by rw [List.take_length]; rfl) ?_
 refine sV (yO (Ke.cut s skip) (by omega) _) ?_
 intro v2 I3 H4 hle5 hn1 hp6
 obtain ⟨g, hg, h, rfl⟩ := hp6; cases h
 replace hg := hg.base hn1
 refine jL 10 ?_
 refine Cj.loop (ι := Nat) (fun j => j ≤ (Ke.words (Ke.cut s skip)).length) (fun j => (Ke.words (Ke.cut s skip)).length - j) (fun j => [(5, gV (Ke.words (Ke.cut s skip)).length g), (6, i64 (j : Int))]) (fun j => _) (fun j => gH 9 ((mix (Ke.words (Ke.cut s skip)) j).map str) g) 0 (Nat.zero_le _) ⟨rfl, rfl, trivial⟩ rfl (by rw [List.append_nil, show mix (Ke.words (Ke.cut s skip)) 0 = (Ke.words (Ke.cut s skip)) by simp [mix]]) ?_
 intro j hj
 refine jL 5 ?_
 refine J.z (a6J hg rfl rfl lJ) ?_
 refine jS (fun hc7 hc7p => ?_) (fun hc7 hc7p => ?_)
 ·refine jL 5 ?_
  have hlt : j < (Ke.words (Ke.cut s skip)).length := by omega
  obtain ⟨x, hget⟩ : ∃ x, (Ke.words (Ke.cut s skip))[j]? = some x := ⟨_, kW hlt⟩
  have hxm := lX hget
  have hxl := Ke.xB _ x hxm
  have hma := a9x hget
  obtain ⟨bg8, cg9, sp10, rfl, hbg8⟩ := hg.some (by omega)
  refine kJ j ?_
  refine J.z (jP rfl rfl lQ (jR.at 0 rfl) (nN hma)) ?_
  refine kC (ZJ x (by omega) _) ?_
  refine mW (fun hc11 => ?_) (fun hc11 => ?_)
  ·have hsw : Ke.pO x = Ke.number x := by unfold Ke.pO; rw [show Ke.digits x = true from hc11]; rfl
   refine kJ j ?_
   refine J.z (jP rfl rfl lQ (jR.at 0 rfl) (nN hma)) ?_
   refine kC (a9o x (by omega) _) ?_
   refine J.ev 34 (str (Ke.pO x)) rfl (by rw [hsw]) ?_
   refine kJ j ?_
   refine J.op rfl (tH 0 rfl rfl rfl rfl rfl rfl kU rfl (.inl rfl) (by simp only [List.length_append, List.length_map, a0t]; omega) lS.z ?_)
   refine jL 8 ?_
   refine Ej.round (j + 1) (by omega) (by omega) ⟨rfl, rfl, trivial⟩ rfl (by rw [b4z hget]; rfl)
  have hsw : Ke.pO x = x := by unfold Ke.pO; rw [show Ke.digits x = false from hc11]; rfl
  refine jL 8 ?_
  refine Ej.round (j + 1) (by omega) (by omega) ⟨rfl, rfl, trivial⟩ rfl (by rw [b1F hget hsw])
 refine jL 6 ?_
 have hme := b5q (Ke.words (Ke.cut s skip)) (j := j) (by omega)
 rw [hme]
 refine Cj.perm (H' := gH _ _ _ ++ []) (by rw [List.append_nil]) ?_
 have hg2 : kZ w0.heap.size 1 (Ke.words (Ke.cut s skip)).length (((Ke.words (Ke.cut s skip)).map Ke.pO).map str) g := LU hg (by simp)
 refine Cj.xY hg2 (fun I8 hle8 hv => ?_)
 rw [show (Ke.words (Ke.cut s skip)).length = ((Ke.words (Ke.cut s skip)).map Ke.pO).length from (List.length_map _).symm] at hv ⊢
 refine kC (WJ ((Ke.words (Ke.cut s skip)).map Ke.pO) _ (by rw [List.length_map]; omega) (by omega) _ (mZ.of hv)) ?_
 refine jV ?_
 exact ⟨rfl, rfl⟩
end Go.Proofs.YtekmeaoblpfnpaaGreatDoor
end
section
namespace Go.Proofs.YtekmeaoblpfnpaaGreatDoor
open Go Go.Sx
theorem mZ.len {I l v} (h : mZ I l v) : ∃ p c, v = .slice p l.length c := let ⟨p, c, h, _⟩ := h; ⟨p, c, h⟩
theorem b4P {s x d l} : Ke.pg s d (x :: l) = (if s < x ∧ d = false then [s, x] else [x]) ++ Ke.pg s (d || decide (s < x)) l := by
  rw [Ke.pg]
  by_cases h : s < x
  · cases d
    · rw [if_pos ⟨h, rfl⟩, if_pos ⟨h, rfl⟩]; simp [h]
    rw [if_neg (by simp), if_neg (by simp)]; rfl
  rw [if_neg (fun g => h g.1), if_neg (fun g => h g.1)]; simp [h]
theorem SI s : ∀ (l : List (List UInt8)) (d : Bool), (Ke.pg s d l).length ≤ l.length + 1
  | [], true => Nat.zero_le _
  | [], false => Nat.le_refl _
  | x :: l, d => by
    have := SI s l (d || decide (s < x))
    rw [b4P, List.length_append, List.length_cons]
    by_cases h : s < x ∧ d = false
    · rw [if_pos h]
      obtain ⟨h1, rfl⟩ := h
      have h2 : Ke.pg s (false || decide (s < x)) l = l := by rw [decide_eq_true h1]; exact Ke.FT s l
      rw [h2]; simp; omega
    rw [if_neg h]; simp; omega
theorem a0T l s : (Ke.put l s).length ≤ l.length + 1 := by
  unfold Ke.put
  split
  · omega
  exact SI s l false
theorem AY : ∀ (xs l : List (List UInt8)), (xs.foldl Ke.put l).length ≤ l.length + xs.length
  | [], l => Nat.le_refl _
  | x :: xs, l => by
    have h1 := AY xs (Ke.put l x)
    have h2 := a0T l x
    simp only [List.foldl_cons, List.length_cons]; omega
theorem b2M xs x : (xs ++ [x]).foldl Ke.put [] = Ke.put (xs.foldl Ke.put []) x := by rw [List.foldl_append]; rfl
theorem VX f codes (hcl : codes.length ≤ 1000) (hn : f.subs.length ≤ 2000000) (htx : lV f.subs ≤ 3000000) I (hr : jW tK I f.subs f.sv) : Pure Tryz.prog 121 [.agg (nS f).toArray, str codes] I (str (Ke.textOf f codes)) := by
 refine jO.toPure ?_
 obtain ⟨p2, c2, hsv, hc2, hp2⟩ := hr
 refine jU Tryz.func121 fun w0 hw0 => ?_
 refine jL 3 ?_
 intro b1 hb1
 refine jL 15 ?_
 refine Cj.loop (ι := Nat × Gs) (fun j => j.1 ≤ f.subs.length ∧ kZ w0.heap.size 1 (tx codes (f.subs.take j.1)).length ((tx codes (f.subs.take j.1)).map str) j.2) (fun j => f.subs.length - j.1) (fun j => [(1, str codes), (2, ptr b1 0), (5, gV (tx codes (f.subs.take j.1)).length j.2), (6, i64 (j.1 : Int))]) (fun j => _) (fun j => (b1, jM 108 (nS f)) :: gH 9 ((tx codes (f.subs.take j.1)).map str) j.2) (0, none) ⟨Nat.zero_le _, rfl, rfl⟩ ⟨rfl, rfl, rfl, rfl, trivial⟩ rfl rfl ?_
 rintro ⟨j, g⟩ ⟨hj, hg⟩
 dsimp only at hj hg ⊢
 have htl := a4D codes (f.subs.take j)
 rw [List.length_take, Nat.min_eq_left hj] at htl
 refine jL 6 ?_
 refine J.ev 10 (.slice p2 f.subs.length c2) rfl hsv ?_
 refine jS (fun hc2 hc2p => ?_) (fun hc2 hc2p => ?_)
 ·refine jL 5 ?_
  have hlt : j < f.subs.length := by omega
  obtain ⟨sb, hsget⟩ : ∃ x, f.subs[j]? = some x := ⟨_, kW hlt⟩
  obtain ⟨sbk, so, scs, sty, sfr, sp2, rfl, hsbk, hsd⟩ := hp2 (jT hlt)
  have hnx := b4R (codes := codes) hsget
  refine jL 4 ?_
  refine J.ev 17 (.slice (some ⟨sbk, so, none⟩) f.subs.length c2) rfl hsv ?_
  refine kJ (so + j * 2) ?_
  refine jL 1 ?_
  refine J.z (jP rfl rfl tA5 (jR.EH hsbk) (lW qH hsd hsget 0 (by decide))) ?_
  refine kC (b5R codes sb.code (by omega) _) ?_
  refine mW (fun hc3 => ?_) (fun hc3 => ?_)
  ·rw [if_pos hc3] at hnx
   refine jL 4 ?_
   refine J.ev 26 (.slice (some ⟨sbk, so, none⟩) f.subs.length c2) rfl hsv ?_
   refine kJ (so + j * 2) ?_
   refine J.z (q1 (off' := so + j * 2 + 1) OG kU) ?_
   refine J.z (jP rfl rfl lQ (jR.EH hsbk) (lW qH hsd hsget 1 (by decide))) ?_
   refine jL 1 ?_
   intro b4 hb4
   refine yQ 15 [_, _] hg ?_
   intro g5 hg5
   refine jL 9 ?_
   refine Ej.keep (Keeps.d (Keeps.k Keeps.r)) ?_
   refine Ej.round (j + 1, g5) ⟨by dsimp only; omega, by dsimp only; rw [hnx, List.map_append, List.length_append]; exact hg5⟩ (by dsimp only; omega) ⟨rfl, rfl, by dsimp only; rw [hnx, List.length_append]; rfl, rfl, trivial⟩ rfl (by dsimp only; rw [hnx, List.map_append]; rfl)
  rw [if_neg (fun e => Bool.noConfusion (e.symm.trans hc3))] at hnx
  refine jL 8 ?_
  refine Ej.round (j + 1, g) ⟨by dsimp only; omega, by dsimp only; rw [hnx, List.append_nil]; exact hg⟩ (by dsimp only; omega) ⟨rfl, rfl, by dsimp only; rw [hnx, List.append_nil]; rfl, rfl, trivial⟩ rfl (by dsimp only; rw [hnx, List.append_nil])
 refine jL 6 ?_
 have hfull : f.subs.take j = f.subs := List.take_of_length_le (by omega)
 rw [hfull] at hg ⊢
 have htl2 := MZ f codes
 refine Cj.perm (H' := gH _ _ _ ++ [_]) List.perm_append_comm ?_
 refine Cj.xY hg (fun I8 hle8 hv => ?_)
 refine kC (WJ (tx codes f.subs) _ (by have := a4D codes f.subs; omega) (by have e : Ke.join (tx codes f.subs) = Ke.textOf f codes := rfl; rw [e]; omega) _ (mZ.of hv)) ?_
 refine kM ?_
 exact ⟨rfl, rfl⟩
end Go.Proofs.YtekmeaoblpfnpaaGreatDoor
end
section
namespace Go.Proofs.YtekmeaoblpfnpaaGreatDoor
open _root_.Go.Proofs.Tryz
open Go Go.Sx
theorem YT {α : Type} {p} : ∀ {l : List α} {k : Nat}, (∀ x ∈ l.take k, p x = true) → (∀ x, l[k]? = some x → p x = false) → k ≤ l.length → (l.takeWhile p).length = k
  | [], k, _, _, hk => by have : k = 0 := by simpa using hk
                          subst this; rfl
  | x :: r, 0, _, h2, _ => by rw [List.takeWhile_cons, if_neg (by rw [h2 x rfl]; decide)]; rfl
  | x :: r, k + 1, h1, h2, hk => by
    rw [List.takeWhile_cons, if_pos (h1 x (by rw [List.take_succ_cons]; exact .head _)), List.length_cons, YT (k := k) (fun y hy => h1 y (by rw [List.take_succ_cons]; exact .tail _ hy)) (fun y hy => h2 y (by rw [List.getElem?_cons_succ]; exact hy)) (by simpa using hk)]
theorem a9E {α : Type} {p : α → Bool} {l : List α} {k x} (h : ∀ y ∈ l.take k, p y = true) (hg : l[k]? = some x) (hx : p x = true) : ∀ y ∈ l.take (k + 1), p y = true := by
  obtain ⟨hlt, hg⟩ := List.getElem?_eq_some_iff.1 hg
  rw [List.take_succ_eq_append_getElem hlt, hg]
  intro y hy
  rcases List.mem_append.1 hy with g | g
  · exact h y g
  rw [List.mem_singleton.1 g]; exact hx
theorem a0U {s k} (h : Ix.rD s = Ix.rD (s.drop k)) (h4 : ((s.drop k).takeWhile Ke.digit).length = 4) : uy s = ((s.take (k + 4)).drop k, true) := by
  unfold uy
  rw [h, Ix.a2e, if_pos h4, List.drop_take]
  simp
theorem b5C {s k} (h : Ix.rD s = Ix.rD (s.drop k)) (hk : s.length ≤ k) : uy s = ([], false) := by
  unfold uy
  rw [h, List.drop_eq_nil_of_le hk, Ix.b1N]; rfl
theorem a0E {s k n} (h : Ix.rD s = Ix.rD (s.drop k)) (hn : ((s.drop k).takeWhile Ke.digit).length = n) (h4 : n ≠ 4) : Ix.rD s = Ix.rD (s.drop (k + n + 1)) := by
  rw [h, Ix.a2e, if_neg (by omega), hn, List.drop_drop, Nat.add_assoc]
theorem b2Q s (hs : s.length ≤ 1000000000) I : Pure Tryz.prog 122 [str s] I (.tuple #[str (uy s).1, .bool (uy s).2]) := by
 refine jO.toPure ?_
 refine jU func122 fun w0 hw0 => ?_
 refine jL 13 ?_
 refine Cj.loop (ι := Nat) (fun k => k ≤ s.length + 1 ∧ Ix.rD s = Ix.rD (s.drop k)) (fun k => s.length + 1 - k) (fun k => [(0, str s), (4, i64 (k : Int))]) (fun k => _) (fun k => []) 0 ⟨Nat.zero_le _, rfl⟩ ⟨rfl, rfl, trivial⟩ rfl rfl ?_
 rintro k ⟨hk, hyr⟩
 refine jS (fun hc1 hc1p => ?_) (fun hc1 hc1p => ?_)
 ·refine jL 11 ?_
  refine Cj.loop (ι := Nat) (fun n => k + n ≤ s.length ∧ ∀ x ∈ (s.drop k).take n, Ke.digit x = true) (fun n => s.length - k - n) (fun n => [(0, str s), (4, i64 (k : Int)), (5, i64 (n : Int))]) (fun n => _) (fun n => []) 0 ⟨by omega, fun x hx => by simp at hx⟩ ⟨rfl, rfl, rfl, trivial⟩ rfl rfl ?_
  rintro n ⟨hkn, hdg⟩
  refine mX (fun hg2 hg2p => ?_) (fun hg2 hg2p => ?_)
  ·have hlt2 : k + n < s.length := by have h := mO hg2; omega
   obtain ⟨c, hget⟩ : ∃ c, s[k + n]? = some c := ⟨_, kW hlt2⟩
   refine jL 4 ?_
   refine J.ev 22 (i64 ((k + n : Nat) : Int)) rfl rfl ?_
   refine J.zg (lH rfl rfl rfl lM (by omega) hget) ?_
   refine mX (fun hg3 hg3p => ?_) (fun hg3 hg3p => ?_)
   ·have h48 : 48 ≤ c.toNat := by have h := mO hg3; omega
    refine jL 4 ?_
    refine J.ev 30 (i64 ((k + n : Nat) : Int)) rfl rfl ?_
    refine J.zg (lH rfl rfl rfl lM (by omega) hget) ?_
    refine jS (fun hc4 hc4p => ?_) (fun hc4 hc4p => ?_)
    ·have hdig : Ke.digit c = true := by rw [Ix.vV]; have h := mO hc4; simp only [decide_eq_true_eq]; omega
     refine jL 9 ?_
     refine Ej.round (n + 1) ⟨by omega, a9E hdg (by rw [List.getElem?_drop]; exact hget) hdig⟩ (by omega) ⟨rfl, rfl, rfl, trivial⟩ rfl rfl
    have hndig : ¬ Ke.digit c = true := by rw [Ix.vV]; have h := nM hc4; simp only [decide_eq_true_eq]; omega
    refine jL 7 ?_
    have hn : ((s.drop k).takeWhile Ke.digit).length = n := YT hdg (fun x hx => by rw [List.getElem?_drop, hget] at hx; cases hx; exact Bool.eq_false_iff.2 hndig) (by rw [List.length_drop]; omega)
    refine jS (fun hc5 hc5p => ?_) (fun hc5 hc5p => ?_)
    ·have h4 : n = 4 := by have h := lU hc5; omega
     have hyy := a0U hyr (hn.trans h4)
     refine jL 6 ?_
     refine J.z (lN (p := k) (q := k + 4) rfl rfl lM ⟨_, rfl⟩ ⟨_, rfl⟩ (by omega) (by omega)) ?_
     refine jV ?_
     rw [hyy]
     exact ⟨rfl, rfl⟩
    have h4 : n ≠ 4 := by have h := lY hc5; omega
    refine jL 15 ?_
    refine Ej.round (k + n + 1) ⟨by omega, a0E hyr hn (by omega)⟩ (by omega) ⟨rfl, rfl, trivial⟩ rfl rfl
   have hndig : ¬ Ke.digit c = true := by rw [Ix.vV]; have h := nM hg3; simp only [decide_eq_true_eq]; omega
   refine jL 17 ?_
   have hn : ((s.drop k).takeWhile Ke.digit).length = n := YT hdg (fun x hx => by rw [List.getElem?_drop, hget] at hx; cases hx; exact Bool.eq_false_iff.2 hndig) (by rw [List.length_drop]; omega)
   refine jS (fun hc7 hc7p => ?_) (fun hc7 hc7p => ?_)
   ·have h4 : n = 4 := by have h := lU hc7; omega
    have hyy := a0U hyr (hn.trans h4)
    refine jL 6 ?_
    refine J.z (lN (p := k) (q := k + 4) rfl rfl lM ⟨_, rfl⟩ ⟨_, rfl⟩ (by omega) (by omega)) ?_
    refine jV ?_
    rw [hyy]
    exact ⟨rfl, rfl⟩
   have h4 : n ≠ 4 := by have h := lY hc7; omega
   refine jL 15 ?_
   refine Ej.round (k + n + 1) ⟨by omega, a0E hyr hn (by omega)⟩ (by omega) ⟨rfl, rfl, trivial⟩ rfl rfl
  have hge2 : ¬ k + n < s.length := by have h := nM hg2; omega
  refine jL 25 ?_
  have hn : ((s.drop k).takeWhile Ke.digit).length = n := YT hdg (fun x hx => absurd (List.getElem?_eq_some_iff.1 hx).1 (by rw [List.length_drop]; omega)) (by rw [List.length_drop]; omega)
  refine jS (fun hc9 hc9p => ?_) (fun hc9 hc9p => ?_)
  ·have h4 : n = 4 := by have h := lU hc9; omega
   have hyy := a0U hyr (hn.trans h4)
   refine jL 6 ?_
   refine J.z (lN (p := k) (q := k + 4) rfl rfl lM ⟨_, rfl⟩ ⟨_, rfl⟩ (by omega) (by omega)) ?_
   refine jV ?_
   rw [hyy]
   exact ⟨rfl, rfl⟩
  have h4 : n ≠ 4 := by have h := lY hc9; omega
  refine jL 15 ?_
  refine Ej.round (k + n + 1) ⟨by omega, a0E hyr hn (by omega)⟩ (by omega) ⟨rfl, rfl, trivial⟩ rfl rfl
 refine jV ?_
 rw [b5C hyr (by omega)]
 exact ⟨rfl, rfl⟩
theorem ZT s p (hp : p.length ≤ 1000000) I : Pure Tryz.prog 123 [str s, str p] I (.bool (p.isPrefixOf s)) := by
 refine jO.toPure ?_
 refine jU func123 fun w0 hw0 => ?_
 refine mX (fun hg1 hg1p => ?_) (fun hg1 hg1p => ?_)
 ·have hge : p.length ≤ s.length := by have h := mO hg1; omega
  refine jL 3 ?_
  refine J.zg (lN (p := 0) (q := p.length) rfl rfl lM rfl ⟨_, rfl⟩ (by omega) (by omega)) ?_
  refine jV ?_
  refine ⟨?_, rfl⟩
  rw [pre_eq hge]
 have hge : ¬ p.length ≤ s.length := by have h := nM hg1; omega
 refine jV ?_
 rw [a9e hge]
 exact ⟨rfl, rfl⟩
theorem a6p f : (Ix.uT f).length ≤ lV f.subs + f.subs.length := by
  have := DC f []
  rwa [DV] at this
theorem a5O f (hn : f.subs.length ≤ 2000000) (htx : lV f.subs ≤ 3000000) I (hr : jW tK I f.subs f.sv) : Pure Tryz.prog 124 [.agg (nS f).toArray] I (str (Ix.uT f)) := by
 refine jO.toPure ?_
 obtain ⟨p2, c2, hsv, hc2, hp2⟩ := hr
 have hal := a6p f
 unfold Ix.uT at hal
 refine jU func124 fun w0 hw0 => ?_
 refine jL 3 ?_
 intro b1 hb1
 refine jL 15 ?_
 refine Cj.loop (ι := Nat) (fun j => j ≤ f.subs.length) (fun j => f.subs.length - j) (fun j => [(1, ptr b1 0), (3, str (Ke.join ((f.subs.map (·.text)).take j))), (4, i64 (j : Int))]) (fun j => _) (fun j => [(b1, jM 108 (nS f))]) 0 (Nat.zero_le _) ⟨rfl, rfl, rfl, trivial⟩ rfl rfl ?_
 intro j hj
 have hjp := JW (f.subs.map (·.text)) j
 have hjp2 := JW (f.subs.map (·.text)) (j + 1)
 refine jL 6 ?_
 refine J.ev 7 (.slice p2 f.subs.length c2) rfl hsv ?_
 refine jS (fun hc2 hc2p => ?_) (fun hc2 hc2p => ?_)
 ·have hlt : j < f.subs.length := by omega
  obtain ⟨sb, hsget⟩ : ∃ x, f.subs[j]? = some x := ⟨_, kW hlt⟩
  have hget : (f.subs.map (·.text))[j]? = some sb.text := by rw [List.getElem?_map, hsget]; rfl
  obtain ⟨sbk, so, scs, sty, sfr, sp2, rfl, hsbk, hsd⟩ := hp2 (jT hlt)
  have hjn := congrArg List.length (yV hget)
  rw [List.length_append] at hjn
  refine jS (fun hc3 hc3p => ?_) (fun hc3 hc3p => ?_)
  ·have hj0 : 0 < j := by have h := mO hc3; omega
   refine jL 2 ?_
   refine J.z (oZ rfl rfl rfl (by rw [if_pos hj0, List.length_append] at hjn; simp only [List.length_cons, List.length_nil] at hjn ⊢; omega)) ?_
   refine jL 7 ?_
   refine J.ev 18 (.slice (some ⟨sbk, so, none⟩) f.subs.length c2) rfl hsv ?_
   refine kJ (so + j * 2) ?_
   refine J.z (q1 (off' := so + j * 2 + 1) OG kU) ?_
   refine J.z (jP rfl rfl lQ (jR.EH hsbk) (lW qH hsd hsget 1 (by decide))) ?_
   refine J.z (oZ rfl rfl rfl (by first | (rw [if_pos hj0, List.length_append] at hjn; simp only [List.length_append, List.length_cons, List.length_nil] at hjn ⊢; omega) | (rw [if_neg hj0] at hjn; omega))) ?_
   refine jL 9 ?_
   refine Ej.round (j + 1) (by omega) (by omega) ⟨rfl, by rw [yV hget, if_pos hj0]; rfl, rfl, trivial⟩ rfl rfl
  have hj0 : ¬ 0 < j := by have h := nM hc3; omega
  refine jL 6 ?_
  refine J.ev 18 (.slice (some ⟨sbk, so, none⟩) f.subs.length c2) rfl hsv ?_
  refine kJ (so + j * 2) ?_
  refine J.z (q1 (off' := so + j * 2 + 1) OG kU) ?_
  refine J.z (jP rfl rfl lQ (jR.EH hsbk) (lW qH hsd hsget 1 (by decide))) ?_
  refine J.z (oZ rfl rfl rfl (by first | (rw [if_pos hj0, List.length_append] at hjn; simp only [List.length_append, List.length_cons, List.length_nil] at hjn ⊢; omega) | (rw [if_neg hj0] at hjn; omega))) ?_
  refine jL 9 ?_
  refine Ej.round (j + 1) (by omega) (by omega) ⟨rfl, by rw [yV hget, if_neg hj0]; rfl, rfl, trivial⟩ rfl rfl
 have hfull : (f.subs.map (·.text)).take j = f.subs.map (·.text) := List.take_of_length_le (by rw [List.length_map]; omega)
 refine kM ?_
 rw [hfull]
 exact ⟨rfl, rfl⟩
def BK (x : List UInt8 × Nat) : List Value := [str x.1, i64 (x.2 : Int)]
theorem rX x : (BK x).length = 2 := rfl
def qE (u : List UInt8 → List UInt8 × Bool) (c : UInt8) (ss : List Ke.Sub) : List (List UInt8 × Nat) := (ss.filterMap (vK u c)).map fun s => (s, 0)
theorem a3F {u c} {ss : List Ke.Sub} {k s} (h : ss[k]? = some s) : qE u c (ss.take (k + 1)) = qE u c (ss.take k) ++ (if (u s.text).2 = true ∧ s.code = c then [((u s.text).1, 0)] else []) := by
  unfold qE
  rw [a6h h, List.map_append]
  congr 1
  split <;> rfl
theorem TM u c ss : (qE u c ss).length ≤ ss.length := by
  unfold qE; rw [List.length_map]; exact List.length_filterMap_le _ _
theorem LH {f : Ke.sG} {t u c j} (h : j = 0 ∨ f.tag = t) (hj : f.subs.length ≤ j) : (if f.tag = t then qE u c f.subs else []) = qE u c (f.subs.take j) := by
  by_cases ht : f.tag = t
  · rw [if_pos ht, List.take_of_length_le hj]
  have h0 := h.resolve_right ht
  subst h0
  rw [if_neg ht]; rfl
theorem SV {f : Ke.sG} {t u c j} (h : j = 0 ∨ f.tag = t) (ht : f.tag ≠ t) : (if f.tag = t then qE u c f.subs else []) = qE u c (f.subs.take j) := by
  have h0 := h.resolve_right ht
  subst h0
  rw [if_neg ht]; rfl
theorem vY {f n} (h : n = Ix.rE) : Ix.UN f n = if f.tag = [50, 52, 53] ∨ f.tag = [50, 52, 54] then [(Ke.textOf f [97, 98], Ix.vJ f)] else [] := by subst h; rfl
theorem sW {f n} (h : n = Ix.qZ) : Ix.UN f n = if f.tag = [49, 48, 48] ∨ f.tag = [49, 49, 48] ∨ f.tag = [55, 48, 48] then [(Ke.textOf f [97], 0)] else [] := by subst h; rfl
theorem rU {f n} (h : n = Ix.rF) : Ix.UN f n = if f.tag = [54, 48, 48] ∨ f.tag = [54, 53, 48] then [(Ke.textOf f [97, 120], 0)] else [] := by subst h; rfl
theorem yM {f n} (h : n = Ix.uH) : Ix.UN f n = if f.tag = [48, 50, 48] then qE Ke.ED 97 f.subs else [] := by subst h; rfl
theorem yL {f n} (h : n = Ix.IY) : Ix.UN f n = if f.tag = [50, 54, 48] then qE uy 99 f.subs else [] := by
  subst h
  unfold qE
  rw [a6C]; rfl
theorem vM {f n} (h : n = Ix.wI) : Ix.UN f n = if Ix.xX f then [(Ix.uT f, 0)] else [] := by subst h; rfl
theorem of_none {f n} (h1 : n ≠ Ix.rE) (h2 : n ≠ Ix.qZ) (h3 : n ≠ Ix.rF) (h4 : n ≠ Ix.uH) (h5 : n ≠ Ix.IY) (h6 : n ≠ Ix.wI) : Ix.UN f n = [] := by
  unfold Ix.UN
  rw [if_neg h1, if_neg h2, if_neg h3, if_neg h4, if_neg h5, if_neg h6]
theorem a6T f n (h : f.subs.length ≤ 1000) : (Ix.UN f n).length ≤ 1000 := by
  by_cases h1 : n = Ix.rE
  · rw [vY h1]; split <;> simp
  by_cases h2 : n = Ix.qZ
  · rw [sW h2]; split <;> simp
  by_cases h3 : n = Ix.rF
  · rw [rU h3]; split <;> simp
  by_cases h4 : n = Ix.uH
  · rw [yM h4]; split
    · exact nP (TM _ _ _) h
    simp
  by_cases h5 : n = Ix.IY
  · rw [yL h5]; split
    · exact nP (TM _ _ _) h
    simp
  by_cases h6 : n = Ix.wI
  · rw [vM h6]; split <;> simp
  rw [of_none h1 h2 h3 h4 h5 h6]; simp
theorem b5O f n (hn2 : f.subs.length ≤ 2000000) (htx : lV f.subs ≤ 3000000) I (hr : jW tK I f.subs f.sv) : jO Tryz.prog 68 [.agg (nS f).toArray, str n] I [] (fun e I' H' => ∃ w, e = .returned w ∧ jW BK I' (Ix.UN f n) w ∧ H' = []) := by
 obtain ⟨p2, c2, hsv, hc2, hp2⟩ := id hr
 refine jU func68 fun w0 hw0 => ?_
 refine jL 3 ?_
 intro b1 hb1
 refine jL 8 ?_
 refine Cj.join (ι := Heap × Gs) (fun y => kZ w0.heap.size 2 (Ix.UN f n).length ((Ix.UN f n).flatMap BK) y.2) (fun y => [(5, gV (Ix.UN f n).length y.2)]) (fun y => y.1) (fun y => (b1, jM 108 (nS f)) :: gH 62 ((Ix.UN f n).flatMap BK) y.2) ?_ (fun hcut => ?_)
 ·rintro ⟨J9, g⟩ hg
  dsimp only at hg ⊢
  refine jL 7 ?_
  refine Ej.keep (Keeps.d Keeps.r) ?_
  refine Ej.perm (H' := gH 62 (List.flatMap BK (Ix.UN f n)) g ++ []) (.of_eq (List.append_nil _)) ?_
  refine Ej.keepR rX (by decide) hg rfl (fun I8 hle8 hw8 => ?_)
  refine jV ?_
  exact ⟨_, rfl, hw8, rfl⟩
 refine jS (fun hc2 hc2p => ?_) (fun hc2 hc2p => ?_)
 ·have hn : n = Ix.rE := lU hc2
  refine jL 5 ?_
  refine Cj.join (ι := Unit) (fun _y => True) (fun _y => [(1, str n), (2, ptr b1 0), (5, .slice none 0 0), (6, i64 (Ix.vJ f : Nat))]) (fun _y => I) (fun _y => [(b1, jM 108 (nS f))]) ?_ (fun hcut => ?_)
  ·rintro _ -
   refine Cj.join (ι := Bool) (fun y => (y = true → f.tag = [50, 52, 53] ∨ f.tag = [50, 52, 54]) ∧ (y = false → ¬ (f.tag = [50, 52, 53] ∨ f.tag = [50, 52, 54]))) (fun y => [(1, str n), (2, ptr b1 0), (5, .slice none 0 0), (6, i64 (Ix.vJ f : Nat)), (51, .bool y)]) (fun y => I) (fun y => [(b1, jM 108 (nS f))]) ?_ (fun hcut => ?_)
   ·rintro y ⟨hy1, hy2⟩
    refine mW (fun hc3 => ?_) (fun hc3 => ?_)
    ·have htt := hy1 hc3
     refine kC (VX f [97, 98] (by decide) hn2 htx _ hr) ?_
     refine J.z q3 ?_
     refine J.z (jX (pl := #[(0, 1), (1, 1)]) rfl rfl uD rfl NQ (fun w => by simp [oJ, kU]) (pR.part rfl rfl rfl (oD.c oD.z) (pR.part rfl rfl rfl (oD.s (oD.c oD.z)) pR.none))) ?_
     refine J.op rfl (jY rfl rfl rfl sQ BI uD rfl rfl rfl rfl (xM.agg rfl xM.none) ?_)
     intro b4 hb4
     refine J.op rfl (kK (by' := 23) (n := 0) (g := none) (xs := []) [_, _] rfl rfl rfl rfl rfl sQ (.inr ⟨_, sQ⟩) (by kernel_rfl) BI uD rfl ⟨rfl, rfl⟩ rfl (Src.slice (jR.at 0 rfl) rfl rfl rfl) (by omega) ?_)
     intro g5 hg5
     refine jL 3 ?_
     refine Ej.keep (Keeps.d (Keeps.k Keeps.r)) ?_
     exact hcut (_, g5) _ _ _ (by rw [show Ix.UN f n = [(Ke.textOf f [97, 98], Ix.vJ f)] from (vY hn).trans (if_pos htt)]; exact hg5) ⟨(by rw [show Ix.UN f n = [(Ke.textOf f [97, 98], Ix.vJ f)] from (vY hn).trans (if_pos htt)] <;> rfl), trivial⟩ rfl (by rw [show Ix.UN f n = [(Ke.textOf f [97, 98], Ix.vJ f)] from (vY hn).trans (if_pos htt)] <;> rfl)
    have htt := hy2 hc3
    refine jL 2 ?_
    exact hcut (_, none) _ _ _ (by rw [show Ix.UN f n = [] from (vY hn).trans (if_neg htt)]; exact ⟨rfl, rfl⟩) ⟨(by rw [show Ix.UN f n = [] from (vY hn).trans (if_neg htt)] <;> rfl), trivial⟩ rfl (by rw [show Ix.UN f n = [] from (vY hn).trans (if_neg htt)] <;> rfl)
   refine mX (fun hg6 hg6p => ?_) (fun hg6 hg6p => ?_)
   ·have h45 : f.tag = [50, 52, 53] := lU hg6
    refine jL 5 ?_
    exact hcut _ _ _ _ ⟨fun h => by simp_all, fun h => by simp_all⟩ ⟨rfl, rfl, rfl, rfl, rfl, trivial⟩ rfl rfl
   have h45 : f.tag ≠ [50, 52, 53] := lY hg6
   refine jL 5 ?_
   exact hcut _ _ _ _ ⟨fun h => by simp_all, fun h => by simp_all⟩ ⟨rfl, rfl, rfl, rfl, rfl, trivial⟩ rfl rfl
  refine mX (fun hg7 hg7p => ?_) (fun hg7 hg7p => ?_)
  ·have h45 : f.tag = [50, 52, 53] := lU hg7
   refine mX (fun hg8 hg8p => ?_) (fun hg8 hg8p => ?_)
   ·have hl1 : 1 < f.ind.length := by have h := mO hg8; omega
    obtain ⟨c, hget⟩ : ∃ c, f.ind[1]? = some c := ⟨_, kW hl1⟩
    have hcl := c.toNat_lt
    refine jL 2 ?_
    refine J.zg (lH rfl rfl rfl lM (by decide) hget) ?_
    refine mX (fun hg9 hg9p => ?_) (fun hg9 hg9p => ?_)
    ·have h48 : 48 ≤ c.toNat := by have h := mO hg9; omega
     refine jL 2 ?_
     refine J.zg (lH rfl rfl rfl lM (by decide) hget) ?_
     refine jS (fun hc10 hc10p => ?_) (fun hc10 hc10p => ?_)
     ·have h57 : c.toNat ≤ 57 := by have h := mO hc10; omega
      have hdg : Ke.digit c = true := by rw [Ix.vV]; simp only [decide_eq_true_eq]; omega
      refine jL 3 ?_
      refine J.z (lH rfl rfl rfl lM (by decide) hget) ?_
      refine J.z (FZ rfl rfl rfl (w8 (by omega))) ?_
      refine jL 1 ?_
      refine J.ev 43 (i64 ((c.toNat - 48 : Nat) : Int)) rfl (congrArg i64 ((qW (by omega)).trans (by omega))) ?_
      refine jL 2 ?_
      exact hcut () _ _ _ trivial ⟨rfl, rfl, rfl, (congrArg (fun n : Nat => some (i64 (n : Int))) (((if_pos h45).trans ((yT hget).trans (if_pos hdg)) : Ix.vJ f = c.toNat - 48)).symm), trivial⟩ rfl rfl
     have hdg : ¬ Ke.digit c = true := by rw [Ix.vV]; have h := nM hc10; simp only [decide_eq_true_eq]; omega
     refine jL 1 ?_
     exact hcut () _ _ _ trivial ⟨rfl, rfl, rfl, (congrArg (fun n : Nat => some (i64 (n : Int))) (((if_pos h45).trans ((yT hget).trans (if_neg hdg)) : Ix.vJ f = 0)).symm), trivial⟩ rfl rfl
    have hdg : ¬ Ke.digit c = true := by rw [Ix.vV]; have h := nM hg9; simp only [decide_eq_true_eq]; omega
    refine jL 9 ?_
    exact hcut () _ _ _ trivial ⟨rfl, rfl, rfl, (congrArg (fun n : Nat => some (i64 (n : Int))) (((if_pos h45).trans ((yT hget).trans (if_neg hdg)) : Ix.vJ f = 0)).symm), trivial⟩ rfl rfl
   have hl1 : ¬ 1 < f.ind.length := by have h := nM hg8; omega
   refine jL 15 ?_
   exact hcut () _ _ _ trivial ⟨rfl, rfl, rfl, (congrArg (fun n : Nat => some (i64 (n : Int))) (((if_pos h45).trans (a6B hl1) : Ix.vJ f = 0)).symm), trivial⟩ rfl rfl
  have h45 : f.tag ≠ [50, 52, 53] := lY hg7
  refine jL 21 ?_
  exact hcut () _ _ _ trivial ⟨rfl, rfl, rfl, (congrArg (fun n : Nat => some (i64 (n : Int))) ((if_neg h45 : Ix.vJ f = 0)).symm), trivial⟩ rfl rfl
 have nn16 : n ≠ Ix.rE := lY hc2
 refine jS (fun hc14 hc14p => ?_) (fun hc14 hc14p => ?_)
 ·have hn : n = Ix.qZ := lU hc14
  refine Cj.join (ι := Bool) (fun y => (y = true → f.tag = [49, 48, 48] ∨ f.tag = [49, 49, 48] ∨ f.tag = [55, 48, 48]) ∧ (y = false → ¬ (f.tag = [49, 48, 48] ∨ f.tag = [49, 49, 48] ∨ f.tag = [55, 48, 48]))) (fun y => [(1, str n), (2, ptr b1 0), (5, .slice none 0 0), (73, .bool y)]) (fun y => I) (fun y => [(b1, jM 108 (nS f))]) ?_ (fun hcut => ?_)
  ·rintro y ⟨hy1, hy2⟩
   refine mW (fun hc15 => ?_) (fun hc15 => ?_)
   ·have htt := hy1 hc15
    refine kC (VX f [97] (by decide) hn2 htx _ hr) ?_
    refine J.z (jX (pl := #[(0, 1), (1, 1)]) rfl rfl uD rfl NQ (fun w => by simp [oJ, kU]) (pR.part rfl rfl rfl (oD.c oD.z) pR.none)) ?_
    refine J.op rfl (jY rfl rfl rfl sQ BI uD rfl rfl rfl rfl (xM.agg rfl xM.none) ?_)
    intro b16 hb16
    refine J.op rfl (kK (by' := 23) (n := 0) (g := none) (xs := []) [_, _] rfl rfl rfl rfl rfl sQ (.inr ⟨_, sQ⟩) (by kernel_rfl) BI uD rfl ⟨rfl, rfl⟩ rfl (Src.slice (jR.at 0 rfl) rfl rfl rfl) (by omega) ?_)
    intro g17 hg17
    refine jL 3 ?_
    refine Ej.keep (Keeps.d (Keeps.k Keeps.r)) ?_
    exact hcut (_, g17) _ _ _ (by rw [show Ix.UN f n = [(Ke.textOf f [97], 0)] from (sW hn).trans (if_pos htt)]; exact hg17) ⟨(by rw [show Ix.UN f n = [(Ke.textOf f [97], 0)] from (sW hn).trans (if_pos htt)] <;> rfl), trivial⟩ rfl (by rw [show Ix.UN f n = [(Ke.textOf f [97], 0)] from (sW hn).trans (if_pos htt)] <;> rfl)
   have htt := hy2 hc15
   refine jL 2 ?_
   exact hcut (_, none) _ _ _ (by rw [show Ix.UN f n = [] from (sW hn).trans (if_neg htt)]; exact ⟨rfl, rfl⟩) ⟨(by rw [show Ix.UN f n = [] from (sW hn).trans (if_neg htt)] <;> rfl), trivial⟩ rfl (by rw [show Ix.UN f n = [] from (sW hn).trans (if_neg htt)] <;> rfl)
  refine mX (fun hg18 hg18p => ?_) (fun hg18 hg18p => ?_)
  ·have h100 : f.tag = [49, 48, 48] := lU hg18
   refine jL 10 ?_
   exact hcut _ _ _ _ ⟨fun h => by simp_all, fun h => by simp_all⟩ ⟨rfl, rfl, rfl, rfl, trivial⟩ rfl rfl
  have h100 : f.tag ≠ [49, 48, 48] := lY hg18
  refine mX (fun hg19 hg19p => ?_) (fun hg19 hg19p => ?_)
  ·have h110 : f.tag = [49, 49, 48] := lU hg19
   refine jL 5 ?_
   exact hcut _ _ _ _ ⟨fun h => by simp_all, fun h => by simp_all⟩ ⟨rfl, rfl, rfl, rfl, trivial⟩ rfl rfl
  have h110 : f.tag ≠ [49, 49, 48] := lY hg19
  refine jL 5 ?_
  exact hcut _ _ _ _ ⟨fun h => by simp_all, fun h => by simp_all⟩ ⟨rfl, rfl, rfl, rfl, trivial⟩ rfl rfl
 have nn59 : n ≠ Ix.qZ := lY hc14
 refine jS (fun hc20 hc20p => ?_) (fun hc20 hc20p => ?_)
 ·have hn : n = Ix.rF := lU hc20
  refine Cj.join (ι := Bool) (fun y => (y = true → f.tag = [54, 48, 48] ∨ f.tag = [54, 53, 48]) ∧ (y = false → ¬ (f.tag = [54, 48, 48] ∨ f.tag = [54, 53, 48]))) (fun y => [(1, str n), (2, ptr b1 0), (5, .slice none 0 0), (89, .bool y)]) (fun y => I) (fun y => [(b1, jM 108 (nS f))]) ?_ (fun hcut => ?_)
  ·rintro y ⟨hy1, hy2⟩
   refine mW (fun hc21 => ?_) (fun hc21 => ?_)
   ·have htt := hy1 hc21
    refine kC (VX f [97, 120] (by decide) hn2 htx _ hr) ?_
    refine J.z (jX (pl := #[(0, 1), (1, 1)]) rfl rfl uD rfl NQ (fun w => by simp [oJ, kU]) (pR.part rfl rfl rfl (oD.c oD.z) pR.none)) ?_
    refine J.op rfl (jY rfl rfl rfl sQ BI uD rfl rfl rfl rfl (xM.agg rfl xM.none) ?_)
    intro b22 hb22
    refine J.op rfl (kK (by' := 23) (n := 0) (g := none) (xs := []) [_, _] rfl rfl rfl rfl rfl sQ (.inr ⟨_, sQ⟩) (by kernel_rfl) BI uD rfl ⟨rfl, rfl⟩ rfl (Src.slice (jR.at 0 rfl) rfl rfl rfl) (by omega) ?_)
    intro g23 hg23
    refine jL 3 ?_
    refine Ej.keep (Keeps.d (Keeps.k Keeps.r)) ?_
    exact hcut (_, g23) _ _ _ (by rw [show Ix.UN f n = [(Ke.textOf f [97, 120], 0)] from (rU hn).trans (if_pos htt)]; exact hg23) ⟨(by rw [show Ix.UN f n = [(Ke.textOf f [97, 120], 0)] from (rU hn).trans (if_pos htt)] <;> rfl), trivial⟩ rfl (by rw [show Ix.UN f n = [(Ke.textOf f [97, 120], 0)] from (rU hn).trans (if_pos htt)] <;> rfl)
   have htt := hy2 hc21
   refine jL 2 ?_
   exact hcut (_, none) _ _ _ (by rw [show Ix.UN f n = [] from (rU hn).trans (if_neg htt)]; exact ⟨rfl, rfl⟩) ⟨(by rw [show Ix.UN f n = [] from (rU hn).trans (if_neg htt)] <;> rfl), trivial⟩ rfl (by rw [show Ix.UN f n = [] from (rU hn).trans (if_neg htt)] <;> rfl)
  refine mX (fun hg24 hg24p => ?_) (fun hg24 hg24p => ?_)
  ·have h600 : f.tag = [54, 48, 48] := lU hg24
   refine jL 5 ?_
   exact hcut _ _ _ _ ⟨fun h => by simp_all, fun h => by simp_all⟩ ⟨rfl, rfl, rfl, rfl, trivial⟩ rfl rfl
  have h600 : f.tag ≠ [54, 48, 48] := lY hg24
  refine jL 5 ?_
  exact hcut _ _ _ _ ⟨fun h => by simp_all, fun h => by simp_all⟩ ⟨rfl, rfl, rfl, rfl, trivial⟩ rfl rfl
 have nn80 : n ≠ Ix.rF := lY hc20
 refine jS (fun hc25 hc25p => ?_) (fun hc25 hc25p => ?_)
 ·have hn : n = Ix.uH := lU hc25
  refine jL 6 ?_
  refine Cj.loop (ι := Nat × Gs) (fun y => y.1 ≤ f.subs.length ∧ (y.1 = 0 ∨ f.tag = [48, 50, 48]) ∧ kZ w0.heap.size 2 (qE Ke.ED 97 (f.subs.take y.1)).length ((qE Ke.ED 97 (f.subs.take y.1)).flatMap BK) y.2) (fun y => f.subs.length - y.1) (fun y => [(1, str n), (2, ptr b1 0), (5, gV (qE Ke.ED 97 (f.subs.take y.1)).length y.2), (7, i64 (y.1 : Int))]) (fun y => _) (fun y => (b1, jM 108 (nS f)) :: gH 62 ((qE Ke.ED 97 (f.subs.take y.1)).flatMap BK) y.2) (0, none) ⟨Nat.zero_le _, .inl rfl, rfl, rfl⟩ ⟨rfl, rfl, rfl, rfl, trivial⟩ rfl rfl ?_
  rintro ⟨j, g⟩ ⟨hj, hj0, hg⟩
  dsimp only at hj hj0 hg ⊢
  have hpl := TM Ke.ED 97 (f.subs.take j)
  rw [List.length_take, Nat.min_eq_left hj] at hpl
  refine jL 6 ?_
  refine J.ev 100 (.slice p2 f.subs.length c2) rfl hsv ?_
  refine mX (fun hg26 hg26p => ?_) (fun hg26 hg26p => ?_)
  ·have hlt : j < f.subs.length := by omega
   obtain ⟨sb, hsget⟩ : ∃ x, f.subs[j]? = some x := ⟨_, kW hlt⟩
   obtain ⟨sbk, so, scs, sty, sfr, sp2, rfl, hsbk, hsd⟩ := hp2 (jT hlt)
   have hxl := WW (lX hsget)
   have hnx := a3F (u := Ke.ED) (c := 97) hsget
   refine jS (fun hc27 hc27p => ?_) (fun hc27 hc27p => ?_)
   ·have htg : f.tag = [48, 50, 48] := lU hc27
    refine jL 8 ?_
    refine J.ev 112 (.slice (some ⟨sbk, so, none⟩) f.subs.length c2) rfl hsv ?_
    refine kJ (so + j * 2) ?_
    refine J.z (q1 (off' := so + j * 2 + 1) OG kU) ?_
    refine J.z (jP rfl rfl lQ (jR.EH hsbk) (lW qH hsd hsget 1 (by decide))) ?_
    refine kC (a3Y sb.text (by omega) _) ?_
    refine oW (fun hg28 => ?_) (fun hg28 => ?_)
    ·have hok : (Ke.ED sb.text).2 = true := hg28
     refine jL 2 ?_
     refine J.ev 123 (.slice (some ⟨sbk, so, none⟩) f.subs.length c2) rfl hsv ?_
     refine jL 1 ?_
     refine J.zg (q6 (off' := so + j * 2) JX JR) ?_
     refine jL 1 ?_
     refine J.zg (jP rfl rfl tA5 (jR.EH hsbk) (lW qH hsd hsget 0 (by decide))) ?_
     refine jS (fun hc29 hc29p => ?_) (fun hc29 hc29p => ?_)
     ·have hcd : sb.code = 97 := UInt8.toNat_inj.1 (by have h := lU hc29; show sb.code.toNat = 97; omega)
      rw [if_pos ⟨hok, hcd⟩] at hnx
      refine Cj.region (J.z q3 ?_)
      refine J.z q3 ?_
      refine J.z (jX (pl := #[(0, 1), (1, 1)]) rfl rfl uD rfl NQ (fun w => by simp [oJ, kU]) (pR.part rfl rfl rfl (oD.c oD.z) pR.none)) ?_
      refine J.op rfl (jY rfl rfl rfl sQ BI uD rfl rfl rfl rfl (xM.agg rfl xM.none) ?_)
      intro b30 hb30
      refine J.op rfl (kK (by' := 23) [_, _] rfl rfl rfl rfl rfl sQ (.inr ⟨_, sQ⟩) (by kernel_rfl) BI uD rfl hg rfl (Src.slice (jR.at 0 rfl) rfl rfl rfl) (by omega) ?_)
      intro g31 hg31
      refine jL 9 ?_
      refine Ej.keep (Keeps.d (Keeps.k Keeps.r)) ?_
      refine Ej.round (j + 1, g31) ⟨by dsimp only; omega, .inr htg, by dsimp only; rw [hnx, List.length_append, List.flatMap_append]; exact hg31⟩ (by dsimp only; omega) ⟨rfl, rfl, by dsimp only; rw [hnx, List.length_append]; rfl, rfl, trivial⟩ rfl (by dsimp only; rw [hnx, List.flatMap_append]; rfl)
     rw [if_neg (fun g => lY hc29 (by rw [g.2]; rfl))] at hnx
     refine jL 8 ?_
     refine Ej.round (j + 1, g) ⟨by dsimp only; omega, .inr htg, by dsimp only; rw [hnx, List.append_nil]; exact hg⟩ (by dsimp only; omega) ⟨rfl, rfl, by dsimp only; rw [hnx, List.append_nil]; rfl, rfl, trivial⟩ rfl (by dsimp only; rw [hnx, List.append_nil])
    rw [if_neg (fun g => Bool.noConfusion (g.1.symm.trans hg28))] at hnx
    refine jL 19 ?_
    refine Ej.round (j + 1, g) ⟨by dsimp only; omega, .inr htg, by dsimp only; rw [hnx, List.append_nil]; exact hg⟩ (by dsimp only; omega) ⟨rfl, rfl, by dsimp only; rw [hnx, List.append_nil]; rfl, rfl, trivial⟩ rfl (by dsimp only; rw [hnx, List.append_nil])
   have htn : f.tag ≠ [48, 50, 48] := lY hc27
   refine jL 5 ?_
   exact hcut (_, g) _ _ _ (by rw [show Ix.UN f n = qE Ke.ED 97 (f.subs.take j) from (yM hn).trans (SV hj0 htn)]; exact hg) ⟨(by rw [show Ix.UN f n = qE Ke.ED 97 (f.subs.take j) from (yM hn).trans (SV hj0 htn)] <;> rfl), trivial⟩ rfl (by rw [show Ix.UN f n = qE Ke.ED 97 (f.subs.take j) from (yM hn).trans (SV hj0 htn)] <;> rfl)
  refine jL 12 ?_
  exact hcut (_, g) _ _ _ (by rw [show Ix.UN f n = qE Ke.ED 97 (f.subs.take j) from (yM hn).trans (LH hj0 (by omega))]; exact hg) ⟨(by rw [show Ix.UN f n = qE Ke.ED 97 (f.subs.take j) from (yM hn).trans (LH hj0 (by omega))] <;> rfl), trivial⟩ rfl (by rw [show Ix.UN f n = qE Ke.ED 97 (f.subs.take j) from (yM hn).trans (LH hj0 (by omega))] <;> rfl)
 have nn96 : n ≠ Ix.uH := lY hc25
 refine jS (fun hc34 hc34p => ?_) (fun hc34 hc34p => ?_)
 ·have hn : n = Ix.IY := lU hc34
  refine jL 6 ?_
  refine Cj.loop (ι := Nat × Gs) (fun y => y.1 ≤ f.subs.length ∧ (y.1 = 0 ∨ f.tag = [50, 54, 48]) ∧ kZ w0.heap.size 2 (qE uy 99 (f.subs.take y.1)).length ((qE uy 99 (f.subs.take y.1)).flatMap BK) y.2) (fun y => f.subs.length - y.1) (fun y => [(1, str n), (2, ptr b1 0), (5, gV (qE uy 99 (f.subs.take y.1)).length y.2), (10, i64 (y.1 : Int))]) (fun y => _) (fun y => (b1, jM 108 (nS f)) :: gH 62 ((qE uy 99 (f.subs.take y.1)).flatMap BK) y.2) (0, none) ⟨Nat.zero_le _, .inl rfl, rfl, rfl⟩ ⟨rfl, rfl, rfl, rfl, trivial⟩ rfl rfl ?_
  rintro ⟨j, g⟩ ⟨hj, hj0, hg⟩
  dsimp only at hj hj0 hg ⊢
  have hpl := TM uy 99 (f.subs.take j)
  rw [List.length_take, Nat.min_eq_left hj] at hpl
  refine jL 6 ?_
  refine J.ev 139 (.slice p2 f.subs.length c2) rfl hsv ?_
  refine mX (fun hg35 hg35p => ?_) (fun hg35 hg35p => ?_)
  ·have hlt : j < f.subs.length := by omega
   obtain ⟨sb, hsget⟩ : ∃ x, f.subs[j]? = some x := ⟨_, kW hlt⟩
   obtain ⟨sbk, so, scs, sty, sfr, sp2, rfl, hsbk, hsd⟩ := hp2 (jT hlt)
   have hxl := WW (lX hsget)
   have hnx := a3F (u := uy) (c := 99) hsget
   refine jS (fun hc36 hc36p => ?_) (fun hc36 hc36p => ?_)
   ·have htg : f.tag = [50, 54, 48] := lU hc36
    refine jL 8 ?_
    refine J.ev 151 (.slice (some ⟨sbk, so, none⟩) f.subs.length c2) rfl hsv ?_
    refine kJ (so + j * 2) ?_
    refine J.z (q1 (off' := so + j * 2 + 1) OG kU) ?_
    refine J.z (jP rfl rfl lQ (jR.EH hsbk) (lW qH hsd hsget 1 (by decide))) ?_
    refine kC (b2Q sb.text (by omega) _) ?_
    refine oW (fun hg37 => ?_) (fun hg37 => ?_)
    ·have hok : (uy sb.text).2 = true := hg37
     refine jL 2 ?_
     refine J.ev 162 (.slice (some ⟨sbk, so, none⟩) f.subs.length c2) rfl hsv ?_
     refine jL 1 ?_
     refine J.zg (q6 (off' := so + j * 2) JX JR) ?_
     refine jL 1 ?_
     refine J.zg (jP rfl rfl tA5 (jR.EH hsbk) (lW qH hsd hsget 0 (by decide))) ?_
     refine jS (fun hc38 hc38p => ?_) (fun hc38 hc38p => ?_)
     ·have hcd : sb.code = 99 := UInt8.toNat_inj.1 (by have h := lU hc38; show sb.code.toNat = 99; omega)
      rw [if_pos ⟨hok, hcd⟩] at hnx
      refine Cj.region (J.z q3 ?_)
      refine J.z q3 ?_
      refine J.z (jX (pl := #[(0, 1), (1, 1)]) rfl rfl uD rfl NQ (fun w => by simp [oJ, kU]) (pR.part rfl rfl rfl (oD.c oD.z) pR.none)) ?_
      refine J.op rfl (jY rfl rfl rfl sQ BI uD rfl rfl rfl rfl (xM.agg rfl xM.none) ?_)
      intro b39 hb39
      refine J.op rfl (kK (by' := 23) [_, _] rfl rfl rfl rfl rfl sQ (.inr ⟨_, sQ⟩) (by kernel_rfl) BI uD rfl hg rfl (Src.slice (jR.at 0 rfl) rfl rfl rfl) (by omega) ?_)
      intro g40 hg40
      refine jL 9 ?_
      refine Ej.keep (Keeps.d (Keeps.k Keeps.r)) ?_
      refine Ej.round (j + 1, g40) ⟨by dsimp only; omega, .inr htg, by dsimp only; rw [hnx, List.length_append, List.flatMap_append]; exact hg40⟩ (by dsimp only; omega) ⟨rfl, rfl, by dsimp only; rw [hnx, List.length_append]; rfl, rfl, trivial⟩ rfl (by dsimp only; rw [hnx, List.flatMap_append]; rfl)
     rw [if_neg (fun g => lY hc38 (by rw [g.2]; rfl))] at hnx
     refine jL 8 ?_
     refine Ej.round (j + 1, g) ⟨by dsimp only; omega, .inr htg, by dsimp only; rw [hnx, List.append_nil]; exact hg⟩ (by dsimp only; omega) ⟨rfl, rfl, by dsimp only; rw [hnx, List.append_nil]; rfl, rfl, trivial⟩ rfl (by dsimp only; rw [hnx, List.append_nil])
    rw [if_neg (fun g => Bool.noConfusion (g.1.symm.trans hg37))] at hnx
    refine jL 19 ?_
    refine Ej.round (j + 1, g) ⟨by dsimp only; omega, .inr htg, by dsimp only; rw [hnx, List.append_nil]; exact hg⟩ (by dsimp only; omega) ⟨rfl, rfl, by dsimp only; rw [hnx, List.append_nil]; rfl, rfl, trivial⟩ rfl (by dsimp only; rw [hnx, List.append_nil])
   have htn : f.tag ≠ [50, 54, 48] := lY hc36
   refine jL 5 ?_
   exact hcut (_, g) _ _ _ (by rw [show Ix.UN f n = qE uy 99 (f.subs.take j) from (yL hn).trans (SV hj0 htn)]; exact hg) ⟨(by rw [show Ix.UN f n = qE uy 99 (f.subs.take j) from (yL hn).trans (SV hj0 htn)] <;> rfl), trivial⟩ rfl (by rw [show Ix.UN f n = qE uy 99 (f.subs.take j) from (yL hn).trans (SV hj0 htn)] <;> rfl)
  refine jL 12 ?_
  exact hcut (_, g) _ _ _ (by rw [show Ix.UN f n = qE uy 99 (f.subs.take j) from (yL hn).trans (LH hj0 (by omega))]; exact hg) ⟨(by rw [show Ix.UN f n = qE uy 99 (f.subs.take j) from (yL hn).trans (LH hj0 (by omega))] <;> rfl), trivial⟩ rfl (by rw [show Ix.UN f n = qE uy 99 (f.subs.take j) from (yL hn).trans (LH hj0 (by omega))] <;> rfl)
 have nn135 : n ≠ Ix.IY := lY hc34
 refine jS (fun hc43 hc43p => ?_) (fun hc43 hc43p => ?_)
 ·have hn : n = Ix.wI := lU hc43
  refine kC (ZT f.tag [48, 48] (by decide) _) ?_
  refine kC (ZT f.tag [57] (by decide) _) ?_
  refine oW (fun hg44 => ?_) (fun hg44 => ?_)
  ·have h00 : ([48, 48] : List UInt8).isPrefixOf f.tag = false := by have h := hg44; simpa using h
   refine mW (fun hc45 => ?_) (fun hc45 => ?_)
   ·have hany : Ix.xX f = true := by have h := hc45; unfold Ix.xX; rw [h00, h]; rfl
    refine kC (a5O f hn2 htx _ hr) ?_
    refine J.z (jX (pl := #[(0, 1), (1, 1)]) rfl rfl uD rfl NQ (fun w => by simp [oJ, kU]) (pR.part rfl rfl rfl (oD.c oD.z) pR.none)) ?_
    refine J.op rfl (jY rfl rfl rfl sQ BI uD rfl rfl rfl rfl (xM.agg rfl xM.none) ?_)
    intro b46 hb46
    refine J.op rfl (kK (by' := 23) (n := 0) (g := none) (xs := []) [_, _] rfl rfl rfl rfl rfl sQ (.inr ⟨_, sQ⟩) (by kernel_rfl) BI uD rfl ⟨rfl, rfl⟩ rfl (Src.slice (jR.at 0 rfl) rfl rfl rfl) (by omega) ?_)
    intro g47 hg47
    refine jL 3 ?_
    refine Ej.keep (Keeps.d (Keeps.k Keeps.r)) ?_
    exact hcut (_, g47) _ _ _ (by rw [show Ix.UN f n = [(Ix.uT f, 0)] from (vM hn).trans (if_pos hany)]; exact hg47) ⟨(by rw [show Ix.UN f n = [(Ix.uT f, 0)] from (vM hn).trans (if_pos hany)] <;> rfl), trivial⟩ rfl (by rw [show Ix.UN f n = [(Ix.uT f, 0)] from (vM hn).trans (if_pos hany)] <;> rfl)
   have hany : ¬ Ix.xX f = true := by have h := hc45; unfold Ix.xX; rw [h00, h]; simp
   refine jL 2 ?_
   exact hcut (_, none) _ _ _ (by rw [show Ix.UN f n = [] from (vM hn).trans (if_neg hany)]; exact ⟨rfl, rfl⟩) ⟨(by rw [show Ix.UN f n = [] from (vM hn).trans (if_neg hany)] <;> rfl), trivial⟩ rfl (by rw [show Ix.UN f n = [] from (vM hn).trans (if_neg hany)] <;> rfl)
  have hany : ¬ Ix.xX f = true := by have h := hg44; unfold Ix.xX; simp only [Bool.not_eq_false'] at h; rw [h]; simp
  refine jL 8 ?_
  exact hcut (_, none) _ _ _ (by rw [show Ix.UN f n = [] from (vM hn).trans (if_neg hany)]; exact ⟨rfl, rfl⟩) ⟨(by rw [show Ix.UN f n = [] from (vM hn).trans (if_neg hany)] <;> rfl), trivial⟩ rfl (by rw [show Ix.UN f n = [] from (vM hn).trans (if_neg hany)] <;> rfl)
 have hn : n ≠ Ix.wI := lY hc43
 refine jL 2 ?_
 exact hcut (_, none) _ _ _ (by rw [show Ix.UN f n = [] from of_none nn16 nn59 nn80 nn96 nn135 hn]; exact ⟨rfl, rfl⟩) ⟨(by rw [show Ix.UN f n = [] from of_none nn16 nn59 nn80 nn96 nn135 hn] <;> rfl), trivial⟩ rfl (by rw [show Ix.UN f n = [] from of_none nn16 nn59 nn80 nn96 nn135 hn] <;> rfl)
theorem a8h {fs : List Ke.sG} {j f} n (h : fs[j]? = some f) : Ix.valsN (fs.take (j + 1)) n = Ix.valsN (fs.take j) n ++ Ix.UN f n := by
  obtain ⟨hlt, hg⟩ := List.getElem?_eq_some_iff.1 h
  rw [List.take_succ_eq_append_getElem hlt, hg]
  unfold Ix.valsN
  rw [List.flatMap_append]; simp
theorem wS n : ∀ (fs : List Ke.sG), (∀ f ∈ fs, f.subs.length ≤ 1000) → (Ix.valsN fs n).length ≤ fs.length * 1000
  | [], _ => by simp [Ix.valsN]
  | f :: r, h => by
    have h1 := wS n r fun x hx => h x (.tail _ hx)
    have h2 := a6T f n (h f (.head _))
    unfold Ix.valsN at h1 ⊢
    rw [List.flatMap_cons, List.length_append, List.length_cons, Nat.add_mul]; omega
theorem EJ fs v rk rl n (hok : xP fs) I (hr0 : xO I fs v) : jO Tryz.prog 25 [a0O rk rl v, str n] I [] (fun e I' H' => ∃ w, e = .returned w ∧ jW BK I' (Ix.valsN fs n) w ∧ H' = []) := by
 have hfs := hok.1
 obtain ⟨p, c, rfl, hc, -⟩ := id hr0.1
 refine jU func25 fun w0 hw0 => ?_
 refine jL 3 ?_
 intro b1 hb1
 refine jL 15 ?_
 refine Cj.loop (ι := Nat × Heap × Gs) (fun y => y.1 ≤ fs.length ∧ Le I y.2.1 ∧ kZ w0.heap.size 2 (Ix.valsN (fs.take y.1) n).length ((Ix.valsN (fs.take y.1) n).flatMap BK) y.2.2) (fun y => fs.length - y.1) (fun y => [(1, str n), (2, ptr b1 0), (5, gV (Ix.valsN (fs.take y.1) n).length y.2.2), (6, i64 (y.1 : Int))]) (fun y => y.2.1) (fun y => (b1, jM 57 [u8 rk, u8 rl, .slice p fs.length c]) :: gH 62 ((Ix.valsN (fs.take y.1) n).flatMap BK) y.2.2) (0, _, none) ⟨Nat.zero_le _, Le.refl _, rfl, rfl⟩ ⟨rfl, rfl, rfl, rfl, trivial⟩ rfl rfl ?_
 rintro ⟨j, J1, g⟩ ⟨hj, hIJ, hg⟩
 dsimp only at hj hIJ hg ⊢
 have hr := hr0.mono hIJ
 have hvl := wS n (fs.take j) fun f hf => (hok.2 f (List.mem_of_mem_take hf)).1
 rw [List.length_take, Nat.min_eq_left hj] at hvl
 refine jS (fun hc2 hc2p => ?_) (fun hc2 hc2p => ?_)
 ·refine jL 4 ?_
  have hlt : j < fs.length := by omega
  obtain ⟨f, hget⟩ : ∃ f, fs[j]? = some f := ⟨_, kW hlt⟩
  have hfk := hok.2 f (lX hget)
  have hnx := a8h n hget
  have hofl := a6T f n hfk.1
  obtain ⟨⟨p1, c1, hpe, hc1, hp⟩, hsub⟩ := id hr
  cases hpe
  obtain ⟨fb, fo, fcs, fty, ffr, sp, rfl, hfb, hfd⟩ := hp (jT hlt)
  have hsr := hsub f (lX hget)
  obtain ⟨p2, c2, hsv, hc2, hp2⟩ := id hsr
  refine kJ (fo + j * 4) ?_
  refine J.z (q2 isAgg108 CU (jR.EH hfb) (kY OU hfd hget)) ?_
  refine kL (b5O f n (by omega) hfk.2.1 _ hsr) ?_
  intro v3 I4 H5 hle6 hp7
  have hIJ := hIJ.mono hle6
  have hr := hr.mono hle6
  have hfb := hle6 _ _ hfb
  obtain ⟨vhof, h, hof, rfl⟩ := hp7; cases h
  refine J.op rfl (kK (by' := 23) [_] rfl rfl rfl rfl rfl sQ (.inr ⟨_, sQ⟩) (by kernel_rfl) BI uD rfl hg rfl (Src.row rX hof (fun x _ => rfl)) (by omega) ?_)
  intro g8 hg8
  refine jL 9 ?_
  refine Ej.round (j + 1, _, g8) ⟨by dsimp only; omega, hIJ, by dsimp only; rw [hnx, List.length_append, List.flatMap_append]; exact hg8⟩ (by dsimp only; omega) ⟨rfl, rfl, by dsimp only; rw [hnx, List.length_append]; rfl, rfl, trivial⟩ rfl (by dsimp only; rw [hnx, List.flatMap_append]; rfl)
 refine jL 12 ?_
 refine Ej.keep (Keeps.d Keeps.r) ?_
 have hfull : fs.take j = fs := List.take_of_length_le (by omega)
 rw [hfull] at hg ⊢
 refine Ej.perm (H' := gH 62 ((Ix.valsN fs n).flatMap BK) g ++ []) (.of_eq (List.append_nil _)) ?_
 refine Ej.keepR rX (by decide) hg rfl (fun I8 hle8 hw8 => ?_)
 refine jV ?_
 exact ⟨_, rfl, hw8, rfl⟩
end Go.Proofs.YtekmeaoblpfnpaaGreatDoor
end
section
namespace Go.Proofs.YtekmeaoblpfnpaaGreatDoor
open _root_.Go.Proofs.Tryz
open Go Go.Sx
theorem b2g {α : Type} {a b : List α} {k x y} (h : a.take k = b.take k) (hx : a[k]? = some x) (hy : b[k]? = some y) (he : x = y) : a.take (k + 1) = b.take (k + 1) := by
  obtain ⟨h1, e1⟩ := List.getElem?_eq_some_iff.1 hx
  obtain ⟨h2, e2⟩ := List.getElem?_eq_some_iff.1 hy
  rw [List.take_succ_eq_append_getElem h1, List.take_succ_eq_append_getElem h2, h, e1, e2, he]
theorem a9a {l s k} (hl : Ke.Inc l) (h1 : ∀ x ∈ l.take k, x < s) (h2 : ∀ x, l[k]? = some x → ¬ x < s ∧ x ≠ s) : l.take k ++ [s] ++ l.drop k = Ke.put l s := by
  have hd : ∀ y ∈ l.drop k, s < y := by
    rcases Nat.lt_or_ge k l.length with g | g
    · have h3 := h2 l[k] (kW g)
      have h4 : s < l[k] := a4m h3.1 (Ne.symm h3.2)
      intro y hy
      rw [← List.getElem_cons_drop g] at hy
      rcases List.mem_cons.1 hy with e | e
      · rw [e]; exact h4
      refine List.lt_trans h4 ?_
      have h5 : (l.drop k).Pairwise (· < ·) := List.Pairwise.sublist (List.drop_sublist k l) hl
      rw [← List.getElem_cons_drop g] at h5
      exact (List.pairwise_cons.1 h5).1 y e
    intro y hy; rw [List.drop_eq_nil_of_le g] at hy; cases hy
  refine Ke.ZF ?_ (Ke.a6K s hl) fun x => ?_
  · unfold Ke.Inc
    rw [List.pairwise_append, List.pairwise_append]
    refine ⟨⟨List.Pairwise.sublist (List.take_sublist k l) hl, List.pairwise_singleton _ _, fun a ha b hb => ?_⟩, List.Pairwise.sublist (List.drop_sublist k l) hl, fun a ha b hb => ?_⟩
    · rw [List.mem_singleton.1 hb]; exact h1 a ha
    rcases List.mem_append.1 ha with g | g
    · exact List.lt_trans (h1 a g) (hd b hb)
    rw [List.mem_singleton.1 g]; exact hd b hb
  rw [Ke.put_mem]
  have h6 : x ∈ l ↔ x ∈ l.take k ∨ x ∈ l.drop k := by rw [← List.mem_append, List.take_append_drop]
  rw [h6, List.mem_append, List.mem_append, List.mem_singleton]
  constructor
  · rintro ((g | g) | g)
    · exact .inr (.inl g)
    · exact .inl g
    exact .inr (.inr g)
  rintro (g | g | g)
  · exact .inl (.inr g)
  · exact .inl (.inl g)
  exact .inr g
theorem b5U {l : List (List UInt8)} {s x k} (h : ∀ y ∈ l.take k, y < s) (hg : l[k]? = some x) (hx : x < s) : ∀ y ∈ l.take (k + 1), y < s := by
  obtain ⟨hlt, hg⟩ := List.getElem?_eq_some_iff.1 hg
  rw [List.take_succ_eq_append_getElem hlt, hg]
  intro y hy
  rcases List.mem_append.1 hy with g | g
  · exact h y g
  rw [List.mem_singleton.1 g]; exact hx
abbrev PW (s : List UInt8) : List Value := [str s]
theorem vW s : (PW s).length = 1 := rfl
theorem a1N a b s : ((([] : List Value) ++ a.flatMap PW) ++ [str s]) ++ b.flatMap PW = (a ++ [s] ++ b).flatMap PW := by simp
theorem GU a b va vb (hal : a.length ≤ 100000000000000) I (ha : jW recC I a va) (hb : jW recC I b vb) : Pure Tryz.prog 20 [va, vb] I (.bool (decide (a = b))) := by
 refine jO.toPure ?_
 obtain ⟨p1, c1, rfl, hc1, hp1⟩ := ha
 obtain ⟨p2, c2, rfl, hc2, hp2⟩ := hb
 refine jU func20 fun w0 hw0 => ?_
 refine jS (fun hc1 hc1p => ?_) (fun hc1 hc1p => ?_)
 ·have hln : a.length ≠ b.length := by have h := bne_iff_ne.1 hc1; omega
  refine jV ?_
  rw [decide_eq_false (fun e => hln (by rw [e]))]
  exact ⟨rfl, rfl⟩
 have hlen : a.length = b.length := by have h := sJ hc1; omega
 refine jL 9 ?_
 refine Cj.loop (ι := Nat) (fun j => j ≤ a.length ∧ a.take j = b.take j) (fun j => a.length - j) (fun j => [(0, .slice p1 a.length c1), (1, .slice p2 b.length c2), (5, i64 (j : Int))]) (fun j => _) (fun j => []) 0 ⟨Nat.zero_le _, rfl⟩ ⟨rfl, rfl, rfl, trivial⟩ rfl rfl ?_
 rintro j ⟨hj, hall⟩
 refine jS (fun hc2 hc2p => ?_) (fun hc2 hc2p => ?_)
 ·have hlt : j < a.length := by omega
  obtain ⟨x, hx⟩ : ∃ x, a[j]? = some x := ⟨_, kW hlt⟩
  obtain ⟨y, hy⟩ : ∃ y, b[j]? = some y := ⟨_, kW (by omega)⟩
  obtain ⟨fa, oa, acs, aty, afr, asp, rfl, hfa, had⟩ := hp1 (jT hlt)
  obtain ⟨fb, ob, mQ, bty, bfr, bsp, rfl, hfb, hbd⟩ := hp2 (jT (by omega : j < b.length))
  refine jL 5 ?_
  refine Cj.qC [] [] 9 (by kernel_rfl) ?_
  refine kJ (oa + j * 2) ?_
  refine JA.zt 3 rfl (q2 oC lG (jR.zL hfa) (kY kF had hx)) ?_
  refine kJ (ob + j * 2) ?_
  refine JA.zt 7 rfl (q2 oC lG (jR.zL hfb) (kY kF hbd hy)) ?_
  refine JA.zt 8 rfl (b4O (kv := a7A) (a := x) (b := y) rfl rfl rfl rfl rfl a8q (by kernel_rfl)) ?_
  refine jS (fun hc4 hc4p => ?_) (fun hc4 hc4p => ?_)
  ·have hxy : x ≠ y := bne_iff_ne.1 hc4
   refine jV ?_
   rw [decide_eq_false (fun e => hxy (by rw [e, hy] at hx; exact (Option.some.inj hx).symm))]
   exact ⟨rfl, rfl⟩
  have hxy : x = y := sJ hc4
  refine jL 8 ?_
  refine Ej.round (j + 1) ⟨by omega, b2g hall hx hy hxy⟩ (by omega) ⟨rfl, rfl, rfl, trivial⟩ rfl rfl
 refine jV ?_
 rw [List.take_of_length_le (by omega : a.length ≤ j), List.take_of_length_le (by omega : b.length ≤ j)] at hall
 rw [decide_eq_true hall]
 exact ⟨rfl, rfl⟩
theorem a7V a b va vb I (ha : mZ I a va) (hb : mZ I b vb) (hal : a.length ≤ 10000000000000) (hbl : b.length ≤ 10000000000000) : Pure Tryz.prog 229 [vb, va] I (.bool (Ix.within b a)) := by
 refine jO.toPure ?_
 obtain ⟨p1, c1, rfl, hc1, -⟩ := id ha
 obtain ⟨p2, c2, rfl, hc2, -⟩ := id hb
 refine jU func229 fun w0 hw0 => ?_
 refine jL 12 ?_
 refine Cj.loop (ι := Nat) (fun k => k ≤ a.length + 1 ∧ (0 < k → 0 < b.length) ∧ Ix.within b (a.drop k) = Ix.within b a) (fun k => a.length + 1 - k) (fun k => [(0, .slice p2 b.length c2), (1, .slice p1 a.length c1), (5, i64 (k : Int))]) (fun k => _) (fun k => []) 0 ⟨Nat.zero_le _, fun h => absurd h (Nat.lt_irrefl 0), rfl⟩ ⟨rfl, rfl, rfl, trivial⟩ rfl rfl ?_
 rintro k ⟨hk, hb0, hw⟩
 refine jS (fun hc13 hc13p => ?_) (fun hc13 hc13p => ?_)
 ·have hkl : k + b.length ≤ a.length := by omega
  refine jL 12 ?_
  refine J.z (a1K (j := k) (k := (k + b.length)) rfl rfl rfl rfl lJ kU rfl (by omega) (by omega)) ?_
  refine kC (b5o _ b _ _ (by rw [List.length_take, List.length_drop]; omega) _ (a3i ha (Nat.le_add_right k b.length) hkl) hb) ?_
  refine mW (fun hc25 => ?_) (fun hc25 => ?_)
  ·have heq := mO hc25
   rw [Nat.add_sub_cancel_left] at heq
   refine jV ?_
   rw [← hw, XZ heq]
   exact ⟨rfl, rfl⟩
  have hne := nM hc25
  rw [Nat.add_sub_cancel_left] at hne
  refine jL 8 ?_
  refine Ej.round (k + 1) ⟨by omega, fun _ => List.length_pos_iff.2 (fun e => hne (by rw [e]; rfl)), by rw [← hw, UW hkl hne]⟩ (by omega) ⟨rfl, rfl, rfl, trivial⟩ rfl rfl
 refine jV ?_
 rw [← hw, QL (by rw [List.length_drop]; rcases Nat.eq_zero_or_pos k with h | h <;> (first | omega | (have := hb0 h; omega)))]
 exact ⟨rfl, rfl⟩
theorem a1a n s (hs : s.length ≤ 100000000) I : Pure Tryz.prog 24 [str n, str s] I (str (Ix.keyOf n s)) := by
 refine jO.toPure ?_
 have hil := NY s
 refine jU func24 fun w0 hw0 => ?_
 refine kC (a3Y s hs _) ?_
 refine oW (fun hg1 => ?_) (fun hg1 => ?_)
 ·refine jS (fun hc2 hc2p => ?_) (fun hc2 hc2p => ?_)
  ·have hk : Ix.keyOf n s = Ke.nT (Ke.ED s).1 0 := if_pos ⟨hg1, lU hc2⟩
   refine kC (BJ (Ke.ED s).1 0 (by omega) _) ?_
   refine jV ?_
   rw [hk]
   exact ⟨rfl, rfl⟩
  have hk : Ix.keyOf n s = Ke.nT s 0 := if_neg (fun g => lY hc2 g.2)
  refine kC (BJ s 0 hs _) ?_
  refine jV ?_
  rw [hk]
  exact ⟨rfl, rfl⟩
 have hk : Ix.keyOf n s = Ke.nT s 0 := if_neg (fun g => Bool.noConfusion (g.1.symm.trans hg1))
 refine kC (BJ s 0 hs _) ?_
 refine jV ?_
 rw [hk]
 exact ⟨rfl, rfl⟩
theorem b3V l v s (hinc : Ke.Inc l) (hl : l.length ≤ 4300000000000) I (hv0 : mZ I l v) : jO Tryz.prog 231 [v, str s] I [] (fun e I' H' => ∃ w, e = .returned w ∧ mZ I' (Ke.put l s) w ∧ H' = []) := by
 have hrow := BF.1 hv0
 obtain ⟨p, c, rfl, hc, hp⟩ := id hv0
 refine jU func231 fun w0 hw0 => ?_
 refine jL 12 ?_
 refine Cj.loop (ι := Nat) (fun k => k ≤ l.length ∧ ∀ x ∈ l.take k, x < s) (fun k => l.length - k) (fun k => [(0, .slice p l.length c), (1, str s), (5, i64 (k : Int))]) (fun k => _) (fun k => []) 0 ⟨Nat.zero_le _, fun x hx => by simp at hx⟩ ⟨rfl, rfl, rfl, trivial⟩ rfl rfl ?_
 rintro k ⟨hk, hall⟩
 refine mX (fun hg1 hg1p => ?_) (fun hg1 hg1p => ?_)
 ·have hlt : k < l.length := by omega
  obtain ⟨x, hget⟩ : ∃ x, l[k]? = some x := ⟨_, kW hlt⟩
  obtain ⟨lb, lo, lcs, lty, lfr, sp, rfl, hlb, hld⟩ := hp (jT hlt)
  refine jL 2 ?_
  refine J.zg (q6 (off' := lo + k) lJ kU) ?_
  refine J.zg (jP rfl rfl lQ (jR.EH hlb) (qG hld hget)) ?_
  refine jL 1 ?_
  refine J.zg (SK rfl rfl rfl) ?_
  refine mW (fun hc2 => ?_) (fun hc2 => ?_)
  ·have hxs : x < s := mO hc2
   refine jL 9 ?_
   refine Ej.round (k + 1) ⟨by omega, b5U hall hget hxs⟩ (by omega) ⟨rfl, rfl, rfl, trivial⟩ rfl rfl
  have hxs : ¬ x < s := nM hc2
  refine mX (fun hg3 hg3p => ?_) (fun hg3 hg3p => ?_)
  ·refine jL 2 ?_
   refine J.zg (q6 (off' := lo + k) lJ kU) ?_
   refine J.zg (jP rfl rfl lQ (jR.EH hlb) (qG hld hget)) ?_
   refine jS (fun hc4 hc4p => ?_) (fun hc4 hc4p => ?_)
   ·have hxe : x = s := lU hc4
    refine kM ?_
    rw [show Ke.put l s = l from if_pos (hxe ▸ lX hget)]
    exact ⟨_, rfl, hv0, rfl⟩
   have hxe : x ≠ s := lY hc4
   refine jL 8 ?_
   have htl : (l.take k).length = k := by rw [List.length_take]; omega
   have hdl : (l.drop k).length = l.length - k := List.length_drop
   refine jL 4 ?_
   refine J.z (qV (k := k) rfl rfl rfl lJ kU rfl (by omega)) ?_
   refine J.op rfl (kK (by' := 15) (n := 0) (g := none) (xs := []) [] rfl rfl rfl rfl rfl lJ (.inr ⟨_, lJ⟩) (by kernel_rfl) kU yN rfl ⟨rfl, rfl⟩ rfl (Src.row vW (jW.take hrow hk) (fun x _ => rfl)) (by omega) ?_)
   intro g5 hg5
   refine jL 8 ?_
   intro b6 hb6
   refine yQ 15 [_] hg5 ?_
   intro g7 hg7
   refine jL 8 ?_
   refine J.z (rQ (j := k) rfl rfl rfl lJ kU rfl (by omega) (by omega)) ?_
   refine J.op rfl (kK (by' := 15) [_] rfl rfl rfl rfl rfl lJ (.inr ⟨_, lJ⟩) (by kernel_rfl) kU yN rfl hg7 rfl (Src.row vW (jW.from vW hrow (j := k) hk) (fun x _ => rfl)) (by omega) ?_)
   intro g8 hg8
   refine jL 4 ?_
   refine Ej.keep (Keeps.d Keeps.r) ?_
   have hes := a9a hinc hall (fun y hy => by rw [hget] at hy; cases hy; exact ⟨hxs, hxe⟩)
   have hfl := (a1N (l.take k) (l.drop k) s).trans (congrArg (List.flatMap PW) hes)
   refine Ej.perm (H' := gH 9 ((Ke.put l s).flatMap PW) g8 ++ []) (.of_eq (by rw [← hfl, List.append_nil]; rfl)) ?_
   refine Ej.keepR vW (by decide) (by rw [← hfl]; exact hg8) (by rw [← hes]; simp only [List.length_append, List.length_singleton]; omega) (fun I8 hle8 hw8 => ?_)
   refine jV ?_
   exact ⟨_, rfl, BF.2 hw8, rfl⟩
  omega
 refine jL 23 ?_
 refine J.split 25 rfl (fun hg10 => ?_) (fun hg10 => ?_)
 ·have hg10p := mO hg10
  have hlt : k < l.length := by omega
  obtain ⟨x, hget⟩ : ∃ x, l[k]? = some x := ⟨_, kW hlt⟩
  obtain ⟨lb, lo, lcs, lty, lfr, sp, rfl, hlb, hld⟩ := hp (jT hlt)
  omega
 have hg10p := nM hg10
 refine jL 18 ?_
 have htl : (l.take k).length = k := by rw [List.length_take]; omega
 have hdl : (l.drop k).length = l.length - k := List.length_drop
 refine jL 4 ?_
 refine J.z (qV (k := k) rfl rfl rfl lJ kU rfl (by omega)) ?_
 refine J.op rfl (kK (by' := 15) (n := 0) (g := none) (xs := []) [] rfl rfl rfl rfl rfl lJ (.inr ⟨_, lJ⟩) (by kernel_rfl) kU yN rfl ⟨rfl, rfl⟩ rfl (Src.row vW (jW.take hrow hk) (fun x _ => rfl)) (by omega) ?_)
 intro g12 hg12
 refine jL 8 ?_
 intro b13 hb13
 refine yQ 15 [_] hg12 ?_
 intro g14 hg14
 refine jL 8 ?_
 refine J.z (rQ (j := k) rfl rfl rfl lJ kU rfl (by omega) (by omega)) ?_
 refine J.op rfl (kK (by' := 15) [_] rfl rfl rfl rfl rfl lJ (.inr ⟨_, lJ⟩) (by kernel_rfl) kU yN rfl hg14 rfl (Src.row vW (jW.from vW hrow (j := k) hk) (fun x _ => rfl)) (by omega) ?_)
 intro g15 hg15
 refine jL 4 ?_
 refine Ej.keep (Keeps.d Keeps.r) ?_
 have hes := a9a hinc hall (fun y hy => absurd (List.getElem?_eq_some_iff.1 hy).1 (by omega))
 have hfl := (a1N (l.take k) (l.drop k) s).trans (congrArg (List.flatMap PW) hes)
 refine Ej.perm (H' := gH 9 ((Ke.put l s).flatMap PW) g15 ++ []) (.of_eq (by rw [← hfl, List.append_nil]; rfl)) ?_
 refine Ej.keepR vW (by decide) (by rw [← hfl]; exact hg15) (by rw [← hes]; simp only [List.length_append, List.length_singleton]; omega) (fun I8 hle8 hw8 => ?_)
 refine jV ?_
 exact ⟨_, rfl, BF.2 hw8, rfl⟩
