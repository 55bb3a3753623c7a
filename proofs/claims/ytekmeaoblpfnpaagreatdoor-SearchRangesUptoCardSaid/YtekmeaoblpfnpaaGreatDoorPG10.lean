/-
  Own texts on the laws of the seat, joined: the logic, and contracts of functions. Conditions: none.
-/
import Derived.Test.YtekmeaoblpfnpaaGreatDoorPG9
set_option maxRecDepth 100000
set_option maxHeartbeats 40000000
section
set_option maxHeartbeats 40000000
namespace Go.Proofs.YtekmeaoblpfnpaaGreatDoor
open _root_.Go.Proofs.Tryz
open Go Go.Sx
theorem mod_eq (n : Int) {m : Int} (hm : 0 < m) : (n.tmod m + m).tmod m = n % m := by
  have h1 := Int.tmod_lt_of_pos n hm
  have h2 : -m < n.tmod m := by
    have := Int.lt_tmod_of_pos n hm
    omega
  rw [Int.tmod_eq_emod_of_nonneg (by omega), Int.add_emod_right, Int.tmod_def, Int.sub_mul_emod_self_left]
def pairC (p : List UInt8 × List UInt8) : List Value := [str p.1, str p.2]
theorem tabc {k : Nat} {a b : List UInt8} (h : Ke.rows[k]? = some (a, b)) : (Ke.rows.flatMap pairC)[k * 2]? = some (str a) ∧ (Ke.rows.flatMap pairC)[k * 2 + 1]? = some (str b) := by
  have h0 := row_fcell (f := pairC) (n := 2) (cs := Ke.rows.flatMap pairC) (sp := []) (o := 0) (fun _ => rfl) (by simp) h 0 (by decide)
  have h1 := row_fcell (f := pairC) (n := 2) (cs := Ke.rows.flatMap pairC) (sp := []) (o := 0) (fun _ => rfl) (by simp) h 1 (by decide)
  rw [Nat.zero_add] at h0 h1
  exact ⟨h0, h1⟩
theorem look_mem : ∀ {l : List (Nat × List UInt8)} {c : Nat} {a : List UInt8}, (l.map (·.1)).Nodup → (c, a) ∈ l → l.lookup c = some a
  | (d, b) :: r, c, a, hn, h => by
    simp only [List.map_cons, List.nodup_cons] at hn
    rw [List.lookup_cons]
    rcases List.mem_cons.1 h with h | h
    · cases h; simp
    have : c ≠ d := fun e => hn.1 (e ▸ List.mem_map.2 ⟨_, h, rfl⟩)
    rw [show (c == d) = false from by simpa using this]
    exact look_mem hn.2 h
theorem rowTab_mem {c : Nat} : ∀ {l : List (List UInt8 × List UInt8)} {k : Nat} {a b : List UInt8}, l[k]? = some (a, b) → c ∈ Ke.runes b → (c, a) ∈ Ke.rowTab l
  | [], _, _, _, h, _ => by simp at h
  | (x, y) :: r, 0, a, b, h, hc => by
    simp at h; obtain ⟨rfl, rfl⟩ := h
    exact List.mem_append_left _ (List.mem_map.2 ⟨c, hc, rfl⟩)
  | (x, y) :: r, k + 1, a, b, h, hc => List.mem_append_right _ (rowTab_mem (l := r) (by simpa using h) hc)
theorem look_found {k j c : Nat} {a b : List UInt8} (h : Ke.rows[k]? = some (a, b)) (hj : (Ke.runes b)[j]? = some c) : Ke.tab.lookup c = some a := by
  refine look_mem Ke.tab_nodup ?_
  rw [← Ke.tab_eq]
  exact rowTab_mem h (List.mem_of_getElem? hj)
theorem look_next {k c : Nat} {a b : List UInt8} (h : Ke.rows[k]? = some (a, b)) (h1 : c ∉ (Ke.rowTab (Ke.rows.take k)).map (·.1)) (h2 : c ∉ Ke.runes b) : c ∉ (Ke.rowTab (Ke.rows.take (k + 1))).map (·.1) := by
  rw [Ke.rowTab_next h, List.map_append, List.mem_append, List.map_map]
  rintro (g | g)
  · exact h1 g
  obtain ⟨x, hx, rfl⟩ := List.mem_map.1 g
  exact h2 hx
theorem look_none {c : Nat} {k : Nat} (hk : ¬ k < 31) (h : c ∉ (Ke.rowTab (Ke.rows.take k)).map (·.1)) : Ke.tab.lookup c = none := by
  rw [List.take_of_length_le (show Ke.rows.length ≤ k by show 31 ≤ k; omega), Ke.tab_eq] at h
  exact Ke.lookup_none h
theorem rune_next {l : List Nat} {k c d : Nat} (h : c ∉ l.take k) (hg : l[k]? = some d) (hd : d ≠ c) : c ∉ l.take (k + 1) := by
  obtain ⟨hlt, hg⟩ := List.getElem?_eq_some_iff.1 hg
  rw [List.take_succ_eq_append_getElem hlt, hg, List.mem_append, List.mem_singleton]
  rintro (e | e)
  · exact h e
  exact hd e.symm
theorem runes_fromF : ∀ (f : Nat) (s : List UInt8) (i : Nat) (acc : Array Value), s.length - i ≤ f → Conv.runesFrom ⟨s.toArray⟩ f i acc = acc ++ (rcs (Ke.runes (s.drop i))).toArray
  | 0, s, i, acc, h => by
    rw [Ke.runes_end (by omega)]
    simp [Conv.runesFrom, rcs]
  | f + 1, s, i, acc, h => by
    unfold Conv.runesFrom
    by_cases hi : i < s.length
    · rw [if_pos (by rw [size_mk]; exact hi)]
      have hw := Ke.decode_width s hi
      rw [Ke.runes_at hi]
      dsimp only
      rw [runes_fromF f s _ _ (by omega)]
      simp [rcs]
    rw [if_neg (by rw [size_mk]; exact hi), Ke.runes_end (by omega)]
    simp [rcs]
theorem runes_all (s : List UInt8) : Conv.runesFrom ⟨s.toArray⟩ s.length 0 #[] = (rcs (Ke.runes s)).toArray := by
  rw [runes_fromF _ _ _ _ (by omega), List.drop_zero]; simp
theorem runes_lenS (s : List UInt8) : (Ke.runes s).length ≤ s.length := Ke.runes_len _ _
theorem Table_ok (I : Heap) : Ctr Tryz.prog 232 [] I [] (fun e _I' H' => ∃ b, e = .returned (.slice (some ⟨b, 0, none⟩) 31 31) ∧ H' = [(b, cel 281 (Ke.rows.flatMap pairC))]) := by
 refine xob func232 fun w0 hw0 => ?_
 refine axn 39 ?_
 intro b1 hb1
 refine axe ?_
 exact ⟨b1, rfl, rfl⟩
theorem letter_ok (c : Nat) (I : Heap) : Pure Tryz.prog 181 [.int .i32 (c : Int)] I (str ((Ke.tab.lookup c).getD [])) := by
 refine Ctr.toPure ?_
 refine xob func181 fun w0 hw0 => ?_
 refine xcn (Table_ok _) ?_
 intro v2 I3 H4 hle5 hn1 hp6
 obtain ⟨tb, h, rfl⟩ := hp6; cases h
 refine J.persist (hn1 _ (.head _)) (fun I9 hle9 htb => ?_)
 refine axn 10 ?_
 refine Cj.loop (ι := Nat) (fun k => k ≤ 31 ∧ c ∉ (Ke.rowTab (Ke.rows.take k)).map (·.1)) (fun k => 31 - k) (fun k => [(0, .int .i32 (c : Int)), (3, .slice (some ⟨tb, 0, none⟩) 31 31), (4, i64 (k : Int))]) (fun k => _) (fun k => []) 0 ⟨Nat.zero_le _, by simp [Ke.rowTab]⟩ ⟨rfl, rfl, rfl, trivial⟩ rfl rfl ?_
 rintro k ⟨hk, hno⟩
 refine axc (fun hc7 hc7p => ?_) (fun hc7 hc7p => ?_)
 ·
  refine axn 5 ?_
  have hlt : k < 31 := by omega
  obtain ⟨⟨a, b⟩, hget⟩ : ∃ p, Ke.rows[k]? = some p := ⟨_, List.getElem?_eq_getElem (show k < Ke.rows.length from hlt)⟩
  obtain ⟨-, -, hbl⟩ := Ke.row_parts _ (List.mem_of_getElem? hget)
  dsimp only at hbl
  have hrb := runes_lenS b
  refine xix (k * 2) ?_
  refine J.z (yl_indexArr (off' := k * 2 + 1) rfl rfl rfl underlying281 sizeOf9 (by decide) (by decide) (by simp)) ?_
  refine J.z (yl_load rfl rfl isAgg9 (Blk.imm htb) (tabc hget).2) ?_
  refine J.op rfl (op_toRunes (runes_all b) rfl rfl rfl rfl underlying9 underlying197 underlying21 ?_)
  intro b8 c9 sp10 hb8
  refine axn 9 ?_
  refine Cj.loop (ι := Nat) (fun j => j ≤ (Ke.runes b).length ∧ c ∉ (Ke.runes b).take j) (fun j => (Ke.runes b).length - j) (fun j => [(0, .int .i32 (c : Int)), (3, .slice (some ⟨tb, 0, none⟩) 31 31), (4, i64 (k : Int)), (5, .slice (some ⟨b8, 0, none⟩) (Ke.runes b).length c9), (6, i64 (j : Int))]) (fun j => _) (fun j => [(b8, cel 21 (rcs (Ke.runes b) ++ sp10))]) 0 ⟨Nat.zero_le _, by simp⟩ ⟨rfl, rfl, rfl, rfl, rfl, trivial⟩ rfl rfl ?_
  rintro j ⟨hj, hnj⟩
  refine axc (fun hc11 hc11p => ?_) (fun hc11 hc11p => ?_)
  ·
   refine axn 5 ?_
   have hjl : j < (Ke.runes b).length := by omega
   obtain ⟨d, hgj⟩ : ∃ d, (Ke.runes b)[j]? = some d := ⟨_, List.getElem?_eq_getElem hjl⟩
   refine xix j ?_
   refine J.z (yl_load rfl rfl isAgg21 (Blk.at 0 rfl) (rcs_get hgj)) ?_
   refine axc (fun hc12 hc12p => ?_) (fun hc12 hc12p => ?_)
   ·
    have hdc : d = c := by have h := eq_of_beq hc12; omega
    subst hdc
    refine xix (k * 2) ?_
    refine J.z (yl_indexArr (off' := k * 2) rfl rfl rfl underlying281 sizeOf9 (by decide) (by decide) (by simp)) ?_
    refine J.z (yl_load rfl rfl isAgg9 (Blk.imm htb) (tabc hget).1) ?_
    refine axr ?_
    rw [look_found hget hgj]
    exact ⟨rfl, rfl⟩
   have hne : d ≠ c := fun e => ne_of_beq_false hc12 (by rw [e])
   refine axn 8 ?_
   refine Ej.round (j + 1) ⟨by omega, rune_next hnj hgj hne⟩ (by omega) ⟨rfl, rfl, rfl, rfl, rfl, trivial⟩ rfl rfl
  have hnb : c ∉ Ke.runes b := by rw [List.take_of_length_le (by omega)] at hnj; exact hnj
  refine axn 11 ?_
  refine Ej.keep (Keeps.d Keeps.n) ?_
  refine Ej.round (k + 1) ⟨by omega, look_next hget hno hnb⟩ (by omega) ⟨rfl, rfl, rfl, trivial⟩ rfl rfl
 refine axe ?_
 rw [look_none (by omega) hno]
 exact ⟨rfl, rfl⟩
theorem tab_ne {c : Nat} {x : List UInt8} (h : Ke.tab.lookup c = some x) : x ≠ [] := by
  have h1 : Ke.tab.all (fun p => decide (p.2 ≠ [])) = true := by decide +kernel
  obtain ⟨p, hp, rfl⟩ := Ke.mem_lookup h
  simpa using List.all_eq_true.1 h1 p hp
theorem rChar_ok (c : Nat) (hc : c ≤ 1114111) (I : Heap) : Pure Tryz.prog 125 [.int .i32 (c : Int)] I (str (Ke.char c)) := by
 refine xob func125 fun w0 hw0 => ?_
 refine axn 5 ?_
 refine Cj.join (ι := Unit) (fun _u => ¬ ((97 ≤ c ∧ c ≤ 122) ∨ (48 ≤ c ∧ c ≤ 57))) (fun _u => [(0, .int .i32 (c : Int))]) (fun _u => I) (fun _u => []) ?_ (fun hcut => ?_)
 ·
  intro _ a0
  refine Cj.join (ι := Unit) (fun _u => ¬ ((97 ≤ c ∧ c ≤ 122) ∨ (48 ≤ c ∧ c ≤ 57)) ∧ ¬ (65 ≤ c ∧ c ≤ 90)) (fun _u => [(0, .int .i32 (c : Int))]) (fun _u => I) (fun _u => []) ?_ (fun hcut => ?_)
  ·
   rintro - ⟨a0, a1⟩
   refine Cj.join (ι := Unit) (fun _u => ¬ ((97 ≤ c ∧ c ≤ 122) ∨ (48 ≤ c ∧ c ≤ 57)) ∧ ¬ (65 ≤ c ∧ c ≤ 90) ∧ 128 ≤ c) (fun _u => [(0, .int .i32 (c : Int))]) (fun _u => I) (fun _u => []) ?_ (fun hcut => ?_)
   ·
    rintro - ⟨a0, a1, a2⟩
    refine Cj.join (ι := Unit) (fun _u => ¬ ((97 ≤ c ∧ c ≤ 122) ∨ (48 ≤ c ∧ c ≤ 57)) ∧ ¬ (65 ≤ c ∧ c ≤ 90) ∧ 128 ≤ c ∧ ¬ ((768 ≤ c ∧ c ≤ 879) ∨ (65056 ≤ c ∧ c ≤ 65071))) (fun _u => [(0, .int .i32 (c : Int))]) (fun _u => I) (fun _u => []) ?_ (fun hcut => ?_)
    ·
     rintro - ⟨a0, a1, a2, a3⟩
     refine xpu (letter_ok c _) ?_
     refine axn 3 ?_
     refine Cj.join (ι := Unit) (fun _u => ¬ ((97 ≤ c ∧ c ≤ 122) ∨ (48 ≤ c ∧ c ≤ 57)) ∧ ¬ (65 ≤ c ∧ c ≤ 90) ∧ 128 ≤ c ∧ ¬ ((768 ≤ c ∧ c ≤ 879) ∨ (65056 ≤ c ∧ c ≤ 65071)) ∧ Ke.tab.lookup c = none ∧ c ≠ 962 ∧ ¬ ((945 ≤ c ∧ c ≤ 969) ∨ (1072 ≤ c ∧ c ≤ 1103)) ∧ ¬ (((913 ≤ c ∧ c ≤ 937) ∧ c ≠ 930) ∨ (1040 ≤ c ∧ c ≤ 1071))) (fun _u => [(0, .int .i32 (c : Int))]) (fun _u => I) (fun _u => []) ?_ (fun hcut => ?_)
     ·
      rintro - ⟨a0, a1, a2, a3, a4, a5, a6, a7⟩
      refine axe ?_
      refine ⟨?_, rfl, rfl⟩
      refine congrArg (fun l => Ending.returned (str l)) ?_
      unfold Ke.char
      rw [if_neg (by omega), if_neg (by omega), if_neg (by omega), if_neg (by omega), a4]
      simp only
      rw [if_neg a5, if_neg a6, if_neg a7]
     refine axc (fun hc1 hc1p => ?_) (fun hc1 hc1p => ?_)
     ·
      obtain ⟨x, hx⟩ : ∃ x, Ke.tab.lookup c = some x := by
        have h := bne_iff_ne.1 hc1
        cases hl : Ke.tab.lookup c with
        | none => rw [hl] at h; exact absurd rfl h
        | some x => exact ⟨x, rfl⟩
      refine Cj.ev 3 (str x) rfl (by rw [hx]; rfl) ?_
      refine axe ?_
      refine ⟨?_, rfl, rfl⟩
      refine congrArg (fun l => Ending.returned (str l)) ?_
      unfold Ke.char
      rw [if_neg (by omega), if_neg (by omega), if_neg (by omega), if_neg (by omega), hx]
     have hx : Ke.tab.lookup c = none := by
       have h := bne_f hc1
       cases hl : Ke.tab.lookup c with
       | none => rfl
       | some x => rw [hl] at h; exact absurd h (tab_ne hl)
     refine axc (fun hc2 hc2p => ?_) (fun hc2 hc2p => ?_)
     ·
      refine axn 3 ?_
      intro b3 hb3
      refine axr ?_
      refine ⟨?_, rfl, rfl⟩
      refine congrArg (fun l => Ending.returned (str l)) ?_
      unfold Ke.char
      rw [if_neg (by omega), if_neg (by omega), if_neg (by omega), if_neg (by omega), hx]
      simp only
      rw [if_pos (by omega)]; rfl
     refine axg (fun hg4 hg4p => ?_) (fun hg4 hg4p => ?_)
     ·
      refine axg (fun hg5 hg5p => ?_) (fun hg5 hg5p => ?_)
      ·
       refine axn 15 ?_
       intro b7 hb7
       refine axr ?_
       refine ⟨?_, rfl, rfl⟩
       refine congrArg (fun l => Ending.returned (str l)) ?_
       unfold Ke.char
       rw [if_neg (by omega), if_neg (by omega), if_neg (by omega), if_neg (by omega), hx]
       simp only
       rw [if_neg (by omega), if_pos (by omega)]; exact Ke.enc_encode (by unfold Ke.okc; omega)
      refine axg (fun hg8 hg8p => ?_) (fun hg8 hg8p => ?_)
      ·
       refine axc (fun hc9 hc9p => ?_) (fun hc9 hc9p => ?_)
       ·
        refine axn 4 ?_
        intro b10 hb10
        refine axr ?_
        refine ⟨?_, rfl, rfl⟩
        refine congrArg (fun l => Ending.returned (str l)) ?_
        unfold Ke.char
        rw [if_neg (by omega), if_neg (by omega), if_neg (by omega), if_neg (by omega), hx]
        simp only
        rw [if_neg (by omega), if_pos (by omega)]; exact Ke.enc_encode (by unfold Ke.okc; omega)
       refine axg (fun hg11 hg11p => ?_) (fun hg11 hg11p => ?_)
       ·
        refine axg (fun hg12 hg12p => ?_) (fun hg12 hg12p => ?_)
        ·
         refine axg (fun hg13 hg13p => ?_) (fun hg13 hg13p => ?_)
         ·
          refine axn 16 ?_
          intro b15 hb15
          refine axr ?_
          refine ⟨?_, rfl, rfl⟩
          refine congrArg (fun l => Ending.returned (str l)) ?_
          unfold Ke.char
          rw [if_neg (by omega), if_neg (by omega), if_neg (by omega), if_neg (by omega), hx]
          simp only
          rw [if_neg (by omega), if_neg (by omega), if_pos (by omega)]; exact (congrArg (fun n : Int => (Utf8.encode n).data.toList) (by omega)).trans (Ke.enc_encode (c := c + 32) (by unfold Ke.okc; omega))
         refine axg (fun hg16 hg16p => ?_) (fun hg16 hg16p => ?_)
         ·
          refine axc (fun hc17 hc17p => ?_) (fun hc17 hc17p => ?_)
          ·
           refine axn 5 ?_
           intro b18 hb18
           refine axr ?_
           refine ⟨?_, rfl, rfl⟩
           refine congrArg (fun l => Ending.returned (str l)) ?_
           unfold Ke.char
           rw [if_neg (by omega), if_neg (by omega), if_neg (by omega), if_neg (by omega), hx]
           simp only
           rw [if_neg (by omega), if_neg (by omega), if_pos (by omega)]; exact (congrArg (fun n : Int => (Utf8.encode n).data.toList) (by omega)).trans (Ke.enc_encode (c := c + 32) (by unfold Ke.okc; omega))
          refine axn 2 ?_
          exact hcut () _ _ _ ⟨by omega, by omega, by omega, by omega, hx, by omega, by omega, by omega⟩ ⟨rfl, trivial⟩ rfl rfl
         refine axn 10 ?_
         exact hcut () _ _ _ ⟨by omega, by omega, by omega, by omega, hx, by omega, by omega, by omega⟩ ⟨rfl, trivial⟩ rfl rfl
        refine axg (fun hg20 hg20p => ?_) (fun hg20 hg20p => ?_)
        ·
         refine axc (fun hc21 hc21p => ?_) (fun hc21 hc21p => ?_)
         ·
          refine axn 5 ?_
          intro b22 hb22
          refine axr ?_
          refine ⟨?_, rfl, rfl⟩
          refine congrArg (fun l => Ending.returned (str l)) ?_
          unfold Ke.char
          rw [if_neg (by omega), if_neg (by omega), if_neg (by omega), if_neg (by omega), hx]
          simp only
          rw [if_neg (by omega), if_neg (by omega), if_pos (by omega)]; exact (congrArg (fun n : Int => (Utf8.encode n).data.toList) (by omega)).trans (Ke.enc_encode (c := c + 32) (by unfold Ke.okc; omega))
         refine axn 2 ?_
         exact hcut () _ _ _ ⟨by omega, by omega, by omega, by omega, hx, by omega, by omega, by omega⟩ ⟨rfl, trivial⟩ rfl rfl
        refine axn 10 ?_
        exact hcut () _ _ _ ⟨by omega, by omega, by omega, by omega, hx, by omega, by omega, by omega⟩ ⟨rfl, trivial⟩ rfl rfl
       refine axg (fun hg24 hg24p => ?_) (fun hg24 hg24p => ?_)
       ·
        refine axc (fun hc25 hc25p => ?_) (fun hc25 hc25p => ?_)
        ·
         refine axn 5 ?_
         intro b26 hb26
         refine axr ?_
         refine ⟨?_, rfl, rfl⟩
         refine congrArg (fun l => Ending.returned (str l)) ?_
         unfold Ke.char
         rw [if_neg (by omega), if_neg (by omega), if_neg (by omega), if_neg (by omega), hx]
         simp only
         rw [if_neg (by omega), if_neg (by omega), if_pos (by omega)]; exact (congrArg (fun n : Int => (Utf8.encode n).data.toList) (by omega)).trans (Ke.enc_encode (c := c + 32) (by unfold Ke.okc; omega))
        refine axn 2 ?_
        exact hcut () _ _ _ ⟨by omega, by omega, by omega, by omega, hx, by omega, by omega, by omega⟩ ⟨rfl, trivial⟩ rfl rfl
       refine axn 10 ?_
       exact hcut () _ _ _ ⟨by omega, by omega, by omega, by omega, hx, by omega, by omega, by omega⟩ ⟨rfl, trivial⟩ rfl rfl
      refine axg (fun hg29 hg29p => ?_) (fun hg29 hg29p => ?_)
      ·
       refine axg (fun hg30 hg30p => ?_) (fun hg30 hg30p => ?_)
       ·
        refine axg (fun hg31 hg31p => ?_) (fun hg31 hg31p => ?_)
        ·
         refine axn 16 ?_
         intro b33 hb33
         refine axr ?_
         refine ⟨?_, rfl, rfl⟩
         refine congrArg (fun l => Ending.returned (str l)) ?_
         unfold Ke.char
         rw [if_neg (by omega), if_neg (by omega), if_neg (by omega), if_neg (by omega), hx]
         simp only
         rw [if_neg (by omega), if_neg (by omega), if_pos (by omega)]; exact (congrArg (fun n : Int => (Utf8.encode n).data.toList) (by omega)).trans (Ke.enc_encode (c := c + 32) (by unfold Ke.okc; omega))
        refine axg (fun hg34 hg34p => ?_) (fun hg34 hg34p => ?_)
        ·
         refine axc (fun hc35 hc35p => ?_) (fun hc35 hc35p => ?_)
         ·
          refine axn 5 ?_
          intro b36 hb36
          refine axr ?_
          refine ⟨?_, rfl, rfl⟩
          refine congrArg (fun l => Ending.returned (str l)) ?_
          unfold Ke.char
          rw [if_neg (by omega), if_neg (by omega), if_neg (by omega), if_neg (by omega), hx]
          simp only
          rw [if_neg (by omega), if_neg (by omega), if_pos (by omega)]; exact (congrArg (fun n : Int => (Utf8.encode n).data.toList) (by omega)).trans (Ke.enc_encode (c := c + 32) (by unfold Ke.okc; omega))
         refine axn 2 ?_
         exact hcut () _ _ _ ⟨by omega, by omega, by omega, by omega, hx, by omega, by omega, by omega⟩ ⟨rfl, trivial⟩ rfl rfl
        refine axn 10 ?_
        exact hcut () _ _ _ ⟨by omega, by omega, by omega, by omega, hx, by omega, by omega, by omega⟩ ⟨rfl, trivial⟩ rfl rfl
       refine axg (fun hg38 hg38p => ?_) (fun hg38 hg38p => ?_)
       ·
        refine axc (fun hc39 hc39p => ?_) (fun hc39 hc39p => ?_)
        ·
         refine axn 5 ?_
         intro b40 hb40
         refine axr ?_
         refine ⟨?_, rfl, rfl⟩
         refine congrArg (fun l => Ending.returned (str l)) ?_
         unfold Ke.char
         rw [if_neg (by omega), if_neg (by omega), if_neg (by omega), if_neg (by omega), hx]
         simp only
         rw [if_neg (by omega), if_neg (by omega), if_pos (by omega)]; exact (congrArg (fun n : Int => (Utf8.encode n).data.toList) (by omega)).trans (Ke.enc_encode (c := c + 32) (by unfold Ke.okc; omega))
        refine axn 2 ?_
        exact hcut () _ _ _ ⟨by omega, by omega, by omega, by omega, hx, by omega, by omega, by omega⟩ ⟨rfl, trivial⟩ rfl rfl
       refine axn 10 ?_
       exact hcut () _ _ _ ⟨by omega, by omega, by omega, by omega, hx, by omega, by omega, by omega⟩ ⟨rfl, trivial⟩ rfl rfl
      refine axg (fun hg42 hg42p => ?_) (fun hg42 hg42p => ?_)
      ·
       refine axc (fun hc43 hc43p => ?_) (fun hc43 hc43p => ?_)
       ·
        refine axn 5 ?_
        intro b44 hb44
        refine axr ?_
        refine ⟨?_, rfl, rfl⟩
        refine congrArg (fun l => Ending.returned (str l)) ?_
        unfold Ke.char
        rw [if_neg (by omega), if_neg (by omega), if_neg (by omega), if_neg (by omega), hx]
        simp only
        rw [if_neg (by omega), if_neg (by omega), if_pos (by omega)]; exact (congrArg (fun n : Int => (Utf8.encode n).data.toList) (by omega)).trans (Ke.enc_encode (c := c + 32) (by unfold Ke.okc; omega))
       refine axn 2 ?_
       exact hcut () _ _ _ ⟨by omega, by omega, by omega, by omega, hx, by omega, by omega, by omega⟩ ⟨rfl, trivial⟩ rfl rfl
      refine axn 10 ?_
      exact hcut () _ _ _ ⟨by omega, by omega, by omega, by omega, hx, by omega, by omega, by omega⟩ ⟨rfl, trivial⟩ rfl rfl
     refine axg (fun hg46 hg46p => ?_) (fun hg46 hg46p => ?_)
     ·
      refine axc (fun hc47 hc47p => ?_) (fun hc47 hc47p => ?_)
      ·
       refine axn 4 ?_
       intro b48 hb48
       refine axr ?_
       refine ⟨?_, rfl, rfl⟩
       refine congrArg (fun l => Ending.returned (str l)) ?_
       unfold Ke.char
       rw [if_neg (by omega), if_neg (by omega), if_neg (by omega), if_neg (by omega), hx]
       simp only
       rw [if_neg (by omega), if_pos (by omega)]; exact Ke.enc_encode (by unfold Ke.okc; omega)
      refine axg (fun hg49 hg49p => ?_) (fun hg49 hg49p => ?_)
      ·
       refine axg (fun hg50 hg50p => ?_) (fun hg50 hg50p => ?_)
       ·
        refine axg (fun hg51 hg51p => ?_) (fun hg51 hg51p => ?_)
        ·
         refine axn 16 ?_
         intro b53 hb53
         refine axr ?_
         refine ⟨?_, rfl, rfl⟩
         refine congrArg (fun l => Ending.returned (str l)) ?_
         unfold Ke.char
         rw [if_neg (by omega), if_neg (by omega), if_neg (by omega), if_neg (by omega), hx]
         simp only
         rw [if_neg (by omega), if_neg (by omega), if_pos (by omega)]; exact (congrArg (fun n : Int => (Utf8.encode n).data.toList) (by omega)).trans (Ke.enc_encode (c := c + 32) (by unfold Ke.okc; omega))
        refine axg (fun hg54 hg54p => ?_) (fun hg54 hg54p => ?_)
        ·
         refine axc (fun hc55 hc55p => ?_) (fun hc55 hc55p => ?_)
         ·
          refine axn 5 ?_
          intro b56 hb56
          refine axr ?_
          refine ⟨?_, rfl, rfl⟩
          refine congrArg (fun l => Ending.returned (str l)) ?_
          unfold Ke.char
          rw [if_neg (by omega), if_neg (by omega), if_neg (by omega), if_neg (by omega), hx]
          simp only
          rw [if_neg (by omega), if_neg (by omega), if_pos (by omega)]; exact (congrArg (fun n : Int => (Utf8.encode n).data.toList) (by omega)).trans (Ke.enc_encode (c := c + 32) (by unfold Ke.okc; omega))
         refine axn 2 ?_
         exact hcut () _ _ _ ⟨by omega, by omega, by omega, by omega, hx, by omega, by omega, by omega⟩ ⟨rfl, trivial⟩ rfl rfl
        refine axn 10 ?_
        exact hcut () _ _ _ ⟨by omega, by omega, by omega, by omega, hx, by omega, by omega, by omega⟩ ⟨rfl, trivial⟩ rfl rfl
       refine axg (fun hg58 hg58p => ?_) (fun hg58 hg58p => ?_)
       ·
        refine axc (fun hc59 hc59p => ?_) (fun hc59 hc59p => ?_)
        ·
         refine axn 5 ?_
         intro b60 hb60
         refine axr ?_
         refine ⟨?_, rfl, rfl⟩
         refine congrArg (fun l => Ending.returned (str l)) ?_
         unfold Ke.char
         rw [if_neg (by omega), if_neg (by omega), if_neg (by omega), if_neg (by omega), hx]
         simp only
         rw [if_neg (by omega), if_neg (by omega), if_pos (by omega)]; exact (congrArg (fun n : Int => (Utf8.encode n).data.toList) (by omega)).trans (Ke.enc_encode (c := c + 32) (by unfold Ke.okc; omega))
        refine axn 2 ?_
        exact hcut () _ _ _ ⟨by omega, by omega, by omega, by omega, hx, by omega, by omega, by omega⟩ ⟨rfl, trivial⟩ rfl rfl
       refine axn 10 ?_
       exact hcut () _ _ _ ⟨by omega, by omega, by omega, by omega, hx, by omega, by omega, by omega⟩ ⟨rfl, trivial⟩ rfl rfl
      refine axg (fun hg62 hg62p => ?_) (fun hg62 hg62p => ?_)
      ·
       refine axc (fun hc63 hc63p => ?_) (fun hc63 hc63p => ?_)
       ·
        refine axn 5 ?_
        intro b64 hb64
        refine axr ?_
        refine ⟨?_, rfl, rfl⟩
        refine congrArg (fun l => Ending.returned (str l)) ?_
        unfold Ke.char
        rw [if_neg (by omega), if_neg (by omega), if_neg (by omega), if_neg (by omega), hx]
        simp only
        rw [if_neg (by omega), if_neg (by omega), if_pos (by omega)]; exact (congrArg (fun n : Int => (Utf8.encode n).data.toList) (by omega)).trans (Ke.enc_encode (c := c + 32) (by unfold Ke.okc; omega))
       refine axn 2 ?_
       exact hcut () _ _ _ ⟨by omega, by omega, by omega, by omega, hx, by omega, by omega, by omega⟩ ⟨rfl, trivial⟩ rfl rfl
      refine axn 10 ?_
      exact hcut () _ _ _ ⟨by omega, by omega, by omega, by omega, hx, by omega, by omega, by omega⟩ ⟨rfl, trivial⟩ rfl rfl
     refine axg (fun hg67 hg67p => ?_) (fun hg67 hg67p => ?_)
     ·
      refine axg (fun hg68 hg68p => ?_) (fun hg68 hg68p => ?_)
      ·
       refine axg (fun hg69 hg69p => ?_) (fun hg69 hg69p => ?_)
       ·
        refine axn 16 ?_
        intro b71 hb71
        refine axr ?_
        refine ⟨?_, rfl, rfl⟩
        refine congrArg (fun l => Ending.returned (str l)) ?_
        unfold Ke.char
        rw [if_neg (by omega), if_neg (by omega), if_neg (by omega), if_neg (by omega), hx]
        simp only
        rw [if_neg (by omega), if_neg (by omega), if_pos (by omega)]; exact (congrArg (fun n : Int => (Utf8.encode n).data.toList) (by omega)).trans (Ke.enc_encode (c := c + 32) (by unfold Ke.okc; omega))
       refine axg (fun hg72 hg72p => ?_) (fun hg72 hg72p => ?_)
       ·
        refine axc (fun hc73 hc73p => ?_) (fun hc73 hc73p => ?_)
        ·
         refine axn 5 ?_
         intro b74 hb74
         refine axr ?_
         refine ⟨?_, rfl, rfl⟩
         refine congrArg (fun l => Ending.returned (str l)) ?_
         unfold Ke.char
         rw [if_neg (by omega), if_neg (by omega), if_neg (by omega), if_neg (by omega), hx]
         simp only
         rw [if_neg (by omega), if_neg (by omega), if_pos (by omega)]; exact (congrArg (fun n : Int => (Utf8.encode n).data.toList) (by omega)).trans (Ke.enc_encode (c := c + 32) (by unfold Ke.okc; omega))
        refine axn 2 ?_
        exact hcut () _ _ _ ⟨by omega, by omega, by omega, by omega, hx, by omega, by omega, by omega⟩ ⟨rfl, trivial⟩ rfl rfl
       refine axn 10 ?_
       exact hcut () _ _ _ ⟨by omega, by omega, by omega, by omega, hx, by omega, by omega, by omega⟩ ⟨rfl, trivial⟩ rfl rfl
      refine axg (fun hg76 hg76p => ?_) (fun hg76 hg76p => ?_)
      ·
       refine axc (fun hc77 hc77p => ?_) (fun hc77 hc77p => ?_)
       ·
        refine axn 5 ?_
        intro b78 hb78
        refine axr ?_
        refine ⟨?_, rfl, rfl⟩
        refine congrArg (fun l => Ending.returned (str l)) ?_
        unfold Ke.char
        rw [if_neg (by omega), if_neg (by omega), if_neg (by omega), if_neg (by omega), hx]
        simp only
        rw [if_neg (by omega), if_neg (by omega), if_pos (by omega)]; exact (congrArg (fun n : Int => (Utf8.encode n).data.toList) (by omega)).trans (Ke.enc_encode (c := c + 32) (by unfold Ke.okc; omega))
       refine axn 2 ?_
       exact hcut () _ _ _ ⟨by omega, by omega, by omega, by omega, hx, by omega, by omega, by omega⟩ ⟨rfl, trivial⟩ rfl rfl
      refine axn 10 ?_
      exact hcut () _ _ _ ⟨by omega, by omega, by omega, by omega, hx, by omega, by omega, by omega⟩ ⟨rfl, trivial⟩ rfl rfl
     refine axg (fun hg80 hg80p => ?_) (fun hg80 hg80p => ?_)
     ·
      refine axc (fun hc81 hc81p => ?_) (fun hc81 hc81p => ?_)
      ·
       refine axn 5 ?_
       intro b82 hb82
       refine axr ?_
       refine ⟨?_, rfl, rfl⟩
       refine congrArg (fun l => Ending.returned (str l)) ?_
       unfold Ke.char
       rw [if_neg (by omega), if_neg (by omega), if_neg (by omega), if_neg (by omega), hx]
       simp only
       rw [if_neg (by omega), if_neg (by omega), if_pos (by omega)]; exact (congrArg (fun n : Int => (Utf8.encode n).data.toList) (by omega)).trans (Ke.enc_encode (c := c + 32) (by unfold Ke.okc; omega))
      refine axn 2 ?_
      exact hcut () _ _ _ ⟨by omega, by omega, by omega, by omega, hx, by omega, by omega, by omega⟩ ⟨rfl, trivial⟩ rfl rfl
     refine axn 10 ?_
     exact hcut () _ _ _ ⟨by omega, by omega, by omega, by omega, hx, by omega, by omega, by omega⟩ ⟨rfl, trivial⟩ rfl rfl
    refine axg (fun hg84 hg84p => ?_) (fun hg84 hg84p => ?_)
    ·
     refine axg (fun hg85 hg85p => ?_) (fun hg85 hg85p => ?_)
     ·
      refine axe ?_
      refine ⟨?_, rfl, rfl⟩
      refine congrArg (fun l => Ending.returned (str l)) ?_
      unfold Ke.char
      rw [if_neg (by omega), if_neg (by omega), if_neg (by omega), if_pos (by omega)]
     refine axg (fun hg87 hg87p => ?_) (fun hg87 hg87p => ?_)
     ·
      refine axc (fun hc88 hc88p => ?_) (fun hc88 hc88p => ?_)
      ·
       refine axe ?_
       refine ⟨?_, rfl, rfl⟩
       refine congrArg (fun l => Ending.returned (str l)) ?_
       unfold Ke.char
       rw [if_neg (by omega), if_neg (by omega), if_neg (by omega), if_pos (by omega)]
      refine axn 1 ?_
      exact hcut () _ _ _ ⟨by omega, by omega, by omega, by omega⟩ ⟨rfl, trivial⟩ rfl rfl
     refine axn 8 ?_
     exact hcut () _ _ _ ⟨by omega, by omega, by omega, by omega⟩ ⟨rfl, trivial⟩ rfl rfl
    refine axg (fun hg90 hg90p => ?_) (fun hg90 hg90p => ?_)
    ·
     refine axc (fun hc91 hc91p => ?_) (fun hc91 hc91p => ?_)
     ·
      refine axe ?_
      refine ⟨?_, rfl, rfl⟩
      refine congrArg (fun l => Ending.returned (str l)) ?_
      unfold Ke.char
      rw [if_neg (by omega), if_neg (by omega), if_neg (by omega), if_pos (by omega)]
     refine axn 1 ?_
     exact hcut () _ _ _ ⟨by omega, by omega, by omega, by omega⟩ ⟨rfl, trivial⟩ rfl rfl
    refine axn 8 ?_
    exact hcut () _ _ _ ⟨by omega, by omega, by omega, by omega⟩ ⟨rfl, trivial⟩ rfl rfl
   refine axc (fun hc93 hc93p => ?_) (fun hc93 hc93p => ?_)
   ·
    refine axe ?_
    refine ⟨?_, rfl, rfl⟩
    refine congrArg (fun l => Ending.returned (str l)) ?_
    unfold Ke.char
    rw [if_neg (by omega), if_neg (by omega), if_pos (by omega)]
   refine axn 1 ?_
   exact hcut () _ _ _ ⟨by omega, by omega, by omega⟩ ⟨rfl, trivial⟩ rfl rfl
  refine axg (fun hg94 hg94p => ?_) (fun hg94 hg94p => ?_)
  ·
   refine axc (fun hc95 hc95p => ?_) (fun hc95 hc95p => ?_)
   ·
    refine axn 5 ?_
    intro b96 hb96
    refine axr ?_
    refine ⟨?_, rfl, rfl⟩
    refine congrArg (fun l => Ending.returned (str l)) ?_
    unfold Ke.char
    rw [if_neg (by omega), if_pos (by omega)]; exact (congrArg (fun n : Int => (Utf8.encode n).data.toList) (by omega)).trans (Ke.enc_encode (c := c + 32) (by unfold Ke.okc; omega))
   refine axn 1 ?_
   exact hcut () _ _ _ ⟨by omega, by omega⟩ ⟨rfl, trivial⟩ rfl rfl
  refine axn 7 ?_
  exact hcut () _ _ _ ⟨by omega, by omega⟩ ⟨rfl, trivial⟩ rfl rfl
 refine axg (fun hg98 hg98p => ?_) (fun hg98 hg98p => ?_)
 ·
  refine axg (fun hg99 hg99p => ?_) (fun hg99 hg99p => ?_)
  ·
   refine axn 14 ?_
   intro b101 hb101
   refine axr ?_
   refine ⟨?_, rfl, rfl⟩
   refine congrArg (fun l => Ending.returned (str l)) ?_
   unfold Ke.char
   rw [if_pos (by omega)]; exact Ke.enc_encode (by unfold Ke.okc; omega)
  refine axg (fun hg102 hg102p => ?_) (fun hg102 hg102p => ?_)
  ·
   refine axc (fun hc103 hc103p => ?_) (fun hc103 hc103p => ?_)
   ·
    refine axn 4 ?_
    intro b104 hb104
    refine axr ?_
    refine ⟨?_, rfl, rfl⟩
    refine congrArg (fun l => Ending.returned (str l)) ?_
    unfold Ke.char
    rw [if_pos (by omega)]; exact Ke.enc_encode (by unfold Ke.okc; omega)
   refine axn 1 ?_
   exact hcut () _ _ _ (by omega) ⟨rfl, trivial⟩ rfl rfl
  refine axn 8 ?_
  exact hcut () _ _ _ (by omega) ⟨rfl, trivial⟩ rfl rfl
 refine axg (fun hg106 hg106p => ?_) (fun hg106 hg106p => ?_)
 ·
  refine axc (fun hc107 hc107p => ?_) (fun hc107 hc107p => ?_)
  ·
   refine axn 4 ?_
   intro b108 hb108
   refine axr ?_
   refine ⟨?_, rfl, rfl⟩
   refine congrArg (fun l => Ending.returned (str l)) ?_
   unfold Ke.char
   rw [if_pos (by omega)]; exact Ke.enc_encode (by unfold Ke.okc; omega)
  refine axn 1 ?_
  exact hcut () _ _ _ (by omega) ⟨rfl, trivial⟩ rfl rfl
 refine axn 8 ?_
 exact hcut () _ _ _ (by omega) ⟨rfl, trivial⟩ rfl rfl
theorem rWords_ok (s : List UInt8) (hs : s.length ≤ 1000000000) (I : Heap) : Ctr Tryz.prog 69 [str s] I [] (fun e _I' H' => ∃ g, gOk 0 1 (Ke.words s).length ((Ke.words s).map str) g ∧ e = .returned (gV (Ke.words s).length g) ∧ H' = gH 9 ((Ke.words s).map str) g) := by
 have hrl := runes_lenS s
 refine xob func69 fun w0 hw0 => ?_
 refine axn 18 ?_
 refine J.op rfl (op_toRunes (runes_all s) rfl rfl rfl rfl underlying9 underlying197 underlying21 ?_)
 intro b1 c2 sp3 hb1
 refine axn 10 ?_
 refine Cj.loop (ι := Nat × List UInt8 × List (List UInt8) × Gs) (fun x => x.1 ≤ (Ke.runes s).length ∧ Ke.words s = x.2.2.1 ++ Ke.wf x.2.1 ((Ke.runes s).drop x.1) ∧ x.2.1.length ≤ 4 * x.1 ∧ x.2.2.1.length ≤ x.1 ∧ gOk 0 1 x.2.2.1.length (x.2.2.1.map str) x.2.2.2) (fun x => (Ke.runes s).length - x.1) (fun x => [(3, gV x.2.2.1.length x.2.2.2), (4, str x.2.1), (5, .slice (some ⟨b1, 0, none⟩) (Ke.runes s).length c2), (6, i64 (x.1 : Int))]) (fun x => I) (fun x => (b1, cel 21 (rcs (Ke.runes s) ++ sp3)) :: gH 9 (x.2.2.1.map str) x.2.2.2) (0, [], [], none) ⟨Nat.zero_le _, rfl, Nat.zero_le _, Nat.zero_le _, rfl, rfl⟩ ⟨rfl, rfl, rfl, rfl, trivial⟩ rfl rfl ?_
 rintro ⟨k, w, acc, g⟩ ⟨hk, hws, hwl, hal, hg⟩
 dsimp only at hk hws hwl hal hg ⊢
 refine axc (fun hc4 hc4p => ?_) (fun hc4 hc4p => ?_)
 ·
  refine axn 5 ?_
  have hlt : k < (Ke.runes s).length := by omega
  obtain ⟨c, hget⟩ : ∃ c, (Ke.runes s)[k]? = some c := ⟨_, List.getElem?_eq_getElem hlt⟩
  have hdr := drop_cons hget
  have hcl := Ke.char_len c
  have hcm : c ≤ 1114111 := Ke.runes_le _ _ c (List.mem_of_getElem? hget)
  refine xix k ?_
  refine J.z (yl_load rfl rfl isAgg21 (Blk.at 0 rfl) (rcs_get hget)) ?_
  refine xpu (rChar_ok c hcm _) ?_
  refine axc (fun hc5 hc5p => ?_) (fun hc5 hc5p => ?_)
  ·
   have hne : Ke.char c ≠ [32] := bne_iff_ne.1 hc5
   refine axn 4 ?_
   refine J.z (yl_cat rfl rfl rfl (by omega)) ?_
   refine axn 12 ?_
   refine Ej.round (k + 1, w ++ Ke.char c, acc, g) ⟨by dsimp only; omega, by dsimp only; rw [hws, hdr, Ke.wf_in hne], by dsimp only; rw [List.length_append]; omega, by dsimp only; omega, hg⟩ (by dsimp only; omega) ⟨rfl, rfl, rfl, rfl, trivial⟩ rfl rfl
  have he : Ke.char c = [32] := bne_f hc5
  refine axc (fun hc6 hc6p => ?_) (fun hc6 hc6p => ?_)
  ·
   have hw : w ≠ [] := bne_iff_ne.1 hc6
   refine axn 4 ?_
   intro b7 hb7
   refine J.op rfl (op_appendB 0 (Nat.zero_le _) (by' := 15) [_, _] rfl rfl rfl rfl rfl underlying69 (.inr ⟨_, underlying69⟩) (by kernel_rfl) sizeOf9 zeroValue9 rfl hg rfl (Src.slice (Blk.at 0 rfl) rfl rfl rfl) (by omega) ?_)
   intro g8 hg8
   refine axn 13 ?_
   refine Ej.keep (Keeps.d (Keeps.k Keeps.r)) ?_
   refine Ej.round (k + 1, [], acc ++ [w], g8) ⟨by dsimp only; omega, by dsimp only; rw [hws, hdr, Ke.wf_out he hw, List.append_assoc]; rfl, Nat.zero_le _, by dsimp only; rw [List.length_append]; simp only [List.length_cons, List.length_nil]; omega, by dsimp only; rw [List.map_append, List.length_append]; exact hg8⟩ (by dsimp only; omega) ⟨by dsimp only; rw [List.length_append]; rfl, rfl, rfl, rfl, trivial⟩ rfl (by dsimp only; rw [List.map_append]; rfl)
  have hw : w = [] := bne_f hc6
  refine axn 12 ?_
  refine Ej.round (k + 1, [], acc, g) ⟨by dsimp only; omega, by dsimp only; rw [hws, hdr, hw, Ke.wf_out0 he], Nat.zero_le _, by dsimp only; omega, hg⟩ (by dsimp only; omega) ⟨rfl, rfl, rfl, rfl, trivial⟩ rfl rfl
 have hfull : (Ke.runes s).drop k = [] := List.drop_eq_nil_of_le (by omega)
 refine axc (fun hc9 hc9p => ?_) (fun hc9 hc9p => ?_)
 ·
  have hw : w ≠ [] := bne_iff_ne.1 hc9
  have hres : Ke.words s = acc ++ [w] := by rw [hws, hfull, Ke.wf_end, if_neg hw]
  refine axn 4 ?_
  intro b10 hb10
  refine J.op rfl (op_appendB 0 (Nat.zero_le _) (by' := 15) [_, _] rfl rfl rfl rfl rfl underlying69 (.inr ⟨_, underlying69⟩) (by kernel_rfl) sizeOf9 zeroValue9 rfl hg rfl (Src.slice (Blk.at 0 rfl) rfl rfl rfl) (by omega) ?_)
  intro g11 hg11
  refine axn 10 ?_
  refine Ej.keep (Keeps.d (Keeps.d Keeps.r)) ?_
  refine axe ?_
  rw [hres, List.map_append, List.length_append]
  exact ⟨g11, hg11, rfl, rfl⟩
 have hw : w = [] := bne_f hc9
 have hres : Ke.words s = acc := by rw [hws, hfull, Ke.wf_end, if_pos hw, List.append_nil]
 refine axn 9 ?_
 refine Ej.keep (Keeps.d Keeps.r) ?_
 refine axe ?_
 rw [hres]
 exact ⟨g, hg, rfl, rfl⟩
def mix (ws : List (List UInt8)) (j : Nat) : List (List UInt8) := (ws.take j).map Ke.sortWord ++ ws.drop j
theorem mix_len (ws : List (List UInt8)) (j : Nat) : (mix ws j).length = ws.length := by unfold mix; simp; omega
theorem mix_at {ws : List (List UInt8)} {j : Nat} {x : List UInt8} (h : ws[j]? = some x) : (mix ws j)[j]? = some x := by
  obtain ⟨hlt, hg⟩ := List.getElem?_eq_some_iff.1 h
  unfold mix
  rw [List.getElem?_append_right (by simp; omega), List.getElem?_drop, List.length_map, List.length_take, Nat.min_eq_left (by omega), Nat.sub_self, Nat.add_zero, h]
theorem mix_next {ws : List (List UInt8)} {j : Nat} {x : List UInt8} (h : ws[j]? = some x) : mix ws (j + 1) = (mix ws j).set j (Ke.sortWord x) := by
  obtain ⟨hlt, hg⟩ := List.getElem?_eq_some_iff.1 h
  unfold mix
  rw [List.take_succ_eq_append_getElem hlt, hg, List.map_append, drop_cons h, List.set_append_right _ _ (by simp; omega), List.length_map, List.length_take, Nat.min_eq_left (by omega), Nat.sub_self]
  simp
theorem mix_same {ws : List (List UInt8)} {j : Nat} {x : List UInt8} (h : ws[j]? = some x) (hs : Ke.sortWord x = x) : mix ws (j + 1) = mix ws j := by
  rw [mix_next h, hs]
  apply List.ext_getElem?
  intro i
  rw [List.getElem?_set]
  by_cases hi : j = i
  · subst hi; rw [if_pos rfl, mix_at h, if_pos (by rw [mix_len]; exact (List.getElem?_eq_some_iff.1 h).1)]
  rw [if_neg hi]
theorem mix_set {ws : List (List UInt8)} {j : Nat} {x : List UInt8} {sp : List Value} (h : ws[j]? = some x) : ((mix ws j).map str ++ sp).set j (str (Ke.sortWord x)) = (mix ws (j + 1)).map str ++ sp := by
  rw [mix_next h, List.set_append_left _ _ (by rw [List.length_map, mix_len]; exact (List.getElem?_eq_some_iff.1 h).1), List.map_set]
theorem mix_end (ws : List (List UInt8)) {j : Nat} (h : ¬ j < ws.length) : mix ws j = ws.map Ke.sortWord := by
  unfold mix
  rw [List.take_of_length_le (by omega), List.drop_eq_nil_of_le (by omega), List.append_nil]
theorem rSort_ok (s : List UInt8) (skip : Int) (hs : s.length ≤ 100000000) (I : Heap) : Pure Tryz.prog 26 [str s, i64 skip] I (str (Ke.sortKey s skip)) := by
 refine Ctr.toPure ?_
 have hcl : (Ke.cut s skip).length ≤ s.length := by unfold Ke.cut; simp
 have hwl := Ke.words_len (Ke.cut s skip)
 have hjl := Ke.sort_len (Ke.cut s skip)
 refine xob func26 fun w0 hw0 => ?_
 refine axn 9 ?_
 refine J.z (yl_max2 rfl rfl rfl) ?_
 refine axn 2 ?_
 refine J.z (yl_min2 rfl rfl rfl) ?_
 refine J.ev 13 (i64 (((min (max skip 0) (s.length : Int)).toNat : Nat) : Int)) rfl (congrArg i64 (by omega)) ?_
 refine J.z (yl_sliceStr (p := (min (max skip 0) (s.length : Int)).toNat) (q := s.length) rfl rfl underlying9 ⟨_, rfl⟩ rfl (by omega) (by omega)) ?_
 refine J.ev 14 (str (Ke.cut s skip)) rfl (by rw [List.take_length]; rfl) ?_
 refine xcn (rWords_ok (Ke.cut s skip) (by omega) _) ?_
 intro v2 I3 H4 hle5 hn1 hp6
 obtain ⟨g, hg, h, rfl⟩ := hp6; cases h
 replace hg := hg.base hn1
 refine axn 10 ?_
 refine Cj.loop (ι := Nat) (fun j => j ≤ (Ke.words (Ke.cut s skip)).length) (fun j => (Ke.words (Ke.cut s skip)).length - j) (fun j => [(5, gV (Ke.words (Ke.cut s skip)).length g), (6, i64 (j : Int))]) (fun j => _) (fun j => gH 9 ((mix (Ke.words (Ke.cut s skip)) j).map str) g) 0 (Nat.zero_le _) ⟨rfl, rfl, trivial⟩ rfl (by rw [List.append_nil, show mix (Ke.words (Ke.cut s skip)) 0 = (Ke.words (Ke.cut s skip)) by simp [mix]]) ?_
 intro j hj
 refine axn 5 ?_
 refine J.z (yl_lenG hg rfl rfl underlying69) ?_
 refine axc (fun hc7 hc7p => ?_) (fun hc7 hc7p => ?_)
 ·
  refine axn 5 ?_
  have hlt : j < (Ke.words (Ke.cut s skip)).length := by omega
  obtain ⟨x, hget⟩ : ∃ x, (Ke.words (Ke.cut s skip))[j]? = some x := ⟨_, List.getElem?_eq_getElem hlt⟩
  have hxm := List.mem_of_getElem? hget
  have hxl := Ke.words_each _ x hxm
  have hma := mix_at hget
  obtain ⟨bg8, cg9, sp10, rfl, hbg8⟩ := hg.some (by omega)
  refine xix j ?_
  refine J.z (yl_load rfl rfl isAgg9 (Blk.at 0 rfl) (str_get hma)) ?_
  refine xpu (rdigits_ok x (by omega) _) ?_
  refine ax0 (fun hc11 => ?_) (fun hc11 => ?_)
  ·
   have hsw : Ke.sortWord x = Ke.number x := by unfold Ke.sortWord; rw [show Ke.digits x = true from hc11]; rfl
   refine xix j ?_
   refine J.z (yl_load rfl rfl isAgg9 (Blk.at 0 rfl) (str_get hma)) ?_
   refine xpu (number_ok x (by omega) _) ?_
   refine J.ev 34 (str (Ke.sortWord x)) rfl (by rw [hsw]) ?_
   refine xix j ?_
   refine J.op rfl (op_store1 0 rfl rfl rfl rfl rfl rfl sizeOf9 rfl (.inl rfl) (by simp only [List.length_append, List.length_map, mix_len]; omega) LSet.z ?_)
   refine axn 8 ?_
   refine Ej.round (j + 1) (by omega) (by omega) ⟨rfl, rfl, trivial⟩ rfl (by rw [mix_set hget]; rfl)
  have hsw : Ke.sortWord x = x := by unfold Ke.sortWord; rw [show Ke.digits x = false from hc11]; rfl
  refine axn 8 ?_
  refine Ej.round (j + 1) (by omega) (by omega) ⟨rfl, rfl, trivial⟩ rfl (by rw [mix_same hget hsw])
 refine axn 6 ?_
 have hme := mix_end (Ke.words (Ke.cut s skip)) (j := j) (by omega)
 rw [hme]
 refine Cj.perm (H' := gH _ _ _ ++ []) (by rw [List.append_nil]) ?_
 have hg2 : gOk w0.heap.size 1 (Ke.words (Ke.cut s skip)).length (((Ke.words (Ke.cut s skip)).map Ke.sortWord).map str) g := gOk_len hg (by simp)
 refine Cj.keepS hg2 (fun I8 hle8 hv => ?_)
 rw [show (Ke.words (Ke.cut s skip)).length = ((Ke.words (Ke.cut s skip)).map Ke.sortWord).length from (List.length_map _).symm] at hv ⊢
 refine xpu (rJoin_ok ((Ke.words (Ke.cut s skip)).map Ke.sortWord) _ (by rw [List.length_map]; omega) (by omega) _ (StrP.of hv)) ?_
 refine axe ?_
 exact ⟨rfl, rfl⟩
end Go.Proofs.YtekmeaoblpfnpaaGreatDoor
end
section
set_option maxHeartbeats 40000000
namespace Go.Proofs.YtekmeaoblpfnpaaGreatDoor
open Go Go.Sx
theorem rText_ok (f : Ke.Fld) (codes : List UInt8) (hcl : codes.length ≤ 1000) (hn : f.subs.length ≤ 2000000) (htx : textsLen f.subs ≤ 3000000) (I : Heap) (hr : RowS subC I f.subs f.sv) : Pure Tryz.prog 121 [.agg (fldC f).toArray, str codes] I (str (Ke.textOf f codes)) := by
 refine Ctr.toPure ?_
 obtain ⟨p2, c2, hsv, hc2, hp2⟩ := hr
 refine xob Tryz.func121 fun w0 hw0 => ?_
 refine axn 3 ?_
 intro b1 hb1
 refine axn 15 ?_
 refine Cj.loop (ι := Nat × Gs) (fun j => j.1 ≤ f.subs.length ∧ gOk w0.heap.size 1 (tx codes (f.subs.take j.1)).length ((tx codes (f.subs.take j.1)).map str) j.2) (fun j => f.subs.length - j.1) (fun j => [(1, str codes), (2, ptr b1 0), (5, gV (tx codes (f.subs.take j.1)).length j.2), (6, i64 (j.1 : Int))]) (fun j => _) (fun j => (b1, cel 108 (fldC f)) :: gH 9 ((tx codes (f.subs.take j.1)).map str) j.2) (0, none) ⟨Nat.zero_le _, rfl, rfl⟩ ⟨rfl, rfl, rfl, rfl, trivial⟩ rfl rfl ?_
 rintro ⟨j, g⟩ ⟨hj, hg⟩
 dsimp only at hj hg ⊢
 have htl := tx_len codes (f.subs.take j)
 rw [List.length_take, Nat.min_eq_left hj] at htl
 refine axn 6 ?_
 refine J.ev 10 (.slice p2 f.subs.length c2) rfl hsv ?_
 refine axc (fun hc2 hc2p => ?_) (fun hc2 hc2p => ?_)
 ·
  refine axn 5 ?_
  have hlt : j < f.subs.length := by omega
  obtain ⟨sb, hsget⟩ : ∃ x, f.subs[j]? = some x := ⟨_, List.getElem?_eq_getElem hlt⟩
  obtain ⟨sbk, so, scs, sty, sfr, sp2, rfl, hsbk, hsd⟩ := hp2 (ne_nil_of hlt)
  have hnx := tx_next (codes := codes) hsget
  refine axn 4 ?_
  refine J.ev 17 (.slice (some ⟨sbk, so, none⟩) f.subs.length c2) rfl hsv ?_
  refine xix (so + j * 2) ?_
  refine axn 1 ?_
  refine J.z (yl_load rfl rfl Tryz.isAgg5 (Blk.imm hsbk) (row_fcell subC_len hsd hsget 0 (by decide))) ?_
  refine xpu (has_ok codes sb.code (by omega) _) ?_
  refine ax0 (fun hc3 => ?_) (fun hc3 => ?_)
  ·
   rw [if_pos hc3] at hnx
   refine axn 4 ?_
   refine J.ev 26 (.slice (some ⟨sbk, so, none⟩) f.subs.length c2) rfl hsv ?_
   refine xix (so + j * 2) ?_
   refine J.z (q1 (off' := so + j * 2 + 1) Tryz.underlying176 Tryz.sizeOf9) ?_
   refine J.z (yl_load rfl rfl Tryz.isAgg9 (Blk.imm hsbk) (row_fcell subC_len hsd hsget 1 (by decide))) ?_
   refine axn 1 ?_
   intro b4 hb4
   refine xap 15 [_, _] hg ?_
   intro g5 hg5
   refine axn 9 ?_
   refine Ej.keep (Keeps.d (Keeps.k Keeps.r)) ?_
   refine Ej.round (j + 1, g5) ⟨by dsimp only; omega, by dsimp only; rw [hnx, List.map_append, List.length_append]; exact hg5⟩ (by dsimp only; omega) ⟨rfl, rfl, by dsimp only; rw [hnx, List.length_append]; rfl, rfl, trivial⟩ rfl (by dsimp only; rw [hnx, List.map_append]; rfl)
  rw [if_neg (fun e => Bool.noConfusion (e.symm.trans hc3))] at hnx
  refine axn 8 ?_
  refine Ej.round (j + 1, g) ⟨by dsimp only; omega, by dsimp only; rw [hnx, List.append_nil]; exact hg⟩ (by dsimp only; omega) ⟨rfl, rfl, by dsimp only; rw [hnx, List.append_nil]; rfl, rfl, trivial⟩ rfl (by dsimp only; rw [hnx, List.append_nil])
 refine axn 6 ?_
 have hfull : f.subs.take j = f.subs := List.take_of_length_le (by omega)
 rw [hfull] at hg ⊢
 have htl2 := textOf_len f codes
 refine Cj.perm (H' := gH _ _ _ ++ [_]) List.perm_append_comm ?_
 refine Cj.keepS hg (fun I8 hle8 hv => ?_)
 refine xpu (rJoin_ok (tx codes f.subs) _ (by have := tx_len codes f.subs; omega) (by have e : Ke.join (tx codes f.subs) = Ke.textOf f codes := rfl; rw [e]; omega) _ (StrP.of hv)) ?_
 refine axr ?_
 exact ⟨rfl, rfl⟩
end Go.Proofs.YtekmeaoblpfnpaaGreatDoor
end
section
set_option maxHeartbeats 40000000
namespace Go.Proofs.YtekmeaoblpfnpaaGreatDoor
open _root_.Go.Proofs.Tryz
open Go Go.Sx
theorem tw_len {α : Type} {p : α → Bool} : ∀ {l : List α} {k : Nat}, (∀ x ∈ l.take k, p x = true) → (∀ x, l[k]? = some x → p x = false) → k ≤ l.length → (l.takeWhile p).length = k
  | [], k, _, _, hk => by have : k = 0 := by simpa using hk
                          subst this; rfl
  | x :: r, 0, _, h2, _ => by rw [List.takeWhile_cons, if_neg (by rw [h2 x rfl]; decide)]; rfl
  | x :: r, k + 1, h1, h2, hk => by
    rw [List.takeWhile_cons, if_pos (h1 x (by rw [List.take_succ_cons]; exact .head _)), List.length_cons, tw_len (k := k) (fun y hy => h1 y (by rw [List.take_succ_cons]; exact .tail _ hy)) (fun y hy => h2 y (by rw [List.getElem?_cons_succ]; exact hy)) (by simpa using hk)]
theorem all_nextD {α : Type} {p : α → Bool} {l : List α} {k : Nat} {x : α} (h : ∀ y ∈ l.take k, p y = true) (hg : l[k]? = some x) (hx : p x = true) : ∀ y ∈ l.take (k + 1), p y = true := by
  obtain ⟨hlt, hg⟩ := List.getElem?_eq_some_iff.1 hg
  rw [List.take_succ_eq_append_getElem hlt, hg]
  intro y hy
  rcases List.mem_append.1 hy with g | g
  · exact h y g
  rw [List.mem_singleton.1 g]; exact hx
theorem uy_some {s : List UInt8} {k : Nat} (h : Ix.yearOf s = Ix.yearOf (s.drop k)) (h4 : ((s.drop k).takeWhile Ke.digit).length = 4) : uy s = ((s.take (k + 4)).drop k, true) := by
  unfold uy
  rw [h, Ix.year_step, if_pos h4, List.drop_take]
  simp
theorem uy_none {s : List UInt8} {k : Nat} (h : Ix.yearOf s = Ix.yearOf (s.drop k)) (hk : s.length ≤ k) : uy s = ([], false) := by
  unfold uy
  rw [h, List.drop_eq_nil_of_le hk, Ix.year_nil]; rfl
theorem uy_step {s : List UInt8} {k n : Nat} (h : Ix.yearOf s = Ix.yearOf (s.drop k)) (hn : ((s.drop k).takeWhile Ke.digit).length = n) (h4 : n ≠ 4) : Ix.yearOf s = Ix.yearOf (s.drop (k + n + 1)) := by
  rw [h, Ix.year_step, if_neg (by omega), hn, List.drop_drop, Nat.add_assoc]
theorem rYear_ok (s : List UInt8) (hs : s.length ≤ 1000000000) (I : Heap) : Pure Tryz.prog 122 [str s] I (.tuple #[str (uy s).1, .bool (uy s).2]) := by
 refine Ctr.toPure ?_
 refine xob func122 fun w0 hw0 => ?_
 refine axn 13 ?_
 refine Cj.loop (ι := Nat) (fun k => k ≤ s.length + 1 ∧ Ix.yearOf s = Ix.yearOf (s.drop k)) (fun k => s.length + 1 - k) (fun k => [(0, str s), (4, i64 (k : Int))]) (fun k => _) (fun k => []) 0 ⟨Nat.zero_le _, rfl⟩ ⟨rfl, rfl, trivial⟩ rfl rfl ?_
 rintro k ⟨hk, hyr⟩
 refine axc (fun hc1 hc1p => ?_) (fun hc1 hc1p => ?_)
 ·
  refine axn 11 ?_
  refine Cj.loop (ι := Nat) (fun n => k + n ≤ s.length ∧ ∀ x ∈ (s.drop k).take n, Ke.digit x = true) (fun n => s.length - k - n) (fun n => [(0, str s), (4, i64 (k : Int)), (5, i64 (n : Int))]) (fun n => _) (fun n => []) 0 ⟨by omega, fun x hx => by simp at hx⟩ ⟨rfl, rfl, rfl, trivial⟩ rfl rfl ?_
  rintro n ⟨hkn, hdg⟩
  refine axg (fun hg2 hg2p => ?_) (fun hg2 hg2p => ?_)
  ·
   have hlt2 : k + n < s.length := by have h := of_decide_eq_true hg2; omega
   obtain ⟨c, hget⟩ : ∃ c, s[k + n]? = some c := ⟨_, List.getElem?_eq_getElem hlt2⟩
   refine axn 4 ?_
   refine J.ev 22 (i64 ((k + n : Nat) : Int)) rfl rfl ?_
   refine J.zg (q4 underlying9 hget) ?_
   refine axg (fun hg3 hg3p => ?_) (fun hg3 hg3p => ?_)
   ·
    have h48 : 48 ≤ c.toNat := by have h := of_decide_eq_true hg3; omega
    refine axn 4 ?_
    refine J.ev 30 (i64 ((k + n : Nat) : Int)) rfl rfl ?_
    refine J.zg (q4 underlying9 hget) ?_
    refine axc (fun hc4 hc4p => ?_) (fun hc4 hc4p => ?_)
    ·
     have hdig : Ke.digit c = true := by rw [Ix.digit_nat]; have h := of_decide_eq_true hc4; simp only [decide_eq_true_eq]; omega
     refine axn 9 ?_
     refine Ej.round (n + 1) ⟨by omega, all_nextD hdg (by rw [List.getElem?_drop]; exact hget) hdig⟩ (by omega) ⟨rfl, rfl, rfl, trivial⟩ rfl rfl
    have hndig : ¬ Ke.digit c = true := by rw [Ix.digit_nat]; have h := of_decide_eq_false hc4; simp only [decide_eq_true_eq]; omega
    refine axn 7 ?_
    have hn : ((s.drop k).takeWhile Ke.digit).length = n := tw_len hdg (fun x hx => by rw [List.getElem?_drop, hget] at hx; cases hx; exact Bool.eq_false_iff.2 hndig) (by rw [List.length_drop]; omega)
    refine axc (fun hc5 hc5p => ?_) (fun hc5 hc5p => ?_)
    ·
     have h4 : n = 4 := by have h := eq_of_beq hc5; omega
     have hyy := uy_some hyr (hn.trans h4)
     refine axn 6 ?_
     refine J.z (yl_sliceStr (p := k) (q := k + 4) rfl rfl underlying9 ⟨_, rfl⟩ ⟨_, rfl⟩ (by omega) (by omega)) ?_
     refine axe ?_
     rw [hyy]
     exact ⟨rfl, rfl⟩
    have h4 : n ≠ 4 := by have h := ne_of_beq_false hc5; omega
    refine axn 15 ?_
    refine Ej.round (k + n + 1) ⟨by omega, uy_step hyr hn (by omega)⟩ (by omega) ⟨rfl, rfl, trivial⟩ rfl rfl
   have hndig : ¬ Ke.digit c = true := by rw [Ix.digit_nat]; have h := of_decide_eq_false hg3; simp only [decide_eq_true_eq]; omega
   refine axn 17 ?_
   have hn : ((s.drop k).takeWhile Ke.digit).length = n := tw_len hdg (fun x hx => by rw [List.getElem?_drop, hget] at hx; cases hx; exact Bool.eq_false_iff.2 hndig) (by rw [List.length_drop]; omega)
   refine axc (fun hc7 hc7p => ?_) (fun hc7 hc7p => ?_)
   ·
    have h4 : n = 4 := by have h := eq_of_beq hc7; omega
    have hyy := uy_some hyr (hn.trans h4)
    refine axn 6 ?_
    refine J.z (yl_sliceStr (p := k) (q := k + 4) rfl rfl underlying9 ⟨_, rfl⟩ ⟨_, rfl⟩ (by omega) (by omega)) ?_
    refine axe ?_
    rw [hyy]
    exact ⟨rfl, rfl⟩
   have h4 : n ≠ 4 := by have h := ne_of_beq_false hc7; omega
   refine axn 15 ?_
   refine Ej.round (k + n + 1) ⟨by omega, uy_step hyr hn (by omega)⟩ (by omega) ⟨rfl, rfl, trivial⟩ rfl rfl
  have hge2 : ¬ k + n < s.length := by have h := of_decide_eq_false hg2; omega
  refine axn 25 ?_
  have hn : ((s.drop k).takeWhile Ke.digit).length = n := tw_len hdg (fun x hx => absurd (List.getElem?_eq_some_iff.1 hx).1 (by rw [List.length_drop]; omega)) (by rw [List.length_drop]; omega)
  refine axc (fun hc9 hc9p => ?_) (fun hc9 hc9p => ?_)
  ·
   have h4 : n = 4 := by have h := eq_of_beq hc9; omega
   have hyy := uy_some hyr (hn.trans h4)
   refine axn 6 ?_
   refine J.z (yl_sliceStr (p := k) (q := k + 4) rfl rfl underlying9 ⟨_, rfl⟩ ⟨_, rfl⟩ (by omega) (by omega)) ?_
   refine axe ?_
   rw [hyy]
   exact ⟨rfl, rfl⟩
  have h4 : n ≠ 4 := by have h := ne_of_beq_false hc9; omega
  refine axn 15 ?_
  refine Ej.round (k + n + 1) ⟨by omega, uy_step hyr hn (by omega)⟩ (by omega) ⟨rfl, rfl, trivial⟩ rfl rfl
 refine axe ?_
 rw [uy_none hyr (by omega)]
 exact ⟨rfl, rfl⟩
theorem rStarts_ok (s p : List UInt8) (hp : p.length ≤ 1000000) (I : Heap) : Pure Tryz.prog 123 [str s, str p] I (.bool (p.isPrefixOf s)) := by
 refine Ctr.toPure ?_
 refine xob func123 fun w0 hw0 => ?_
 refine axg (fun hg1 hg1p => ?_) (fun hg1 hg1p => ?_)
 ·
  have hge : p.length ≤ s.length := by have h := of_decide_eq_true hg1; omega
  refine axn 3 ?_
  refine J.zg (yl_sliceStr (p := 0) (q := p.length) rfl rfl underlying9 rfl ⟨_, rfl⟩ (by omega) (by omega)) ?_
  refine axe ?_
  refine ⟨?_, rfl⟩
  rw [pre_eq hge]
 have hge : ¬ p.length ≤ s.length := by have h := of_decide_eq_false hg1; omega
 refine axe ?_
 rw [pre_no hge]
 exact ⟨rfl, rfl⟩
theorem all_len (f : Ke.Fld) : (Ix.allText f).length ≤ textsLen f.subs + f.subs.length := by
  have := textX_len f []
  rwa [textX_all] at this
theorem rAllText_ok (f : Ke.Fld) (hn : f.subs.length ≤ 2000000) (htx : textsLen f.subs ≤ 3000000) (I : Heap) (hr : RowS subC I f.subs f.sv) : Pure Tryz.prog 124 [.agg (fldC f).toArray] I (str (Ix.allText f)) := by
 refine Ctr.toPure ?_
 obtain ⟨p2, c2, hsv, hc2, hp2⟩ := hr
 have hal := all_len f
 unfold Ix.allText at hal
 refine xob func124 fun w0 hw0 => ?_
 refine axn 3 ?_
 intro b1 hb1
 refine axn 15 ?_
 refine Cj.loop (ι := Nat) (fun j => j ≤ f.subs.length) (fun j => f.subs.length - j) (fun j => [(1, ptr b1 0), (3, str (Ke.join ((f.subs.map (·.text)).take j))), (4, i64 (j : Int))]) (fun j => _) (fun j => [(b1, cel 108 (fldC f))]) 0 (Nat.zero_le _) ⟨rfl, rfl, rfl, trivial⟩ rfl rfl ?_
 intro j hj
 have hjp := join_part (f.subs.map (·.text)) j
 have hjp2 := join_part (f.subs.map (·.text)) (j + 1)
 refine axn 6 ?_
 refine J.ev 7 (.slice p2 f.subs.length c2) rfl hsv ?_
 refine axc (fun hc2 hc2p => ?_) (fun hc2 hc2p => ?_)
 ·
  have hlt : j < f.subs.length := by omega
  obtain ⟨sb, hsget⟩ : ∃ x, f.subs[j]? = some x := ⟨_, List.getElem?_eq_getElem hlt⟩
  have hget : (f.subs.map (·.text))[j]? = some sb.text := by rw [List.getElem?_map, hsget]; rfl
  obtain ⟨sbk, so, scs, sty, sfr, sp2, rfl, hsbk, hsd⟩ := hp2 (ne_nil_of hlt)
  have hjn := congrArg List.length (join_next hget)
  rw [List.length_append] at hjn
  refine axc (fun hc3 hc3p => ?_) (fun hc3 hc3p => ?_)
  ·
   have hj0 : 0 < j := by have h := of_decide_eq_true hc3; omega
   refine axn 2 ?_
   refine J.z (yl_cat rfl rfl rfl (by rw [if_pos hj0, List.length_append] at hjn; simp only [List.length_cons, List.length_nil] at hjn ⊢; omega)) ?_
   refine axn 7 ?_
   refine J.ev 18 (.slice (some ⟨sbk, so, none⟩) f.subs.length c2) rfl hsv ?_
   refine xix (so + j * 2) ?_
   refine J.z (q1 (off' := so + j * 2 + 1) underlying176 sizeOf9) ?_
   refine J.z (yl_load rfl rfl isAgg9 (Blk.imm hsbk) (row_fcell subC_len hsd hsget 1 (by decide))) ?_
   refine J.z (yl_cat rfl rfl rfl (by first | (rw [if_pos hj0, List.length_append] at hjn; simp only [List.length_append, List.length_cons, List.length_nil] at hjn ⊢; omega) | (rw [if_neg hj0] at hjn; omega))) ?_
   refine axn 9 ?_
   refine Ej.round (j + 1) (by omega) (by omega) ⟨rfl, by rw [join_next hget, if_pos hj0]; rfl, rfl, trivial⟩ rfl rfl
  have hj0 : ¬ 0 < j := by have h := of_decide_eq_false hc3; omega
  refine axn 6 ?_
  refine J.ev 18 (.slice (some ⟨sbk, so, none⟩) f.subs.length c2) rfl hsv ?_
  refine xix (so + j * 2) ?_
  refine J.z (q1 (off' := so + j * 2 + 1) underlying176 sizeOf9) ?_
  refine J.z (yl_load rfl rfl isAgg9 (Blk.imm hsbk) (row_fcell subC_len hsd hsget 1 (by decide))) ?_
  refine J.z (yl_cat rfl rfl rfl (by first | (rw [if_pos hj0, List.length_append] at hjn; simp only [List.length_append, List.length_cons, List.length_nil] at hjn ⊢; omega) | (rw [if_neg hj0] at hjn; omega))) ?_
  refine axn 9 ?_
  refine Ej.round (j + 1) (by omega) (by omega) ⟨rfl, by rw [join_next hget, if_neg hj0]; rfl, rfl, trivial⟩ rfl rfl
 have hfull : (f.subs.map (·.text)).take j = f.subs.map (·.text) := List.take_of_length_le (by rw [List.length_map]; omega)
 refine axr ?_
 rw [hfull]
 exact ⟨rfl, rfl⟩
def valC (x : List UInt8 × Nat) : List Value := [str x.1, i64 (x.2 : Int)]
theorem valC_len (x : List UInt8 × Nat) : (valC x).length = 2 := rfl
def psL (u : List UInt8 → List UInt8 × Bool) (c : UInt8) (ss : List Ke.Sub) : List (List UInt8 × Nat) := (ss.filterMap (pickU u c)).map fun s => (s, 0)
theorem psL_next {u : List UInt8 → List UInt8 × Bool} {c : UInt8} {ss : List Ke.Sub} {k : Nat} {s : Ke.Sub} (h : ss[k]? = some s) : psL u c (ss.take (k + 1)) = psL u c (ss.take k) ++ (if (u s.text).2 = true ∧ s.code = c then [((u s.text).1, 0)] else []) := by
  unfold psL
  rw [fm_next h, List.map_append]
  congr 1
  split <;> rfl
theorem psL_len (u : List UInt8 → List UInt8 × Bool) (c : UInt8) (ss : List Ke.Sub) : (psL u c ss).length ≤ ss.length := by
  unfold psL; rw [List.length_map]; exact List.length_filterMap_le _ _
theorem ps_end {f : Ke.Fld} {t : List UInt8} {u : List UInt8 → List UInt8 × Bool} {c : UInt8} {j : Nat} (h : j = 0 ∨ f.tag = t) (hj : f.subs.length ≤ j) : (if f.tag = t then psL u c f.subs else []) = psL u c (f.subs.take j) := by
  by_cases ht : f.tag = t
  · rw [if_pos ht, List.take_of_length_le hj]
  have h0 := h.resolve_right ht
  subst h0
  rw [if_neg ht]; rfl
theorem ps_no {f : Ke.Fld} {t : List UInt8} {u : List UInt8 → List UInt8 × Bool} {c : UInt8} {j : Nat} (h : j = 0 ∨ f.tag = t) (ht : f.tag ≠ t) : (if f.tag = t then psL u c f.subs else []) = psL u c (f.subs.take j) := by
  have h0 := h.resolve_right ht
  subst h0
  rw [if_neg ht]; rfl
theorem of_title {f : Ke.Fld} {n : List UInt8} (h : n = Ix.nTitle) : Ix.ofN f n = if f.tag = [50, 52, 53] ∨ f.tag = [50, 52, 54] then [(Ke.textOf f [97, 98], Ix.skipT f)] else [] := by subst h; rfl
theorem of_author {f : Ke.Fld} {n : List UInt8} (h : n = Ix.nAuthor) : Ix.ofN f n = if f.tag = [49, 48, 48] ∨ f.tag = [49, 49, 48] ∨ f.tag = [55, 48, 48] then [(Ke.textOf f [97], 0)] else [] := by subst h; rfl
theorem of_subject {f : Ke.Fld} {n : List UInt8} (h : n = Ix.nSubject) : Ix.ofN f n = if f.tag = [54, 48, 48] ∨ f.tag = [54, 53, 48] then [(Ke.textOf f [97, 120], 0)] else [] := by subst h; rfl
theorem of_isbn {f : Ke.Fld} {n : List UInt8} (h : n = Ix.nIsbn) : Ix.ofN f n = if f.tag = [48, 50, 48] then psL Ke.isbn 97 f.subs else [] := by subst h; rfl
theorem of_year {f : Ke.Fld} {n : List UInt8} (h : n = Ix.nYear) : Ix.ofN f n = if f.tag = [50, 54, 48] then psL uy 99 f.subs else [] := by
  subst h
  unfold psL
  rw [pick_yr]; rfl
theorem of_any {f : Ke.Fld} {n : List UInt8} (h : n = Ix.nAny) : Ix.ofN f n = if Ix.anyOk f then [(Ix.allText f, 0)] else [] := by subst h; rfl
theorem of_none {f : Ke.Fld} {n : List UInt8} (h1 : n ≠ Ix.nTitle) (h2 : n ≠ Ix.nAuthor) (h3 : n ≠ Ix.nSubject) (h4 : n ≠ Ix.nIsbn) (h5 : n ≠ Ix.nYear) (h6 : n ≠ Ix.nAny) : Ix.ofN f n = [] := by
  unfold Ix.ofN
  rw [if_neg h1, if_neg h2, if_neg h3, if_neg h4, if_neg h5, if_neg h6]
theorem ofN_len (f : Ke.Fld) (n : List UInt8) (h : f.subs.length ≤ 1000) : (Ix.ofN f n).length ≤ 1000 := by
  by_cases h1 : n = Ix.nTitle
  · rw [of_title h1]; split <;> simp
  by_cases h2 : n = Ix.nAuthor
  · rw [of_author h2]; split <;> simp
  by_cases h3 : n = Ix.nSubject
  · rw [of_subject h3]; split <;> simp
  by_cases h4 : n = Ix.nIsbn
  · rw [of_isbn h4]; split
    · exact Nat.le_trans (psL_len _ _ _) h
    simp
  by_cases h5 : n = Ix.nYear
  · rw [of_year h5]; split
    · exact Nat.le_trans (psL_len _ _ _) h
    simp
  by_cases h6 : n = Ix.nAny
  · rw [of_any h6]; split <;> simp
  rw [of_none h1 h2 h3 h4 h5 h6]; simp
theorem rOf_ok (f : Ke.Fld) (n : List UInt8) (hn2 : f.subs.length ≤ 2000000) (htx : textsLen f.subs ≤ 3000000) (I : Heap) (hr : RowS subC I f.subs f.sv) : Ctr Tryz.prog 68 [.agg (fldC f).toArray, str n] I [] (fun e I' H' => ∃ w, e = .returned w ∧ RowS valC I' (Ix.ofN f n) w ∧ H' = []) := by
 obtain ⟨p2, c2, hsv, hc2, hp2⟩ := id hr
 refine xob func68 fun w0 hw0 => ?_
 refine axn 3 ?_
 intro b1 hb1
 refine axc (fun hc2 hc2p => ?_) (fun hc2 hc2p => ?_)
 ·
  have hn : n = Ix.nTitle := eq_of_beq hc2
  refine axg (fun hg3 hg3p => ?_) (fun hg3 hg3p => ?_)
  ·
   have h45 : f.tag = [50, 52, 53] := eq_of_beq hg3
   refine axg (fun hg4 hg4p => ?_) (fun hg4 hg4p => ?_)
   ·
    have hl1 : 1 < f.ind.length := by have h := of_decide_eq_true hg4; omega
    obtain ⟨c, hget⟩ : ∃ c, f.ind[1]? = some c := ⟨_, List.getElem?_eq_getElem hl1⟩
    have hcl := c.toNat_lt
    refine axn 2 ?_
    refine J.zg (yl_index rfl rfl rfl underlying9 (by decide) hget) ?_
    refine axg (fun hg5 hg5p => ?_) (fun hg5 hg5p => ?_)
    ·
     have h48 : 48 ≤ c.toNat := by have h := of_decide_eq_true hg5; omega
     refine axn 2 ?_
     refine J.zg (yl_index rfl rfl rfl underlying9 (by decide) hget) ?_
     refine axc (fun hc6 hc6p => ?_) (fun hc6 hc6p => ?_)
     ·
      have h57 : c.toNat ≤ 57 := by have h := of_decide_eq_true hc6; omega
      have hdg : Ke.digit c = true := by rw [Ix.digit_nat]; simp only [decide_eq_true_eq]; omega
      refine axn 3 ?_
      refine J.z (yl_index rfl rfl rfl underlying9 (by decide) hget) ?_
      refine J.z (yl_sub rfl rfl rfl (w8 (by omega))) ?_
      refine axn 1 ?_
      refine J.ev 43 (i64 ((c.toNat - 48 : Nat) : Int)) rfl (congrArg i64 ((w64 (by omega)).trans (by omega))) ?_
      refine axn 4 ?_
      have hsk : Ix.skipT f = c.toNat - 48 := (if_pos h45).trans ((skip_char hget).trans (if_pos hdg))
      refine axn 5 ?_
      refine J.split 47 rfl (fun hg7 => ?_) (fun hg7 => ?_)
      rotate_left
      ·
       have hg7p := ne_of_beq_false hg7
       exact absurd h45 (ne_of_beq_false hg7)
      have hg7p := eq_of_beq hg7
      have htt : f.tag = [50, 52, 53] ∨ f.tag = [50, 52, 54] := .inl h45
      refine xpu (rText_ok f [97, 98] (by decide) hn2 htx _ hr) ?_
      refine J.z q2 ?_
      refine J.z (yl_buildS (pl := #[(0, 1), (1, 1)]) rfl rfl zeroValue62 rfl underlying62 (fun w => by simp [sizeOf3, sizeOf9]) (LBld.part rfl rfl rfl (LSpl.c LSpl.z) (LBld.part rfl rfl rfl (LSpl.s (LSpl.c LSpl.z)) LBld.none))) ?_
      refine J.op rfl (q3 underlying51 sizeOf62 zeroValue62 (LCat.agg rfl LCat.none) ?_)
      intro b9 hb9
      refine J.op rfl (op_append (by' := 23) (n := 0) (g := none) (xs := []) [_, _] rfl rfl rfl rfl rfl underlying51 (.inr ⟨_, underlying51⟩) (by kernel_rfl) sizeOf62 zeroValue62 rfl ⟨rfl, rfl⟩ rfl (Src.slice (Blk.at 0 rfl) rfl rfl rfl) (by omega) ?_)
      intro g10 hg10
      refine axn 11 ?_
      refine Ej.keep (Keeps.d (Keeps.d Keeps.r)) ?_
      have hof : Ix.ofN f n = [(Ke.textOf f [97, 98], (c.toNat - 48))] := (of_title hn).trans (by rw [if_pos htt, hsk])
      rw [hof]
      refine Ej.perm (H' := gH 62 (List.flatMap valC ([(Ke.textOf f [97, 98], (c.toNat - 48))])) g10 ++ []) (.of_eq (List.append_nil _)) ?_
      refine Ej.keepR valC_len (by decide) hg10 rfl (fun I8 hle8 hw8 => ?_)
      refine axe ?_
      exact ⟨_, rfl, hw8, rfl⟩
     have hdg : ¬ Ke.digit c = true := by rw [Ix.digit_nat]; have h := of_decide_eq_false hc6; simp only [decide_eq_true_eq]; omega
     refine axn 3 ?_
     have hsk : Ix.skipT f = 0 := (if_pos h45).trans ((skip_char hget).trans (if_neg hdg))
     refine axn 5 ?_
     refine J.split 47 rfl (fun hg11 => ?_) (fun hg11 => ?_)
     rotate_left
     ·
      have hg11p := ne_of_beq_false hg11
      exact absurd h45 (ne_of_beq_false hg11)
     have hg11p := eq_of_beq hg11
     have htt : f.tag = [50, 52, 53] ∨ f.tag = [50, 52, 54] := .inl h45
     refine xpu (rText_ok f [97, 98] (by decide) hn2 htx _ hr) ?_
     refine J.z q2 ?_
     refine J.z (yl_buildS (pl := #[(0, 1), (1, 1)]) rfl rfl zeroValue62 rfl underlying62 (fun w => by simp [sizeOf3, sizeOf9]) (LBld.part rfl rfl rfl (LSpl.c LSpl.z) (LBld.part rfl rfl rfl (LSpl.s (LSpl.c LSpl.z)) LBld.none))) ?_
     refine J.op rfl (q3 underlying51 sizeOf62 zeroValue62 (LCat.agg rfl LCat.none) ?_)
     intro b13 hb13
     refine J.op rfl (op_append (by' := 23) (n := 0) (g := none) (xs := []) [_, _] rfl rfl rfl rfl rfl underlying51 (.inr ⟨_, underlying51⟩) (by kernel_rfl) sizeOf62 zeroValue62 rfl ⟨rfl, rfl⟩ rfl (Src.slice (Blk.at 0 rfl) rfl rfl rfl) (by omega) ?_)
     intro g14 hg14
     refine axn 11 ?_
     refine Ej.keep (Keeps.d (Keeps.d Keeps.r)) ?_
     have hof : Ix.ofN f n = [(Ke.textOf f [97, 98], 0)] := (of_title hn).trans (by rw [if_pos htt, hsk])
     rw [hof]
     refine Ej.perm (H' := gH 62 (List.flatMap valC ([(Ke.textOf f [97, 98], 0)])) g14 ++ []) (.of_eq (List.append_nil _)) ?_
     refine Ej.keepR valC_len (by decide) hg14 rfl (fun I8 hle8 hw8 => ?_)
     refine axe ?_
     exact ⟨_, rfl, hw8, rfl⟩
    have hdg : ¬ Ke.digit c = true := by rw [Ix.digit_nat]; have h := of_decide_eq_false hg5; simp only [decide_eq_true_eq]; omega
    refine axn 11 ?_
    have hsk : Ix.skipT f = 0 := (if_pos h45).trans ((skip_char hget).trans (if_neg hdg))
    refine axn 5 ?_
    refine J.split 47 rfl (fun hg16 => ?_) (fun hg16 => ?_)
    rotate_left
    ·
     have hg16p := ne_of_beq_false hg16
     exact absurd h45 (ne_of_beq_false hg16)
    have hg16p := eq_of_beq hg16
    have htt : f.tag = [50, 52, 53] ∨ f.tag = [50, 52, 54] := .inl h45
    refine xpu (rText_ok f [97, 98] (by decide) hn2 htx _ hr) ?_
    refine J.z q2 ?_
    refine J.z (yl_buildS (pl := #[(0, 1), (1, 1)]) rfl rfl zeroValue62 rfl underlying62 (fun w => by simp [sizeOf3, sizeOf9]) (LBld.part rfl rfl rfl (LSpl.c LSpl.z) (LBld.part rfl rfl rfl (LSpl.s (LSpl.c LSpl.z)) LBld.none))) ?_
    refine J.op rfl (q3 underlying51 sizeOf62 zeroValue62 (LCat.agg rfl LCat.none) ?_)
    intro b18 hb18
    refine J.op rfl (op_append (by' := 23) (n := 0) (g := none) (xs := []) [_, _] rfl rfl rfl rfl rfl underlying51 (.inr ⟨_, underlying51⟩) (by kernel_rfl) sizeOf62 zeroValue62 rfl ⟨rfl, rfl⟩ rfl (Src.slice (Blk.at 0 rfl) rfl rfl rfl) (by omega) ?_)
    intro g19 hg19
    refine axn 11 ?_
    refine Ej.keep (Keeps.d (Keeps.d Keeps.r)) ?_
    have hof : Ix.ofN f n = [(Ke.textOf f [97, 98], 0)] := (of_title hn).trans (by rw [if_pos htt, hsk])
    rw [hof]
    refine Ej.perm (H' := gH 62 (List.flatMap valC ([(Ke.textOf f [97, 98], 0)])) g19 ++ []) (.of_eq (List.append_nil _)) ?_
    refine Ej.keepR valC_len (by decide) hg19 rfl (fun I8 hle8 hw8 => ?_)
    refine axe ?_
    exact ⟨_, rfl, hw8, rfl⟩
   have hl1 : ¬ 1 < f.ind.length := by have h := of_decide_eq_false hg4; omega
   refine axn 17 ?_
   have hsk : Ix.skipT f = 0 := (if_pos h45).trans (skip_no hl1)
   refine axn 5 ?_
   refine J.split 47 rfl (fun hg21 => ?_) (fun hg21 => ?_)
   rotate_left
   ·
    have hg21p := ne_of_beq_false hg21
    exact absurd h45 (ne_of_beq_false hg21)
   have hg21p := eq_of_beq hg21
   have htt : f.tag = [50, 52, 53] ∨ f.tag = [50, 52, 54] := .inl h45
   refine xpu (rText_ok f [97, 98] (by decide) hn2 htx _ hr) ?_
   refine J.z q2 ?_
   refine J.z (yl_buildS (pl := #[(0, 1), (1, 1)]) rfl rfl zeroValue62 rfl underlying62 (fun w => by simp [sizeOf3, sizeOf9]) (LBld.part rfl rfl rfl (LSpl.c LSpl.z) (LBld.part rfl rfl rfl (LSpl.s (LSpl.c LSpl.z)) LBld.none))) ?_
   refine J.op rfl (q3 underlying51 sizeOf62 zeroValue62 (LCat.agg rfl LCat.none) ?_)
   intro b23 hb23
   refine J.op rfl (op_append (by' := 23) (n := 0) (g := none) (xs := []) [_, _] rfl rfl rfl rfl rfl underlying51 (.inr ⟨_, underlying51⟩) (by kernel_rfl) sizeOf62 zeroValue62 rfl ⟨rfl, rfl⟩ rfl (Src.slice (Blk.at 0 rfl) rfl rfl rfl) (by omega) ?_)
   intro g24 hg24
   refine axn 11 ?_
   refine Ej.keep (Keeps.d (Keeps.d Keeps.r)) ?_
   have hof : Ix.ofN f n = [(Ke.textOf f [97, 98], 0)] := (of_title hn).trans (by rw [if_pos htt, hsk])
   rw [hof]
   refine Ej.perm (H' := gH 62 (List.flatMap valC ([(Ke.textOf f [97, 98], 0)])) g24 ++ []) (.of_eq (List.append_nil _)) ?_
   refine Ej.keepR valC_len (by decide) hg24 rfl (fun I8 hle8 hw8 => ?_)
   refine axe ?_
   exact ⟨_, rfl, hw8, rfl⟩
  have h45 : f.tag ≠ [50, 52, 53] := ne_of_beq_false hg3
  refine axn 23 ?_
  have hsk : Ix.skipT f = 0 := if_neg h45
  refine axn 5 ?_
  refine J.split 47 rfl (fun hg26 => ?_) (fun hg26 => ?_)
  ·
   have hg26p := eq_of_beq hg26
   exact absurd (eq_of_beq hg26) h45
  have hg26p := ne_of_beq_false hg26
  refine axn 6 ?_
  refine Cj.cond rfl (fun hc27 => ?_) (fun hc27 => ?_)
  rotate_left
  ·
   have hc27p := ne_of_beq_false hc27
   have htt : ¬ (f.tag = [50, 52, 53] ∨ f.tag = [50, 52, 54]) := fun g => g.elim h45 (ne_of_beq_false hc27)
   refine axn 10 ?_
   have hof : Ix.ofN f n = [] := (of_title hn).trans (if_neg htt)
   rw [hof]
   refine axr ?_
   exact ⟨_, rfl, RowS.nil, rfl⟩
  have hc27p := eq_of_beq hc27
  have htt : f.tag = [50, 52, 53] ∨ f.tag = [50, 52, 54] := .inr (eq_of_beq hc27)
  refine Cj.region (J.z q2 ?_)
  refine J.z (yl_loadAgg rfl rfl isAgg108 sizeOf108 (Blk.at 0 rfl) rfl rfl) ?_
  refine xpu (rText_ok f [97, 98] (by decide) hn2 htx _ hr) ?_
  refine J.z q2 ?_
  refine J.z (yl_buildS (pl := #[(0, 1), (1, 1)]) rfl rfl zeroValue62 rfl underlying62 (fun w => by simp [sizeOf3, sizeOf9]) (LBld.part rfl rfl rfl (LSpl.c LSpl.z) (LBld.part rfl rfl rfl (LSpl.s (LSpl.c LSpl.z)) LBld.none))) ?_
  refine J.op rfl (q3 underlying51 sizeOf62 zeroValue62 (LCat.agg rfl LCat.none) ?_)
  intro b28 hb28
  refine J.op rfl (op_append (by' := 23) (n := 0) (g := none) (xs := []) [_, _] rfl rfl rfl rfl rfl underlying51 (.inr ⟨_, underlying51⟩) (by kernel_rfl) sizeOf62 zeroValue62 rfl ⟨rfl, rfl⟩ rfl (Src.slice (Blk.at 0 rfl) rfl rfl rfl) (by omega) ?_)
  intro g29 hg29
  refine axn 11 ?_
  refine Ej.keep (Keeps.d (Keeps.d Keeps.r)) ?_
  have hof : Ix.ofN f n = [(Ke.textOf f [97, 98], 0)] := (of_title hn).trans (by rw [if_pos htt, hsk])
  rw [hof]
  refine Ej.perm (H' := gH 62 (List.flatMap valC ([(Ke.textOf f [97, 98], 0)])) g29 ++ []) (.of_eq (List.append_nil _)) ?_
  refine Ej.keepR valC_len (by decide) hg29 rfl (fun I8 hle8 hw8 => ?_)
  refine axe ?_
  exact ⟨_, rfl, hw8, rfl⟩
 have nn16 : n ≠ Ix.nTitle := ne_of_beq_false hc2
 refine axc (fun hc30 hc30p => ?_) (fun hc30 hc30p => ?_)
 ·
  have hn : n = Ix.nAuthor := eq_of_beq hc30
  refine axg (fun hg31 hg31p => ?_) (fun hg31 hg31p => ?_)
  ·
   have h100 : f.tag = [49, 48, 48] := eq_of_beq hg31
   have htt : f.tag = [49, 48, 48] ∨ f.tag = [49, 49, 48] ∨ f.tag = [55, 48, 48] := .inl h100
   refine xpu (rText_ok f [97] (by decide) hn2 htx _ hr) ?_
   refine J.z (yl_buildS (pl := #[(0, 1), (1, 1)]) rfl rfl zeroValue62 rfl underlying62 (fun w => by simp [sizeOf3, sizeOf9]) (LBld.part rfl rfl rfl (LSpl.c LSpl.z) LBld.none)) ?_
   refine J.op rfl (q3 underlying51 sizeOf62 zeroValue62 (LCat.agg rfl LCat.none) ?_)
   intro b33 hb33
   refine J.op rfl (op_append (by' := 23) (n := 0) (g := none) (xs := []) [_, _] rfl rfl rfl rfl rfl underlying51 (.inr ⟨_, underlying51⟩) (by kernel_rfl) sizeOf62 zeroValue62 rfl ⟨rfl, rfl⟩ rfl (Src.slice (Blk.at 0 rfl) rfl rfl rfl) (by omega) ?_)
   intro g34 hg34
   refine axn 11 ?_
   refine Ej.keep (Keeps.d (Keeps.d Keeps.r)) ?_
   have hof : Ix.ofN f n = [(Ke.textOf f [97], 0)] := (of_author hn).trans (if_pos htt)
   rw [hof]
   refine Ej.perm (H' := gH 62 (List.flatMap valC ([(Ke.textOf f [97], 0)])) g34 ++ []) (.of_eq (List.append_nil _)) ?_
   refine Ej.keepR valC_len (by decide) hg34 rfl (fun I8 hle8 hw8 => ?_)
   refine axe ?_
   exact ⟨_, rfl, hw8, rfl⟩
  have h100 : f.tag ≠ [49, 48, 48] := ne_of_beq_false hg31
  refine axg (fun hg35 hg35p => ?_) (fun hg35 hg35p => ?_)
  ·
   have h110 : f.tag = [49, 49, 48] := eq_of_beq hg35
   have htt : f.tag = [49, 48, 48] ∨ f.tag = [49, 49, 48] ∨ f.tag = [55, 48, 48] := .inr (.inl h110)
   refine xpu (rText_ok f [97] (by decide) hn2 htx _ hr) ?_
   refine J.z (yl_buildS (pl := #[(0, 1), (1, 1)]) rfl rfl zeroValue62 rfl underlying62 (fun w => by simp [sizeOf3, sizeOf9]) (LBld.part rfl rfl rfl (LSpl.c LSpl.z) LBld.none)) ?_
   refine J.op rfl (q3 underlying51 sizeOf62 zeroValue62 (LCat.agg rfl LCat.none) ?_)
   intro b37 hb37
   refine J.op rfl (op_append (by' := 23) (n := 0) (g := none) (xs := []) [_, _] rfl rfl rfl rfl rfl underlying51 (.inr ⟨_, underlying51⟩) (by kernel_rfl) sizeOf62 zeroValue62 rfl ⟨rfl, rfl⟩ rfl (Src.slice (Blk.at 0 rfl) rfl rfl rfl) (by omega) ?_)
   intro g38 hg38
   refine axn 11 ?_
   refine Ej.keep (Keeps.d (Keeps.d Keeps.r)) ?_
   have hof : Ix.ofN f n = [(Ke.textOf f [97], 0)] := (of_author hn).trans (if_pos htt)
   rw [hof]
   refine Ej.perm (H' := gH 62 (List.flatMap valC ([(Ke.textOf f [97], 0)])) g38 ++ []) (.of_eq (List.append_nil _)) ?_
   refine Ej.keepR valC_len (by decide) hg38 rfl (fun I8 hle8 hw8 => ?_)
   refine axe ?_
   exact ⟨_, rfl, hw8, rfl⟩
  have h110 : f.tag ≠ [49, 49, 48] := ne_of_beq_false hg35
  refine axc (fun hc39 hc39p => ?_) (fun hc39 hc39p => ?_)
  ·
   have htt : f.tag = [49, 48, 48] ∨ f.tag = [49, 49, 48] ∨ f.tag = [55, 48, 48] := .inr (.inr (eq_of_beq hc39))
   refine xpu (rText_ok f [97] (by decide) hn2 htx _ hr) ?_
   refine J.z (yl_buildS (pl := #[(0, 1), (1, 1)]) rfl rfl zeroValue62 rfl underlying62 (fun w => by simp [sizeOf3, sizeOf9]) (LBld.part rfl rfl rfl (LSpl.c LSpl.z) LBld.none)) ?_
   refine J.op rfl (q3 underlying51 sizeOf62 zeroValue62 (LCat.agg rfl LCat.none) ?_)
   intro b40 hb40
   refine J.op rfl (op_append (by' := 23) (n := 0) (g := none) (xs := []) [_, _] rfl rfl rfl rfl rfl underlying51 (.inr ⟨_, underlying51⟩) (by kernel_rfl) sizeOf62 zeroValue62 rfl ⟨rfl, rfl⟩ rfl (Src.slice (Blk.at 0 rfl) rfl rfl rfl) (by omega) ?_)
   intro g41 hg41
   refine axn 11 ?_
   refine Ej.keep (Keeps.d (Keeps.d Keeps.r)) ?_
   have hof : Ix.ofN f n = [(Ke.textOf f [97], 0)] := (of_author hn).trans (if_pos htt)
   rw [hof]
   refine Ej.perm (H' := gH 62 (List.flatMap valC ([(Ke.textOf f [97], 0)])) g41 ++ []) (.of_eq (List.append_nil _)) ?_
   refine Ej.keepR valC_len (by decide) hg41 rfl (fun I8 hle8 hw8 => ?_)
   refine axe ?_
   exact ⟨_, rfl, hw8, rfl⟩
  have htt : ¬ (f.tag = [49, 48, 48] ∨ f.tag = [49, 49, 48] ∨ f.tag = [55, 48, 48]) := fun g => g.elim h100 fun g => g.elim h110 (ne_of_beq_false hc39)
  refine axn 10 ?_
  have hof : Ix.ofN f n = [] := (of_author hn).trans (if_neg htt)
  rw [hof]
  refine axr ?_
  exact ⟨_, rfl, RowS.nil, rfl⟩
 have nn59 : n ≠ Ix.nAuthor := ne_of_beq_false hc30
 refine axc (fun hc42 hc42p => ?_) (fun hc42 hc42p => ?_)
 ·
  have hn : n = Ix.nSubject := eq_of_beq hc42
  refine axg (fun hg43 hg43p => ?_) (fun hg43 hg43p => ?_)
  ·
   have h600 : f.tag = [54, 48, 48] := eq_of_beq hg43
   have htt : f.tag = [54, 48, 48] ∨ f.tag = [54, 53, 48] := .inl h600
   refine xpu (rText_ok f [97, 120] (by decide) hn2 htx _ hr) ?_
   refine J.z (yl_buildS (pl := #[(0, 1), (1, 1)]) rfl rfl zeroValue62 rfl underlying62 (fun w => by simp [sizeOf3, sizeOf9]) (LBld.part rfl rfl rfl (LSpl.c LSpl.z) LBld.none)) ?_
   refine J.op rfl (q3 underlying51 sizeOf62 zeroValue62 (LCat.agg rfl LCat.none) ?_)
   intro b45 hb45
   refine J.op rfl (op_append (by' := 23) (n := 0) (g := none) (xs := []) [_, _] rfl rfl rfl rfl rfl underlying51 (.inr ⟨_, underlying51⟩) (by kernel_rfl) sizeOf62 zeroValue62 rfl ⟨rfl, rfl⟩ rfl (Src.slice (Blk.at 0 rfl) rfl rfl rfl) (by omega) ?_)
   intro g46 hg46
   refine axn 11 ?_
   refine Ej.keep (Keeps.d (Keeps.d Keeps.r)) ?_
   have hof : Ix.ofN f n = [(Ke.textOf f [97, 120], 0)] := (of_subject hn).trans (if_pos htt)
   rw [hof]
   refine Ej.perm (H' := gH 62 (List.flatMap valC ([(Ke.textOf f [97, 120], 0)])) g46 ++ []) (.of_eq (List.append_nil _)) ?_
   refine Ej.keepR valC_len (by decide) hg46 rfl (fun I8 hle8 hw8 => ?_)
   refine axe ?_
   exact ⟨_, rfl, hw8, rfl⟩
  have h600 : f.tag ≠ [54, 48, 48] := ne_of_beq_false hg43
  refine axc (fun hc47 hc47p => ?_) (fun hc47 hc47p => ?_)
  ·
   have htt : f.tag = [54, 48, 48] ∨ f.tag = [54, 53, 48] := .inr (eq_of_beq hc47)
   refine xpu (rText_ok f [97, 120] (by decide) hn2 htx _ hr) ?_
   refine J.z (yl_buildS (pl := #[(0, 1), (1, 1)]) rfl rfl zeroValue62 rfl underlying62 (fun w => by simp [sizeOf3, sizeOf9]) (LBld.part rfl rfl rfl (LSpl.c LSpl.z) LBld.none)) ?_
   refine J.op rfl (q3 underlying51 sizeOf62 zeroValue62 (LCat.agg rfl LCat.none) ?_)
   intro b48 hb48
   refine J.op rfl (op_append (by' := 23) (n := 0) (g := none) (xs := []) [_, _] rfl rfl rfl rfl rfl underlying51 (.inr ⟨_, underlying51⟩) (by kernel_rfl) sizeOf62 zeroValue62 rfl ⟨rfl, rfl⟩ rfl (Src.slice (Blk.at 0 rfl) rfl rfl rfl) (by omega) ?_)
   intro g49 hg49
   refine axn 11 ?_
   refine Ej.keep (Keeps.d (Keeps.d Keeps.r)) ?_
   have hof : Ix.ofN f n = [(Ke.textOf f [97, 120], 0)] := (of_subject hn).trans (if_pos htt)
   rw [hof]
   refine Ej.perm (H' := gH 62 (List.flatMap valC ([(Ke.textOf f [97, 120], 0)])) g49 ++ []) (.of_eq (List.append_nil _)) ?_
   refine Ej.keepR valC_len (by decide) hg49 rfl (fun I8 hle8 hw8 => ?_)
   refine axe ?_
   exact ⟨_, rfl, hw8, rfl⟩
  have htt : ¬ (f.tag = [54, 48, 48] ∨ f.tag = [54, 53, 48]) := fun g => g.elim h600 (ne_of_beq_false hc47)
  refine axn 10 ?_
  have hof : Ix.ofN f n = [] := (of_subject hn).trans (if_neg htt)
  rw [hof]
  refine axr ?_
  exact ⟨_, rfl, RowS.nil, rfl⟩
 have nn80 : n ≠ Ix.nSubject := ne_of_beq_false hc42
 refine axc (fun hc50 hc50p => ?_) (fun hc50 hc50p => ?_)
 ·
  have hn : n = Ix.nIsbn := eq_of_beq hc50
  refine axn 6 ?_
  refine Cj.loop (ι := Nat × Gs) (fun y => y.1 ≤ f.subs.length ∧ (y.1 = 0 ∨ f.tag = [48, 50, 48]) ∧ gOk w0.heap.size 2 (psL Ke.isbn 97 (f.subs.take y.1)).length ((psL Ke.isbn 97 (f.subs.take y.1)).flatMap valC) y.2) (fun y => f.subs.length - y.1) (fun y => [(1, str n), (2, ptr b1 0), (5, gV (psL Ke.isbn 97 (f.subs.take y.1)).length y.2), (7, i64 (y.1 : Int))]) (fun y => _) (fun y => (b1, cel 108 (fldC f)) :: gH 62 ((psL Ke.isbn 97 (f.subs.take y.1)).flatMap valC) y.2) (0, none) ⟨Nat.zero_le _, .inl rfl, rfl, rfl⟩ ⟨rfl, rfl, rfl, rfl, trivial⟩ rfl rfl ?_
  rintro ⟨j, g⟩ ⟨hj, hj0, hg⟩
  dsimp only at hj hj0 hg ⊢
  have hpl := psL_len Ke.isbn 97 (f.subs.take j)
  rw [List.length_take, Nat.min_eq_left hj] at hpl
  refine axn 6 ?_
  refine J.ev 100 (.slice p2 f.subs.length c2) rfl hsv ?_
  refine axg (fun hg51 hg51p => ?_) (fun hg51 hg51p => ?_)
  ·
   have hlt : j < f.subs.length := by omega
   obtain ⟨sb, hsget⟩ : ∃ x, f.subs[j]? = some x := ⟨_, List.getElem?_eq_getElem hlt⟩
   obtain ⟨sbk, so, scs, sty, sfr, sp2, rfl, hsbk, hsd⟩ := hp2 (ne_nil_of hlt)
   have hxl := text_mem (List.mem_of_getElem? hsget)
   have hnx := psL_next (u := Ke.isbn) (c := 97) hsget
   refine axc (fun hc52 hc52p => ?_) (fun hc52 hc52p => ?_)
   ·
    have htg : f.tag = [48, 50, 48] := eq_of_beq hc52
    refine axn 8 ?_
    refine J.ev 112 (.slice (some ⟨sbk, so, none⟩) f.subs.length c2) rfl hsv ?_
    refine xix (so + j * 2) ?_
    refine J.z (q1 (off' := so + j * 2 + 1) underlying176 sizeOf9) ?_
    refine J.z (yl_load rfl rfl isAgg9 (Blk.imm hsbk) (row_fcell subC_len hsd hsget 1 (by decide))) ?_
    refine xpu (rIsbn_ok sb.text (by omega) _) ?_
    refine axh (fun hg53 => ?_) (fun hg53 => ?_)
    ·
     have hok : (Ke.isbn sb.text).2 = true := hg53
     refine axn 2 ?_
     refine J.ev 123 (.slice (some ⟨sbk, so, none⟩) f.subs.length c2) rfl hsv ?_
     refine axn 1 ?_
     refine J.zg (yl_indexAddr (off' := so + j * 2) rfl rfl rfl underlying106 sizeOf176 (by omega) (by omega) (by simp)) ?_
     refine axn 1 ?_
     refine J.zg (yl_load rfl rfl isAgg5 (Blk.imm hsbk) (row_fcell subC_len hsd hsget 0 (by decide))) ?_
     refine axc (fun hc54 hc54p => ?_) (fun hc54 hc54p => ?_)
     ·
      have hcd : sb.code = 97 := UInt8.toNat_inj.1 (by have h := eq_of_beq hc54; show sb.code.toNat = 97; omega)
      rw [if_pos ⟨hok, hcd⟩] at hnx
      refine Cj.region (J.z q2 ?_)
      refine J.z q2 ?_
      refine J.z (yl_buildS (pl := #[(0, 1), (1, 1)]) rfl rfl zeroValue62 rfl underlying62 (fun w => by simp [sizeOf3, sizeOf9]) (LBld.part rfl rfl rfl (LSpl.c LSpl.z) LBld.none)) ?_
      refine J.op rfl (q3 underlying51 sizeOf62 zeroValue62 (LCat.agg rfl LCat.none) ?_)
      intro b55 hb55
      refine J.op rfl (op_append (by' := 23) [_, _] rfl rfl rfl rfl rfl underlying51 (.inr ⟨_, underlying51⟩) (by kernel_rfl) sizeOf62 zeroValue62 rfl hg rfl (Src.slice (Blk.at 0 rfl) rfl rfl rfl) (by omega) ?_)
      intro g56 hg56
      refine axn 9 ?_
      refine Ej.keep (Keeps.d (Keeps.k Keeps.r)) ?_
      refine Ej.round (j + 1, g56) ⟨by dsimp only; omega, .inr htg, by dsimp only; rw [hnx, List.length_append, List.flatMap_append]; exact hg56⟩ (by dsimp only; omega) ⟨rfl, rfl, by dsimp only; rw [hnx, List.length_append]; rfl, rfl, trivial⟩ rfl (by dsimp only; rw [hnx, List.flatMap_append]; rfl)
     rw [if_neg (fun g => ne_of_beq_false hc54 (by rw [g.2]; rfl))] at hnx
     refine axn 8 ?_
     refine Ej.round (j + 1, g) ⟨by dsimp only; omega, .inr htg, by dsimp only; rw [hnx, List.append_nil]; exact hg⟩ (by dsimp only; omega) ⟨rfl, rfl, by dsimp only; rw [hnx, List.append_nil]; rfl, rfl, trivial⟩ rfl (by dsimp only; rw [hnx, List.append_nil])
    rw [if_neg (fun g => Bool.noConfusion (g.1.symm.trans hg53))] at hnx
    refine axn 19 ?_
    refine Ej.round (j + 1, g) ⟨by dsimp only; omega, .inr htg, by dsimp only; rw [hnx, List.append_nil]; exact hg⟩ (by dsimp only; omega) ⟨rfl, rfl, by dsimp only; rw [hnx, List.append_nil]; rfl, rfl, trivial⟩ rfl (by dsimp only; rw [hnx, List.append_nil])
   have htn : f.tag ≠ [48, 50, 48] := ne_of_beq_false hc52
   refine axn 13 ?_
   refine Ej.keep (Keeps.d Keeps.r) ?_
   have hof : Ix.ofN f n = psL Ke.isbn 97 (f.subs.take j) := (of_isbn hn).trans (ps_no hj0 htn)
   rw [hof]
   refine Ej.perm (H' := gH 62 (List.flatMap valC (psL Ke.isbn 97 (f.subs.take j))) g ++ []) (.of_eq (List.append_nil _)) ?_
   refine Ej.keepR valC_len (by decide) hg rfl (fun I8 hle8 hw8 => ?_)
   refine axe ?_
   exact ⟨_, rfl, hw8, rfl⟩
  refine axn 20 ?_
  refine Ej.keep (Keeps.d Keeps.r) ?_
  have hof : Ix.ofN f n = psL Ke.isbn 97 (f.subs.take j) := (of_isbn hn).trans (ps_end hj0 (by omega))
  rw [hof]
  refine Ej.perm (H' := gH 62 (List.flatMap valC (psL Ke.isbn 97 (f.subs.take j))) g ++ []) (.of_eq (List.append_nil _)) ?_
  refine Ej.keepR valC_len (by decide) hg rfl (fun I8 hle8 hw8 => ?_)
  refine axe ?_
  exact ⟨_, rfl, hw8, rfl⟩
 have nn96 : n ≠ Ix.nIsbn := ne_of_beq_false hc50
 refine axc (fun hc59 hc59p => ?_) (fun hc59 hc59p => ?_)
 ·
  have hn : n = Ix.nYear := eq_of_beq hc59
  refine axn 6 ?_
  refine Cj.loop (ι := Nat × Gs) (fun y => y.1 ≤ f.subs.length ∧ (y.1 = 0 ∨ f.tag = [50, 54, 48]) ∧ gOk w0.heap.size 2 (psL uy 99 (f.subs.take y.1)).length ((psL uy 99 (f.subs.take y.1)).flatMap valC) y.2) (fun y => f.subs.length - y.1) (fun y => [(1, str n), (2, ptr b1 0), (5, gV (psL uy 99 (f.subs.take y.1)).length y.2), (10, i64 (y.1 : Int))]) (fun y => _) (fun y => (b1, cel 108 (fldC f)) :: gH 62 ((psL uy 99 (f.subs.take y.1)).flatMap valC) y.2) (0, none) ⟨Nat.zero_le _, .inl rfl, rfl, rfl⟩ ⟨rfl, rfl, rfl, rfl, trivial⟩ rfl rfl ?_
  rintro ⟨j, g⟩ ⟨hj, hj0, hg⟩
  dsimp only at hj hj0 hg ⊢
  have hpl := psL_len uy 99 (f.subs.take j)
  rw [List.length_take, Nat.min_eq_left hj] at hpl
  refine axn 6 ?_
  refine J.ev 139 (.slice p2 f.subs.length c2) rfl hsv ?_
  refine axg (fun hg60 hg60p => ?_) (fun hg60 hg60p => ?_)
  ·
   have hlt : j < f.subs.length := by omega
   obtain ⟨sb, hsget⟩ : ∃ x, f.subs[j]? = some x := ⟨_, List.getElem?_eq_getElem hlt⟩
   obtain ⟨sbk, so, scs, sty, sfr, sp2, rfl, hsbk, hsd⟩ := hp2 (ne_nil_of hlt)
   have hxl := text_mem (List.mem_of_getElem? hsget)
   have hnx := psL_next (u := uy) (c := 99) hsget
   refine axc (fun hc61 hc61p => ?_) (fun hc61 hc61p => ?_)
   ·
    have htg : f.tag = [50, 54, 48] := eq_of_beq hc61
    refine axn 8 ?_
    refine J.ev 151 (.slice (some ⟨sbk, so, none⟩) f.subs.length c2) rfl hsv ?_
    refine xix (so + j * 2) ?_
    refine J.z (q1 (off' := so + j * 2 + 1) underlying176 sizeOf9) ?_
    refine J.z (yl_load rfl rfl isAgg9 (Blk.imm hsbk) (row_fcell subC_len hsd hsget 1 (by decide))) ?_
    refine xpu (rYear_ok sb.text (by omega) _) ?_
    refine axh (fun hg62 => ?_) (fun hg62 => ?_)
    ·
     have hok : (uy sb.text).2 = true := hg62
     refine axn 2 ?_
     refine J.ev 162 (.slice (some ⟨sbk, so, none⟩) f.subs.length c2) rfl hsv ?_
     refine axn 1 ?_
     refine J.zg (yl_indexAddr (off' := so + j * 2) rfl rfl rfl underlying106 sizeOf176 (by omega) (by omega) (by simp)) ?_
     refine axn 1 ?_
     refine J.zg (yl_load rfl rfl isAgg5 (Blk.imm hsbk) (row_fcell subC_len hsd hsget 0 (by decide))) ?_
     refine axc (fun hc63 hc63p => ?_) (fun hc63 hc63p => ?_)
     ·
      have hcd : sb.code = 99 := UInt8.toNat_inj.1 (by have h := eq_of_beq hc63; show sb.code.toNat = 99; omega)
      rw [if_pos ⟨hok, hcd⟩] at hnx
      refine Cj.region (J.z q2 ?_)
      refine J.z q2 ?_
      refine J.z (yl_buildS (pl := #[(0, 1), (1, 1)]) rfl rfl zeroValue62 rfl underlying62 (fun w => by simp [sizeOf3, sizeOf9]) (LBld.part rfl rfl rfl (LSpl.c LSpl.z) LBld.none)) ?_
      refine J.op rfl (q3 underlying51 sizeOf62 zeroValue62 (LCat.agg rfl LCat.none) ?_)
      intro b64 hb64
      refine J.op rfl (op_append (by' := 23) [_, _] rfl rfl rfl rfl rfl underlying51 (.inr ⟨_, underlying51⟩) (by kernel_rfl) sizeOf62 zeroValue62 rfl hg rfl (Src.slice (Blk.at 0 rfl) rfl rfl rfl) (by omega) ?_)
      intro g65 hg65
      refine axn 9 ?_
      refine Ej.keep (Keeps.d (Keeps.k Keeps.r)) ?_
      refine Ej.round (j + 1, g65) ⟨by dsimp only; omega, .inr htg, by dsimp only; rw [hnx, List.length_append, List.flatMap_append]; exact hg65⟩ (by dsimp only; omega) ⟨rfl, rfl, by dsimp only; rw [hnx, List.length_append]; rfl, rfl, trivial⟩ rfl (by dsimp only; rw [hnx, List.flatMap_append]; rfl)
     rw [if_neg (fun g => ne_of_beq_false hc63 (by rw [g.2]; rfl))] at hnx
     refine axn 8 ?_
     refine Ej.round (j + 1, g) ⟨by dsimp only; omega, .inr htg, by dsimp only; rw [hnx, List.append_nil]; exact hg⟩ (by dsimp only; omega) ⟨rfl, rfl, by dsimp only; rw [hnx, List.append_nil]; rfl, rfl, trivial⟩ rfl (by dsimp only; rw [hnx, List.append_nil])
    rw [if_neg (fun g => Bool.noConfusion (g.1.symm.trans hg62))] at hnx
    refine axn 19 ?_
    refine Ej.round (j + 1, g) ⟨by dsimp only; omega, .inr htg, by dsimp only; rw [hnx, List.append_nil]; exact hg⟩ (by dsimp only; omega) ⟨rfl, rfl, by dsimp only; rw [hnx, List.append_nil]; rfl, rfl, trivial⟩ rfl (by dsimp only; rw [hnx, List.append_nil])
   have htn : f.tag ≠ [50, 54, 48] := ne_of_beq_false hc61
   refine axn 13 ?_
   refine Ej.keep (Keeps.d Keeps.r) ?_
   have hof : Ix.ofN f n = psL uy 99 (f.subs.take j) := (of_year hn).trans (ps_no hj0 htn)
   rw [hof]
   refine Ej.perm (H' := gH 62 (List.flatMap valC (psL uy 99 (f.subs.take j))) g ++ []) (.of_eq (List.append_nil _)) ?_
   refine Ej.keepR valC_len (by decide) hg rfl (fun I8 hle8 hw8 => ?_)
   refine axe ?_
   exact ⟨_, rfl, hw8, rfl⟩
  refine axn 20 ?_
  refine Ej.keep (Keeps.d Keeps.r) ?_
  have hof : Ix.ofN f n = psL uy 99 (f.subs.take j) := (of_year hn).trans (ps_end hj0 (by omega))
  rw [hof]
  refine Ej.perm (H' := gH 62 (List.flatMap valC (psL uy 99 (f.subs.take j))) g ++ []) (.of_eq (List.append_nil _)) ?_
  refine Ej.keepR valC_len (by decide) hg rfl (fun I8 hle8 hw8 => ?_)
  refine axe ?_
  exact ⟨_, rfl, hw8, rfl⟩
 have nn135 : n ≠ Ix.nYear := ne_of_beq_false hc59
 refine axc (fun hc68 hc68p => ?_) (fun hc68 hc68p => ?_)
 ·
  have hn : n = Ix.nAny := eq_of_beq hc68
  refine xpu (rStarts_ok f.tag [48, 48] (by decide) _) ?_
  refine xpu (rStarts_ok f.tag [57] (by decide) _) ?_
  refine axh (fun hg69 => ?_) (fun hg69 => ?_)
  ·
   have h00 : ([48, 48] : List UInt8).isPrefixOf f.tag = false := by have h := hg69; simpa using h
   refine ax0 (fun hc70 => ?_) (fun hc70 => ?_)
   ·
    have hany : Ix.anyOk f = true := by have h := hc70; unfold Ix.anyOk; rw [h00, h]; rfl
    refine xpu (rAllText_ok f hn2 htx _ hr) ?_
    refine J.z (yl_buildS (pl := #[(0, 1), (1, 1)]) rfl rfl zeroValue62 rfl underlying62 (fun w => by simp [sizeOf3, sizeOf9]) (LBld.part rfl rfl rfl (LSpl.c LSpl.z) LBld.none)) ?_
    refine J.op rfl (q3 underlying51 sizeOf62 zeroValue62 (LCat.agg rfl LCat.none) ?_)
    intro b71 hb71
    refine J.op rfl (op_append (by' := 23) (n := 0) (g := none) (xs := []) [_, _] rfl rfl rfl rfl rfl underlying51 (.inr ⟨_, underlying51⟩) (by kernel_rfl) sizeOf62 zeroValue62 rfl ⟨rfl, rfl⟩ rfl (Src.slice (Blk.at 0 rfl) rfl rfl rfl) (by omega) ?_)
    intro g72 hg72
    refine axn 11 ?_
    refine Ej.keep (Keeps.d (Keeps.d Keeps.r)) ?_
    have hof : Ix.ofN f n = [(Ix.allText f, 0)] := (of_any hn).trans (if_pos hany)
    rw [hof]
    refine Ej.perm (H' := gH 62 (List.flatMap valC ([(Ix.allText f, 0)])) g72 ++ []) (.of_eq (List.append_nil _)) ?_
    refine Ej.keepR valC_len (by decide) hg72 rfl (fun I8 hle8 hw8 => ?_)
    refine axe ?_
    exact ⟨_, rfl, hw8, rfl⟩
   have hany : ¬ Ix.anyOk f = true := by have h := hc70; unfold Ix.anyOk; rw [h00, h]; simp
   refine axn 10 ?_
   have hof : Ix.ofN f n = [] := (of_any hn).trans (if_neg hany)
   rw [hof]
   refine axr ?_
   exact ⟨_, rfl, RowS.nil, rfl⟩
  have hany : ¬ Ix.anyOk f = true := by have h := hg69; unfold Ix.anyOk; simp only [Bool.not_eq_false'] at h; rw [h]; simp
  refine axn 16 ?_
  have hof : Ix.ofN f n = [] := (of_any hn).trans (if_neg hany)
  rw [hof]
  refine axr ?_
  exact ⟨_, rfl, RowS.nil, rfl⟩
 have hn : n ≠ Ix.nAny := ne_of_beq_false hc68
 refine axn 10 ?_
 have hof : Ix.ofN f n = [] := of_none nn16 nn59 nn80 nn96 nn135 hn
 rw [hof]
 refine axr ?_
 exact ⟨_, rfl, RowS.nil, rfl⟩
theorem valsN_next {fs : List Ke.Fld} {j : Nat} {f : Ke.Fld} (n : List UInt8) (h : fs[j]? = some f) : Ix.valsN (fs.take (j + 1)) n = Ix.valsN (fs.take j) n ++ Ix.ofN f n := by
  obtain ⟨hlt, hg⟩ := List.getElem?_eq_some_iff.1 h
  rw [List.take_succ_eq_append_getElem hlt, hg]
  unfold Ix.valsN
  rw [List.flatMap_append]; simp
theorem valsN_len (n : List UInt8) : ∀ (fs : List Ke.Fld), (∀ f ∈ fs, f.subs.length ≤ 1000) → (Ix.valsN fs n).length ≤ fs.length * 1000
  | [], _ => by simp [Ix.valsN]
  | f :: r, h => by
    have h1 := valsN_len n r fun x hx => h x (.tail _ hx)
    have h2 := ofN_len f n (h f (.head _))
    unfold Ix.valsN at h1 ⊢
    rw [List.flatMap_cons, List.length_append, List.length_cons, Nat.add_mul]; omega
theorem rValues_ok (fs : List Ke.Fld) (v : Value) (rk rl : UInt8) (n : List UInt8) (hok : EOK fs) (I : Heap) (hr0 : RecS I fs v) : Ctr Tryz.prog 25 [recV rk rl v, str n] I [] (fun e I' H' => ∃ w, e = .returned w ∧ RowS valC I' (Ix.valsN fs n) w ∧ H' = []) := by
 have hfs := hok.1
 obtain ⟨p, c, rfl, hc, -⟩ := id hr0.1
 refine xob func25 fun w0 hw0 => ?_
 refine axn 3 ?_
 intro b1 hb1
 refine axn 15 ?_
 refine Cj.loop (ι := Nat × Heap × Gs) (fun y => y.1 ≤ fs.length ∧ Le I y.2.1 ∧ gOk w0.heap.size 2 (Ix.valsN (fs.take y.1) n).length ((Ix.valsN (fs.take y.1) n).flatMap valC) y.2.2) (fun y => fs.length - y.1) (fun y => [(1, str n), (2, ptr b1 0), (5, gV (Ix.valsN (fs.take y.1) n).length y.2.2), (6, i64 (y.1 : Int))]) (fun y => y.2.1) (fun y => (b1, cel 57 [u8 rk, u8 rl, .slice p fs.length c]) :: gH 62 ((Ix.valsN (fs.take y.1) n).flatMap valC) y.2.2) (0, _, none) ⟨Nat.zero_le _, Le.refl _, rfl, rfl⟩ ⟨rfl, rfl, rfl, rfl, trivial⟩ rfl rfl ?_
 rintro ⟨j, J1, g⟩ ⟨hj, hIJ, hg⟩
 dsimp only at hj hIJ hg ⊢
 have hr := hr0.mono hIJ
 have hvl := valsN_len n (fs.take j) fun f hf => (hok.2 f (List.mem_of_mem_take hf)).1
 rw [List.length_take, Nat.min_eq_left hj] at hvl
 refine axc (fun hc2 hc2p => ?_) (fun hc2 hc2p => ?_)
 ·
  refine axn 4 ?_
  have hlt : j < fs.length := by omega
  obtain ⟨f, hget⟩ : ∃ f, fs[j]? = some f := ⟨_, List.getElem?_eq_getElem hlt⟩
  have hfk := hok.2 f (List.mem_of_getElem? hget)
  have hnx := valsN_next n hget
  have hofl := ofN_len f n hfk.1
  obtain ⟨⟨p1, c1, hpe, hc1, hp⟩, hsub⟩ := id hr
  cases hpe
  obtain ⟨fb, fo, fcs, fty, ffr, sp, rfl, hfb, hfd⟩ := hp (ne_nil_of hlt)
  have hsr := hsub f (List.mem_of_getElem? hget)
  obtain ⟨p2, c2, hsv, hc2, hp2⟩ := id hsr
  refine xix (fo + j * 4) ?_
  refine J.z (yl_loadAgg rfl rfl isAgg108 sizeOf108 (Blk.imm hfb) (row_from fldC_len hfd hget) rfl) ?_
  refine xca (rOf_ok f n (by omega) hfk.2.1 _ hsr) ?_
  intro v3 I4 H5 hle6 hp7
  have hIJ := hIJ.mono hle6
  have hr := hr.mono hle6
  have hfb := hle6 _ _ hfb
  obtain ⟨vhof, h, hof, rfl⟩ := hp7; cases h
  refine J.op rfl (op_append (by' := 23) [_] rfl rfl rfl rfl rfl underlying51 (.inr ⟨_, underlying51⟩) (by kernel_rfl) sizeOf62 zeroValue62 rfl hg rfl (Src.row valC_len hof (fun x _ => rfl)) (by omega) ?_)
  intro g8 hg8
  refine axn 9 ?_
  refine Ej.round (j + 1, _, g8) ⟨by dsimp only; omega, hIJ, by dsimp only; rw [hnx, List.length_append, List.flatMap_append]; exact hg8⟩ (by dsimp only; omega) ⟨rfl, rfl, by dsimp only; rw [hnx, List.length_append]; rfl, rfl, trivial⟩ rfl (by dsimp only; rw [hnx, List.flatMap_append]; rfl)
 refine axn 12 ?_
 refine Ej.keep (Keeps.d Keeps.r) ?_
 have hfull : fs.take j = fs := List.take_of_length_le (by omega)
 rw [hfull] at hg ⊢
 refine Ej.perm (H' := gH 62 ((Ix.valsN fs n).flatMap valC) g ++ []) (.of_eq (List.append_nil _)) ?_
 refine Ej.keepR valC_len (by decide) hg rfl (fun I8 hle8 hw8 => ?_)
 refine axe ?_
 exact ⟨_, rfl, hw8, rfl⟩
end Go.Proofs.YtekmeaoblpfnpaaGreatDoor
end
section
set_option maxHeartbeats 40000000
namespace Go.Proofs.YtekmeaoblpfnpaaGreatDoor
open Go Go.Sx
theorem take_eqR {α : Type} {a b : List α} {k : Nat} {x y : α} (h : a.take k = b.take k) (hx : a[k]? = some x) (hy : b[k]? = some y) (he : x = y) : a.take (k + 1) = b.take (k + 1) := by
  obtain ⟨h1, e1⟩ := List.getElem?_eq_some_iff.1 hx
  obtain ⟨h2, e2⟩ := List.getElem?_eq_some_iff.1 hy
  rw [List.take_succ_eq_append_getElem h1, List.take_succ_eq_append_getElem h2, h, e1, e2, he]
theorem rRecs_ok (a b : List Ix.Rec) (va vb : Value) (hal : a.length ≤ 100000000000000) (I : Heap) (ha : RowS recC I a va) (hb : RowS recC I b vb) : Pure Tryz.prog 20 [va, vb] I (.bool (decide (a = b))) := by
 refine Ctr.toPure ?_
 obtain ⟨p1, c1, rfl, hc1, hp1⟩ := ha
 obtain ⟨p2, c2, rfl, hc2, hp2⟩ := hb
 refine xob Tryz.func20 fun w0 hw0 => ?_
 refine axc (fun hc1 hc1p => ?_) (fun hc1 hc1p => ?_)
 ·
  have hln : a.length ≠ b.length := by have h := bne_iff_ne.1 hc1; omega
  refine axe ?_
  rw [decide_eq_false (fun e => hln (by rw [e]))]
  exact ⟨rfl, rfl⟩
 have hlen : a.length = b.length := by have h := bne_f hc1; omega
 refine axn 9 ?_
 refine Cj.loop (ι := Nat) (fun j => j ≤ a.length ∧ a.take j = b.take j) (fun j => a.length - j) (fun j => [(0, .slice p1 a.length c1), (1, .slice p2 b.length c2), (5, i64 (j : Int))]) (fun j => _) (fun j => []) 0 ⟨Nat.zero_le _, rfl⟩ ⟨rfl, rfl, rfl, trivial⟩ rfl rfl ?_
 rintro j ⟨hj, hall⟩
 refine axc (fun hc2 hc2p => ?_) (fun hc2 hc2p => ?_)
 ·
  have hlt : j < a.length := by omega
  obtain ⟨x, hx⟩ : ∃ x, a[j]? = some x := ⟨_, List.getElem?_eq_getElem hlt⟩
  obtain ⟨y, hy⟩ : ∃ y, b[j]? = some y := ⟨_, List.getElem?_eq_getElem (by omega)⟩
  obtain ⟨fa, oa, acs, aty, afr, asp, rfl, hfa, had⟩ := hp1 (ne_nil_of hlt)
  obtain ⟨fb, ob, bcs, bty, bfr, bsp, rfl, hfb, hbd⟩ := hp2 (ne_nil_of (by omega : j < b.length))
  refine axn 5 ?_
  refine Cj.drawSel [] [] 9 (by kernel_rfl) ?_
  refine xix (oa + j * 2) ?_
  refine JA.zt 3 rfl (yl_loadAgg rfl rfl Tryz.isAgg54 Tryz.sizeOf54 (Blk.immC hfa) (row_from recC_len had hx) rfl) ?_
  refine xix (ob + j * 2) ?_
  refine JA.zt 7 rfl (yl_loadAgg rfl rfl Tryz.isAgg54 Tryz.sizeOf54 (Blk.immC hfb) (row_from recC_len hbd hy) rfl) ?_
  refine JA.zt 8 rfl (yl_neqK (kv := recA) (a := x) (b := y) rfl rfl rfl rfl rfl eqRec (by kernel_rfl)) ?_
  refine axc (fun hc4 hc4p => ?_) (fun hc4 hc4p => ?_)
  ·
   have hxy : x ≠ y := bne_iff_ne.1 hc4
   refine axe ?_
   rw [decide_eq_false (fun e => hxy (by rw [e, hy] at hx; exact (Option.some.inj hx).symm))]
   exact ⟨rfl, rfl⟩
  have hxy : x = y := bne_f hc4
  refine axn 8 ?_
  refine Ej.round (j + 1) ⟨by omega, take_eqR hall hx hy hxy⟩ (by omega) ⟨rfl, rfl, rfl, trivial⟩ rfl rfl
 refine axe ?_
 rw [List.take_of_length_le (by omega : a.length ≤ j), List.take_of_length_le (by omega : b.length ≤ j)] at hall
 rw [decide_eq_true hall]
 exact ⟨rfl, rfl⟩
theorem rKeyOf_ok (n s : List UInt8) (hs : s.length ≤ 100000000) (I : Heap) : Pure Tryz.prog 24 [str n, str s] I (str (Ix.keyOf n s)) := by
 refine Ctr.toPure ?_
 have hil := isbn_len s
 refine xob Tryz.func24 fun w0 hw0 => ?_
 refine xpu (rIsbn_ok s hs _) ?_
 refine axh (fun hg1 => ?_) (fun hg1 => ?_)
 ·
  refine axc (fun hc2 hc2p => ?_) (fun hc2 hc2p => ?_)
  ·
   have hk : Ix.keyOf n s = Ke.sortKey (Ke.isbn s).1 0 := if_pos ⟨hg1, eq_of_beq hc2⟩
   refine xpu (rSort_ok (Ke.isbn s).1 0 (by omega) _) ?_
   refine axe ?_
   rw [hk]
   exact ⟨rfl, rfl⟩
  have hk : Ix.keyOf n s = Ke.sortKey s 0 := if_neg (fun g => ne_of_beq_false hc2 g.2)
  refine xpu (rSort_ok s 0 hs _) ?_
  refine axe ?_
  rw [hk]
  exact ⟨rfl, rfl⟩
 have hk : Ix.keyOf n s = Ke.sortKey s 0 := if_neg (fun g => Bool.noConfusion (g.1.symm.trans hg1))
 refine xpu (rSort_ok s 0 hs _) ?_
 refine axe ?_
 rw [hk]
 exact ⟨rfl, rfl⟩
end Go.Proofs.YtekmeaoblpfnpaaGreatDoor
end
section
set_option maxHeartbeats 40000000
namespace Go.Proofs.YtekmeaoblpfnpaaGreatDoor
open Go Go.Sx
def RxS (I : Heap) (rb : Nat) (es : List Ent) (p : Option Addr) (c : Nat) : Prop := I rb = some (cel 50 [.slice p es.length c]) ∧ EntsS I es (.slice p es.length c)
theorem RxS.mono {I I' : Heap} {rb : Nat} {es : List Ent} {p : Option Addr} {c : Nat} (h : RxS I rb es p c) (hle : Le I I') : RxS I' rb es p c := ⟨hle _ _ h.1, h.2.mono hle⟩
structure RxP (I : Heap) (rb : Nat) (es : List Ent) : Prop where
  ex : ∃ p c, RxS I rb es p c
  len : es.length ≤ 1000
  eok : ∀ e ∈ es, EOK e.fs
  srt : Ix.Srt (es.map entL)
theorem RxP.mono {I I' : Heap} {rb : Nat} {es : List Ent} (h : RxP I rb es) (hle : Le I I') : RxP I' rb es := ⟨let ⟨p, c, g⟩ := h.ex; ⟨p, c, g.mono hle⟩, h.len, h.eok, h.srt⟩
theorem RxP.of {I : Heap} {rb : Nat} {es : List Ent} {w : Value} (h1 : I rb = some (cel 50 [w])) (h2 : EntsS I es w) (hl : es.length ≤ 1000) (he : ∀ e ∈ es, EOK e.fs) (hs : Ix.Srt (es.map entL)) : RxP I rb es := by
  obtain ⟨p, c, rfl, -⟩ := h2.len
  exact ⟨⟨p, c, h1, h2⟩, hl, he, hs⟩
theorem ent_record {cs sp : List Value} {o k : Nat} {es : List Ent} {x : Ent} (h : cs.drop o = es.flatMap entC ++ sp) (hx : es[k]? = some x) : (cs.drop (o + k * 5 + 2)).take 3 = [u8 x.k, u8 x.l, x.v] := by
  have h1 := row_from entC_len h hx
  rw [show (cs.drop (o + k * 5 + 2)).take 3 = ((cs.drop (o + k * 5)).take 5).drop 2 by rw [List.drop_take, List.drop_drop], h1]; rfl
theorem ofN_text {f : Ke.Fld} {n : List UInt8} {x : List UInt8 × Nat} (h : x ∈ Ix.ofN f n) : x.1.length ≤ textsLen f.subs + f.subs.length + 13 := by
  have ht : ∀ c : List UInt8, (Ke.textOf f c).length ≤ textsLen f.subs + f.subs.length := textOf_len f
  have hp : ∀ (u : List UInt8 → List UInt8 × Bool) (c : UInt8), (∀ s, (u s).2 = true → (u s).1.length ≤ 13) → x ∈ psL u c f.subs → x.1.length ≤ textsLen f.subs + f.subs.length + 13 := fun u c hu hx => by
    unfold psL at hx
    obtain ⟨y, hy, rfl⟩ := List.mem_map.1 hx
    obtain ⟨s, _, he⟩ := List.mem_filterMap.1 hy
    unfold pickU at he
    split at he
    · rename_i hc; cases he; have := hu _ hc.1; dsimp only; omega
    cases he
  by_cases h1 : n = Ix.nTitle
  · rw [of_title h1] at h; split at h
    · rw [List.mem_singleton.1 h]; have := ht [97, 98]; dsimp only; omega
    cases h
  by_cases h2 : n = Ix.nAuthor
  · rw [of_author h2] at h; split at h
    · rw [List.mem_singleton.1 h]; have := ht [97]; dsimp only; omega
    cases h
  by_cases h3 : n = Ix.nSubject
  · rw [of_subject h3] at h; split at h
    · rw [List.mem_singleton.1 h]; have := ht [97, 120]; dsimp only; omega
    cases h
  by_cases h4 : n = Ix.nIsbn
  · rw [of_isbn h4] at h; split at h
    · exact hp _ _ (fun s _ => isbn_len s) h
    cases h
  by_cases h5 : n = Ix.nYear
  · rw [of_year h5] at h; split at h
    · refine hp _ _ (fun s hs => ?_) h
      unfold uy at hs ⊢
      cases hy : Ix.yearOf s with
      | none => simp
      | some y => have := yearOf_len hy; dsimp only [Option.getD]; omega
    cases h
  by_cases h6 : n = Ix.nAny
  · rw [of_any h6] at h; split at h
    · rw [List.mem_singleton.1 h]; have := all_len f; dsimp only; omega
    cases h
  rw [of_none h1 h2 h3 h4 h5 h6] at h; cases h
theorem valsN_text {fs : List Ke.Fld} (hok : EOK fs) {n : List UInt8} {x : List UInt8 × Nat} (h : x ∈ Ix.valsN fs n) : x.1.length ≤ 3002000 := by
  unfold Ix.valsN at h
  obtain ⟨f, hf, hx⟩ := List.mem_flatMap.1 h
  have h1 := ofN_text hx
  have h2 := hok.2 f hf
  omega
theorem RowS.len {α : Type} {f : α → List Value} {I : Heap} {l : List α} {v : Value} (h : RowS f I l v) : ∃ p c, v = .slice p l.length c := let ⟨p, c, h1, _⟩ := h; ⟨p, c, h1⟩
end Go.Proofs.YtekmeaoblpfnpaaGreatDoor
end
section
set_option maxHeartbeats 40000000
namespace Go.Proofs.YtekmeaoblpfnpaaGreatDoor
open Go Go.Sx
theorem flat_next {α β : Type} (f : α → List β) {l : List α} {k : Nat} {x : α} (h : l[k]? = some x) : (l.take (k + 1)).flatMap f = (l.take k).flatMap f ++ f x := by
  obtain ⟨hlt, h⟩ := List.getElem?_eq_some_iff.1 h
  rw [List.take_succ_eq_append_getElem hlt, h, List.flatMap_append]; simp
end Go.Proofs.YtekmeaoblpfnpaaGreatDoor
end
section
namespace Ke
def nrm1 (f : Fld) : Fld := { f with sv := .slice none 0 0 }
def nrm (fs : List Fld) : List Fld := fs.map nrm1
end Ke
end
