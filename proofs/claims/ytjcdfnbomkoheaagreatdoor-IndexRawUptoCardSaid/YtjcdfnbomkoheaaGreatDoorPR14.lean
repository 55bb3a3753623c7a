/-
  Own texts on the laws of the seat, joined: the logic, and contracts of functions. Conditions: none.
-/
import Derived.Test.YtjcdfnbomkoheaaGreatDoorNmR
import Derived.Test.YtjcdfnbomkoheaaGreatDoorPR13
set_option maxRecDepth 100000
set_option maxHeartbeats 4000000
section
namespace Go.Proofs.YtjcdfnbomkoheaaGreatDoor
open _root_.Go.Proofs.Tryz
open Go Go.Sx
def pairC (p : List UInt8 × List UInt8) : List Value := [str p.1, str p.2]
theorem tabc {k : Nat} {a b : List UInt8} (h : Ke.rows[k]? = some (a, b)) : (Ke.rows.flatMap pairC)[k * 2]? = some (str a) ∧ (Ke.rows.flatMap pairC)[k * 2 + 1]? = some (str b) := by
  have h0 := row_fcell (f := pairC) (n := 2) (cs := Ke.rows.flatMap pairC) (sp := []) (o := 0) (fun _ => rfl) (by simp) h 0 (by decide)
  have h1 := row_fcell (f := pairC) (n := 2) (cs := Ke.rows.flatMap pairC) (sp := []) (o := 0) (fun _ => rfl) (by simp) h 1 (by decide)
  rw [Nat.zero_add] at h0 h1
  exact ⟨h0, h1⟩
theorem look_mem : ∀ {l : List (Nat × List UInt8)} {c : Nat} {a : List UInt8}, (l.map (·.1)).Nodup → (c, a) ∈ l → l.lookup c = some a
  | (d, b) :: r, c, a, hn, h => by
    simp only [List.map_cons, List.nodup_cons] at hn
    rw [List.lookup_cons]
    rcases List.mem_cons.1 h with h | h
    · cases h; simp
    have : c ≠ d := fun e => hn.1 (e ▸ List.mem_map.2 ⟨_, h, rfl⟩)
    rw [show (c == d) = false from by simpa using this]
    exact look_mem hn.2 h
theorem rowTab_mem {c : Nat} : ∀ {l : List (List UInt8 × List UInt8)} {k : Nat} {a b : List UInt8}, l[k]? = some (a, b) → c ∈ Ke.runes b → (c, a) ∈ Ke.rowTab l
  | [], _, _, _, h, _ => by simp at h
  | (x, y) :: r, 0, a, b, h, hc => by
    simp at h; obtain ⟨rfl, rfl⟩ := h
    exact List.mem_append_left _ (List.mem_map.2 ⟨c, hc, rfl⟩)
  | (x, y) :: r, k + 1, a, b, h, hc => List.mem_append_right _ (rowTab_mem (l := r) (by simpa using h) hc)
theorem look_found {k j c : Nat} {a b : List UInt8} (h : Ke.rows[k]? = some (a, b)) (hj : (Ke.runes b)[j]? = some c) : Ke.tab.lookup c = some a := by
  refine look_mem Ke.tab_nodup ?_
  rw [← Ke.tab_eq]
  exact rowTab_mem h (lmg hj)
theorem look_next {k c : Nat} {a b : List UInt8} (h : Ke.rows[k]? = some (a, b)) (h1 : c ∉ (Ke.rowTab (Ke.rows.take k)).map (·.1)) (h2 : c ∉ Ke.runes b) : c ∉ (Ke.rowTab (Ke.rows.take (k + 1))).map (·.1) := by
  rw [Ke.rowTab_next h, List.map_append, List.mem_append, List.map_map]
  rintro (g | g)
  · exact h1 g
  obtain ⟨x, hx, rfl⟩ := List.mem_map.1 g
  exact h2 hx
theorem look_none {c : Nat} {k : Nat} (hk : ¬ k < 31) (h : c ∉ (Ke.rowTab (Ke.rows.take k)).map (·.1)) : Ke.tab.lookup c = none := by
  rw [List.take_of_length_le (show Ke.rows.length ≤ k by show 31 ≤ k; omega), Ke.tab_eq] at h
  exact Ke.lookup_none h
theorem rune_next {l : List Nat} {k c d : Nat} (h : c ∉ l.take k) (hg : l[k]? = some d) (hd : d ≠ c) : c ∉ l.take (k + 1) := by
  obtain ⟨hlt, hg⟩ := List.getElem?_eq_some_iff.1 hg
  rw [List.take_succ_eq_append_getElem hlt, hg, List.mem_append, List.mem_singleton]
  rintro (e | e)
  · exact h e
  exact hd e.symm
theorem runes_fromF : ∀ (f : Nat) (s : List UInt8) (i : Nat) (acc : Array Value), s.length - i ≤ f → Conv.runesFrom ⟨s.toArray⟩ f i acc = acc ++ (rcs (Ke.runes (s.drop i))).toArray
  | 0, s, i, acc, h => by
    rw [Ke.runes_end (by omega)]
    simp [Conv.runesFrom, rcs]
  | f + 1, s, i, acc, h => by
    unfold Conv.runesFrom
    by_cases hi : i < s.length
    · rw [if_pos (by rw [size_mk]; exact hi)]
      have hw := Ke.decode_width s hi
      rw [Ke.runes_at hi]
      dsimp only
      rw [runes_fromF f s _ _ (by omega)]
      simp [rcs]
    rw [if_neg (by rw [size_mk]; exact hi), Ke.runes_end (by omega)]
    simp [rcs]
theorem runes_all (s : List UInt8) : Conv.runesFrom ⟨s.toArray⟩ s.length 0 #[] = (rcs (Ke.runes s)).toArray := by
  rw [runes_fromF _ _ _ _ (by omega), List.drop_zero]; simp
theorem runes_lenS (s : List UInt8) : (Ke.runes s).length ≤ s.length := Ke.runes_len _ _
theorem Table_ok (I : Heap) : Ctr Tryz.prog 155 [] I [] (fun e _I' H' => ∃ b, e = .returned (.slice (some ⟨b, 0, none⟩) 31 31) ∧ H' = [(b, cel 22 (Ke.rows.flatMap pairC))]) := by
 refine Ctr.ob func155 ?_
 intro w0 hw0
 refine Cj.sr (J.z q1 ?_)
 refine J.nssr (J.z (q38 (zs := [(str []), (str [])]) tZ22 tU22 tS9) ?_)
 refine J.z (q38 (zs := [(str []), (str [])]) tZ22 tU22 tS9) ?_
 refine J.z (q38 (zs := [(str []), (str [])]) tZ22 tU22 tS9) ?_
 refine J.z (q38 (zs := [(str []), (str [])]) tZ22 tU22 tS9) ?_
 refine J.z (q38 (zs := [(str []), (str [])]) tZ22 tU22 tS9) ?_
 refine J.z (q38 (zs := [(str []), (str [])]) tZ22 tU22 tS9) ?_
 refine J.z (q38 (zs := [(str []), (str [])]) tZ22 tU22 tS9) ?_
 refine J.z (q38 (zs := [(str []), (str [])]) tZ22 tU22 tS9) ?_
 refine J.z (q38 (zs := [(str []), (str [])]) tZ22 tU22 tS9) ?_
 refine J.z (q38 (zs := [(str []), (str [])]) tZ22 tU22 tS9) ?_
 refine J.z (q38 (zs := [(str []), (str [])]) tZ22 tU22 tS9) ?_
 refine J.z (q38 (zs := [(str []), (str [])]) tZ22 tU22 tS9) ?_
 refine J.z (q38 (zs := [(str []), (str [])]) tZ22 tU22 tS9) ?_
 refine J.z (q38 (zs := [(str []), (str [])]) tZ22 tU22 tS9) ?_
 refine J.z (q38 (zs := [(str []), (str [])]) tZ22 tU22 tS9) ?_
 refine J.z (q38 (zs := [(str []), (str [])]) tZ22 tU22 tS9) ?_
 refine J.z (q38 (zs := [(str []), (str [])]) tZ22 tU22 tS9) ?_
 refine J.z (q38 (zs := [(str []), (str [])]) tZ22 tU22 tS9) ?_
 refine J.z (q38 (zs := [(str []), (str [])]) tZ22 tU22 tS9) ?_
 refine J.z (q38 (zs := [(str []), (str [])]) tZ22 tU22 tS9) ?_
 refine J.z (q38 (zs := [(str []), (str [])]) tZ22 tU22 tS9) ?_
 refine J.z (q38 (zs := [(str []), (str [])]) tZ22 tU22 tS9) ?_
 refine J.z (q38 (zs := [(str []), (str [])]) tZ22 tU22 tS9) ?_
 refine J.z (q38 (zs := [(str []), (str [])]) tZ22 tU22 tS9) ?_
 refine J.z (q38 (zs := [(str []), (str [])]) tZ22 tU22 tS9) ?_
 refine J.z (q38 (zs := [(str []), (str [])]) tZ22 tU22 tS9) ?_
 refine J.z (q38 (zs := [(str []), (str [])]) tZ22 tU22 tS9) ?_
 refine J.z (q38 (zs := [(str []), (str [])]) tZ22 tU22 tS9) ?_
 refine J.z (q38 (zs := [(str []), (str [])]) tZ22 tU22 tS9) ?_
 refine J.z (q38 (zs := [(str []), (str [])]) tZ22 tU22 tS9) ?_
 refine J.z (q38 (zs := [(str []), (str [])]) tZ22 tU22 tS9) ?_
 refine J.op rfl (op_buildSlice rfl rfl rfl underlying192 sizeOf22 tZ22 rfl rfl rfl rfl (LCat.agg rfl (LCat.agg rfl (LCat.agg rfl (LCat.agg rfl (LCat.agg rfl (LCat.agg rfl (LCat.agg rfl (LCat.agg rfl (LCat.agg rfl (LCat.agg rfl (LCat.agg rfl (LCat.agg rfl (LCat.agg rfl (LCat.agg rfl (LCat.agg rfl (LCat.agg rfl (LCat.agg rfl (LCat.agg rfl (LCat.agg rfl (LCat.agg rfl (LCat.agg rfl (LCat.agg rfl (LCat.agg rfl (LCat.agg rfl (LCat.agg rfl (LCat.agg rfl (LCat.agg rfl (LCat.agg rfl (LCat.agg rfl (LCat.agg rfl (LCat.agg rfl LCat.none))))))))))))))))))))))))))))))) ?_)
 intro b1 hb1
 refine J.z q1 ?_
 refine J.ns (Cj.ret (q6 ?_))
 exact ⟨b1, rfl, rfl⟩
theorem letter_ok (c : Nat) (I : Heap) : Pure Tryz.prog 113 [.int .i32 (c : Int)] I (str ((Ke.tab.lookup c).getD [])) := by
 refine Ctr.toPure ?_
 refine Ctr.ob func113 ?_
 intro w0 hw0
 refine Cj.sr (J.z q1 ?_)
 refine J.nssr (J.op rfl (q39 rfl rfl rfl rfl rfl (Table_ok _) ?_))
 intro v2 I3 H4 hle5 hn1 hp6
 obtain ⟨tb, h, rfl⟩ := hp6; cases h
 refine J.persist (hn1 _ (.head _)) (fun I9 hle9 htb => ?_)
 refine J.z q1 ?_
 refine J.nsss (Cj.region (J.z q1 ?_))
 refine J.ns (Cj.block (Cj.loop (ι := Nat) (fun k => k ≤ 31 ∧ c ∉ (Ke.rowTab (Ke.rows.take k)).map (·.1)) (fun k => 31 - k) (fun k => [(0, .int .i32 (c : Int)), (3, .slice (some ⟨tb, 0, none⟩) 31 31), (4, i64 (k : Int))]) (fun k => _) (fun k => []) 0 ⟨Nat.zero_le _, by simp [Ke.rowTab]⟩ ⟨rfl, rfl, rfl, trivial⟩ rfl rfl ?_))
 rintro k ⟨hk, hno⟩
 refine Cj.seq (Cj.sr (J.z q0 ?_))
 refine J.z q0 ?_
 refine J.z (q14 underlying192) ?_
 refine J.z q16 ?_
 refine J.cd (fun hc7 => ?_) (fun hc7 => ?_)
 ·
  have hc7p := odt hc7
  refine Cj.ks (Cj.seq (Cj.block (Cj.seq ?_)))
  have hlt : k < 31 := by omega
  obtain ⟨⟨a, b⟩, hget⟩ : ∃ p, Ke.rows[k]? = some p := ⟨_, lgg (show k < Ke.rows.length from hlt)⟩
  obtain ⟨-, -, hbl⟩ := Ke.row_parts _ (lmg hget)
  dsimp only at hbl
  have hrb := runes_lenS b
  refine Cj.region (J.z q0 ?_)
  refine J.z q0 ?_
  refine J.z (q20 (off' := k * 2) underlying192 sizeOf22) ?_
  refine J.z (yl_indexArr (off' := k * 2 + 1) rfl rfl rfl tU22 tS9 (by decide) (by decide) (by simp)) ?_
  refine J.z (yl_load rfl rfl tA9 (Blk.imm htb) (tabc hget).2) ?_
  refine J.op rfl (op_toRunes (runes_all b) rfl rfl rfl rfl tU9 tU129 tU21 ?_)
  intro b8 c9 sp10 hb8
  refine J.z q1 ?_
  refine J.nssr (J.z q1 ?_)
  refine J.ns (Cj.block (Cj.loop (ι := Nat) (fun j => j ≤ (Ke.runes b).length ∧ c ∉ (Ke.runes b).take j) (fun j => (Ke.runes b).length - j) (fun j => [(0, .int .i32 (c : Int)), (3, .slice (some ⟨tb, 0, none⟩) 31 31), (4, i64 (k : Int)), (5, .slice (some ⟨b8, 0, none⟩) (Ke.runes b).length c9), (6, i64 (j : Int))]) (fun j => _) (fun j => [(b8, cel 21 (rcs (Ke.runes b) ++ sp10))]) 0 ⟨Nat.zero_le _, by simp⟩ ⟨rfl, rfl, rfl, rfl, rfl, trivial⟩ rfl rfl ?_))
  rintro j ⟨hj, hnj⟩
  refine Cj.seq (Cj.sr (J.z q0 ?_))
  refine J.z q0 ?_
  refine J.z (q14 tU129) ?_
  refine J.z q16 ?_
  refine J.cd (fun hc11 => ?_) (fun hc11 => ?_)
  ·
   have hc11p := odt hc11
   refine Cj.ks (Cj.seq (Cj.block (Cj.seq ?_)))
   have hjl : j < (Ke.runes b).length := by omega
   obtain ⟨d, hgj⟩ : ∃ d, (Ke.runes b)[j]? = some d := ⟨_, lgg hjl⟩
   refine Cj.region (J.z q0 ?_)
   refine J.z q0 ?_
   refine J.z (q20 (off' := j) tU129 tS21) ?_
   refine J.z (yl_load rfl rfl isAgg21 (Blk.at 0 rfl) (rcs_get hgj)) ?_
   refine J.z q0 ?_
   refine J.z q22 ?_
   refine J.cd (fun hc12 => ?_) (fun hc12 => ?_)
   ·
    have hc12p := ebq hc12
    have hdc : d = c := by have h := ebq hc12; omega
    subst hdc
    refine Cj.sr (J.z q0 ?_)
    refine J.z q0 ?_
    refine J.z (q20 (off' := k * 2) underlying192 sizeOf22) ?_
    refine J.z (yl_indexArr (off' := k * 2) rfl rfl rfl tU22 tS9 (by decide) (by decide) (by simp)) ?_
    refine J.z (yl_load rfl rfl tA9 (Blk.imm htb) (tabc hget).1) ?_
    refine J.z q1 ?_
    refine J.ns (Cj.ret (Ej.blkRet (Ej.seqRet (Ej.loopRet (Ej.blkRet (Ej.blkRet (Ej.seqRet (Ej.loopRet (Ej.blkRet (Ej.seqRet (Ej.bare ?_)))))))))))
    refine q6 ?_
    rw [look_found hget hgj]
    exact ⟨rfl, rfl⟩
   have hc12p := nbf hc12
   have hne : d ≠ c := fun e => nbf hc12 (by rw [e])
   refine Cj.kb (Cj.region (J.z q0 ?_))
   refine J.z q7 ?_
   refine J.z q1 ?_
   refine J.nil (Ej.round (j + 1) ⟨by omega, rune_next hnj hgj hne⟩ (by omega) ⟨rfl, rfl, rfl, rfl, rfl, trivial⟩ rfl rfl)
  have hc11p := odf hc11
  have hnb : c ∉ Ke.runes b := by rw [List.take_of_length_le (by omega)] at hnj; exact hnj
  refine Cj.exit (Ej.seqExit (Ej.loopExit (Ej.blkExit (Ej.blkNormal (Ej.seq (Cj.region (J.z q0 ?_)))))))
  refine J.z q7 ?_
  refine J.z q1 ?_
  refine J.nil (Ej.keep (Keeps.d Keeps.n) ?_)
  refine Ej.round (k + 1) ⟨by omega, look_next hget hno hnb⟩ (by omega) ⟨rfl, rfl, rfl, trivial⟩ rfl rfl
 have hc7p := odf hc7
 refine Cj.xl (Cj.sr (J.z q1 ?_))
 refine J.ns (Cj.ret (q6 ?_))
 rw [look_none (by omega) hno]
 exact ⟨rfl, rfl⟩
theorem tab_ne {c : Nat} {x : List UInt8} (h : Ke.tab.lookup c = some x) : x ≠ [] := by
  have h1 : Ke.tab.all (fun p => decide (p.2 ≠ [])) = true := by decide +kernel
  obtain ⟨p, hp, rfl⟩ := Ke.mem_lookup h
  simpa using List.all_eq_true.1 h1 p hp
theorem rChar_ok (c : Nat) (hc : c ≤ 1114111) (I : Heap) : Pure Tryz.prog 82 [.int .i32 (c : Int)] I (str (Ke.char c)) := by
 refine Ctr.ob func82 ?_
 intro w0 hw0
 refine Cj.sr (J.z q1 ?_)
 refine J.ns (Cj.join (ι := Unit) (fun _u => ¬ ((97 ≤ c ∧ c ≤ 122) ∨ (48 ≤ c ∧ c ≤ 57))) (fun _u => [(0, .int .i32 (c : Int))]) (fun _u => I) (fun _u => []) ?_ (fun hcut => ?_))
 ·
  intro _ a0
  refine Cj.join (ι := Unit) (fun _u => ¬ ((97 ≤ c ∧ c ≤ 122) ∨ (48 ≤ c ∧ c ≤ 57)) ∧ ¬ (65 ≤ c ∧ c ≤ 90)) (fun _u => [(0, .int .i32 (c : Int))]) (fun _u => I) (fun _u => []) ?_ (fun hcut => ?_)
  ·
   rintro - ⟨a0, a1⟩
   refine Cj.join (ι := Unit) (fun _u => ¬ ((97 ≤ c ∧ c ≤ 122) ∨ (48 ≤ c ∧ c ≤ 57)) ∧ ¬ (65 ≤ c ∧ c ≤ 90) ∧ 128 ≤ c) (fun _u => [(0, .int .i32 (c : Int))]) (fun _u => I) (fun _u => []) ?_ (fun hcut => ?_)
   ·
    rintro - ⟨a0, a1, a2⟩
    refine Cj.join (ι := Unit) (fun _u => ¬ ((97 ≤ c ∧ c ≤ 122) ∨ (48 ≤ c ∧ c ≤ 57)) ∧ ¬ (65 ≤ c ∧ c ≤ 90) ∧ 128 ≤ c ∧ ¬ ((768 ≤ c ∧ c ≤ 879) ∨ (65056 ≤ c ∧ c ≤ 65071))) (fun _u => [(0, .int .i32 (c : Int))]) (fun _u => I) (fun _u => []) ?_ (fun hcut => ?_)
    ·
     rintro - ⟨a0, a1, a2, a3⟩
     refine Cj.sr (J.z q0 ?_)
     refine J.op rfl (op_pure rfl rfl rfl rfl rfl (letter_ok c _) ?_)
     refine J.z q1 ?_
     refine J.ns (Cj.join (ι := Unit) (fun _u => ¬ ((97 ≤ c ∧ c ≤ 122) ∨ (48 ≤ c ∧ c ≤ 57)) ∧ ¬ (65 ≤ c ∧ c ≤ 90) ∧ 128 ≤ c ∧ ¬ ((768 ≤ c ∧ c ≤ 879) ∨ (65056 ≤ c ∧ c ≤ 65071)) ∧ Ke.tab.lookup c = none ∧ c ≠ 962 ∧ ¬ ((945 ≤ c ∧ c ≤ 969) ∨ (1072 ≤ c ∧ c ≤ 1103)) ∧ ¬ (((913 ≤ c ∧ c ≤ 937) ∧ c ≠ 930) ∨ (1040 ≤ c ∧ c ≤ 1071))) (fun _u => [(0, .int .i32 (c : Int))]) (fun _u => I) (fun _u => []) ?_ (fun hcut => ?_))
     ·
      rintro - ⟨a0, a1, a2, a3, a4, a5, a6, a7⟩
      refine Cj.sr (J.z q1 ?_)
      refine J.ns (Cj.ret (q6 ?_))
      refine ⟨?_, rfl, rfl⟩
      refine congrArg (fun l => Ending.returned (str l)) ?_
      unfold Ke.char
      rw [if_neg (by omega), if_neg (by omega), if_neg (by omega), if_neg (by omega), a4]
      simp only
      rw [if_neg a5, if_neg a6, if_neg a7]
     refine Cj.block (Cj.sr (J.z q0 ?_))
     refine J.z (yl_neqStr rfl rfl rfl) ?_
     refine J.z q1 ?_
     refine J.cd (fun hc1 => ?_) (fun hc1 => ?_)
     ·
      have hc1p := bne_iff_ne.1 hc1
      obtain ⟨x, hx⟩ : ∃ x, Ke.tab.lookup c = some x := by
        have h := bne_iff_ne.1 hc1
        cases hl : Ke.tab.lookup c with
        | none => rw [hl] at h; exact absurd rfl h
        | some x => exact ⟨x, rfl⟩
      refine Cj.eqv 3 rfl (show _ = str x from (by rw [hx]; rfl)) ?_
      refine Cj.sr (J.z q0 ?_)
      refine J.z q1 ?_
      refine J.ns (Cj.ret (Ej.blkRet (Ej.seqRet (q6 ?_))))
      refine ⟨?_, rfl, rfl⟩
      refine congrArg (fun l => Ending.returned (str l)) ?_
      unfold Ke.char
      rw [if_neg (by omega), if_neg (by omega), if_neg (by omega), if_neg (by omega), hx]
     have hc1p := bne_f hc1
     have hx : Ke.tab.lookup c = none := by
       have h := bne_f hc1
       cases hl : Ke.tab.lookup c with
       | none => rfl
       | some x => rw [hl] at h; exact absurd h (tab_ne hl)
     refine Cj.sr (J.z q0 ?_)
     refine J.z q22 ?_
     refine J.z q1 ?_
     refine J.cd (fun hc2 => ?_) (fun hc2 => ?_)
     ·
      have hc2p := ebq hc2
      refine Cj.sr (J.op rfl (q23 tU129 tS21 tZ21 ?_))
      intro b3 hb3
      refine J.z (q46 tU129 tU9 tU21) ?_
      refine J.z q1 ?_
      refine J.ns (Cj.ret (Ej.blkRet (Ej.seqRet (Ej.bare ?_))))
      refine q6 ?_
      refine ⟨?_, rfl, rfl⟩
      refine congrArg (fun l => Ending.returned (str l)) ?_
      unfold Ke.char
      rw [if_neg (by omega), if_neg (by omega), if_neg (by omega), if_neg (by omega), hx]
      simp only
      rw [if_pos (by omega)]; rfl
     have hc2p := nbf hc2
     refine Cj.sr (J.z q0 ?_)
     refine J.z q34 ?_
     refine J.z q0 ?_
     refine q15 61 (fun hg4 => ?_) (fun hg4 => ?_)
     ·
      have hg4p := odt hg4
      refine q3 2 61 true hg4 (q2 q0 ?_)
      refine q3 2 61 true hg4 (q2 q36 ?_)
      refine J.z (q11 hg4) ?_
      refine J.z q0 ?_
      refine q15 65 (fun hg5 => ?_) (fun hg5 => ?_)
      ·
       have hg5p := odt hg5
       refine q4 6 65 66 false hg5 ?_
       refine q4 6 65 67 false hg5 ?_
       refine q4 6 65 68 false hg5 ?_
       refine J.skipU 9 68 69 true rfl rfl rfl rfl rfl ?_
       refine J.skipU 9 68 70 true rfl rfl rfl rfl rfl ?_
       refine q4 6 65 71 false hg5 ?_
       refine J.z (q11 hg5) ?_
       refine J.z q1 ?_
       refine J.c1 (fun hc6 => ?_)
       refine Cj.sr (J.z q0 ?_)
       refine J.op rfl (q23 tU129 tS21 tZ21 ?_)
       intro b7 hb7
       refine J.z (q46 tU129 tU9 tU21) ?_
       refine J.z q1 ?_
       refine J.ns (Cj.ret (Ej.blkRet (Ej.seqRet (Ej.bare ?_))))
       refine q6 ?_
       refine ⟨?_, rfl, rfl⟩
       refine congrArg (fun l => Ending.returned (str l)) ?_
       unfold Ke.char
       rw [if_neg (by omega), if_neg (by omega), if_neg (by omega), if_neg (by omega), hx]
       simp only
       rw [if_neg (by omega), if_pos (by omega)]; exact Ke.enc_encode (by unfold Ke.okc; omega)
      have hg5p := odf hg5
      refine q3 6 65 false hg5 (q2 q0 ?_)
      refine q3 6 65 false hg5 (q2 q34 ?_)
      refine q3 6 65 false hg5 (q2 q0 ?_)
      refine q15 68 (fun hg8 => ?_) (fun hg8 => ?_)
      ·
       have hg8p := odt hg8
       refine q3 9 68 true hg8 (q2 q0 ?_)
       refine q3 9 68 true hg8 (q2 q36 ?_)
       refine q3 6 65 false hg5 (q2 (q11 hg8) ?_)
       refine J.z (q9 hg5) ?_
       refine J.z q1 ?_
       refine J.cd (fun hc9 => ?_) (fun hc9 => ?_)
       ·
        have hc9p := odt hc9
        refine Cj.sr (J.z q0 ?_)
        refine J.op rfl (q23 tU129 tS21 tZ21 ?_)
        intro b10 hb10
        refine J.z (q46 tU129 tU9 tU21) ?_
        refine J.z q1 ?_
        refine J.ns (Cj.ret (Ej.blkRet (Ej.seqRet (Ej.bare ?_))))
        refine q6 ?_
        refine ⟨?_, rfl, rfl⟩
        refine congrArg (fun l => Ending.returned (str l)) ?_
        unfold Ke.char
        rw [if_neg (by omega), if_neg (by omega), if_neg (by omega), if_neg (by omega), hx]
        simp only
        rw [if_neg (by omega), if_pos (by omega)]; exact Ke.enc_encode (by unfold Ke.okc; omega)
       have hc9p := odf hc9
       refine Cj.sr (J.z q0 ?_)
       refine J.z q34 ?_
       refine J.z q0 ?_
       refine q15 79 (fun hg11 => ?_) (fun hg11 => ?_)
       ·
        have hg11p := odt hg11
        refine q3 2 79 true hg11 (q2 q0 ?_)
        refine q3 2 79 true hg11 (q2 q36 ?_)
        refine J.z (q11 hg11) ?_
        refine J.z q0 ?_
        refine q15 83 (fun hg12 => ?_) (fun hg12 => ?_)
        ·
         have hg12p := odt hg12
         refine q3 6 83 true hg12 (q2 q0 ?_)
         refine q3 6 83 true hg12 (q2 q45 ?_)
         refine J.z (q11 hg12) ?_
         refine J.z q0 ?_
         refine q15 87 (fun hg13 => ?_) (fun hg13 => ?_)
         ·
          have hg13p := bne_iff_ne.1 hg13
          refine q4 10 87 88 false hg13 ?_
          refine q4 10 87 89 false hg13 ?_
          refine q4 10 87 90 false hg13 ?_
          refine J.skipU 13 90 91 true rfl rfl rfl rfl rfl ?_
          refine J.skipU 13 90 92 true rfl rfl rfl rfl rfl ?_
          refine q4 10 87 93 false hg13 ?_
          refine J.z (q11 hg13) ?_
          refine J.z q1 ?_
          refine J.c1 (fun hc14 => ?_)
          refine Cj.sr (J.z q0 ?_)
          refine J.z (yl_add rfl rfl rfl (i32w (by omega))) ?_
          refine J.op rfl (q23 tU129 tS21 tZ21 ?_)
          intro b15 hb15
          refine J.z (q46 tU129 tU9 tU21) ?_
          refine J.z q1 ?_
          refine J.ns (Cj.ret (Ej.blkRet (Ej.seqRet (Ej.bare ?_))))
          refine q6 ?_
          refine ⟨?_, rfl, rfl⟩
          refine congrArg (fun l => Ending.returned (str l)) ?_
          unfold Ke.char
          rw [if_neg (by omega), if_neg (by omega), if_neg (by omega), if_neg (by omega), hx]
          simp only
          rw [if_neg (by omega), if_neg (by omega), if_pos (by omega)]; exact (congrArg (fun n : Int => (Utf8.encode n).data.toList) (by omega)).trans (Ke.enc_encode (c := c + 32) (by unfold Ke.okc; omega))
         have hg13p := bne_f hg13
         refine q3 10 87 false hg13 (q2 q0 ?_)
         refine q3 10 87 false hg13 (q2 q34 ?_)
         refine q3 10 87 false hg13 (q2 q0 ?_)
         refine q15 90 (fun hg16 => ?_) (fun hg16 => ?_)
         ·
          have hg16p := odt hg16
          refine q3 13 90 true hg16 (q2 q0 ?_)
          refine q3 13 90 true hg16 (q2 q36 ?_)
          refine q3 10 87 false hg13 (q2 (q11 hg16) ?_)
          refine J.z (q9 hg13) ?_
          refine J.z q1 ?_
          refine J.cd (fun hc17 => ?_) (fun hc17 => ?_)
          ·
           have hc17p := odt hc17
           refine Cj.sr (J.z q0 ?_)
           refine J.z (yl_add rfl rfl rfl (i32w (by omega))) ?_
           refine J.op rfl (q23 tU129 tS21 tZ21 ?_)
           intro b18 hb18
           refine J.z (q46 tU129 tU9 tU21) ?_
           refine J.z q1 ?_
           refine J.ns (Cj.ret (Ej.blkRet (Ej.seqRet (Ej.bare ?_))))
           refine q6 ?_
           refine ⟨?_, rfl, rfl⟩
           refine congrArg (fun l => Ending.returned (str l)) ?_
           unfold Ke.char
           rw [if_neg (by omega), if_neg (by omega), if_neg (by omega), if_neg (by omega), hx]
           simp only
           rw [if_neg (by omega), if_neg (by omega), if_pos (by omega)]; exact (congrArg (fun n : Int => (Utf8.encode n).data.toList) (by omega)).trans (Ke.enc_encode (c := c + 32) (by unfold Ke.okc; omega))
          have hc17p := odf hc17
          refine Cj.skip (Ej.blkNormal ?_)
          exact hcut () _ _ _ ⟨by omega, by omega, by omega, by omega, hx, by omega, by omega, by omega⟩ ⟨rfl, trivial⟩ rfl rfl
         have hg16p := odf hg16
         refine q4 13 90 91 true hg16 ?_
         refine q4 13 90 92 true hg16 ?_
         refine q3 10 87 false hg13 (q2 (q9 hg16) ?_)
         refine J.z (q9 hg13) ?_
         refine J.z q1 ?_
         refine J.c0 (fun hc19 => ?_)
         refine Cj.skip (Ej.blkNormal ?_)
         exact hcut () _ _ _ ⟨by omega, by omega, by omega, by omega, hx, by omega, by omega, by omega⟩ ⟨rfl, trivial⟩ rfl rfl
        have hg12p := odf hg12
        refine q4 6 83 84 true hg12 ?_
        refine q4 6 83 85 true hg12 ?_
        refine J.z (q9 hg12) ?_
        refine J.z q0 ?_
        refine q17 10 87 false (q2 q0 ?_)
        refine q17 10 87 false (q2 q34 ?_)
        refine q17 10 87 false (q2 q0 ?_)
        refine q15 90 (fun hg20 => ?_) (fun hg20 => ?_)
        ·
         have hg20p := odt hg20
         refine q3 13 90 true hg20 (q2 q0 ?_)
         refine q3 13 90 true hg20 (q2 q36 ?_)
         refine q17 10 87 false (q2 (q11 hg20) ?_)
         refine J.z q30 ?_
         refine J.z q1 ?_
         refine J.cd (fun hc21 => ?_) (fun hc21 => ?_)
         ·
          have hc21p := odt hc21
          refine Cj.sr (J.z q0 ?_)
          refine J.z (yl_add rfl rfl rfl (i32w (by omega))) ?_
          refine J.op rfl (q23 tU129 tS21 tZ21 ?_)
          intro b22 hb22
          refine J.z (q46 tU129 tU9 tU21) ?_
          refine J.z q1 ?_
          refine J.ns (Cj.ret (Ej.blkRet (Ej.seqRet (Ej.bare ?_))))
          refine q6 ?_
          refine ⟨?_, rfl, rfl⟩
          refine congrArg (fun l => Ending.returned (str l)) ?_
          unfold Ke.char
          rw [if_neg (by omega), if_neg (by omega), if_neg (by omega), if_neg (by omega), hx]
          simp only
          rw [if_neg (by omega), if_neg (by omega), if_pos (by omega)]; exact (congrArg (fun n : Int => (Utf8.encode n).data.toList) (by omega)).trans (Ke.enc_encode (c := c + 32) (by unfold Ke.okc; omega))
         have hc21p := odf hc21
         refine Cj.skip (Ej.blkNormal ?_)
         exact hcut () _ _ _ ⟨by omega, by omega, by omega, by omega, hx, by omega, by omega, by omega⟩ ⟨rfl, trivial⟩ rfl rfl
        have hg20p := odf hg20
        refine q4 13 90 91 true hg20 ?_
        refine q4 13 90 92 true hg20 ?_
        refine q17 10 87 false (q2 (q9 hg20) ?_)
        refine J.z q30 ?_
        refine J.z q1 ?_
        refine J.c0 (fun hc23 => ?_)
        refine Cj.skip (Ej.blkNormal ?_)
        exact hcut () _ _ _ ⟨by omega, by omega, by omega, by omega, hx, by omega, by omega, by omega⟩ ⟨rfl, trivial⟩ rfl rfl
       have hg11p := odf hg11
       refine q4 2 79 80 true hg11 ?_
       refine q4 2 79 81 true hg11 ?_
       refine J.z (q9 hg11) ?_
       refine J.z q0 ?_
       refine q33 6 83 84 true ?_
       refine q33 6 83 85 true ?_
       refine J.z q30 ?_
       refine J.z q0 ?_
       refine q17 10 87 false (q2 q0 ?_)
       refine q17 10 87 false (q2 q34 ?_)
       refine q17 10 87 false (q2 q0 ?_)
       refine q15 90 (fun hg24 => ?_) (fun hg24 => ?_)
       ·
        have hg24p := odt hg24
        refine q3 13 90 true hg24 (q2 q0 ?_)
        refine q3 13 90 true hg24 (q2 q36 ?_)
        refine q17 10 87 false (q2 (q11 hg24) ?_)
        refine J.z q30 ?_
        refine J.z q1 ?_
        refine J.cd (fun hc25 => ?_) (fun hc25 => ?_)
        ·
         have hc25p := odt hc25
         refine Cj.sr (J.z q0 ?_)
         refine J.z (yl_add rfl rfl rfl (i32w (by omega))) ?_
         refine J.op rfl (q23 tU129 tS21 tZ21 ?_)
         intro b26 hb26
         refine J.z (q46 tU129 tU9 tU21) ?_
         refine J.z q1 ?_
         refine J.ns (Cj.ret (Ej.blkRet (Ej.seqRet (Ej.bare ?_))))
         refine q6 ?_
         refine ⟨?_, rfl, rfl⟩
         refine congrArg (fun l => Ending.returned (str l)) ?_
         unfold Ke.char
         rw [if_neg (by omega), if_neg (by omega), if_neg (by omega), if_neg (by omega), hx]
         simp only
         rw [if_neg (by omega), if_neg (by omega), if_pos (by omega)]; exact (congrArg (fun n : Int => (Utf8.encode n).data.toList) (by omega)).trans (Ke.enc_encode (c := c + 32) (by unfold Ke.okc; omega))
        have hc25p := odf hc25
        refine Cj.skip (Ej.blkNormal ?_)
        exact hcut () _ _ _ ⟨by omega, by omega, by omega, by omega, hx, by omega, by omega, by omega⟩ ⟨rfl, trivial⟩ rfl rfl
       have hg24p := odf hg24
       refine q4 13 90 91 true hg24 ?_
       refine q4 13 90 92 true hg24 ?_
       refine q17 10 87 false (q2 (q9 hg24) ?_)
       refine J.z q30 ?_
       refine J.z q1 ?_
       refine J.c0 (fun hc27 => ?_)
       refine Cj.skip (Ej.blkNormal ?_)
       exact hcut () _ _ _ ⟨by omega, by omega, by omega, by omega, hx, by omega, by omega, by omega⟩ ⟨rfl, trivial⟩ rfl rfl
      have hg8p := odf hg8
      refine q4 9 68 69 true hg8 ?_
      refine q4 9 68 70 true hg8 ?_
      refine q3 6 65 false hg5 (q2 (q9 hg8) ?_)
      refine J.z (q9 hg5) ?_
      refine J.z q1 ?_
      refine J.c0 (fun hc28 => ?_)
      refine Cj.sr (J.z q0 ?_)
      refine J.z q34 ?_
      refine J.z q0 ?_
      refine q15 79 (fun hg29 => ?_) (fun hg29 => ?_)
      ·
       have hg29p := odt hg29
       refine q3 2 79 true hg29 (q2 q0 ?_)
       refine q3 2 79 true hg29 (q2 q36 ?_)
       refine J.z (q11 hg29) ?_
       refine J.z q0 ?_
       refine q15 83 (fun hg30 => ?_) (fun hg30 => ?_)
       ·
        have hg30p := odt hg30
        refine q3 6 83 true hg30 (q2 q0 ?_)
        refine q3 6 83 true hg30 (q2 q45 ?_)
        refine J.z (q11 hg30) ?_
        refine J.z q0 ?_
        refine q15 87 (fun hg31 => ?_) (fun hg31 => ?_)
        ·
         have hg31p := bne_iff_ne.1 hg31
         refine q4 10 87 88 false hg31 ?_
         refine q4 10 87 89 false hg31 ?_
         refine q4 10 87 90 false hg31 ?_
         refine J.skipU 13 90 91 true rfl rfl rfl rfl rfl ?_
         refine J.skipU 13 90 92 true rfl rfl rfl rfl rfl ?_
         refine q4 10 87 93 false hg31 ?_
         refine J.z (q11 hg31) ?_
         refine J.z q1 ?_
         refine J.c1 (fun hc32 => ?_)
         refine Cj.sr (J.z q0 ?_)
         refine J.z (yl_add rfl rfl rfl (i32w (by omega))) ?_
         refine J.op rfl (q23 tU129 tS21 tZ21 ?_)
         intro b33 hb33
         refine J.z (q46 tU129 tU9 tU21) ?_
         refine J.z q1 ?_
         refine J.ns (Cj.ret (Ej.blkRet (Ej.seqRet (Ej.bare ?_))))
         refine q6 ?_
         refine ⟨?_, rfl, rfl⟩
         refine congrArg (fun l => Ending.returned (str l)) ?_
         unfold Ke.char
         rw [if_neg (by omega), if_neg (by omega), if_neg (by omega), if_neg (by omega), hx]
         simp only
         rw [if_neg (by omega), if_neg (by omega), if_pos (by omega)]; exact (congrArg (fun n : Int => (Utf8.encode n).data.toList) (by omega)).trans (Ke.enc_encode (c := c + 32) (by unfold Ke.okc; omega))
        have hg31p := bne_f hg31
        refine q3 10 87 false hg31 (q2 q0 ?_)
        refine q3 10 87 false hg31 (q2 q34 ?_)
        refine q3 10 87 false hg31 (q2 q0 ?_)
        refine q15 90 (fun hg34 => ?_) (fun hg34 => ?_)
        ·
         have hg34p := odt hg34
         refine q3 13 90 true hg34 (q2 q0 ?_)
         refine q3 13 90 true hg34 (q2 q36 ?_)
         refine q3 10 87 false hg31 (q2 (q11 hg34) ?_)
         refine J.z (q9 hg31) ?_
         refine J.z q1 ?_
         refine J.cd (fun hc35 => ?_) (fun hc35 => ?_)
         ·
          have hc35p := odt hc35
          refine Cj.sr (J.z q0 ?_)
          refine J.z (yl_add rfl rfl rfl (i32w (by omega))) ?_
          refine J.op rfl (q23 tU129 tS21 tZ21 ?_)
          intro b36 hb36
          refine J.z (q46 tU129 tU9 tU21) ?_
          refine J.z q1 ?_
          refine J.ns (Cj.ret (Ej.blkRet (Ej.seqRet (Ej.bare ?_))))
          refine q6 ?_
          refine ⟨?_, rfl, rfl⟩
          refine congrArg (fun l => Ending.returned (str l)) ?_
          unfold Ke.char
          rw [if_neg (by omega), if_neg (by omega), if_neg (by omega), if_neg (by omega), hx]
          simp only
          rw [if_neg (by omega), if_neg (by omega), if_pos (by omega)]; exact (congrArg (fun n : Int => (Utf8.encode n).data.toList) (by omega)).trans (Ke.enc_encode (c := c + 32) (by unfold Ke.okc; omega))
         have hc35p := odf hc35
         refine Cj.skip (Ej.blkNormal ?_)
         exact hcut () _ _ _ ⟨by omega, by omega, by omega, by omega, hx, by omega, by omega, by omega⟩ ⟨rfl, trivial⟩ rfl rfl
        have hg34p := odf hg34
        refine q4 13 90 91 true hg34 ?_
        refine q4 13 90 92 true hg34 ?_
        refine q3 10 87 false hg31 (q2 (q9 hg34) ?_)
        refine J.z (q9 hg31) ?_
        refine J.z q1 ?_
        refine J.c0 (fun hc37 => ?_)
        refine Cj.skip (Ej.blkNormal ?_)
        exact hcut () _ _ _ ⟨by omega, by omega, by omega, by omega, hx, by omega, by omega, by omega⟩ ⟨rfl, trivial⟩ rfl rfl
       have hg30p := odf hg30
       refine q4 6 83 84 true hg30 ?_
       refine q4 6 83 85 true hg30 ?_
       refine J.z (q9 hg30) ?_
       refine J.z q0 ?_
       refine q17 10 87 false (q2 q0 ?_)
       refine q17 10 87 false (q2 q34 ?_)
       refine q17 10 87 false (q2 q0 ?_)
       refine q15 90 (fun hg38 => ?_) (fun hg38 => ?_)
       ·
        have hg38p := odt hg38
        refine q3 13 90 true hg38 (q2 q0 ?_)
        refine q3 13 90 true hg38 (q2 q36 ?_)
        refine q17 10 87 false (q2 (q11 hg38) ?_)
        refine J.z q30 ?_
        refine J.z q1 ?_
        refine J.cd (fun hc39 => ?_) (fun hc39 => ?_)
        ·
         have hc39p := odt hc39
         refine Cj.sr (J.z q0 ?_)
         refine J.z (yl_add rfl rfl rfl (i32w (by omega))) ?_
         refine J.op rfl (q23 tU129 tS21 tZ21 ?_)
         intro b40 hb40
         refine J.z (q46 tU129 tU9 tU21) ?_
         refine J.z q1 ?_
         refine J.ns (Cj.ret (Ej.blkRet (Ej.seqRet (Ej.bare ?_))))
         refine q6 ?_
         refine ⟨?_, rfl, rfl⟩
         refine congrArg (fun l => Ending.returned (str l)) ?_
         unfold Ke.char
         rw [if_neg (by omega), if_neg (by omega), if_neg (by omega), if_neg (by omega), hx]
         simp only
         rw [if_neg (by omega), if_neg (by omega), if_pos (by omega)]; exact (congrArg (fun n : Int => (Utf8.encode n).data.toList) (by omega)).trans (Ke.enc_encode (c := c + 32) (by unfold Ke.okc; omega))
        have hc39p := odf hc39
        refine Cj.skip (Ej.blkNormal ?_)
        exact hcut () _ _ _ ⟨by omega, by omega, by omega, by omega, hx, by omega, by omega, by omega⟩ ⟨rfl, trivial⟩ rfl rfl
       have hg38p := odf hg38
       refine q4 13 90 91 true hg38 ?_
       refine q4 13 90 92 true hg38 ?_
       refine q17 10 87 false (q2 (q9 hg38) ?_)
       refine J.z q30 ?_
       refine J.z q1 ?_
       refine J.c0 (fun hc41 => ?_)
       refine Cj.skip (Ej.blkNormal ?_)
       exact hcut () _ _ _ ⟨by omega, by omega, by omega, by omega, hx, by omega, by omega, by omega⟩ ⟨rfl, trivial⟩ rfl rfl
      have hg29p := odf hg29
      refine q4 2 79 80 true hg29 ?_
      refine q4 2 79 81 true hg29 ?_
      refine J.z (q9 hg29) ?_
      refine J.z q0 ?_
      refine q33 6 83 84 true ?_
      refine q33 6 83 85 true ?_
      refine J.z q30 ?_
      refine J.z q0 ?_
      refine q17 10 87 false (q2 q0 ?_)
      refine q17 10 87 false (q2 q34 ?_)
      refine q17 10 87 false (q2 q0 ?_)
      refine q15 90 (fun hg42 => ?_) (fun hg42 => ?_)
      ·
       have hg42p := odt hg42
       refine q3 13 90 true hg42 (q2 q0 ?_)
       refine q3 13 90 true hg42 (q2 q36 ?_)
       refine q17 10 87 false (q2 (q11 hg42) ?_)
       refine J.z q30 ?_
       refine J.z q1 ?_
       refine J.cd (fun hc43 => ?_) (fun hc43 => ?_)
       ·
        have hc43p := odt hc43
        refine Cj.sr (J.z q0 ?_)
        refine J.z (yl_add rfl rfl rfl (i32w (by omega))) ?_
        refine J.op rfl (q23 tU129 tS21 tZ21 ?_)
        intro b44 hb44
        refine J.z (q46 tU129 tU9 tU21) ?_
        refine J.z q1 ?_
        refine J.ns (Cj.ret (Ej.blkRet (Ej.seqRet (Ej.bare ?_))))
        refine q6 ?_
        refine ⟨?_, rfl, rfl⟩
        refine congrArg (fun l => Ending.returned (str l)) ?_
        unfold Ke.char
        rw [if_neg (by omega), if_neg (by omega), if_neg (by omega), if_neg (by omega), hx]
        simp only
        rw [if_neg (by omega), if_neg (by omega), if_pos (by omega)]; exact (congrArg (fun n : Int => (Utf8.encode n).data.toList) (by omega)).trans (Ke.enc_encode (c := c + 32) (by unfold Ke.okc; omega))
       have hc43p := odf hc43
       refine Cj.skip (Ej.blkNormal ?_)
       exact hcut () _ _ _ ⟨by omega, by omega, by omega, by omega, hx, by omega, by omega, by omega⟩ ⟨rfl, trivial⟩ rfl rfl
      have hg42p := odf hg42
      refine q4 13 90 91 true hg42 ?_
      refine q4 13 90 92 true hg42 ?_
      refine q17 10 87 false (q2 (q9 hg42) ?_)
      refine J.z q30 ?_
      refine J.z q1 ?_
      refine J.c0 (fun hc45 => ?_)
      refine Cj.skip (Ej.blkNormal ?_)
      exact hcut () _ _ _ ⟨by omega, by omega, by omega, by omega, hx, by omega, by omega, by omega⟩ ⟨rfl, trivial⟩ rfl rfl
     have hg4p := odf hg4
     refine q4 2 61 62 true hg4 ?_
     refine q4 2 61 63 true hg4 ?_
     refine J.z (q9 hg4) ?_
     refine J.z q0 ?_
     refine q17 6 65 false (q2 q0 ?_)
     refine q17 6 65 false (q2 q34 ?_)
     refine q17 6 65 false (q2 q0 ?_)
     refine q15 68 (fun hg46 => ?_) (fun hg46 => ?_)
     ·
      have hg46p := odt hg46
      refine q3 9 68 true hg46 (q2 q0 ?_)
      refine q3 9 68 true hg46 (q2 q36 ?_)
      refine q17 6 65 false (q2 (q11 hg46) ?_)
      refine J.z q30 ?_
      refine J.z q1 ?_
      refine J.cd (fun hc47 => ?_) (fun hc47 => ?_)
      ·
       have hc47p := odt hc47
       refine Cj.sr (J.z q0 ?_)
       refine J.op rfl (q23 tU129 tS21 tZ21 ?_)
       intro b48 hb48
       refine J.z (q46 tU129 tU9 tU21) ?_
       refine J.z q1 ?_
       refine J.ns (Cj.ret (Ej.blkRet (Ej.seqRet (Ej.bare ?_))))
       refine q6 ?_
       refine ⟨?_, rfl, rfl⟩
       refine congrArg (fun l => Ending.returned (str l)) ?_
       unfold Ke.char
       rw [if_neg (by omega), if_neg (by omega), if_neg (by omega), if_neg (by omega), hx]
       simp only
       rw [if_neg (by omega), if_pos (by omega)]; exact Ke.enc_encode (by unfold Ke.okc; omega)
      have hc47p := odf hc47
      refine Cj.sr (J.z q0 ?_)
      refine J.z q34 ?_
      refine J.z q0 ?_
      refine q15 79 (fun hg49 => ?_) (fun hg49 => ?_)
      ·
       have hg49p := odt hg49
       refine q3 2 79 true hg49 (q2 q0 ?_)
       refine q3 2 79 true hg49 (q2 q36 ?_)
       refine J.z (q11 hg49) ?_
       refine J.z q0 ?_
       refine q15 83 (fun hg50 => ?_) (fun hg50 => ?_)
       ·
        have hg50p := odt hg50
        refine q3 6 83 true hg50 (q2 q0 ?_)
        refine q3 6 83 true hg50 (q2 q45 ?_)
        refine J.z (q11 hg50) ?_
        refine J.z q0 ?_
        refine q15 87 (fun hg51 => ?_) (fun hg51 => ?_)
        ·
         have hg51p := bne_iff_ne.1 hg51
         refine q4 10 87 88 false hg51 ?_
         refine q4 10 87 89 false hg51 ?_
         refine q4 10 87 90 false hg51 ?_
         refine J.skipU 13 90 91 true rfl rfl rfl rfl rfl ?_
         refine J.skipU 13 90 92 true rfl rfl rfl rfl rfl ?_
         refine q4 10 87 93 false hg51 ?_
         refine J.z (q11 hg51) ?_
         refine J.z q1 ?_
         refine J.c1 (fun hc52 => ?_)
         refine Cj.sr (J.z q0 ?_)
         refine J.z (yl_add rfl rfl rfl (i32w (by omega))) ?_
         refine J.op rfl (q23 tU129 tS21 tZ21 ?_)
         intro b53 hb53
         refine J.z (q46 tU129 tU9 tU21) ?_
         refine J.z q1 ?_
         refine J.ns (Cj.ret (Ej.blkRet (Ej.seqRet (Ej.bare ?_))))
         refine q6 ?_
         refine ⟨?_, rfl, rfl⟩
         refine congrArg (fun l => Ending.returned (str l)) ?_
         unfold Ke.char
         rw [if_neg (by omega), if_neg (by omega), if_neg (by omega), if_neg (by omega), hx]
         simp only
         rw [if_neg (by omega), if_neg (by omega), if_pos (by omega)]; exact (congrArg (fun n : Int => (Utf8.encode n).data.toList) (by omega)).trans (Ke.enc_encode (c := c + 32) (by unfold Ke.okc; omega))
        have hg51p := bne_f hg51
        refine q3 10 87 false hg51 (q2 q0 ?_)
        refine q3 10 87 false hg51 (q2 q34 ?_)
        refine q3 10 87 false hg51 (q2 q0 ?_)
        refine q15 90 (fun hg54 => ?_) (fun hg54 => ?_)
        ·
         have hg54p := odt hg54
         refine q3 13 90 true hg54 (q2 q0 ?_)
         refine q3 13 90 true hg54 (q2 q36 ?_)
         refine q3 10 87 false hg51 (q2 (q11 hg54) ?_)
         refine J.z (q9 hg51) ?_
         refine J.z q1 ?_
         refine J.cd (fun hc55 => ?_) (fun hc55 => ?_)
         ·
          have hc55p := odt hc55
          refine Cj.sr (J.z q0 ?_)
          refine J.z (yl_add rfl rfl rfl (i32w (by omega))) ?_
          refine J.op rfl (q23 tU129 tS21 tZ21 ?_)
          intro b56 hb56
          refine J.z (q46 tU129 tU9 tU21) ?_
          refine J.z q1 ?_
          refine J.ns (Cj.ret (Ej.blkRet (Ej.seqRet (Ej.bare ?_))))
          refine q6 ?_
          refine ⟨?_, rfl, rfl⟩
          refine congrArg (fun l => Ending.returned (str l)) ?_
          unfold Ke.char
          rw [if_neg (by omega), if_neg (by omega), if_neg (by omega), if_neg (by omega), hx]
          simp only
          rw [if_neg (by omega), if_neg (by omega), if_pos (by omega)]; exact (congrArg (fun n : Int => (Utf8.encode n).data.toList) (by omega)).trans (Ke.enc_encode (c := c + 32) (by unfold Ke.okc; omega))
         have hc55p := odf hc55
         refine Cj.skip (Ej.blkNormal ?_)
         exact hcut () _ _ _ ⟨by omega, by omega, by omega, by omega, hx, by omega, by omega, by omega⟩ ⟨rfl, trivial⟩ rfl rfl
        have hg54p := odf hg54
        refine q4 13 90 91 true hg54 ?_
        refine q4 13 90 92 true hg54 ?_
        refine q3 10 87 false hg51 (q2 (q9 hg54) ?_)
        refine J.z (q9 hg51) ?_
        refine J.z q1 ?_
        refine J.c0 (fun hc57 => ?_)
        refine Cj.skip (Ej.blkNormal ?_)
        exact hcut () _ _ _ ⟨by omega, by omega, by omega, by omega, hx, by omega, by omega, by omega⟩ ⟨rfl, trivial⟩ rfl rfl
       have hg50p := odf hg50
       refine q4 6 83 84 true hg50 ?_
       refine q4 6 83 85 true hg50 ?_
       refine J.z (q9 hg50) ?_
       refine J.z q0 ?_
       refine q17 10 87 false (q2 q0 ?_)
       refine q17 10 87 false (q2 q34 ?_)
       refine q17 10 87 false (q2 q0 ?_)
       refine q15 90 (fun hg58 => ?_) (fun hg58 => ?_)
       ·
        have hg58p := odt hg58
        refine q3 13 90 true hg58 (q2 q0 ?_)
        refine q3 13 90 true hg58 (q2 q36 ?_)
        refine q17 10 87 false (q2 (q11 hg58) ?_)
        refine J.z q30 ?_
        refine J.z q1 ?_
        refine J.cd (fun hc59 => ?_) (fun hc59 => ?_)
        ·
         have hc59p := odt hc59
         refine Cj.sr (J.z q0 ?_)
         refine J.z (yl_add rfl rfl rfl (i32w (by omega))) ?_
         refine J.op rfl (q23 tU129 tS21 tZ21 ?_)
         intro b60 hb60
         refine J.z (q46 tU129 tU9 tU21) ?_
         refine J.z q1 ?_
         refine J.ns (Cj.ret (Ej.blkRet (Ej.seqRet (Ej.bare ?_))))
         refine q6 ?_
         refine ⟨?_, rfl, rfl⟩
         refine congrArg (fun l => Ending.returned (str l)) ?_
         unfold Ke.char
         rw [if_neg (by omega), if_neg (by omega), if_neg (by omega), if_neg (by omega), hx]
         simp only
         rw [if_neg (by omega), if_neg (by omega), if_pos (by omega)]; exact (congrArg (fun n : Int => (Utf8.encode n).data.toList) (by omega)).trans (Ke.enc_encode (c := c + 32) (by unfold Ke.okc; omega))
        have hc59p := odf hc59
        refine Cj.skip (Ej.blkNormal ?_)
        exact hcut () _ _ _ ⟨by omega, by omega, by omega, by omega, hx, by omega, by omega, by omega⟩ ⟨rfl, trivial⟩ rfl rfl
       have hg58p := odf hg58
       refine q4 13 90 91 true hg58 ?_
       refine q4 13 90 92 true hg58 ?_
       refine q17 10 87 false (q2 (q9 hg58) ?_)
       refine J.z q30 ?_
       refine J.z q1 ?_
       refine J.c0 (fun hc61 => ?_)
       refine Cj.skip (Ej.blkNormal ?_)
       exact hcut () _ _ _ ⟨by omega, by omega, by omega, by omega, hx, by omega, by omega, by omega⟩ ⟨rfl, trivial⟩ rfl rfl
      have hg49p := odf hg49
      refine q4 2 79 80 true hg49 ?_
      refine q4 2 79 81 true hg49 ?_
      refine J.z (q9 hg49) ?_
      refine J.z q0 ?_
      refine q33 6 83 84 true ?_
      refine q33 6 83 85 true ?_
      refine J.z q30 ?_
      refine J.z q0 ?_
      refine q17 10 87 false (q2 q0 ?_)
      refine q17 10 87 false (q2 q34 ?_)
      refine q17 10 87 false (q2 q0 ?_)
      refine q15 90 (fun hg62 => ?_) (fun hg62 => ?_)
      ·
       have hg62p := odt hg62
       refine q3 13 90 true hg62 (q2 q0 ?_)
       refine q3 13 90 true hg62 (q2 q36 ?_)
       refine q17 10 87 false (q2 (q11 hg62) ?_)
       refine J.z q30 ?_
       refine J.z q1 ?_
       refine J.cd (fun hc63 => ?_) (fun hc63 => ?_)
       ·
        have hc63p := odt hc63
        refine Cj.sr (J.z q0 ?_)
        refine J.z (yl_add rfl rfl rfl (i32w (by omega))) ?_
        refine J.op rfl (q23 tU129 tS21 tZ21 ?_)
        intro b64 hb64
        refine J.z (q46 tU129 tU9 tU21) ?_
        refine J.z q1 ?_
        refine J.ns (Cj.ret (Ej.blkRet (Ej.seqRet (Ej.bare ?_))))
        refine q6 ?_
        refine ⟨?_, rfl, rfl⟩
        refine congrArg (fun l => Ending.returned (str l)) ?_
        unfold Ke.char
        rw [if_neg (by omega), if_neg (by omega), if_neg (by omega), if_neg (by omega), hx]
        simp only
        rw [if_neg (by omega), if_neg (by omega), if_pos (by omega)]; exact (congrArg (fun n : Int => (Utf8.encode n).data.toList) (by omega)).trans (Ke.enc_encode (c := c + 32) (by unfold Ke.okc; omega))
       have hc63p := odf hc63
       refine Cj.skip (Ej.blkNormal ?_)
       exact hcut () _ _ _ ⟨by omega, by omega, by omega, by omega, hx, by omega, by omega, by omega⟩ ⟨rfl, trivial⟩ rfl rfl
      have hg62p := odf hg62
      refine q4 13 90 91 true hg62 ?_
      refine q4 13 90 92 true hg62 ?_
      refine q17 10 87 false (q2 (q9 hg62) ?_)
      refine J.z q30 ?_
      refine J.z q1 ?_
      refine J.c0 (fun hc65 => ?_)
      refine Cj.skip (Ej.blkNormal ?_)
      exact hcut () _ _ _ ⟨by omega, by omega, by omega, by omega, hx, by omega, by omega, by omega⟩ ⟨rfl, trivial⟩ rfl rfl
     have hg46p := odf hg46
     refine q4 9 68 69 true hg46 ?_
     refine q4 9 68 70 true hg46 ?_
     refine q17 6 65 false (q2 (q9 hg46) ?_)
     refine J.z q30 ?_
     refine J.z q1 ?_
     refine J.c0 (fun hc66 => ?_)
     refine Cj.sr (J.z q0 ?_)
     refine J.z q34 ?_
     refine J.z q0 ?_
     refine q15 79 (fun hg67 => ?_) (fun hg67 => ?_)
     ·
      have hg67p := odt hg67
      refine q3 2 79 true hg67 (q2 q0 ?_)
      refine q3 2 79 true hg67 (q2 q36 ?_)
      refine J.z (q11 hg67) ?_
      refine J.z q0 ?_
      refine q15 83 (fun hg68 => ?_) (fun hg68 => ?_)
      ·
       have hg68p := odt hg68
       refine q3 6 83 true hg68 (q2 q0 ?_)
       refine q3 6 83 true hg68 (q2 q45 ?_)
       refine J.z (q11 hg68) ?_
       refine J.z q0 ?_
       refine q15 87 (fun hg69 => ?_) (fun hg69 => ?_)
       ·
        have hg69p := bne_iff_ne.1 hg69
        refine q4 10 87 88 false hg69 ?_
        refine q4 10 87 89 false hg69 ?_
        refine q4 10 87 90 false hg69 ?_
        refine J.skipU 13 90 91 true rfl rfl rfl rfl rfl ?_
        refine J.skipU 13 90 92 true rfl rfl rfl rfl rfl ?_
        refine q4 10 87 93 false hg69 ?_
        refine J.z (q11 hg69) ?_
        refine J.z q1 ?_
        refine J.c1 (fun hc70 => ?_)
        refine Cj.sr (J.z q0 ?_)
        refine J.z (yl_add rfl rfl rfl (i32w (by omega))) ?_
        refine J.op rfl (q23 tU129 tS21 tZ21 ?_)
        intro b71 hb71
        refine J.z (q46 tU129 tU9 tU21) ?_
        refine J.z q1 ?_
        refine J.ns (Cj.ret (Ej.blkRet (Ej.seqRet (Ej.bare ?_))))
        refine q6 ?_
        refine ⟨?_, rfl, rfl⟩
        refine congrArg (fun l => Ending.returned (str l)) ?_
        unfold Ke.char
        rw [if_neg (by omega), if_neg (by omega), if_neg (by omega), if_neg (by omega), hx]
        simp only
        rw [if_neg (by omega), if_neg (by omega), if_pos (by omega)]; exact (congrArg (fun n : Int => (Utf8.encode n).data.toList) (by omega)).trans (Ke.enc_encode (c := c + 32) (by unfold Ke.okc; omega))
       have hg69p := bne_f hg69
       refine q3 10 87 false hg69 (q2 q0 ?_)
       refine q3 10 87 false hg69 (q2 q34 ?_)
       refine q3 10 87 false hg69 (q2 q0 ?_)
       refine q15 90 (fun hg72 => ?_) (fun hg72 => ?_)
       ·
        have hg72p := odt hg72
        refine q3 13 90 true hg72 (q2 q0 ?_)
        refine q3 13 90 true hg72 (q2 q36 ?_)
        refine q3 10 87 false hg69 (q2 (q11 hg72) ?_)
        refine J.z (q9 hg69) ?_
        refine J.z q1 ?_
        refine J.cd (fun hc73 => ?_) (fun hc73 => ?_)
        ·
         have hc73p := odt hc73
         refine Cj.sr (J.z q0 ?_)
         refine J.z (yl_add rfl rfl rfl (i32w (by omega))) ?_
         refine J.op rfl (q23 tU129 tS21 tZ21 ?_)
         intro b74 hb74
         refine J.z (q46 tU129 tU9 tU21) ?_
         refine J.z q1 ?_
         refine J.ns (Cj.ret (Ej.blkRet (Ej.seqRet (Ej.bare ?_))))
         refine q6 ?_
         refine ⟨?_, rfl, rfl⟩
         refine congrArg (fun l => Ending.returned (str l)) ?_
         unfold Ke.char
         rw [if_neg (by omega), if_neg (by omega), if_neg (by omega), if_neg (by omega), hx]
         simp only
         rw [if_neg (by omega), if_neg (by omega), if_pos (by omega)]; exact (congrArg (fun n : Int => (Utf8.encode n).data.toList) (by omega)).trans (Ke.enc_encode (c := c + 32) (by unfold Ke.okc; omega))
        have hc73p := odf hc73
        refine Cj.skip (Ej.blkNormal ?_)
        exact hcut () _ _ _ ⟨by omega, by omega, by omega, by omega, hx, by omega, by omega, by omega⟩ ⟨rfl, trivial⟩ rfl rfl
       have hg72p := odf hg72
       refine q4 13 90 91 true hg72 ?_
       refine q4 13 90 92 true hg72 ?_
       refine q3 10 87 false hg69 (q2 (q9 hg72) ?_)
       refine J.z (q9 hg69) ?_
       refine J.z q1 ?_
       refine J.c0 (fun hc75 => ?_)
       refine Cj.skip (Ej.blkNormal ?_)
       exact hcut () _ _ _ ⟨by omega, by omega, by omega, by omega, hx, by omega, by omega, by omega⟩ ⟨rfl, trivial⟩ rfl rfl
      have hg68p := odf hg68
      refine q4 6 83 84 true hg68 ?_
      refine q4 6 83 85 true hg68 ?_
      refine J.z (q9 hg68) ?_
      refine J.z q0 ?_
      refine q17 10 87 false (q2 q0 ?_)
      refine q17 10 87 false (q2 q34 ?_)
      refine q17 10 87 false (q2 q0 ?_)
      refine q15 90 (fun hg76 => ?_) (fun hg76 => ?_)
      ·
       have hg76p := odt hg76
       refine q3 13 90 true hg76 (q2 q0 ?_)
       refine q3 13 90 true hg76 (q2 q36 ?_)
       refine q17 10 87 false (q2 (q11 hg76) ?_)
       refine J.z q30 ?_
       refine J.z q1 ?_
       refine J.cd (fun hc77 => ?_) (fun hc77 => ?_)
       ·
        have hc77p := odt hc77
        refine Cj.sr (J.z q0 ?_)
        refine J.z (yl_add rfl rfl rfl (i32w (by omega))) ?_
        refine J.op rfl (q23 tU129 tS21 tZ21 ?_)
        intro b78 hb78
        refine J.z (q46 tU129 tU9 tU21) ?_
        refine J.z q1 ?_
        refine J.ns (Cj.ret (Ej.blkRet (Ej.seqRet (Ej.bare ?_))))
        refine q6 ?_
        refine ⟨?_, rfl, rfl⟩
        refine congrArg (fun l => Ending.returned (str l)) ?_
        unfold Ke.char
        rw [if_neg (by omega), if_neg (by omega), if_neg (by omega), if_neg (by omega), hx]
        simp only
        rw [if_neg (by omega), if_neg (by omega), if_pos (by omega)]; exact (congrArg (fun n : Int => (Utf8.encode n).data.toList) (by omega)).trans (Ke.enc_encode (c := c + 32) (by unfold Ke.okc; omega))
       have hc77p := odf hc77
       refine Cj.skip (Ej.blkNormal ?_)
       exact hcut () _ _ _ ⟨by omega, by omega, by omega, by omega, hx, by omega, by omega, by omega⟩ ⟨rfl, trivial⟩ rfl rfl
      have hg76p := odf hg76
      refine q4 13 90 91 true hg76 ?_
      refine q4 13 90 92 true hg76 ?_
      refine q17 10 87 false (q2 (q9 hg76) ?_)
      refine J.z q30 ?_
      refine J.z q1 ?_
      refine J.c0 (fun hc79 => ?_)
      refine Cj.skip (Ej.blkNormal ?_)
      exact hcut () _ _ _ ⟨by omega, by omega, by omega, by omega, hx, by omega, by omega, by omega⟩ ⟨rfl, trivial⟩ rfl rfl
     have hg67p := odf hg67
     refine q4 2 79 80 true hg67 ?_
     refine q4 2 79 81 true hg67 ?_
     refine J.z (q9 hg67) ?_
     refine J.z q0 ?_
     refine q33 6 83 84 true ?_
     refine q33 6 83 85 true ?_
     refine J.z q30 ?_
     refine J.z q0 ?_
     refine q17 10 87 false (q2 q0 ?_)
     refine q17 10 87 false (q2 q34 ?_)
     refine q17 10 87 false (q2 q0 ?_)
     refine q15 90 (fun hg80 => ?_) (fun hg80 => ?_)
     ·
      have hg80p := odt hg80
      refine q3 13 90 true hg80 (q2 q0 ?_)
      refine q3 13 90 true hg80 (q2 q36 ?_)
      refine q17 10 87 false (q2 (q11 hg80) ?_)
      refine J.z q30 ?_
      refine J.z q1 ?_
      refine J.cd (fun hc81 => ?_) (fun hc81 => ?_)
      ·
       have hc81p := odt hc81
       refine Cj.sr (J.z q0 ?_)
       refine J.z (yl_add rfl rfl rfl (i32w (by omega))) ?_
       refine J.op rfl (q23 tU129 tS21 tZ21 ?_)
       intro b82 hb82
       refine J.z (q46 tU129 tU9 tU21) ?_
       refine J.z q1 ?_
       refine J.ns (Cj.ret (Ej.blkRet (Ej.seqRet (Ej.bare ?_))))
       refine q6 ?_
       refine ⟨?_, rfl, rfl⟩
       refine congrArg (fun l => Ending.returned (str l)) ?_
       unfold Ke.char
       rw [if_neg (by omega), if_neg (by omega), if_neg (by omega), if_neg (by omega), hx]
       simp only
       rw [if_neg (by omega), if_neg (by omega), if_pos (by omega)]; exact (congrArg (fun n : Int => (Utf8.encode n).data.toList) (by omega)).trans (Ke.enc_encode (c := c + 32) (by unfold Ke.okc; omega))
      have hc81p := odf hc81
      refine Cj.skip (Ej.blkNormal ?_)
      exact hcut () _ _ _ ⟨by omega, by omega, by omega, by omega, hx, by omega, by omega, by omega⟩ ⟨rfl, trivial⟩ rfl rfl
     have hg80p := odf hg80
     refine q4 13 90 91 true hg80 ?_
     refine q4 13 90 92 true hg80 ?_
     refine q17 10 87 false (q2 (q9 hg80) ?_)
     refine J.z q30 ?_
     refine J.z q1 ?_
     refine J.c0 (fun hc83 => ?_)
     refine Cj.skip (Ej.blkNormal ?_)
     exact hcut () _ _ _ ⟨by omega, by omega, by omega, by omega, hx, by omega, by omega, by omega⟩ ⟨rfl, trivial⟩ rfl rfl
    refine Cj.sr (J.z q0 ?_)
    refine J.z q34 ?_
    refine J.z q0 ?_
    refine q15 35 (fun hg84 => ?_) (fun hg84 => ?_)
    ·
     have hg84p := odt hg84
     refine q3 2 35 true hg84 (q2 q0 ?_)
     refine q3 2 35 true hg84 (q2 q36 ?_)
     refine J.z (q11 hg84) ?_
     refine J.z q0 ?_
     refine q15 39 (fun hg85 => ?_) (fun hg85 => ?_)
     ·
      have hg85p := odt hg85
      refine q4 6 39 40 false hg85 ?_
      refine q4 6 39 41 false hg85 ?_
      refine q4 6 39 42 false hg85 ?_
      refine J.skipU 9 42 43 true rfl rfl rfl rfl rfl ?_
      refine J.skipU 9 42 44 true rfl rfl rfl rfl rfl ?_
      refine q4 6 39 45 false hg85 ?_
      refine J.z (q11 hg85) ?_
      refine J.c1 (fun hc86 => ?_)
      refine Cj.sr (J.z q1 ?_)
      refine J.ns (Cj.rs (q6 ?_))
      refine ⟨?_, rfl, rfl⟩
      refine congrArg (fun l => Ending.returned (str l)) ?_
      unfold Ke.char
      rw [if_neg (by omega), if_neg (by omega), if_neg (by omega), if_pos (by omega)]
     have hg85p := odf hg85
     refine q3 6 39 false hg85 (q2 q0 ?_)
     refine q3 6 39 false hg85 (q2 q34 ?_)
     refine q3 6 39 false hg85 (q2 q0 ?_)
     refine q15 42 (fun hg87 => ?_) (fun hg87 => ?_)
     ·
      have hg87p := odt hg87
      refine q3 9 42 true hg87 (q2 q0 ?_)
      refine q3 9 42 true hg87 (q2 q36 ?_)
      refine q3 6 39 false hg85 (q2 (q11 hg87) ?_)
      refine J.z (q9 hg85) ?_
      refine J.cd (fun hc88 => ?_) (fun hc88 => ?_)
      ·
       have hc88p := odt hc88
       refine Cj.sr (J.z q1 ?_)
       refine J.ns (Cj.rs (q6 ?_))
       refine ⟨?_, rfl, rfl⟩
       refine congrArg (fun l => Ending.returned (str l)) ?_
       unfold Ke.char
       rw [if_neg (by omega), if_neg (by omega), if_neg (by omega), if_pos (by omega)]
      have hc88p := odf hc88
      refine Cj.skip ?_
      exact hcut () _ _ _ ⟨by omega, by omega, by omega, by omega⟩ ⟨rfl, trivial⟩ rfl rfl
     have hg87p := odf hg87
     refine q4 9 42 43 true hg87 ?_
     refine q4 9 42 44 true hg87 ?_
     refine q3 6 39 false hg85 (q2 (q9 hg87) ?_)
     refine J.z (q9 hg85) ?_
     refine J.c0 (fun hc89 => ?_)
     refine Cj.skip ?_
     exact hcut () _ _ _ ⟨by omega, by omega, by omega, by omega⟩ ⟨rfl, trivial⟩ rfl rfl
    have hg84p := odf hg84
    refine q4 2 35 36 true hg84 ?_
    refine q4 2 35 37 true hg84 ?_
    refine J.z (q9 hg84) ?_
    refine J.z q0 ?_
    refine q17 6 39 false (q2 q0 ?_)
    refine q17 6 39 false (q2 q34 ?_)
    refine q17 6 39 false (q2 q0 ?_)
    refine q15 42 (fun hg90 => ?_) (fun hg90 => ?_)
    ·
     have hg90p := odt hg90
     refine q3 9 42 true hg90 (q2 q0 ?_)
     refine q3 9 42 true hg90 (q2 q36 ?_)
     refine q17 6 39 false (q2 (q11 hg90) ?_)
     refine J.z q30 ?_
     refine J.cd (fun hc91 => ?_) (fun hc91 => ?_)
     ·
      have hc91p := odt hc91
      refine Cj.sr (J.z q1 ?_)
      refine J.ns (Cj.rs (q6 ?_))
      refine ⟨?_, rfl, rfl⟩
      refine congrArg (fun l => Ending.returned (str l)) ?_
      unfold Ke.char
      rw [if_neg (by omega), if_neg (by omega), if_neg (by omega), if_pos (by omega)]
     have hc91p := odf hc91
     refine Cj.skip ?_
     exact hcut () _ _ _ ⟨by omega, by omega, by omega, by omega⟩ ⟨rfl, trivial⟩ rfl rfl
    have hg90p := odf hg90
    refine q4 9 42 43 true hg90 ?_
    refine q4 9 42 44 true hg90 ?_
    refine q17 6 39 false (q2 (q9 hg90) ?_)
    refine J.z q30 ?_
    refine J.c0 (fun hc92 => ?_)
    refine Cj.skip ?_
    exact hcut () _ _ _ ⟨by omega, by omega, by omega, by omega⟩ ⟨rfl, trivial⟩ rfl rfl
   refine Cj.sr (J.z q0 ?_)
   refine J.z q16 ?_
   refine J.cd (fun hc93 => ?_) (fun hc93 => ?_)
   ·
    have hc93p := odt hc93
    refine Cj.sr (J.z q1 ?_)
    refine J.ns (Cj.rs (q6 ?_))
    refine ⟨?_, rfl, rfl⟩
    refine congrArg (fun l => Ending.returned (str l)) ?_
    unfold Ke.char
    rw [if_neg (by omega), if_neg (by omega), if_pos (by omega)]
   have hc93p := odf hc93
   refine Cj.skip ?_
   exact hcut () _ _ _ ⟨by omega, by omega, by omega⟩ ⟨rfl, trivial⟩ rfl rfl
  refine Cj.sr (J.z q0 ?_)
  refine J.z q34 ?_
  refine J.z q0 ?_
  refine q15 23 (fun hg94 => ?_) (fun hg94 => ?_)
  ·
   have hg94p := odt hg94
   refine q3 2 23 true hg94 (q2 q0 ?_)
   refine q3 2 23 true hg94 (q2 q36 ?_)
   refine J.z (q11 hg94) ?_
   refine J.cd (fun hc95 => ?_) (fun hc95 => ?_)
   ·
    have hc95p := odt hc95
    refine Cj.sr (J.z q0 ?_)
    refine J.z (yl_add rfl rfl rfl (i32w (by omega))) ?_
    refine J.op rfl (q23 tU129 tS21 tZ21 ?_)
    intro b96 hb96
    refine J.z (q46 tU129 tU9 tU21) ?_
    refine J.z q1 ?_
    refine J.ns (Cj.rs (Ej.bare ?_))
    refine q6 ?_
    refine ⟨?_, rfl, rfl⟩
    refine congrArg (fun l => Ending.returned (str l)) ?_
    unfold Ke.char
    rw [if_neg (by omega), if_pos (by omega)]; exact (congrArg (fun n : Int => (Utf8.encode n).data.toList) (by omega)).trans (Ke.enc_encode (c := c + 32) (by unfold Ke.okc; omega))
   have hc95p := odf hc95
   refine Cj.skip ?_
   exact hcut () _ _ _ ⟨by omega, by omega⟩ ⟨rfl, trivial⟩ rfl rfl
  have hg94p := odf hg94
  refine q4 2 23 24 true hg94 ?_
  refine q4 2 23 25 true hg94 ?_
  refine J.z (q9 hg94) ?_
  refine J.c0 (fun hc97 => ?_)
  refine Cj.skip ?_
  exact hcut () _ _ _ ⟨by omega, by omega⟩ ⟨rfl, trivial⟩ rfl rfl
 refine Cj.sr (J.z q0 ?_)
 refine J.z q34 ?_
 refine J.z q0 ?_
 refine q15 6 (fun hg98 => ?_) (fun hg98 => ?_)
 ·
  have hg98p := odt hg98
  refine q3 2 6 true hg98 (q2 q0 ?_)
  refine q3 2 6 true hg98 (q2 q36 ?_)
  refine J.z (q11 hg98) ?_
  refine J.z q0 ?_
  refine q15 10 (fun hg99 => ?_) (fun hg99 => ?_)
  ·
   have hg99p := odt hg99
   refine q4 6 10 11 false hg99 ?_
   refine q4 6 10 12 false hg99 ?_
   refine q4 6 10 13 false hg99 ?_
   refine J.skipU 9 13 14 true rfl rfl rfl rfl rfl ?_
   refine J.skipU 9 13 15 true rfl rfl rfl rfl rfl ?_
   refine q4 6 10 16 false hg99 ?_
   refine J.z (q11 hg99) ?_
   refine J.c1 (fun hc100 => ?_)
   refine Cj.sr (J.z q0 ?_)
   refine J.op rfl (q23 tU129 tS21 tZ21 ?_)
   intro b101 hb101
   refine J.z (q46 tU129 tU9 tU21) ?_
   refine J.z q1 ?_
   refine J.ns (Cj.rs (Ej.bare ?_))
   refine q6 ?_
   refine ⟨?_, rfl, rfl⟩
   refine congrArg (fun l => Ending.returned (str l)) ?_
   unfold Ke.char
   rw [if_pos (by omega)]; exact Ke.enc_encode (by unfold Ke.okc; omega)
  have hg99p := odf hg99
  refine q3 6 10 false hg99 (q2 q0 ?_)
  refine q3 6 10 false hg99 (q2 q34 ?_)
  refine q3 6 10 false hg99 (q2 q0 ?_)
  refine q15 13 (fun hg102 => ?_) (fun hg102 => ?_)
  ·
   have hg102p := odt hg102
   refine q3 9 13 true hg102 (q2 q0 ?_)
   refine q3 9 13 true hg102 (q2 q36 ?_)
   refine q3 6 10 false hg99 (q2 (q11 hg102) ?_)
   refine J.z (q9 hg99) ?_
   refine J.cd (fun hc103 => ?_) (fun hc103 => ?_)
   ·
    have hc103p := odt hc103
    refine Cj.sr (J.z q0 ?_)
    refine J.op rfl (q23 tU129 tS21 tZ21 ?_)
    intro b104 hb104
    refine J.z (q46 tU129 tU9 tU21) ?_
    refine J.z q1 ?_
    refine J.ns (Cj.rs (Ej.bare ?_))
    refine q6 ?_
    refine ⟨?_, rfl, rfl⟩
    refine congrArg (fun l => Ending.returned (str l)) ?_
    unfold Ke.char
    rw [if_pos (by omega)]; exact Ke.enc_encode (by unfold Ke.okc; omega)
   have hc103p := odf hc103
   refine Cj.skip ?_
   exact hcut () _ _ _ (by omega) ⟨rfl, trivial⟩ rfl rfl
  have hg102p := odf hg102
  refine q4 9 13 14 true hg102 ?_
  refine q4 9 13 15 true hg102 ?_
  refine q3 6 10 false hg99 (q2 (q9 hg102) ?_)
  refine J.z (q9 hg99) ?_
  refine J.c0 (fun hc105 => ?_)
  refine Cj.skip ?_
  exact hcut () _ _ _ (by omega) ⟨rfl, trivial⟩ rfl rfl
 have hg98p := odf hg98
 refine q4 2 6 7 true hg98 ?_
 refine q4 2 6 8 true hg98 ?_
 refine J.z (q9 hg98) ?_
 refine J.z q0 ?_
 refine q17 6 10 false (q2 q0 ?_)
 refine q17 6 10 false (q2 q34 ?_)
 refine q17 6 10 false (q2 q0 ?_)
 refine q15 13 (fun hg106 => ?_) (fun hg106 => ?_)
 ·
  have hg106p := odt hg106
  refine q3 9 13 true hg106 (q2 q0 ?_)
  refine q3 9 13 true hg106 (q2 q36 ?_)
  refine q17 6 10 false (q2 (q11 hg106) ?_)
  refine J.z q30 ?_
  refine J.cd (fun hc107 => ?_) (fun hc107 => ?_)
  ·
   have hc107p := odt hc107
   refine Cj.sr (J.z q0 ?_)
   refine J.op rfl (q23 tU129 tS21 tZ21 ?_)
   intro b108 hb108
   refine J.z (q46 tU129 tU9 tU21) ?_
   refine J.z q1 ?_
   refine J.ns (Cj.rs (Ej.bare ?_))
   refine q6 ?_
   refine ⟨?_, rfl, rfl⟩
   refine congrArg (fun l => Ending.returned (str l)) ?_
   unfold Ke.char
   rw [if_pos (by omega)]; exact Ke.enc_encode (by unfold Ke.okc; omega)
  have hc107p := odf hc107
  refine Cj.skip ?_
  exact hcut () _ _ _ (by omega) ⟨rfl, trivial⟩ rfl rfl
 have hg106p := odf hg106
 refine q4 9 13 14 true hg106 ?_
 refine q4 9 13 15 true hg106 ?_
 refine q17 6 10 false (q2 (q9 hg106) ?_)
 refine J.z q30 ?_
 refine J.c0 (fun hc109 => ?_)
 refine Cj.skip ?_
 exact hcut () _ _ _ (by omega) ⟨rfl, trivial⟩ rfl rfl
theorem rWords_ok (s : List UInt8) (hs : s.length ≤ 1000000000) (I : Heap) : Ctr Tryz.prog 47 [str s] I [] (fun e _I' H' => ∃ g, gOk 0 1 (Ke.words s).length ((Ke.words s).map str) g ∧ e = .returned (gV (Ke.words s).length g) ∧ H' = gH 9 ((Ke.words s).map str) g) := by
 have hrl := runes_lenS s
 refine Ctr.ob func47 ?_
 intro w0 hw0
 refine Cj.sr (J.z q1 ?_)
 refine J.nssr (J.z q1 ?_)
 refine J.nssr (J.z q1 ?_)
 refine J.nssr (J.z q0 ?_)
 refine J.op rfl (op_toRunes (runes_all s) rfl rfl rfl rfl tU9 tU129 tU21 ?_)
 intro b1 c2 sp3 hb1
 refine J.z q1 ?_
 refine J.nsss (Cj.region (J.z q1 ?_))
 refine J.ns (Cj.block (Cj.loop (ι := Nat × List UInt8 × List (List UInt8) × Gs) (fun x => x.1 ≤ (Ke.runes s).length ∧ Ke.words s = x.2.2.1 ++ Ke.wf x.2.1 ((Ke.runes s).drop x.1) ∧ x.2.1.length ≤ 4 * x.1 ∧ x.2.2.1.length ≤ x.1 ∧ gOk 0 1 x.2.2.1.length (x.2.2.1.map str) x.2.2.2) (fun x => (Ke.runes s).length - x.1) (fun x => [(3, gV x.2.2.1.length x.2.2.2), (4, str x.2.1), (5, .slice (some ⟨b1, 0, none⟩) (Ke.runes s).length c2), (6, i64 (x.1 : Int))]) (fun x => I) (fun x => (b1, cel 21 (rcs (Ke.runes s) ++ sp3)) :: gH 9 (x.2.2.1.map str) x.2.2.2) (0, [], [], none) ⟨Nat.zero_le _, rfl, Nat.zero_le _, Nat.zero_le _, rfl, rfl⟩ ⟨rfl, rfl, rfl, rfl, trivial⟩ rfl rfl ?_))
 rintro ⟨k, w, acc, g⟩ ⟨hk, hws, hwl, hal, hg⟩
 dsimp only at hk hws hwl hal hg ⊢
 refine Cj.seq (Cj.sr (J.z q0 ?_))
 refine J.z q0 ?_
 refine J.z (q14 tU129) ?_
 refine J.z q16 ?_
 refine J.cd (fun hc4 => ?_) (fun hc4 => ?_)
 ·
  have hc4p := odt hc4
  refine Cj.ks (Cj.seq (Cj.block (Cj.seq ?_)))
  have hlt : k < (Ke.runes s).length := by omega
  obtain ⟨c, hget⟩ : ∃ c, (Ke.runes s)[k]? = some c := ⟨_, lgg hlt⟩
  have hdr := drop_cons hget
  have hcl := Ke.char_len c
  have hcm : c ≤ 1114111 := Ke.runes_le _ _ c (lmg hget)
  refine Cj.region (J.z q0 ?_)
  refine J.z q0 ?_
  refine J.z (q20 (off' := k) tU129 tS21) ?_
  refine J.z (yl_load rfl rfl isAgg21 (Blk.at 0 rfl) (rcs_get hget)) ?_
  refine J.op rfl (op_pure rfl rfl rfl rfl rfl (rChar_ok c hcm _) ?_)
  refine J.z q1 ?_
  refine J.nsss (Cj.region (J.z q0 ?_))
  refine J.z (yl_neqStr rfl rfl rfl) ?_
  refine J.cd (fun hc5 => ?_) (fun hc5 => ?_)
  ·
   have hc5p := bne_iff_ne.1 hc5
   have hne : Ke.char c ≠ [32] := bne_iff_ne.1 hc5
   refine Cj.sr (J.z q0 ?_)
   refine J.z q0 ?_
   refine J.z (yl_cat rfl rfl rfl (by omega)) ?_
   refine J.z q1 ?_
   refine J.ns (Cj.exit (Ej.seqExit (Ej.blkExit (Ej.seq (Cj.region (J.z q0 ?_))))))
   refine J.z q7 ?_
   refine J.z q1 ?_
   refine J.nil (Ej.round (k + 1, w ++ Ke.char c, acc, g) ⟨by dsimp only; omega, by dsimp only; rw [hws, hdr, Ke.wf_in hne], by dsimp only; rw [List.length_append]; omega, by dsimp only; omega, hg⟩ (by dsimp only; omega) ⟨rfl, rfl, rfl, rfl, trivial⟩ rfl rfl)
  have hc5p := bne_f hc5
  have he : Ke.char c = [32] := bne_f hc5
  refine Cj.ks (Cj.seq (Cj.sr (J.z q0 ?_)))
  refine J.z (yl_neqStr rfl rfl rfl) ?_
  refine J.cd (fun hc6 => ?_) (fun hc6 => ?_)
  ·
   have hc6p := bne_iff_ne.1 hc6
   have hw : w ≠ [] := bne_iff_ne.1 hc6
   refine Cj.region (J.z q0 ?_)
   refine J.z q0 ?_
   refine J.op rfl (q23 tU28 tS9 tZ9 ?_)
   intro b7 hb7
   refine J.op rfl (op_appendB 0 (Nat.zero_le _) (by' := 15) [_, _] rfl rfl rfl rfl rfl tU28 (.inr ⟨_, tU28⟩) (by kernel_rfl) tS9 tZ9 rfl hg rfl (Src.slice (Blk.at 0 rfl) rfl rfl rfl) (by omega) ?_)
   intro g8 hg8
   refine J.z q1 ?_
   refine J.nsr (J.z q1 ?_)
   refine J.nb (Cj.region (J.z q0 ?_))
   refine J.z q7 ?_
   refine J.z q1 ?_
   refine J.nil (Ej.keep (Keeps.d (Keeps.k Keeps.r)) ?_)
   refine Ej.round (k + 1, [], acc ++ [w], g8) ⟨by dsimp only; omega, by dsimp only; rw [hws, hdr, Ke.wf_out he hw, List.append_assoc]; rfl, Nat.zero_le _, by dsimp only; rw [List.length_append]; simp only [List.length_cons, List.length_nil]; omega, by dsimp only; rw [List.map_append, List.length_append]; exact hg8⟩ (by dsimp only; omega) ⟨by dsimp only; rw [List.length_append]; rfl, rfl, rfl, rfl, trivial⟩ rfl (by dsimp only; rw [List.map_append]; rfl)
  have hc6p := bne_f hc6
  have hw : w = [] := bne_f hc6
  refine Cj.ks (Cj.region (J.z q1 ?_))
  refine J.nb (Cj.region (J.z q0 ?_))
  refine J.z q7 ?_
  refine J.z q1 ?_
  refine J.nil (Ej.round (k + 1, [], acc, g) ⟨by dsimp only; omega, by dsimp only; rw [hws, hdr, hw, Ke.wf_out0 he], Nat.zero_le _, by dsimp only; omega, hg⟩ (by dsimp only; omega) ⟨rfl, rfl, rfl, rfl, trivial⟩ rfl rfl)
 have hc4p := odf hc4
 have hfull : (Ke.runes s).drop k = [] := List.drop_eq_nil_of_le (by omega)
 refine Cj.xl (Cj.seq (Cj.sr (J.z q0 ?_)))
 refine J.z (yl_neqStr rfl rfl rfl) ?_
 refine J.cd (fun hc9 => ?_) (fun hc9 => ?_)
 ·
  have hc9p := bne_iff_ne.1 hc9
  have hw : w ≠ [] := bne_iff_ne.1 hc9
  have hres : Ke.words s = acc ++ [w] := by rw [hws, hfull, Ke.wf_end, if_neg hw]
  refine Cj.region (J.z q0 ?_)
  refine J.z q0 ?_
  refine J.op rfl (q23 tU28 tS9 tZ9 ?_)
  intro b10 hb10
  refine J.op rfl (op_appendB 0 (Nat.zero_le _) (by' := 15) [_, _] rfl rfl rfl rfl rfl tU28 (.inr ⟨_, tU28⟩) (by kernel_rfl) tS9 tZ9 rfl hg rfl (Src.slice (Blk.at 0 rfl) rfl rfl rfl) (by omega) ?_)
  intro g11 hg11
  refine J.z q1 ?_
  refine J.nssr (J.z q0 ?_)
  refine J.z q1 ?_
  refine J.ns (Cj.ret (Ej.keep (Keeps.d (Keeps.d Keeps.r)) ?_))
  refine q6 ?_
  rw [hres, List.map_append, List.length_append]
  exact ⟨g11, hg11, rfl, rfl⟩
 have hc9p := bne_f hc9
 have hw : w = [] := bne_f hc9
 have hres : Ke.words s = acc := by rw [hws, hfull, Ke.wf_end, if_pos hw, List.append_nil]
 refine Cj.ks (Cj.sr (J.z q0 ?_))
 refine J.z q1 ?_
 refine J.ns (Cj.ret (Ej.keep (Keeps.d Keeps.r) ?_))
 refine q6 ?_
 rw [hres]
 exact ⟨g, hg, rfl, rfl⟩
def mix (ws : List (List UInt8)) (j : Nat) : List (List UInt8) := (ws.take j).map Ke.sortWord ++ ws.drop j
theorem mix_len (ws : List (List UInt8)) (j : Nat) : (mix ws j).length = ws.length := by unfold mix; simp; omega
theorem mix_at {ws : List (List UInt8)} {j : Nat} {x : List UInt8} (h : ws[j]? = some x) : (mix ws j)[j]? = some x := by
  obtain ⟨hlt, hg⟩ := List.getElem?_eq_some_iff.1 h
  unfold mix
  rw [List.getElem?_append_right (by simp; omega), List.getElem?_drop, List.length_map, List.length_take, Nat.min_eq_left (by omega), Nat.sub_self, Nat.add_zero, h]
theorem mix_next {ws : List (List UInt8)} {j : Nat} {x : List UInt8} (h : ws[j]? = some x) : mix ws (j + 1) = (mix ws j).set j (Ke.sortWord x) := by
  obtain ⟨hlt, hg⟩ := List.getElem?_eq_some_iff.1 h
  unfold mix
  rw [List.take_succ_eq_append_getElem hlt, hg, List.map_append, drop_cons h, List.set_append_right _ _ (by simp; omega), List.length_map, List.length_take, Nat.min_eq_left (by omega), Nat.sub_self]
  simp
theorem mix_same {ws : List (List UInt8)} {j : Nat} {x : List UInt8} (h : ws[j]? = some x) (hs : Ke.sortWord x = x) : mix ws (j + 1) = mix ws j := by
  rw [mix_next h, hs]
  apply List.ext_getElem?
  intro i
  rw [List.getElem?_set]
  by_cases hi : j = i
  · subst hi; rw [if_pos rfl, mix_at h, if_pos (by rw [mix_len]; exact (List.getElem?_eq_some_iff.1 h).1)]
  rw [if_neg hi]
theorem mix_set {ws : List (List UInt8)} {j : Nat} {x : List UInt8} {sp : List Value} (h : ws[j]? = some x) : ((mix ws j).map str ++ sp).set j (str (Ke.sortWord x)) = (mix ws (j + 1)).map str ++ sp := by
  rw [mix_next h, List.set_append_left _ _ (by rw [List.length_map, mix_len]; exact (List.getElem?_eq_some_iff.1 h).1), List.map_set]
theorem mix_end (ws : List (List UInt8)) {j : Nat} (h : ¬ j < ws.length) : mix ws j = ws.map Ke.sortWord := by
  unfold mix
  rw [List.take_of_length_le (by omega), List.drop_eq_nil_of_le (by omega), List.append_nil]
theorem rSort_ok (s : List UInt8) (skip : Int) (hs : s.length ≤ 100000000) (I : Heap) : Pure Tryz.prog 61 [str s, i64 skip] I (str (Ke.sortKey s skip)) := by
 refine Ctr.toPure ?_
 have hcl : (Ke.cut s skip).length ≤ s.length := by unfold Ke.cut; simp
 have hwl := Ke.words_len (Ke.cut s skip)
 have hjl := Ke.sort_len (Ke.cut s skip)
 refine Ctr.ob func61 ?_
 intro w0 hw0
 refine Cj.sr (J.z q1 ?_)
 refine J.nssr (J.z q0 ?_)
 refine J.z q0 ?_
 refine J.z (yl_max2 rfl rfl rfl) ?_
 refine J.z q0 ?_
 refine J.z (q28 tU9) ?_
 refine J.z (yl_min2 rfl rfl rfl) ?_
 refine J.eqv 13 rfl (show _ = i64 (((min (max skip 0) (s.length : Int)).toNat : Nat) : Int) from (congrArg i64 (by omega))) ?_
 refine J.z (yl_sliceStr (p := (min (max skip 0) (s.length : Int)).toNat) (q := s.length) rfl rfl tU9 ⟨_, rfl⟩ rfl (by omega) (by omega)) ?_
 refine J.eqv 14 rfl (show _ = str (Ke.cut s skip) from (by rw [List.take_length]; rfl)) ?_
 refine J.op rfl (q52 rfl rfl rfl rfl rfl (rWords_ok (Ke.cut s skip) (by omega) _) ?_)
 intro v2 I3 H4 hle5 hn1 hp6
 obtain ⟨g, hg, h, rfl⟩ := hp6; cases h
 replace hg := hg.base hn1
 refine J.z q1 ?_
 refine J.nsss (Cj.region (J.z q1 ?_))
 refine J.ns (Cj.block (Cj.loop (ι := Nat) (fun j => j ≤ (Ke.words (Ke.cut s skip)).length) (fun j => (Ke.words (Ke.cut s skip)).length - j) (fun j => [(5, gV (Ke.words (Ke.cut s skip)).length g), (6, i64 (j : Int))]) (fun j => _) (fun j => gH 9 ((mix (Ke.words (Ke.cut s skip)) j).map str) g) 0 (Nat.zero_le _) ⟨rfl, rfl, trivial⟩ rfl (by rw [List.append_nil, show mix (Ke.words (Ke.cut s skip)) 0 = (Ke.words (Ke.cut s skip)) by simp [mix]]) ?_))
 intro j hj
 refine Cj.seq (Cj.sr (J.z q0 ?_))
 refine J.z q0 ?_
 refine J.z (yl_lenG hg rfl rfl tU28) ?_
 refine J.z q16 ?_
 refine J.cd (fun hc7 => ?_) (fun hc7 => ?_)
 ·
  have hc7p := odt hc7
  refine Cj.ks (Cj.seq (Cj.block (Cj.seq ?_)))
  have hlt : j < (Ke.words (Ke.cut s skip)).length := by omega
  obtain ⟨x, hget⟩ : ∃ x, (Ke.words (Ke.cut s skip))[j]? = some x := ⟨_, lgg hlt⟩
  have hxm := lmg hget
  have hxl := Ke.words_each _ x hxm
  have hma := mix_at hget
  obtain ⟨bg8, cg9, sp10, rfl, hbg8⟩ := hg.some (by omega)
  refine Cj.region (J.z q0 ?_)
  refine J.z q0 ?_
  refine J.z (q20 (off' := j) tU28 tS9) ?_
  refine J.z (yl_load rfl rfl tA9 (Blk.at 0 rfl) (str_get hma)) ?_
  refine J.op rfl (op_pure rfl rfl rfl rfl rfl (rdigits_ok x (by omega) _) ?_)
  refine J.z q1 ?_
  refine J.nssr (J.z q0 ?_)
  refine J.cd (fun hc11 => ?_) (fun hc11 => ?_)
  ·
   have hsw : Ke.sortWord x = Ke.number x := by unfold Ke.sortWord; rw [show Ke.digits x = true from hc11]; rfl
   refine Cj.region (J.z q0 ?_)
   refine J.z q0 ?_
   refine J.z q0 ?_
   refine J.z q0 ?_
   refine J.z (q20 (off' := j) tU28 tS9) ?_
   refine J.z (yl_load rfl rfl tA9 (Blk.at 0 rfl) (str_get hma)) ?_
   refine J.op rfl (op_pure rfl rfl rfl rfl rfl (number_ok x (by omega) _) ?_)
   refine J.eqv 34 rfl (show _ = str (Ke.sortWord x) from (by rw [hsw])) ?_
   refine J.z (q20 (off' := j) tU28 tS9) ?_
   refine J.op rfl (op_store1 0 rfl rfl rfl rfl rfl rfl tS9 rfl (.inl rfl) (by simp only [List.length_append, List.length_map, mix_len]; omega) LSet.z ?_)
   refine J.nb (Cj.region (J.z q0 ?_))
   refine J.z q7 ?_
   refine J.z q1 ?_
   refine J.nil (Ej.round (j + 1) (by omega) (by omega) ⟨rfl, rfl, trivial⟩ rfl (by rw [mix_set hget]; rfl))
  have hsw : Ke.sortWord x = x := by unfold Ke.sortWord; rw [show Ke.digits x = false from hc11]; rfl
  refine Cj.kb (Cj.region (J.z q0 ?_))
  refine J.z q7 ?_
  refine J.z q1 ?_
  refine J.nil (Ej.round (j + 1) (by omega) (by omega) ⟨rfl, rfl, trivial⟩ rfl (by rw [mix_same hget hsw]))
 have hc7p := odf hc7
 refine Cj.xl (Cj.seq ?_)
 have hme := mix_end (Ke.words (Ke.cut s skip)) (j := j) (by omega)
 rw [hme]
 refine Cj.perm (H' := gH _ _ _ ++ []) (by rw [List.append_nil]) ?_
 have hg2 : gOk w0.heap.size 1 (Ke.words (Ke.cut s skip)).length (((Ke.words (Ke.cut s skip)).map Ke.sortWord).map str) g := gOk_len hg (by simp)
 refine Cj.keepS hg2 (fun I8 hle8 hv => ?_)
 rw [show (Ke.words (Ke.cut s skip)).length = ((Ke.words (Ke.cut s skip)).map Ke.sortWord).length from (List.length_map _).symm] at hv ⊢
 refine Cj.region (J.z q0 ?_)
 refine J.op rfl (op_pure rfl rfl rfl rfl rfl (rJoin_ok ((Ke.words (Ke.cut s skip)).map Ke.sortWord) _ (by rw [List.length_map]; omega) (by omega) _ (StrP.of hv)) ?_)
 refine J.z q1 ?_
 refine J.ns (Cj.ret (q6 ?_))
 exact ⟨rfl, rfl⟩
end Go.Proofs.YtjcdfnbomkoheaaGreatDoor
end
