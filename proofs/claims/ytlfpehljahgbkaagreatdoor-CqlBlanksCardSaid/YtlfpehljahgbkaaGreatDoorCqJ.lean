/-
  Contracts of strings.IndexRune (past 127) and strings.IndexAny. Own text, printed by a program. Conditions: none.
-/
import Derived.Test.YtlfpehljahgbkaaGreatDoorCqLaws
import Derived.Test.YtlfpehljahgbkaaGreatDoorSxLib
import Derived.Test.YtlfpehljahgbkaaGreatDoorShelf
namespace Go.Proofs.YtlfpehljahgbkaaGreatDoor
open Go Go.Sx
theorem ba_list (l : List UInt8) : (⟨l.toArray⟩ : ByteArray).data.toList = l := by simp
theorem ba_str (b : ByteArray) : (.string b : Value) = str b.data.toList := by simp [str]
theorem validRune_is (r : Int) (h : Lib.validRune r = true) : Utf8.valid r = true := by
  unfold Lib.validRune at h; unfold Utf8.valid; simp at h ⊢; omega
theorem ValidRune_ok (r : Int) (I : Heap) : ∃ b, Pure Tryz.prog 89 [.int .i32 r] I (.bool b) ∧ (b = true → Utf8.valid r = true) :=
  ⟨_, Pure.of_same (Enters.of Tryz.func89 (by decide) rfl) fun w _ => Tryz.utf8_ValidRune r w, validRune_is r⟩
theorem IndexByte_ok (l : List UInt8) (c : UInt8) (I : Heap) : Pure Tryz.prog 88 [str l, u8 c] I (i64 (Lib.indexByte l c)) :=
  Pure.of_same (Enters.of Tryz.func88 (by decide) rfl) fun w _ => by
    have h := Tryz.strings_IndexByte ⟨l.toArray⟩ c.toNat w
    have e : ((c.toNat : Int)).toNat.toUInt8 = c := by simp
    rw [ba_list, e] at h
    exact h
theorem indexByte_none {l : List UInt8} {c : UInt8} (h : ∀ d ∈ l, d.toNat < 128) (hc : 128 ≤ c.toNat) : Lib.indexByte l c = -1 := by
  induction l with
  | nil => rfl
  | cons d l ih =>
    have hd := h d (.head _)
    have hn : (d == c) = false := by rw [beq_eq_false_iff_ne]; intro e; subst e; omega
    rw [Lib.indexByte, hn, ih fun x hx => h x (.tail _ hx)]; rfl
theorem enc_last {r : Int} (hv : Utf8.valid r = true) (h128 : 128 ≤ r) : 2 ≤ (Utf8.encode r).data.toList.length ∧ (Utf8.encode r).data.toList.length ≤ 4 ∧ ∃ c, (Utf8.encode r).data.toList[(Utf8.encode r).data.toList.length - 1]? = some c ∧ 128 ≤ c.toNat := by
  obtain ⟨h1, h2, h3⟩ := encode_facts r hv h128
  have hs : (Utf8.encode r).data.toList.length = (Utf8.encode r).size := rfl
  rw [hs]
  have hlt : (Utf8.encode r).size - 1 < (Utf8.encode r).size := by omega
  exact ⟨h1, h2, _, Lib.data_getElem? (Utf8.encode r) _ hlt, h3 hlt⟩

theorem dec_ascii {l : List UInt8} {i : Nat} {c : UInt8} (h : l[i]? = some c) (hc : c.toNat < 128) : Utf8.decode ⟨l.toArray⟩ i = (c.toNat, 1) := by
  obtain ⟨hlt, hg⟩ := List.getElem?_eq_some_iff.1 h
  have hs : i < (⟨l.toArray⟩ : ByteArray).size := by rw [size_mk]; exact hlt
  have he : (⟨l.toArray⟩ : ByteArray)[i]'hs = c := by simp [ByteArray.getElem_eq_getElem_data, hg]
  rw [decode_ascii _ _ hs (by rw [he]; exact hc), he]

set_option maxRecDepth 20000 in
theorem IndexRune_high (ch : List UInt8) (hch : ∀ c ∈ ch, c.toNat < 128) (h4 : 4 ≤ ch.length) (hlen : ch.length ≤ 1000000) (r : Int) (h128 : 128 ≤ r) (hr : r ≤ 2147483647) (I : Heap) : Pure Tryz.prog 70 [str ch, .int .i32 r] I (i64 (-1)) := by
  refine Ctr.toPure ?_
  obtain ⟨bv, hval⟩ := ValidRune_ok r I
  refine Ctr.of_body Tryz.func70 rfl (by decide) (Nat.le_of_ble_eq_true rfl) ?_
  intro w0 hw0
  refine Cj.seq ?_
  refine Cj.region ?_
  refine J.y (yl_assign rfl rfl) rfl rfl rfl ?_
  refine J.nil ?_
  refine Ej.seq ?_
  refine Cj.block ?_
  refine Cj.seq ?_
  refine Cj.region ?_
  refine J.y (yl_move rfl rfl) rfl rfl rfl ?_
  refine J.y (yl_leq rfl rfl rfl) rfl rfl rfl ?_
  refine J.y (yl_move rfl rfl) rfl rfl rfl ?_
  refine J.opG 2 163 true _ rfl rfl rfl (decide_eq_true (by omega)) (op_yld (yl_move rfl rfl) rfl rfl ?_)
  refine J.opG 2 163 true _ rfl rfl rfl (decide_eq_true (by omega)) (op_yld (yl_lss rfl rfl rfl) rfl rfl ?_)
  refine J.y (yl_pick1 rfl rfl (decide_eq_true (by omega)) rfl) rfl rfl rfl ?_
  refine J.y (yl_assign rfl rfl) rfl rfl rfl ?_
  refine J.nil ?_
  refine Ej.seq ?_
  refine Cj.cond rfl (fun hc1 => Bool.noConfusion (Eq.trans (Eq.symm (decide_eq_false (by omega))) hc1)) (fun hc1 => ?_)
  refine Cj.seq ?_
  refine Cj.region ?_
  refine J.y (yl_move rfl rfl) rfl rfl rfl ?_
  refine J.y (yl_eql rfl rfl rfl) rfl rfl rfl ?_
  refine J.y (yl_assign rfl rfl) rfl rfl rfl ?_
  refine J.nil ?_
  refine Ej.seq ?_
  refine Cj.cond rfl (fun hc2 => ?_) (fun hc2 => ?_)
  ·
    have hc2p := eq_of_beq hc2
    refine Cj.seq ?_
    refine Cj.seq ?_
    refine Cj.region ?_
    refine J.y (yl_move rfl rfl) rfl rfl rfl ?_
    refine J.op rfl (op_range rfl rfl rfl rfl Tryz.underlying9 ?_)
    intro b3 hb3
    refine J.nil ?_
    refine Ej.seq ?_
    refine Cj.block ?_
    refine Cj.loop (ι := Nat) (fun i => True) (fun i => ch.length - i) (fun i => [(0, str ch), (1, .int .i32 r), (174, str ch), (175, ptr b3 0)]) (fun i => I) (fun i => [(b3, .stringIter ⟨ch.toArray⟩ i)]) 0 trivial ⟨rfl, rfl, rfl, rfl, trivial⟩ rfl rfl ?_
    rintro i -
    rcases Nat.lt_or_ge i ch.length with hp | hp
    ·
      obtain ⟨c, hget⟩ : ∃ c, ch[i]? = some c := ⟨_, List.getElem?_eq_getElem hp⟩
      have hdec := dec_ascii hget (hch c (List.mem_of_getElem? hget))
      refine Cj.seq ?_
      refine Cj.region ?_
      refine J.op rfl (op_next 0 rfl rfl rfl rfl rfl (by rw [size_mk]; omega) LSet.z ?_)
      refine J.y (yl_extract rfl rfl rfl) rfl rfl rfl ?_
      refine J.nil ?_
      refine Ej.seq ?_
      refine Cj.seq ?_
      refine Cj.cond rfl (fun hc4 => ?_) (fun hc4 => Bool.noConfusion (Eq.trans (Eq.symm rfl) hc4))
      refine Cj.skip ?_
      refine Ej.seq ?_
      refine Cj.block ?_
      refine Cj.seq ?_
      refine Cj.region ?_
      refine J.y (yl_extract rfl rfl rfl) rfl rfl rfl ?_
      refine J.y (yl_extract rfl rfl rfl) rfl rfl rfl ?_
      refine J.y (yl_assign rfl rfl) rfl rfl rfl ?_
      refine J.y (yl_assign rfl rfl) rfl rfl rfl ?_
      refine J.nil ?_
      refine Ej.seq ?_
      refine Cj.seq ?_
      refine Cj.region ?_
      refine J.y (yl_move rfl rfl) rfl rfl rfl ?_
      refine J.y (yl_eql rfl rfl rfl) rfl rfl rfl ?_
      refine J.nil ?_
      refine Ej.seq ?_
      refine Cj.cond rfl (fun hc5 => Bool.noConfusion (Eq.trans (Eq.symm (beq_eq_false_iff_ne.2 (by rw [hdec]; dsimp only; have := hch c (List.mem_of_getElem? hget); omega))) hc5)) (fun hc5 => ?_)
      refine Cj.skip ?_
      refine Ej.blkNormal ?_
      refine Ej.round (i + (Utf8.decode ⟨ch.toArray⟩ i).2) trivial (by rw [hdec]; dsimp only; omega) ⟨rfl, rfl, rfl, rfl, trivial⟩ rfl rfl
    ·
      
      refine Cj.seq ?_
      refine Cj.region ?_
      refine J.op rfl (op_nextEnd 0 rfl rfl rfl rfl rfl (by rw [size_mk]; omega) ?_)
      refine J.y (yl_extract rfl rfl rfl) rfl rfl rfl ?_
      refine J.nil ?_
      refine Ej.seq ?_
      refine Cj.seq ?_
      refine Cj.cond rfl (fun hc6 => Bool.noConfusion (Eq.trans (Eq.symm rfl) hc6)) (fun hc6 => ?_)
      refine Cj.exit ?_
      refine Ej.seqExit ?_
      refine Ej.loopExit ?_
      refine Ej.blkExit ?_
      refine Ej.seq ?_
      refine Cj.seq ?_
      refine Cj.region ?_
      refine J.y (yl_assign rfl rfl) rfl rfl rfl ?_
      refine J.nil ?_
      refine Ej.seq ?_
      refine Cj.ret ?_
      refine Ej.blkRet ?_
      refine Ej.bare ?_
      refine Ej.ret1 rfl rfl rfl ?_
      exact ⟨rfl, rfl⟩
  ·
    have hc2p := ne_of_beq_false hc2
    refine Cj.seq ?_
    refine Cj.region ?_
    refine J.y (yl_move rfl rfl) rfl rfl rfl ?_
    refine J.op rfl (op_pure rfl rfl rfl rfl rfl (hval.1) ?_)
    refine J.y (yl_not rfl rfl) rfl rfl rfl ?_
    refine J.y (yl_assign rfl rfl) rfl rfl rfl ?_
    refine J.nil ?_
    refine Ej.seq ?_
    refine Cj.cond rfl (fun hc7 => ?_) (fun hc7 => ?_)
    ·
      refine Cj.seq ?_
      refine Cj.region ?_
      refine J.y (yl_assign rfl rfl) rfl rfl rfl ?_
      refine J.nil ?_
      refine Ej.seq ?_
      refine Cj.ret ?_
      refine Ej.blkRet ?_
      refine Ej.ret1 rfl rfl rfl ?_
      exact ⟨rfl, rfl⟩
    ·
      have hvr : Utf8.valid r = true := hval.2 (by simpa using hc7)
      obtain ⟨hl2, hl4, c2, hget2, hc2⟩ := enc_last hvr h128
      obtain ⟨c1, hget1⟩ : ∃ c, ch[(Utf8.encode r).data.toList.length - 1]? = some c := ⟨_, List.getElem?_eq_getElem (by omega)⟩
      have hc1 := hch c1 (List.mem_of_getElem? hget1)
      have hne : (c1.toNat : Int) ≠ c2.toNat := by omega
      have hcut : ∀ d ∈ (ch.take ch.length).drop ((Utf8.encode r).data.toList.length - 1 + 1), d.toNat < 128 := fun d hd => hch d (List.mem_of_mem_take (List.mem_of_mem_drop hd))
      refine Cj.scope ?_
      refine Cj.seq ?_
      refine Cj.region ?_
      refine J.y (yl_move rfl rfl) rfl rfl rfl ?_
      refine J.y (yl_runeStr rfl rfl Tryz.underlying21 Tryz.underlying9) rfl rfl rfl ?_
      refine J.y (yl_assign rfl rfl) rfl rfl rfl ?_
      refine J.nil ?_
      refine Ej.seq ?_
      refine Cj.seq ?_
      refine Cj.region ?_
      refine J.y (yl_move rfl rfl) rfl rfl rfl ?_
      refine J.y (yl_lenStr rfl rfl Tryz.underlying9) rfl rfl rfl ?_
      refine J.y (yl_sub rfl rfl rfl (w64 (by omega))) rfl rfl rfl ?_
      refine J.y (yl_assign rfl rfl) rfl rfl rfl ?_
      refine J.nil ?_
      refine Ej.seq ?_
      refine Cj.seq ?_
      refine Cj.region ?_
      refine J.y (yl_move rfl rfl) rfl rfl rfl ?_
      refine J.y (yl_assign rfl rfl) rfl rfl rfl ?_
      refine J.nil ?_
      refine Ej.seq ?_
      refine Cj.seq ?_
      refine Cj.region ?_
      refine J.y (yl_assign rfl rfl) rfl rfl rfl ?_
      refine J.nil ?_
      refine Ej.seq ?_
      refine Cj.seq ?_
      refine Cj.block ?_
      refine Cj.loop (ι := Unit) (fun i => True) (fun i => 0) (fun i => [(0, str ch), (7, str (Utf8.encode r).data.toList), (8, i64 ((Utf8.encode r).data.toList.length - 1 : Int)), (9, i64 ((Utf8.encode r).data.toList.length - 1 : Int))]) (fun i => I) (fun i => []) () trivial ⟨rfl, rfl, rfl, rfl, trivial⟩ rfl rfl ?_
      rintro _ -
      refine Cj.seq ?_
      refine Cj.seq ?_
      refine Cj.region ?_
      refine J.y (yl_move rfl rfl) rfl rfl rfl ?_
      refine J.y (yl_move rfl rfl) rfl rfl rfl ?_
      refine J.y (yl_lenStr rfl rfl Tryz.underlying9) rfl rfl rfl ?_
      refine J.y (yl_lss rfl rfl rfl) rfl rfl rfl ?_
      refine J.nil ?_
      refine Ej.seq ?_
      refine Cj.cond rfl (fun hc8 => ?_) (fun hc8 => Bool.noConfusion (Eq.trans (Eq.symm (decide_eq_true (by omega))) hc8))
      refine Cj.skip ?_
      refine Ej.seq ?_
      refine Cj.block ?_
      refine Cj.scope ?_
      refine Cj.seq ?_
      refine Cj.seq ?_
      refine Cj.drawSel [] [] 7 (by kernel_rfl) ?_
      refine JA.take 0 rfl rfl (by kernel_rfl) (by kernel_rfl) (by kernel_rfl) (fun _ _ _ h => h) rfl rfl rfl HSub.n CSub.n (Le.refl _) (yl_move rfl rfl) ?_
      refine JA.take 1 rfl rfl (by kernel_rfl) (by kernel_rfl) (by kernel_rfl) (fun _ _ _ h => h) rfl rfl rfl HSub.n CSub.n (Le.refl _) (yl_move rfl rfl) ?_
      refine JA.take 2 rfl rfl (by kernel_rfl) (by kernel_rfl) (by kernel_rfl) (fun _ _ _ h => h) rfl rfl rfl HSub.n CSub.n (Le.refl _) (yl_index rfl rfl rfl Tryz.underlying9 (by omega) (by rw [show ((((Utf8.encode r).data.toList.length : Int) - 1).toNat) = (Utf8.encode r).data.toList.length - 1 by omega]; exact hget1)) ?_
      refine JA.take 3 rfl rfl (by kernel_rfl) (by kernel_rfl) (by kernel_rfl) (fun _ _ _ h => h) rfl rfl rfl HSub.n CSub.n (Le.refl _) (yl_move rfl rfl) ?_
      refine JA.take 4 rfl rfl (by kernel_rfl) (by kernel_rfl) (by kernel_rfl) (fun _ _ _ h => h) rfl rfl rfl HSub.n CSub.n (Le.refl _) (yl_move rfl rfl) ?_
      refine JA.take 5 rfl rfl (by kernel_rfl) (by kernel_rfl) (by kernel_rfl) (fun _ _ _ h => h) rfl rfl rfl HSub.n CSub.n (Le.refl _) (yl_index rfl rfl rfl Tryz.underlying9 (by omega) (by rw [show ((((Utf8.encode r).data.toList.length : Int) - 1).toNat) = (Utf8.encode r).data.toList.length - 1 by omega]; exact hget2)) ?_
      refine JA.take 6 rfl rfl (by kernel_rfl) (by kernel_rfl) (by kernel_rfl) (fun _ _ _ h => h) rfl rfl rfl HSub.n CSub.n (Le.refl _) (yl_neq rfl rfl rfl) ?_
      refine JA.done (by kernel_rfl) ?_
      refine Ej.seq ?_
      refine Cj.cond rfl (fun hc9 => ?_) (fun hc9 => Bool.noConfusion (Eq.trans (Eq.symm (bne_iff_ne.2 hne)) hc9))
      refine Cj.seq ?_
      refine Cj.drawSel [] [] 9 (by kernel_rfl) ?_
      refine JA.take 0 rfl rfl (by kernel_rfl) (by kernel_rfl) (by kernel_rfl) (fun _ _ _ h => h) rfl rfl rfl HSub.n CSub.n (Le.refl _) (yl_move rfl rfl) ?_
      refine JA.take 1 rfl rfl (by kernel_rfl) (by kernel_rfl) (by kernel_rfl) (fun _ _ _ h => h) rfl rfl rfl HSub.n CSub.n (Le.refl _) (yl_move rfl rfl) ?_
      refine JA.take 2 rfl rfl (by kernel_rfl) (by kernel_rfl) (by kernel_rfl) (fun _ _ _ h => h) rfl rfl rfl HSub.n CSub.n (Le.refl _) (yl_add rfl rfl rfl (w64 (by omega))) ?_
      refine JA.eqv 36 rfl (show _ = i64 ((Utf8.encode r).data.toList.length - 1 + 1 : Nat) from (by congr 1; omega)) ?_
      refine JA.take 3 rfl rfl (by kernel_rfl) (by kernel_rfl) (by kernel_rfl) (fun _ _ _ h => h) rfl rfl rfl HSub.n CSub.n (Le.refl _) (yl_sliceStr (p := (Utf8.encode r).data.toList.length - 1 + 1) (q := ch.length) rfl rfl Tryz.underlying9 ⟨_, rfl⟩ rfl (by omega) (by omega)) ?_
      refine JA.take 4 rfl rfl (by kernel_rfl) (by kernel_rfl) (by kernel_rfl) (fun _ _ _ h => h) rfl rfl rfl HSub.n CSub.n (Le.refl _) (yl_move rfl rfl) ?_
      refine JA.take 5 rfl rfl (by kernel_rfl) (by kernel_rfl) (by kernel_rfl) (fun _ _ _ h => h) rfl rfl rfl HSub.n CSub.n (Le.refl _) (yl_move rfl rfl) ?_
      refine JA.take 6 rfl rfl (by kernel_rfl) (by kernel_rfl) (by kernel_rfl) (fun _ _ _ h => h) rfl rfl rfl HSub.n CSub.n (Le.refl _) (yl_index rfl rfl rfl Tryz.underlying9 (by omega) (by rw [show ((((Utf8.encode r).data.toList.length : Int) - 1).toNat) = (Utf8.encode r).data.toList.length - 1 by omega]; exact hget2)) ?_
      refine JA.step 7 (by kernel_rfl) rfl rfl (op_pure rfl rfl rfl rfl rfl (IndexByte_ok _ _ _) ?_)
      refine ⟨⟨(Le.refl _), HSub.n, CSub.n⟩, ?_⟩
      refine JA.eqv 41 rfl (show _ = i64 (-1) from (by rw [indexByte_none hcut hc2])) ?_
      refine JA.take 8 rfl rfl (by kernel_rfl) (by kernel_rfl) (by kernel_rfl) (fun _ _ _ h => h) rfl rfl rfl HSub.n CSub.n (Le.refl _) (yl_assign rfl rfl) ?_
      refine JA.done (by kernel_rfl) ?_
      refine Ej.seq ?_
      refine Cj.seq ?_
      refine Cj.seq ?_
      refine Cj.region ?_
      refine J.y (yl_move rfl rfl) rfl rfl rfl ?_
      refine J.y (yl_lss rfl rfl rfl) rfl rfl rfl ?_
      refine J.nil ?_
      refine Ej.seq ?_
      refine Cj.cond rfl (fun hc10 => ?_) (fun hc10 => Bool.noConfusion (Eq.trans (Eq.symm (decide_eq_true (by omega))) hc10))
      refine Cj.seq ?_
      refine Cj.region ?_
      refine J.y (yl_assign rfl rfl) rfl rfl rfl ?_
      refine J.nil ?_
      refine Ej.seq ?_
      refine Cj.ret ?_
      refine Ej.seqRet ?_
      refine Ej.seqRet ?_
      refine Ej.scRet ?_
      refine Ej.blkRet ?_
      refine Ej.loopRet ?_
      refine Ej.blkRet ?_
      refine Ej.seqRet ?_
      refine Ej.scRet ?_
      refine Ej.blkRet ?_
      refine Ej.ret1 rfl rfl rfl ?_
      exact ⟨rfl, rfl⟩

theorem get_b {l : List UInt8} {j : Nat} {d : UInt8} (h : l[j]? = some d) : ((⟨l.toArray⟩ : ByteArray).get! j).toNat = d.toNat := by
  obtain ⟨hlt, hg⟩ := List.getElem?_eq_some_iff.1 h
  show ((l.toArray)[j]!).toNat = d.toNat
  simp [hlt, hg]
theorem dec_skip {l : List UInt8} {i : Nat} {c : UInt8} (h : l[i]? = some c) (hc : 128 ≤ c.toNat) : ∀ j d, i ≤ j → j < i + (Utf8.decode ⟨l.toArray⟩ i).2 → l[j]? = some d → 128 ≤ d.toNat := by
  intro j d h1 h2 hd
  have h0 : ∀ k, (i + k < l.length ∧ ((⟨l.toArray⟩ : ByteArray).get! (i + k)).toNat / 64 = 2) → j = i + k → 128 ≤ d.toNat := by
    intro k hk he
    subst he
    rw [get_b hd] at hk
    omega
  by_cases hj : j = i
  · subst hj; rw [h] at hd; cases hd; exact hc
  · simp only [Utf8.decode] at h2
    have hs : (⟨l.toArray⟩ : ByteArray).size = l.length := size_mk l
    repeat' split at h2
    all_goals simp only [Bool.and_eq_true, beq_iff_eq, decide_eq_true_eq, hs] at *
    all_goals first
      | omega
      | (by_cases e1 : j = i + 1
         · exact h0 1 (by simp_all) e1
         · first
           | omega
           | (by_cases e2 : j = i + 2
              · exact h0 2 (by simp_all) e2
              · first
                | omega
                | exact h0 3 (by simp_all) (by omega)))
theorem noAny_skip {l ch : List UInt8} {i : Nat} {c : UInt8} (hch : ∀ c ∈ ch, c.toNat < 128) (hn : Lib.NoAny l ch i) (h : l[i]? = some c) (hc : 128 ≤ c.toNat) : Lib.NoAny l ch (i + (Utf8.decode ⟨l.toArray⟩ i).2) := by
  intro j d hj hd
  by_cases hji : j < i
  · exact hn j d hji hd
  · have := dec_skip h hc j d (by omega) hj hd
    rw [Bool.eq_false_iff]; intro hcon
    have := hch d (List.contains_iff_mem.1 hcon); omega
theorem dec_hi {l : List UInt8} {i : Nat} {c : UInt8} (h : l[i]? = some c) (hc : 128 ≤ c.toNat) : 128 ≤ (Utf8.decode ⟨l.toArray⟩ i).1 ∧ 1 ≤ (Utf8.decode ⟨l.toArray⟩ i).2 := by
  obtain ⟨hlt, hg⟩ := List.getElem?_eq_some_iff.1 h
  have hs : i < (⟨l.toArray⟩ : ByteArray).size := by rw [size_mk]; exact hlt
  exact decode_high _ _ hs (by simp [ByteArray.getElem_eq_getElem_data, hg, hc])

theorem shouldUse_ok (n : Int) (I : Heap) : Pure Tryz.prog 71 [i64 n] I (.bool (decide (8 < n))) :=
  Pure.of_same (Enters.of Tryz.func71 (by decide) rfl) fun w _ => Tryz.strings_shouldUseASCIISet n w
set_option maxRecDepth 100000 in
theorem IndexRune_low (l : List UInt8) (c : UInt8) (hc : c.toNat < 128) (I : Heap) : Pure Tryz.prog 70 [str l, .int .i32 (c.toNat : Int)] I (i64 (Lib.indexByte l c)) :=
  Pure.of_same (Enters.of Tryz.func70 (by decide) rfl) fun w _ => by
    have h := Tryz.strings_IndexRune_ascii ⟨l.toArray⟩ c.toNat w (by omega) (by omega)
    have e : ((c.toNat : Int)).toNat.toUInt8 = c := by simp
    rw [ba_list, e] at h
    exact h
set_option maxRecDepth 100000 in
theorem IndexAny_long (s ch : List UInt8) (h8 : 8 < s.length) (hs : s.length < 4294967281) (hch : ∀ c ∈ ch, c.toNat < 128) (h4 : 4 ≤ ch.length) (hlen : ch.length ≤ 1000000) (I : Heap) : Pure Tryz.prog 52 [str s, str ch] I (i64 (Lib.indexAny s ch)) :=
  Pure.of_below (Enters.of Tryz.func52 (by decide) rfl) fun w _ => by
    have h := Tryz.strings_IndexAny_long Tryz.zeroValue125 ⟨s.toArray⟩ ⟨ch.toArray⟩ w (by rw [size_mk]; omega) (by rw [size_mk]; omega) (by rw [size_mk]; omega) (by rw [size_mk]; omega) (fun j b hb => hch b (by rw [ba_list] at hb; exact List.mem_of_getElem? hb))
    rw [ba_list, ba_list] at h
    refine h.mono fun e w' ⟨h1, h2⟩ => ⟨h1, ?_⟩
    subst h2
    exact ((RowKit.Below.refl _ _).alloc (Nat.le_refl _) _).alloc (by show w.heap.size ≤ (w.heap.push _).size; rw [Array.size_push]; omega) _

theorem nonempty {l : List UInt8} (h : 4 ≤ l.length) : ((l == []) : Bool) = false := by cases l with
  | nil => simp at h
  | cons a l => rfl

set_option maxRecDepth 20000 in
theorem IndexAny_short (s ch : List UInt8) (h8 : s.length ≤ 8) (hch : ∀ c ∈ ch, c.toNat < 128) (h4 : 4 ≤ ch.length) (hlen : ch.length ≤ 1000000) (I : Heap) : Pure Tryz.prog 52 [str s, str ch] I (i64 (Lib.indexAny s ch)) := by
  refine Ctr.toPure ?_
  refine Ctr.of_body Tryz.func52 rfl (by decide) (Nat.le_of_ble_eq_true rfl) ?_
  intro w0 hw0
  refine Cj.seq ?_
  refine Cj.region ?_
  refine J.y (yl_assign rfl rfl) rfl rfl rfl ?_
  refine J.nil ?_
  refine Ej.seq ?_
  refine Cj.seq ?_
  refine Cj.seq ?_
  refine Cj.region ?_
  refine J.y (yl_move rfl rfl) rfl rfl rfl ?_
  refine J.y (yl_eqlStr rfl rfl rfl) rfl rfl rfl ?_
  refine J.nil ?_
  refine Ej.seq ?_
  refine Cj.cond rfl (fun hc1 => Bool.noConfusion (Eq.trans (Eq.symm (nonempty h4)) hc1)) (fun hc1 => ?_)
  refine Cj.skip ?_
  refine Ej.seq ?_
  refine Cj.seq ?_
  refine Cj.seq ?_
  refine Cj.region ?_
  refine J.y (yl_move rfl rfl) rfl rfl rfl ?_
  refine J.y (yl_lenStr rfl rfl Tryz.underlying9) rfl rfl rfl ?_
  refine J.y (yl_eql rfl rfl rfl) rfl rfl rfl ?_
  refine J.nil ?_
  refine Ej.seq ?_
  refine Cj.cond rfl (fun hc2 => Bool.noConfusion (Eq.trans (Eq.symm (beq_eq_false_iff_ne.2 (by omega))) hc2)) (fun hc2 => ?_)
  refine Cj.skip ?_
  refine Ej.seq ?_
  refine Cj.seq ?_
  refine Cj.seq ?_
  refine Cj.region ?_
  refine J.y (yl_move rfl rfl) rfl rfl rfl ?_
  refine J.y (yl_lenStr rfl rfl Tryz.underlying9) rfl rfl rfl ?_
  refine J.op rfl (op_pure rfl rfl rfl rfl rfl (shouldUse_ok _ _) ?_)
  refine J.nil ?_
  refine Ej.seq ?_
  refine Cj.cond rfl (fun hc3 => Bool.noConfusion (Eq.trans (Eq.symm (decide_eq_false (by omega))) hc3)) (fun hc3 => ?_)
  refine Cj.skip ?_
  refine Ej.seq ?_
  refine Cj.seq ?_
  refine Cj.seq ?_
  refine Cj.region ?_
  refine J.y (yl_move rfl rfl) rfl rfl rfl ?_
  refine J.op rfl (op_range rfl rfl rfl rfl Tryz.underlying9 ?_)
  intro b4 hb4
  refine J.nil ?_
  refine Ej.seq ?_
  refine Cj.block ?_
  refine Cj.loop (ι := Nat) (fun i => Lib.NoAny s ch i) (fun i => s.length - i) (fun i => [(0, str s), (1, str ch), (44, str s), (45, ptr b4 0)]) (fun i => I) (fun i => [(b4, .stringIter ⟨s.toArray⟩ i)]) 0 (Lib.NoAny.zero _ _) ⟨rfl, rfl, rfl, rfl, trivial⟩ rfl rfl ?_
  intro i hno
  rcases Nat.lt_or_ge i s.length with hp | hp
  obtain ⟨c, hget⟩ : ∃ c, s[i]? = some c := ⟨_, List.getElem?_eq_getElem hp⟩
  rcases Nat.lt_or_ge c.toNat 128 with hc | hc
  ·
    have hdec := dec_ascii hget hc
    refine Cj.seq ?_
    refine Cj.region ?_
    refine J.op rfl (op_next 0 rfl rfl rfl rfl rfl (by rw [size_mk]; omega) LSet.z ?_)
    refine J.y (yl_extract rfl rfl rfl) rfl rfl rfl ?_
    refine J.nil ?_
    refine Ej.seq ?_
    refine Cj.seq ?_
    refine Cj.cond rfl (fun hc5 => ?_) (fun hc5 => Bool.noConfusion (Eq.trans (Eq.symm rfl) hc5))
    refine Cj.skip ?_
    refine Ej.seq ?_
    refine Cj.block ?_
    refine Cj.seq ?_
    refine Cj.region ?_
    refine J.y (yl_extract rfl rfl rfl) rfl rfl rfl ?_
    refine J.y (yl_extract rfl rfl rfl) rfl rfl rfl ?_
    refine J.eqv 49 rfl (show _ = .int .i32 (c.toNat : Int) from (by rw [hdec])) ?_
    refine J.y (yl_assign rfl rfl) rfl rfl rfl ?_
    refine J.y (yl_assign rfl rfl) rfl rfl rfl ?_
    refine J.nil ?_
    refine Ej.seq ?_
    refine Cj.seq ?_
    refine Cj.region ?_
    refine J.y (yl_move rfl rfl) rfl rfl rfl ?_
    refine J.y (yl_move rfl rfl) rfl rfl rfl ?_
    refine J.op rfl (op_pure rfl rfl rfl rfl rfl (IndexRune_low ch c hc _) ?_)
    refine J.y (yl_geq rfl rfl rfl) rfl rfl rfl ?_
    refine J.nil ?_
    refine Ej.seq ?_
    refine Cj.cond rfl (fun hc6 => ?_) (fun hc6 => ?_)
    ·
      have hc6p := of_decide_eq_true hc6
      refine Cj.seq ?_
      refine Cj.region ?_
      refine J.y (yl_move rfl rfl) rfl rfl rfl ?_
      refine J.y (yl_assign rfl rfl) rfl rfl rfl ?_
      refine J.nil ?_
      refine Ej.seq ?_
      refine Cj.ret ?_
      refine Ej.blkRet ?_
      refine Ej.loopRet ?_
      refine Ej.blkRet ?_
      refine Ej.seqRet ?_
      refine Ej.bare ?_
      refine Ej.ret1 rfl rfl rfl ?_
      refine ⟨?_, rfl⟩
      rw [Lib.indexAny_hit hno hget (by rw [Lib.contains_iff_indexByte]; exact hc6)]
    ·
      have hc6p := of_decide_eq_false hc6
      refine Cj.skip ?_
      refine Ej.blkNormal ?_
      refine Ej.round (i + (Utf8.decode ⟨s.toArray⟩ i).2) (by rw [hdec]; exact hno.succ hget (by rw [Lib.contains_iff_indexByte]; exact hc6)) (by rw [hdec]; dsimp only; omega) ⟨rfl, rfl, rfl, rfl, trivial⟩ rfl rfl
  ·
    have hdec := dec_hi hget hc
    have hdl := decode_le ⟨s.toArray⟩ i
    refine Cj.seq ?_
    refine Cj.region ?_
    refine J.op rfl (op_next 0 rfl rfl rfl rfl rfl (by rw [size_mk]; omega) LSet.z ?_)
    refine J.y (yl_extract rfl rfl rfl) rfl rfl rfl ?_
    refine J.nil ?_
    refine Ej.seq ?_
    refine Cj.seq ?_
    refine Cj.cond rfl (fun hc7 => ?_) (fun hc7 => Bool.noConfusion (Eq.trans (Eq.symm rfl) hc7))
    refine Cj.skip ?_
    refine Ej.seq ?_
    refine Cj.block ?_
    refine Cj.seq ?_
    refine Cj.region ?_
    refine J.y (yl_extract rfl rfl rfl) rfl rfl rfl ?_
    refine J.y (yl_extract rfl rfl rfl) rfl rfl rfl ?_
    refine J.y (yl_assign rfl rfl) rfl rfl rfl ?_
    refine J.y (yl_assign rfl rfl) rfl rfl rfl ?_
    refine J.nil ?_
    refine Ej.seq ?_
    refine Cj.seq ?_
    refine Cj.region ?_
    refine J.y (yl_move rfl rfl) rfl rfl rfl ?_
    refine J.y (yl_move rfl rfl) rfl rfl rfl ?_
    refine J.op rfl (op_pure rfl rfl rfl rfl rfl (IndexRune_high ch hch h4 hlen _ (by omega) (by omega) _) ?_)
    refine J.y (yl_geq rfl rfl rfl) rfl rfl rfl ?_
    refine J.nil ?_
    refine Ej.seq ?_
    refine Cj.cond rfl (fun hc8 => Bool.noConfusion (Eq.trans (Eq.symm rfl) hc8)) (fun hc8 => ?_)
    refine Cj.skip ?_
    refine Ej.blkNormal ?_
    refine Ej.round (i + (Utf8.decode ⟨s.toArray⟩ i).2) (noAny_skip hch hno hget hc) (by omega) ⟨rfl, rfl, rfl, rfl, trivial⟩ rfl rfl
  ·
    have hdone : Lib.indexAny s ch = -1 := Lib.indexAny_none fun j b hj hb => hno j b (by omega) hb
    refine Cj.seq ?_
    refine Cj.region ?_
    refine J.op rfl (op_nextEnd 0 rfl rfl rfl rfl rfl (by rw [size_mk]; omega) ?_)
    refine J.y (yl_extract rfl rfl rfl) rfl rfl rfl ?_
    refine J.nil ?_
    refine Ej.seq ?_
    refine Cj.seq ?_
    refine Cj.cond rfl (fun hc9 => Bool.noConfusion (Eq.trans (Eq.symm rfl) hc9)) (fun hc9 => ?_)
    refine Cj.exit ?_
    refine Ej.seqExit ?_
    refine Ej.loopExit ?_
    refine Ej.blkExit ?_
    refine Ej.seq ?_
    refine Cj.seq ?_
    refine Cj.region ?_
    refine J.y (yl_assign rfl rfl) rfl rfl rfl ?_
    refine J.nil ?_
    refine Ej.seq ?_
    refine Cj.ret ?_
    refine Ej.bare ?_
    refine Ej.ret1 rfl rfl rfl ?_
    refine ⟨?_, rfl⟩
    rw [hdone]

theorem IndexAny_ok (s ch : List UInt8) (hs : s.length < 4294967281) (hch : ∀ c ∈ ch, c.toNat < 128) (h4 : 4 ≤ ch.length) (hlen : ch.length ≤ 1000000) (I : Heap) : Pure Tryz.prog 52 [str s, str ch] I (i64 (Lib.indexAny s ch)) := by
  rcases Nat.lt_or_ge 8 s.length with h | h
  · exact IndexAny_long s ch h hs hch h4 hlen I
  · exact IndexAny_short s ch h hch h4 hlen I

end Go.Proofs.YtlfpehljahgbkaaGreatDoor
