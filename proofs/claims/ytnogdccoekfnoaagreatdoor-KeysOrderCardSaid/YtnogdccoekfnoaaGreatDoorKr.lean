/-
  Contracts of strings.IndexRune (past 127), ContainsRune, IndexFunc as the program's keys.Isbn uses them. Own text, printed by a program. Conditions: none.
-/
import Derived.Test.YtnogdccoekfnoaaGreatDoorKe
import Derived.Test.YtnogdccoekfnoaaGreatDoorKeIsbn
namespace Go.Proofs.YtnogdccoekfnoaaGreatDoor
open Go Go.Sx
theorem validRune_is (r : Int) (h : Lib.validRune r = true) : Utf8.valid r = true := by
  unfold Lib.validRune at h; unfold Utf8.valid; simp at h ⊢; omega
theorem ValidRune_ok (r : Int) (I : Heap) : ∃ b, Pure Tryz.prog 95 [.int .i32 r] I (.bool b) ∧ (b = true → Utf8.valid r = true) :=
  ⟨_, Pure.of_same (Enters.of Tryz.func95 (by decide) rfl) fun w _ => Tryz.utf8_ValidRune r w, validRune_is r⟩
theorem IndexByte_ok (l : List UInt8) (c : UInt8) (I : Heap) : Pure Tryz.prog 81 [str l, u8 c] I (i64 (Lib.indexByte l c)) :=
  Pure.of_same (Enters.of Tryz.func81 (by decide) rfl) fun w _ => by
    have h := Tryz.strings_IndexByte ⟨l.toArray⟩ c.toNat w
    have e : ((c.toNat : Int)).toNat.toUInt8 = c := by simp
    rw [ba_list, e] at h
    exact h
theorem indexByte_none {l : List UInt8} {c : UInt8} (h : ∀ d ∈ l, d.toNat < 128) (hc : 128 ≤ c.toNat) : Lib.indexByte l c = -1 := by
  induction l with
  | nil => rfl
  | cons d l ih =>
    have hd := h d (.head _)
    have hn : (d == c) = false := by rw [beq_eq_false_iff_ne]; intro e; subst e; omega
    rw [Lib.indexByte, hn, ih fun x hx => h x (.tail _ hx)]; rfl
theorem enc_last {r : Int} (hv : Utf8.valid r = true) (h128 : 128 ≤ r) : 2 ≤ (Utf8.encode r).data.toList.length ∧ (Utf8.encode r).data.toList.length ≤ 4 ∧ ∃ c, (Utf8.encode r).data.toList[(Utf8.encode r).data.toList.length - 1]? = some c ∧ 128 ≤ c.toNat := by
  obtain ⟨h1, h2, h3⟩ := encode_facts r hv h128
  have hs : (Utf8.encode r).data.toList.length = (Utf8.encode r).size := rfl
  rw [hs]
  have hlt : (Utf8.encode r).size - 1 < (Utf8.encode r).size := by omega
  exact ⟨h1, h2, _, Lib.data_getElem? (Utf8.encode r) _ hlt, h3 hlt⟩

theorem dec_ascii {l : List UInt8} {i : Nat} {c : UInt8} (h : l[i]? = some c) (hc : c.toNat < 128) : Utf8.decode ⟨l.toArray⟩ i = (c.toNat, 1) := by
  obtain ⟨hlt, hg⟩ := List.getElem?_eq_some_iff.1 h
  have hs : i < (⟨l.toArray⟩ : ByteArray).size := by rw [size_mk]; exact hlt
  have he : (⟨l.toArray⟩ : ByteArray)[i]'hs = c := by simp [ByteArray.getElem_eq_getElem_data, hg]
  rw [decode_ascii _ _ hs (by rw [he]; exact hc), he]

set_option maxRecDepth 20000 in
theorem IndexRune_high (ch : List UInt8) (hch : ∀ c ∈ ch, c.toNat < 128) (h4 : 4 ≤ ch.length) (hlen : ch.length ≤ 1000000) (r : Int) (h128 : 128 ≤ r) (hr : r ≤ 2147483647) (I : Heap) : Pure Tryz.prog 73 [str ch, .int .i32 r] I (i64 (-1)) := by
 refine Ctr.toPure ?_
 obtain ⟨bv, hval⟩ := ValidRune_ok r I
 refine Ctr.of_body Tryz.func73 rfl (by decide) (Nat.le_of_ble_eq_true rfl) ?_
 intro w0 hw0
 refine Cj.seq (Cj.region (J.z (yl_assign rfl rfl) ?_))
 refine J.nil (Ej.seq (Cj.block (Cj.seq (Cj.region (J.z (yl_move rfl rfl) ?_)))))
 refine J.z (yl_leq rfl rfl rfl) ?_
 refine J.z (yl_move rfl rfl) ?_
 refine J.opG 2 163 true _ rfl rfl rfl (decide_eq_true (by omega)) (op_yld (yl_move rfl rfl) rfl rfl ?_)
 refine J.opG 2 163 true _ rfl rfl rfl (decide_eq_true (by omega)) (op_yld (yl_lss rfl rfl rfl) rfl rfl ?_)
 refine J.z (yl_pick1 rfl rfl (decide_eq_true (by omega)) rfl) ?_
 refine J.z (yl_assign rfl rfl) ?_
 refine J.nil (Ej.seq (Cj.cond rfl (fun hc1 => Bool.noConfusion (Eq.trans (Eq.symm (decide_eq_false (by omega))) hc1)) (fun hc1 => ?_)))
 refine Cj.seq (Cj.region (J.z (yl_move rfl rfl) ?_))
 refine J.z (yl_eql rfl rfl rfl) ?_
 refine J.z (yl_assign rfl rfl) ?_
 refine J.nil (Ej.seq (Cj.cond rfl (fun hc2 => ?_) (fun hc2 => ?_)))
 ·
  have hc2p := eq_of_beq hc2
  refine Cj.seq (Cj.seq (Cj.region (J.z (yl_move rfl rfl) ?_)))
  refine J.op rfl (op_range rfl rfl rfl rfl Tryz.underlying9 ?_)
  intro b3 hb3
  refine J.nil (Ej.seq (Cj.block (Cj.loop (ι := Nat) (fun i => True) (fun i => ch.length - i) (fun i => [(0, str ch), (1, .int .i32 r), (174, str ch), (175, ptr b3 0)]) (fun i => I) (fun i => [(b3, .stringIter ⟨ch.toArray⟩ i)]) 0 trivial ⟨rfl, rfl, rfl, rfl, trivial⟩ rfl rfl ?_)))
  rintro i -
  rcases Nat.lt_or_ge i ch.length with hp | hp
  ·
   obtain ⟨c, hget⟩ : ∃ c, ch[i]? = some c := ⟨_, List.getElem?_eq_getElem hp⟩
   have hdec := dec_ascii hget (hch c (List.mem_of_getElem? hget))
   refine Cj.seq (Cj.region (J.op rfl (op_next 0 rfl rfl rfl rfl rfl (by rw [size_mk]; omega) LSet.z ?_)))
   refine J.z (yl_extract rfl rfl rfl) ?_
   refine J.nil (Ej.seq (Cj.seq (Cj.cond rfl (fun hc4 => ?_) (fun hc4 => Bool.noConfusion (Eq.trans (Eq.symm rfl) hc4)))))
   refine Cj.skip (Ej.seq (Cj.block (Cj.seq (Cj.region (J.z (yl_extract rfl rfl rfl) ?_)))))
   refine J.z (yl_extract rfl rfl rfl) ?_
   refine J.z (yl_assign rfl rfl) ?_
   refine J.z (yl_assign rfl rfl) ?_
   refine J.nil (Ej.seq (Cj.seq (Cj.region (J.z (yl_move rfl rfl) ?_))))
   refine J.z (yl_eql rfl rfl rfl) ?_
   refine J.nil (Ej.seq (Cj.cond rfl (fun hc5 => Bool.noConfusion (Eq.trans (Eq.symm (beq_eq_false_iff_ne.2 (by rw [hdec]; dsimp only; have := hch c (List.mem_of_getElem? hget); omega))) hc5)) (fun hc5 => ?_)))
   refine Cj.skip (Ej.blkNormal (Ej.round (i + (Utf8.decode ⟨ch.toArray⟩ i).2) trivial (by rw [hdec]; dsimp only; omega) ⟨rfl, rfl, rfl, rfl, trivial⟩ rfl rfl))
  ·
   
   refine Cj.seq (Cj.region (J.op rfl (op_nextEnd 0 rfl rfl rfl rfl rfl (by rw [size_mk]; omega) ?_)))
   refine J.z (yl_extract rfl rfl rfl) ?_
   refine J.nil (Ej.seq (Cj.seq (Cj.cond rfl (fun hc6 => Bool.noConfusion (Eq.trans (Eq.symm rfl) hc6)) (fun hc6 => ?_))))
   refine Cj.exit (Ej.seqExit (Ej.loopExit (Ej.blkExit (Ej.seq (Cj.seq (Cj.region (J.z (yl_assign rfl rfl) ?_)))))))
   refine J.nil (Ej.seq (Cj.ret (Ej.blkRet (Ej.bare ?_))))
   refine Ej.ret1 rfl rfl rfl ?_
   exact ⟨rfl, rfl⟩
 ·
  have hc2p := ne_of_beq_false hc2
  refine Cj.seq (Cj.region (J.z (yl_move rfl rfl) ?_))
  refine J.op rfl (op_pure rfl rfl rfl rfl rfl (hval.1) ?_)
  refine J.z (yl_not rfl rfl) ?_
  refine J.z (yl_assign rfl rfl) ?_
  refine J.nil (Ej.seq (Cj.cond rfl (fun hc7 => ?_) (fun hc7 => ?_)))
  ·
   refine Cj.seq (Cj.region (J.z (yl_assign rfl rfl) ?_))
   refine J.nil (Ej.seq (Cj.ret (Ej.blkRet (Ej.ret1 rfl rfl rfl ?_))))
   exact ⟨rfl, rfl⟩
  ·
   have hvr : Utf8.valid r = true := hval.2 (by simpa using hc7)
   obtain ⟨hl2, hl4, c2, hget2, hc2⟩ := enc_last hvr h128
   obtain ⟨c1, hget1⟩ : ∃ c, ch[(Utf8.encode r).data.toList.length - 1]? = some c := ⟨_, List.getElem?_eq_getElem (by omega)⟩
   have hc1 := hch c1 (List.mem_of_getElem? hget1)
   have hne : (c1.toNat : Int) ≠ c2.toNat := by omega
   have hcut : ∀ d ∈ (ch.take ch.length).drop ((Utf8.encode r).data.toList.length - 1 + 1), d.toNat < 128 := fun d hd => hch d (List.mem_of_mem_take (List.mem_of_mem_drop hd))
   refine Cj.scope ?_
   refine Cj.seq (Cj.region (J.z (yl_move rfl rfl) ?_))
   refine J.z (yl_runeStr rfl rfl Tryz.underlying21 Tryz.underlying9) ?_
   refine J.z (yl_assign rfl rfl) ?_
   refine J.nil (Ej.seq (Cj.seq (Cj.region (J.z (yl_move rfl rfl) ?_))))
   refine J.z (yl_lenStr rfl rfl Tryz.underlying9) ?_
   refine J.z (yl_sub rfl rfl rfl (w64 (by omega))) ?_
   refine J.z (yl_assign rfl rfl) ?_
   refine J.nil (Ej.seq (Cj.seq (Cj.region (J.z (yl_move rfl rfl) ?_))))
   refine J.z (yl_assign rfl rfl) ?_
   refine J.nil (Ej.seq (Cj.seq (Cj.region (J.z (yl_assign rfl rfl) ?_))))
   refine J.nil (Ej.seq (Cj.seq (Cj.block (Cj.loop (ι := Unit) (fun i => True) (fun i => 0) (fun i => [(0, str ch), (7, str (Utf8.encode r).data.toList), (8, i64 ((Utf8.encode r).data.toList.length - 1 : Int)), (9, i64 ((Utf8.encode r).data.toList.length - 1 : Int))]) (fun i => I) (fun i => []) () trivial ⟨rfl, rfl, rfl, rfl, trivial⟩ rfl rfl ?_))))
   rintro _ -
   refine Cj.seq (Cj.seq (Cj.region (J.z (yl_move rfl rfl) ?_)))
   refine J.z (yl_move rfl rfl) ?_
   refine J.z (yl_lenStr rfl rfl Tryz.underlying9) ?_
   refine J.z (yl_lss rfl rfl rfl) ?_
   refine J.nil (Ej.seq (Cj.cond rfl (fun hc8 => ?_) (fun hc8 => Bool.noConfusion (Eq.trans (Eq.symm (decide_eq_true (by omega))) hc8))))
   refine Cj.skip (Ej.seq (Cj.block (Cj.scope ?_)))
   refine Cj.seq (Cj.seq (Cj.drawSel [] [] 7 (by kernel_rfl) ?_))
   refine JA.fix ⟨HSub.n, CSub.n, (Le.refl _)⟩ (fun fx9 => ?_)
   refine JA.tk 0 rfl fx9 (yl_move rfl rfl) ?_
   refine JA.tk 1 rfl fx9 (yl_move rfl rfl) ?_
   refine JA.tk 2 rfl fx9 (yl_index rfl rfl rfl Tryz.underlying9 (by omega) (by rw [show ((((Utf8.encode r).data.toList.length : Int) - 1).toNat) = (Utf8.encode r).data.toList.length - 1 by omega]; exact hget1)) ?_
   refine JA.tk 3 rfl fx9 (yl_move rfl rfl) ?_
   refine JA.tk 4 rfl fx9 (yl_move rfl rfl) ?_
   refine JA.tk 5 rfl fx9 (yl_index rfl rfl rfl Tryz.underlying9 (by omega) (by rw [show ((((Utf8.encode r).data.toList.length : Int) - 1).toNat) = (Utf8.encode r).data.toList.length - 1 by omega]; exact hget2)) ?_
   refine JA.tk 6 rfl fx9 (yl_neq rfl rfl rfl) ?_
   refine JA.done (by kernel_rfl) ?_
   refine Ej.seq (Cj.cond rfl (fun hc10 => ?_) (fun hc10 => Bool.noConfusion (Eq.trans (Eq.symm (bne_iff_ne.2 hne)) hc10)))
   refine Cj.seq (Cj.drawSel [] [] 9 (by kernel_rfl) ?_)
   refine JA.fix ⟨HSub.n, CSub.n, (Le.refl _)⟩ (fun fx11 => ?_)
   refine JA.tk 0 rfl fx11 (yl_move rfl rfl) ?_
   refine JA.tk 1 rfl fx11 (yl_move rfl rfl) ?_
   refine JA.tk 2 rfl fx11 (yl_add rfl rfl rfl (w64 (by omega))) ?_
   refine JA.eqv 36 rfl (show _ = i64 ((Utf8.encode r).data.toList.length - 1 + 1 : Nat) from (by congr 1; omega)) ?_
   refine JA.tk 3 rfl fx11 (yl_sliceStr (p := (Utf8.encode r).data.toList.length - 1 + 1) (q := ch.length) rfl rfl Tryz.underlying9 ⟨_, rfl⟩ rfl (by omega) (by omega)) ?_
   refine JA.tk 4 rfl fx11 (yl_move rfl rfl) ?_
   refine JA.tk 5 rfl fx11 (yl_move rfl rfl) ?_
   refine JA.tk 6 rfl fx11 (yl_index rfl rfl rfl Tryz.underlying9 (by omega) (by rw [show ((((Utf8.encode r).data.toList.length : Int) - 1).toNat) = (Utf8.encode r).data.toList.length - 1 by omega]; exact hget2)) ?_
   refine JA.step 7 (by kernel_rfl) rfl rfl (op_pure rfl rfl rfl rfl rfl (IndexByte_ok _ _ _) ?_)
   refine ⟨⟨(Le.refl _), HSub.n, CSub.n⟩, ?_⟩
   refine JA.eqv 41 rfl (show _ = i64 (-1) from (by rw [indexByte_none hcut hc2])) ?_
   refine JA.fix ⟨HSub.n, CSub.n, (Le.refl _)⟩ (fun fx12 => ?_)
   refine JA.tk 8 rfl fx12 (yl_assign rfl rfl) ?_
   refine JA.done (by kernel_rfl) ?_
   refine Ej.seq (Cj.seq (Cj.seq (Cj.region (J.z (yl_move rfl rfl) ?_))))
   refine J.z (yl_lss rfl rfl rfl) ?_
   refine J.nil (Ej.seq (Cj.cond rfl (fun hc13 => ?_) (fun hc13 => Bool.noConfusion (Eq.trans (Eq.symm (decide_eq_true (by omega))) hc13))))
   refine Cj.seq (Cj.region (J.z (yl_assign rfl rfl) ?_))
   refine J.nil (Ej.seq (Cj.ret (Ej.seqRet (Ej.seqRet (Ej.scRet ?_)))))
   refine Ej.blkRet (Ej.loopRet (Ej.blkRet (Ej.seqRet (Ej.scRet ?_))))
   refine Ej.blkRet (Ej.ret1 rfl rfl rfl ?_)
   exact ⟨rfl, rfl⟩

set_option maxRecDepth 20000 in
theorem ContainsRune_high (ch : List UInt8) (hch : ∀ c ∈ ch, c.toNat < 128) (h4 : 4 ≤ ch.length) (hlen : ch.length ≤ 1000000) (r : Int) (h128 : 128 ≤ r) (hr : r ≤ 2147483647) (I : Heap) : Pure Tryz.prog 44 [str ch, .int .i32 r] I (.bool false) := by
 refine Ctr.of_body Tryz.func44 rfl (by decide) (Nat.le_of_ble_eq_true rfl) ?_
 intro w0 hw0
 refine Cj.seq (Cj.region (J.z (yl_assign rfl rfl) ?_))
 refine J.nil (Ej.seq (Cj.seq (Cj.region (J.z (yl_move rfl rfl) ?_))))
 refine J.z (yl_move rfl rfl) ?_
 refine J.op rfl (op_pure rfl rfl rfl rfl rfl (IndexRune_high ch hch h4 hlen r h128 hr _) ?_)
 refine J.z (yl_geq rfl rfl rfl) ?_
 refine J.z (yl_assign rfl rfl) ?_
 refine J.nil (Ej.seq (Cj.ret (Ej.ret1 rfl rfl rfl ?_)))
 exact ⟨rfl, rfl, rfl⟩

def bset : List UInt8 := [48, 49, 50, 51, 52, 53, 54, 55, 56, 57, 88, 120, 32, 45]
theorem bset_okb (c : UInt8) : decide (0 ≤ Lib.indexByte bset c) = Ke.okb c := by
  have h : ∀ n < 256, decide (0 ≤ Lib.indexByte bset (UInt8.ofNat n)) = Ke.okb (UInt8.ofNat n) := by decide +kernel
  have := h c.toNat c.toNat_lt
  rwa [UInt8.ofNat_toNat] at this
/-- A rune that may stand in a book number. -/
def okr (r : Nat) : Bool := decide (r < 128) && Ke.okb (UInt8.ofNat r)
theorem ContainsSet_ok (r : Nat) (hr : r ≤ 1114111) (I : Heap) : Pure Tryz.prog 44 [str bset, .int .i32 (r : Int)] I (.bool (okr r)) := by
  rcases Nat.lt_or_ge r 128 with h | h
  · refine Pure.of_same (Enters.of Tryz.func44 (by decide) rfl) fun w _ => ?_
    have h1 := Tryz.strings_ContainsRune_ascii ⟨bset.toArray⟩ (r : Int) w (by omega) (by omega)
    have e : ((r : Int)).toNat.toUInt8 = UInt8.ofNat r := rfl
    rw [ba_list, e, bset_okb] at h1
    have e2 : okr r = Ke.okb (UInt8.ofNat r) := by simp [okr, h]
    rw [e2]; exact h1
  · have e2 : okr r = false := by simp [okr]; omega
    rw [e2]
    exact ContainsRune_high bset (by decide) (by decide) (by decide) (r : Int) (by omega) (by omega) I

set_option maxRecDepth 20000 in
theorem Isbn1_ok (r : Nat) (hr : r ≤ 1114111) (I : Heap) : Pure Tryz.prog 43 [.int .i32 (r : Int)] I (.bool (!okr r)) := by
 refine Ctr.of_body Tryz.func43 rfl (by decide) (Nat.le_of_ble_eq_true rfl) ?_
 intro w0 hw0
 refine Cj.seq (Cj.region (J.z (yl_assign rfl rfl) ?_))
 refine J.nil (Ej.seq (Cj.seq (Cj.region (J.z (yl_move rfl rfl) ?_))))
 refine J.op rfl (op_pure rfl rfl rfl rfl rfl (ContainsSet_ok r hr _) ?_)
 refine J.z (yl_not rfl rfl) ?_
 refine J.z (yl_assign rfl rfl) ?_
 refine J.nil (Ej.seq (Cj.ret (Ej.ret1 rfl rfl rfl ?_)))
 exact ⟨rfl, rfl, rfl⟩

theorem dec_big {l : List UInt8} {i : Nat} {c : UInt8} (h : l[i]? = some c) (hc : 128 ≤ c.toNat) : 128 ≤ (Utf8.decode ⟨l.toArray⟩ i).1 := by
  have h1 : Lib.decodeL (l.drop i) = Utf8.decode ⟨l.toArray⟩ i := Lib.decodeL_drop ⟨l.toArray⟩ i
  rw [← h1, drop_cons h, Lib.decodeL_N]
  simp only [List.getD_cons_zero]
  unfold Lib.decodeN
  rw [if_neg (by omega)]
  split
  · split
    · assumption
    · decide
  · split
    · split
      · rename_i h2; exact Nat.le_trans (by decide) h2.1
      · decide
    · split
      · split
        · rename_i h2; exact Nat.le_trans (by decide) h2.1
        · decide
      · decide
theorem rune_ok {l : List UInt8} {i : Nat} {c : UInt8} (h : l[i]? = some c) (hok : okr (Utf8.decode ⟨l.toArray⟩ i).1 = true) : Ke.okb c = true ∧ (Utf8.decode ⟨l.toArray⟩ i).2 = 1 := by
  rcases Nat.lt_or_ge c.toNat 128 with hc | hc
  · rw [dec_ascii h hc] at hok ⊢
    simp only [okr, Bool.and_eq_true, UInt8.ofNat_toNat] at hok
    exact ⟨hok.2, rfl⟩
  · have := dec_big h hc
    simp only [okr, Bool.and_eq_true, decide_eq_true_eq] at hok
    omega
theorem rune_bad {l : List UInt8} {i : Nat} {c : UInt8} (h : l[i]? = some c) (hok : okr (Utf8.decode ⟨l.toArray⟩ i).1 = false) : Ke.okb c = false := by
  rcases Nat.lt_or_ge c.toNat 128 with hc | hc
  · rw [dec_ascii h hc] at hok
    simpa [okr, hc] using hok
  · have h1 : ∀ n < 256, 128 ≤ n → Ke.okb (UInt8.ofNat n) = false := by decide +kernel
    have := h1 c.toNat c.toNat_lt hc
    rwa [UInt8.ofNat_toNat] at this
theorem all_next {l : List UInt8} {i : Nat} {c : UInt8} (h : (l.take i).all Ke.okb = true) (hc : l[i]? = some c) (hok : Ke.okb c = true) : (l.take (i + 1)).all Ke.okb = true := by
  obtain ⟨hlt, hg⟩ := List.getElem?_eq_some_iff.1 hc
  rw [List.take_succ_eq_append_getElem hlt, hg, List.all_append, h]
  simp [hok]
theorem take_while {l : List UInt8} : ∀ {i : Nat} {c : UInt8}, (l.take i).all Ke.okb = true → l[i]? = some c → Ke.okb c = false → l.takeWhile Ke.okb = l.take i := by
  induction l with
  | nil => intro i c _ h; simp at h
  | cons a r ih =>
    intro i c h hc hok
    cases i with
    | zero => simp at hc; subst hc; rw [List.takeWhile_cons_of_neg (by simp [hok])]; rfl
    | succ i =>
      simp only [List.take_succ_cons, List.all_cons, Bool.and_eq_true] at h
      rw [List.takeWhile_cons_of_pos h.1, ih h.2 (by simpa using hc) hok, List.take_succ_cons]
theorem take_while_all {l : List UInt8} (h : l.all Ke.okb = true) : l.takeWhile Ke.okb = l := by
  induction l with
  | nil => rfl
  | cons a r ih =>
    rw [List.all_cons, Bool.and_eq_true] at h
    rw [List.takeWhile_cons_of_pos h.1, ih h.2]
/-- Where a book number ends. -/
def endsAt (s : List UInt8) (n : Int) : Prop := (n = -1 ∧ s.takeWhile Ke.okb = s) ∨ ∃ k : Nat, n = k ∧ k ≤ s.length ∧ s.takeWhile Ke.okb = s.take k

set_option maxRecDepth 20000 in
theorem indexFunc_ok (s : List UInt8) (I : Heap) : Ctr Tryz.prog 72 [str s, .func (.func 43) #[] #[], .bool true] I [] (fun e _I' H' => ∃ n, e = .returned (i64 n) ∧ endsAt s n ∧ H' = []) := by
 refine Ctr.of_body Tryz.func72 rfl (by decide) (Nat.le_of_ble_eq_true rfl) ?_
 intro w0 hw0
 refine Cj.seq (Cj.region (J.z (yl_assign rfl rfl) ?_))
 refine J.nil (Ej.seq (Cj.seq (Cj.seq (Cj.region (J.z (yl_move rfl rfl) ?_)))))
 refine J.op rfl (op_range rfl rfl rfl rfl Tryz.underlying9 ?_)
 intro b1 hb1
 refine J.nil (Ej.seq (Cj.block (Cj.loop (ι := Nat) (fun i => i ≤ s.length ∧ (s.take i).all Ke.okb = true) (fun i => s.length - i) (fun i => [(1, .func (.func 43) #[] #[]), (2, .bool true), (10, ptr b1 0)]) (fun i => I) (fun i => [(b1, .stringIter ⟨s.toArray⟩ i)]) 0 ⟨Nat.zero_le _, rfl⟩ ⟨rfl, rfl, rfl, trivial⟩ rfl rfl ?_)))
 rintro i ⟨hi, hall⟩
 rcases Nat.lt_or_ge i s.length with hp | hp
 ·
  have hd := Ke.decode_width s hp
  have hdl := Ke.decode_le s i
  obtain ⟨c, hget⟩ : ∃ c, s[i]? = some c := ⟨_, List.getElem?_eq_getElem hp⟩
  refine Cj.seq (Cj.region (J.op rfl (op_next 0 rfl rfl rfl rfl rfl (by rw [size_mk]; omega) LSet.z ?_)))
  refine J.z (yl_extract rfl rfl rfl) ?_
  refine J.nil (Ej.seq (Cj.seq (Cj.cond rfl (fun hc2 => ?_) (fun hc2 => Bool.noConfusion (Eq.trans (Eq.symm rfl) hc2)))))
  refine Cj.skip (Ej.seq (Cj.block (Cj.seq (Cj.region (J.z (yl_extract rfl rfl rfl) ?_)))))
  refine J.z (yl_extract rfl rfl rfl) ?_
  refine J.z (yl_assign rfl rfl) ?_
  refine J.z (yl_assign rfl rfl) ?_
  refine J.nil (Ej.seq (Cj.seq (Cj.region (J.z (yl_move rfl rfl) ?_))))
  refine J.z (yl_move rfl rfl) ?_
  refine J.op rfl (op_pure rfl rfl rfl rfl rfl (Isbn1_ok _ hdl _) ?_)
  refine J.z (yl_move rfl rfl) ?_
  refine J.z (yl_eqlBool rfl rfl rfl Tryz.underlying4) ?_
  refine J.nil (Ej.seq (Cj.cond rfl (fun hc3 => ?_) (fun hc3 => ?_)))
  ·
   have hok : okr (Utf8.decode ⟨s.toArray⟩ i).1 = false := by have h := hc3; simpa using h
   refine Cj.seq (Cj.region (J.z (yl_move rfl rfl) ?_))
   refine J.z (yl_assign rfl rfl) ?_
   refine J.nil (Ej.seq (Cj.ret (Ej.blkRet (Ej.loopRet (Ej.blkRet (Ej.seqRet (Ej.bare ?_)))))))
   refine Ej.ret1 rfl rfl rfl ?_
   exact ⟨_, rfl, .inr ⟨i, rfl, hi, take_while hall hget (rune_bad hget hok)⟩, rfl⟩
  ·
   have hok : okr (Utf8.decode ⟨s.toArray⟩ i).1 = true := by have h := hc3; simpa using h
   refine Cj.skip (Ej.blkNormal (Ej.round (i + (Utf8.decode ⟨s.toArray⟩ i).2) ⟨hd.2, by rw [(rune_ok hget hok).2]; exact all_next hall hget (rune_ok hget hok).1⟩ (by omega) ⟨rfl, rfl, rfl, trivial⟩ rfl rfl))
 ·
  
  refine Cj.seq (Cj.region (J.op rfl (op_nextEnd 0 rfl rfl rfl rfl rfl (by rw [size_mk]; omega) ?_)))
  refine J.z (yl_extract rfl rfl rfl) ?_
  refine J.nil (Ej.seq (Cj.seq (Cj.cond rfl (fun hc4 => Bool.noConfusion (Eq.trans (Eq.symm rfl) hc4)) (fun hc4 => ?_))))
  refine Cj.exit (Ej.seqExit (Ej.loopExit (Ej.blkExit (Ej.seq (Cj.seq (Cj.region (J.z (yl_assign rfl rfl) ?_)))))))
  refine J.nil (Ej.seq (Cj.ret (Ej.bare ?_)))
  refine Ej.ret1 rfl rfl rfl ?_
  exact ⟨_, rfl, .inl ⟨rfl, take_while_all (by rw [List.take_of_length_le (by omega)] at hall; exact hall)⟩, rfl⟩

set_option maxRecDepth 20000 in
theorem IndexFunc_ok (s : List UInt8) (I : Heap) : Ctr Tryz.prog 42 [str s, .func (.func 43) #[] #[]] I [] (fun e _I' H' => ∃ n, e = .returned (i64 n) ∧ endsAt s n ∧ H' = []) := by
 refine Ctr.of_body Tryz.func42 rfl (by decide) (Nat.le_of_ble_eq_true rfl) ?_
 intro w0 hw0
 refine Cj.seq (Cj.region (J.z (yl_assign rfl rfl) ?_))
 refine J.nil (Ej.seq (Cj.seq (Cj.region (J.z (yl_move rfl rfl) ?_))))
 refine J.z (yl_move rfl rfl) ?_
 refine J.op rfl (op_call (H1 := []) rfl rfl rfl rfl rfl (indexFunc_ok s _) ?_ (fun _ _ _ _ h => by obtain ⟨_, h, _⟩ := h; cases h) (fun _ _ h => by obtain ⟨_, h, _⟩ := h; cases h))
 intro v1 I2 H3 hle4 hp5
 obtain ⟨n, h, hn, rfl⟩ := hp5; cases h
 refine J.z (yl_assign rfl rfl) ?_
 refine J.nil (Ej.seq (Cj.ret (Ej.ret1 rfl rfl rfl ?_)))
 exact ⟨_, rfl, hn, rfl⟩

end Go.Proofs.YtnogdccoekfnoaaGreatDoor
