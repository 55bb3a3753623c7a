/-
  Contracts of the library's TrimLeft, HasPrefix, Map, Index, Contains; of cql's small, lists, operator, relation. Own text, printed by a program. Conditions: none.
-/
import Derived.Test.YtlfpehljahgbkaaGreatDoorCqJ
import Derived.Test.YtlfpehljahgbkaaGreatDoorCqE
import Derived.Shelf.Strings.SlTrimAscii
namespace Go.Proofs.YtlfpehljahgbkaaGreatDoor
open Go Go.Sx
def blanks : List UInt8 := [32, 9, 10, 13]
def breaks : List UInt8 := [32, 9, 10, 13, 40, 41, 34, 61, 60, 62]
theorem TrimLeft_ok (s : List UInt8) (I : Heap) : Pure Tryz.prog 51 [str s, str blanks] I (str (Lib.trimLeftS s blanks)) :=
  Pure.of_below (Enters.of Tryz.func51 (by decide) rfl) fun w _ => by
    have h := Any.strings_TrimLeft_laid Tryz.lays161 (by kernel_rfl) ⟨s.toArray⟩ ⟨blanks.toArray⟩ w (by decide) (ascii_of_all (by decide))
    rw [ba_list, ba_list] at h
    exact h
theorem HasPrefix_ok (s p : List UInt8) (I : Heap) : Pure Tryz.prog 54 [str s, str p] I (.bool (p.isPrefixOf s)) :=
  Pure.of_same (Enters.of Tryz.func54 (by decide) rfl) fun w _ => by
    have h := Tryz.strings_HasPrefix ⟨s.toArray⟩ ⟨p.toArray⟩ w
    rw [ba_list, ba_list] at h
    exact h
/-- What strings.Map needs of unicode/utf8's tables. -/
def Tabs (I : Heap) : Prop := ∀ w : World, (∀ b o, I b = some o → w.heap[b]? = some o) → Lib.Utf8Tabs 1 2 w
theorem Tabs.mono {I I' : Heap} (h : Tabs I) (hle : Le I I') : Tabs I' := fun w hw => h w fun b o hb => hw b o (hle b o hb)
def lowI (x : Int) : Int := if 65 ≤ x ∧ x ≤ 90 then x + 32 else x
theorem Sx.Pure.below {P : Program} {f : FuncId} {args : List Value} {v : Value} (h : Sx.Pure P f args (fun _ => none) v) (w : World) : Calls P f args.toArray w fun e w' => e = .returned v ∧ RowKit.Below w.heap.size w w' :=
  (h.2 w ⟨fun _ _ h => (by cases h), fun _ h => (by cases h), (by simp), fun _ h => (by cases h)⟩).mono fun e w' ⟨I', H', hs, h1, _, _⟩ => ⟨h1, hs.os, hs.tape, hs.output, hs.size, fun k hk => hs.frm k hk (by simp)⟩
def small2 (s : List UInt8) : List UInt8 := Lib.mapD lowI s
theorem decodeL_ascii (c : UInt8) (r : List UInt8) (hc : c.toNat < 128) : Lib.decodeL (c :: r) = (c.toNat, 1) := dec_ascii (l := c :: r) (i := 0) rfl hc
theorem small2_cons {c : UInt8} (r : List UInt8) (hc : c.toNat < 128) : small2 (c :: r) = Cq.low c :: small2 r := by
  unfold small2
  rw [Lib.mapD_step _ _ (by simp), decodeL_ascii c r hc]
  have h0 : (0 : Int) ≤ lowI c.toNat := by unfold lowI; split <;> omega
  simp only [if_pos h0, List.drop_one, List.tail_cons]
  have h1 : lowI c.toNat = (Cq.low c).toNat := by
    unfold lowI Cq.low
    by_cases h : 65 ≤ c.toNat ∧ c.toNat ≤ 90
    · rw [if_pos (by omega), if_pos h, UInt8.toNat_add]; simp; omega
    · rw [if_neg (by omega), if_neg h]
  have h2 : (Cq.low c).toNat < 128 := by
    have : (0:Int) ≤ lowI c.toNat ∧ lowI c.toNat < 128 := by unfold lowI; split <;> omega
    omega
  rw [h1, Lib.encodeRune, Lib.encodeRuneZ_one (by omega) (by omega)]
  simp
theorem small2_ascii : ∀ (s : List UInt8), (∀ c ∈ s, c.toNat < 128) → small2 s = Cq.small s
  | [], _ => rfl
  | c :: r, h => by rw [small2_cons r (h c (.head _)), small2_ascii r fun x hx => h x (.tail _ hx)]; rfl
theorem encode_high {r : Int} (h : 128 ≤ r) : ∃ c ∈ Lib.encodeRune r, 128 ≤ c.toNat := by
  unfold Lib.encodeRune Lib.encodeRuneZ
  rw [if_neg (by omega)]
  split
  · exact ⟨_, by simp; exact .inl rfl, by simp; omega⟩
  · split
    · exact ⟨_, by simp; exact .inl rfl, by simp; omega⟩
    · split
      · exact ⟨_, by simp; exact .inl rfl, by simp; omega⟩
      · exact ⟨239, by decide, by decide⟩
theorem small2_high : ∀ (s : List UInt8), (∃ c ∈ s, 128 ≤ c.toNat) → ∃ c ∈ small2 s, 128 ≤ c.toNat
  | [], h => by obtain ⟨c, h, _⟩ := h; cases h
  | c :: r, h => by
    by_cases hc : c.toNat < 128
    · obtain ⟨d, hd, hd2⟩ := h
      rcases List.mem_cons.1 hd with rfl | hd
      · omega
      · obtain ⟨x, hx, hx2⟩ := small2_high r ⟨d, hd, hd2⟩
        exact ⟨x, by rw [small2_cons r hc]; exact .tail _ hx, hx2⟩
    · have hh := dec_hi (l := c :: r) (i := 0) (c := c) rfl (by omega)
      have hl : lowI ((Lib.decodeL (c :: r)).1 : Int) = (Lib.decodeL (c :: r)).1 := by
        unfold lowI Lib.decodeL; rw [if_neg (by omega)]
      unfold small2
      rw [Lib.mapD_step _ _ (by simp), hl, if_pos (by omega)]
      obtain ⟨x, hx, hx2⟩ := encode_high (r := (Lib.decodeL (c :: r)).1) (by unfold Lib.decodeL; omega)
      exact ⟨x, List.mem_append_left _ hx, hx2⟩
theorem low_high {c : UInt8} (h : 128 ≤ c.toNat) : Cq.low c = c := by unfold Cq.low; rw [if_neg (by omega)]
/-- A word of ASCII letters is found alike. -/
theorem small2_eq (s w : List UInt8) (hw : ∀ c ∈ w, c.toNat < 128) : small2 s = w ↔ Cq.small s = w := by
  by_cases h : ∀ c ∈ s, c.toNat < 128
  · rw [small2_ascii s h]
  · have h' : ∃ c ∈ s, 128 ≤ c.toNat := by
      apply Classical.byContradiction; intro hn; apply h; intro c hc
      rcases Nat.lt_or_ge c.toNat 128 with h1 | h1
      · exact h1
      · exact absurd ⟨c, hc, h1⟩ hn
    constructor
    · intro e; obtain ⟨c, hc, hc2⟩ := small2_high s h'; have := hw c (e ▸ hc); omega
    · intro e; obtain ⟨c, hc, hc2⟩ := h'; have := hw c (e ▸ (low_high hc2 ▸ List.mem_map_of_mem (f := Cq.low) hc : c ∈ Cq.small s)); omega
theorem small2_in {l : List (List UInt8)} (hl : ∀ w ∈ l, ∀ c ∈ w, c.toNat < 128) (s : List UInt8) : l.contains (small2 s) = l.contains (Cq.small s) ∧ (l.contains (Cq.small s) = true → small2 s = Cq.small s) := by
  refine ⟨?_, fun h => ?_⟩
  · rw [Bool.eq_iff_iff, List.contains_iff_mem, List.contains_iff_mem]
    exact ⟨fun h => (small2_eq s _ (hl _ h)).1 rfl ▸ h, fun h => (small2_eq s _ (hl _ h)).2 rfl ▸ h⟩
  · exact (small2_eq s _ (hl _ (List.contains_iff_mem.1 h))).2 rfl

theorem w32 {n : Int} (h : -2147483648 ≤ n ∧ n ≤ 2147483647) : IntKind.i32.wrap n = n := by
  unfold IntKind.wrap
  simp [IntKind.bits, IntKind.signed]
  omega

set_option maxRecDepth 20000 in
theorem low_ok (x : Int) (h0 : 0 ≤ x) (h1 : x ≤ 1114111) (I : Heap) : Pure Tryz.prog 94 [.int .i32 x] I (.int .i32 (lowI x)) := by
  refine Ctr.of_body Tryz.func94 rfl (by decide) (Nat.le_of_ble_eq_true rfl) ?_
  intro w0 hw0
  refine Cj.seq ?_
  refine Cj.region ?_
  refine J.y (yl_assign rfl rfl) rfl rfl rfl ?_
  refine J.nil ?_
  refine Ej.seq ?_
  refine Cj.seq ?_
  refine Cj.seq ?_
  refine Cj.region ?_
  refine J.y (yl_move rfl rfl) rfl rfl rfl ?_
  refine J.y (yl_geq rfl rfl rfl) rfl rfl rfl ?_
  refine J.y (yl_move rfl rfl) rfl rfl rfl ?_
  refine J.split 5 rfl (fun hg1 => ?_) (fun hg1 => ?_)
  ·
    refine J.opG 2 5 true _ rfl rfl rfl hg1 (op_yld (yl_move rfl rfl) rfl rfl ?_)
    refine J.opG 2 5 true _ rfl rfl rfl hg1 (op_yld (yl_leq rfl rfl rfl) rfl rfl ?_)
    refine J.y (yl_pick1 rfl rfl hg1 rfl) rfl rfl rfl ?_
    refine J.nil ?_
    refine Ej.seq ?_
    refine Cj.cond rfl (fun hc2 => ?_) (fun hc2 => ?_)
    ·
      have hc2p := of_decide_eq_true hc2
      have h2 : 65 ≤ x := of_decide_eq_true hg1
      have h3 : x ≤ 90 := of_decide_eq_true hc2
      have hlow : lowI x = x + 97 - 65 := by unfold lowI; rw [if_pos ⟨h2, h3⟩]; omega
      refine Cj.seq ?_
      refine Cj.region ?_
      refine J.y (yl_move rfl rfl) rfl rfl rfl ?_
      refine J.y (yl_add rfl rfl rfl (w32 (by omega))) rfl rfl rfl ?_
      refine J.y (yl_sub rfl rfl rfl (w32 (by omega))) rfl rfl rfl ?_
      refine J.y (yl_assign rfl rfl) rfl rfl rfl ?_
      refine J.nil ?_
      refine Ej.seq ?_
      refine Cj.ret ?_
      refine Ej.seqRet ?_
      refine Ej.ret1 rfl rfl rfl ?_
      rw [hlow]; exact ⟨rfl, rfl, rfl⟩
    ·
      have hc2p := of_decide_eq_false hc2
      have h3 := of_decide_eq_false hc2
      have hlow : lowI x = x := by unfold lowI; rw [if_neg (by omega)]
      refine Cj.skip ?_
      refine Ej.seq ?_
      refine Cj.seq ?_
      refine Cj.region ?_
      refine J.y (yl_move rfl rfl) rfl rfl rfl ?_
      refine J.y (yl_assign rfl rfl) rfl rfl rfl ?_
      refine J.nil ?_
      refine Ej.seq ?_
      refine Cj.ret ?_
      refine Ej.ret1 rfl rfl rfl ?_
      rw [hlow]; exact ⟨rfl, rfl, rfl⟩
  ·
    have h2 := of_decide_eq_false hg1
    have hlow : lowI x = x := by unfold lowI; rw [if_neg (by omega)]
    refine J.skip 2 5 6 true _ rfl rfl rfl hg1 rfl rfl ?_
    refine J.skip 2 5 7 true _ rfl rfl rfl hg1 rfl rfl ?_
    refine J.y (yl_pick0 rfl rfl hg1 rfl) rfl rfl rfl ?_
    refine J.nil ?_
    refine Ej.seq ?_
    refine Cj.cond rfl (fun hc3 => Bool.noConfusion (Eq.trans (Eq.symm rfl) hc3)) (fun hc3 => ?_)
    refine Cj.skip ?_
    refine Ej.seq ?_
    refine Cj.seq ?_
    refine Cj.region ?_
    refine J.y (yl_move rfl rfl) rfl rfl rfl ?_
    refine J.y (yl_assign rfl rfl) rfl rfl rfl ?_
    refine J.nil ?_
    refine Ej.seq ?_
    refine Cj.ret ?_
    refine Ej.ret1 rfl rfl rfl ?_
    rw [hlow]; exact ⟨rfl, rfl, rfl⟩

theorem Map_ok (s : List UInt8) (hs : s.length ≤ 10000000000) (I : Heap) (ht : Tabs I) : Pure Tryz.prog 93 [.func (.func 94) #[] #[], str s] I (str (small2 s)) :=
  Pure.of_below (Enters.of Tryz.func93 (by decide) rfl) fun w hw => by
    have h := Tryz.strings_Map_grows 94 #[] (run_callFunc (Enters.of Tryz.func94 (by decide) rfl)) lowI ⟨s.toArray⟩ w (by rw [size_mk]; omega)
      (fun W x hx _ => Sx.Pure.below (low_ok x (by omega) (by omega) _) W) (fun x hx => by unfold lowI; split <;> omega) (ht w hw.1)
    rw [ba_list] at h
    exact h
theorem Contains_ok (l : List (List UInt8)) (x : List UInt8) (v : Value) (hl : l.length ≤ 1000000) (I : Heap) (hv : StrSl 9 I l v) : Pure Tryz.prog 57 [v, str x] I (.bool (l.contains x)) := by
  obtain ⟨b, c, sp, rfl, hb⟩ := hv
  refine Pure.of_same (Enters.of Tryz.func57 (by decide) rfl) fun w hw => ?_
  have h := Tryz.slices_Contains_string b 0 l.length c (l.map fun y => ⟨y.toArray⟩) ⟨x.toArray⟩ w (by simp) (by omega) (fun j hj => by
    rw [Nat.zero_add]
    simp at hj
    refine cell_of_heap (hw.1 _ _ hb) ?_
    rw [str_get (x := l[j]) (List.getElem?_eq_getElem hj)]
    simp [str, List.getElem?_eq_getElem hj])
  rw [List.take_of_length_le (by simp)] at h
  have e : Lib.containsS (l.map fun y => (⟨y.toArray⟩ : ByteArray)) ⟨x.toArray⟩ = l.contains x := by
    rw [Bool.eq_iff_iff, Lib.containsS_iff, List.contains_iff_mem, List.mem_map]
    constructor
    · rintro ⟨y, hy, he⟩
      have e : y = x := by simpa using congrArg ByteArray.data he
      exact e ▸ hy
    · exact fun h => ⟨x, h, rfl⟩
  rw [e] at h
  exact h
theorem Index_ok (l : List (List UInt8)) (x : List UInt8) (v : Value) (hl : l.length ≤ 1000000) (I : Heap) (hv : StrSl 9 I l v) : Pure Tryz.prog 79 [v, str x] I (i64 (Lib.idxOfS (l.map fun y => ⟨y.toArray⟩) ⟨x.toArray⟩)) := by
  obtain ⟨b, c, sp, rfl, hb⟩ := hv
  refine Pure.of_same (Enters.of Tryz.func79 (by decide) rfl) fun w hw => ?_
  have h := Tryz.slices_Index_string b 0 l.length c (l.map fun y => ⟨y.toArray⟩) ⟨x.toArray⟩ w (by simp) (by omega) (fun j hj => by
    rw [Nat.zero_add]
    simp at hj
    refine cell_of_heap (hw.1 _ _ hb) ?_
    rw [str_get (x := l[j]) (List.getElem?_eq_getElem hj)]
    simp [str, List.getElem?_eq_getElem hj])
  rw [List.take_of_length_le (by simp)] at h
  exact h
def opers : List (List UInt8) := [[97, 110, 100], [111, 114], [110, 111, 116]]
def opIdx (x : List UInt8) : Int := if x = [97, 110, 100] then 0 else if x = [111, 114] then 1 else if x = [110, 111, 116] then 2 else -1
theorem ba_eq (x y : List UInt8) : ((⟨x.toArray⟩ : ByteArray) = ⟨y.toArray⟩) = (y = x) := by
  apply propext; constructor
  · intro h; have := congrArg ByteArray.data h; simpa using this.symm
  · rintro rfl; rfl
theorem opIdx_eq (x : List UInt8) : Lib.idxOfS (opers.map fun y => ⟨y.toArray⟩) ⟨x.toArray⟩ = opIdx x := by
  unfold Lib.idxOfS opers opIdx
  simp only [List.map_cons, List.map_nil, Lib.idxFromS, ba_eq]
  rfl
theorem opIdx_small (s : List UInt8) : opIdx (small2 s) = opIdx (Cq.small s) := by
  unfold opIdx
  simp only [small2_eq s [97, 110, 100] (by decide), small2_eq s [111, 114] (by decide), small2_eq s [110, 111, 116] (by decide)]
theorem opIdx_operator (t : Cq.Tok) (h : t.kind = 3) : (opIdx (Cq.small t.text) < 0 → Cq.operator t = 0) ∧ (0 ≤ opIdx (Cq.small t.text) → (Cq.operator t : Int) = 2 + opIdx (Cq.small t.text)) ∧ opIdx (Cq.small t.text) ≤ 2 := by
  by_cases h1 : Cq.small t.text = [97, 110, 100]
  · simp [opIdx, Cq.operator, h, h1]
  · by_cases h2 : Cq.small t.text = [111, 114]
    · simp [opIdx, Cq.operator, h, h2]
    · by_cases h3 : Cq.small t.text = [110, 111, 116]
      · simp [opIdx, Cq.operator, h, h3]
      · simp [opIdx, Cq.operator, h, h1, h2, h3]

set_option maxRecDepth 20000 in
theorem cindexes_ok (I : Heap) : Ctr Tryz.prog 58 [] I [] (fun e I' H' => (∃ v, e = .returned v ∧ StrSl 9 I' Cq.indexes v) ∧ H' = []) := by
  refine Ctr.of_body Tryz.func58 rfl (by decide) (Nat.le_of_ble_eq_true rfl) ?_
  intro w0 hw0
  refine Cj.seq ?_
  refine Cj.region ?_
  refine J.y (yl_assign rfl rfl) rfl rfl rfl ?_
  refine J.nil ?_
  refine Ej.seq ?_
  refine Cj.seq ?_
  refine Cj.region ?_
  refine J.op rfl (op_buildSlice rfl rfl rfl Tryz.underlying44 Tryz.sizeOf9 Tryz.zeroValue9 rfl rfl rfl rfl (LCat.one rfl (LCat.one rfl (LCat.one rfl (LCat.one rfl (LCat.one rfl (LCat.one rfl LCat.none)))))) ?_)
  intro b1 hb1
  refine J.y (yl_assign rfl rfl) rfl rfl rfl ?_
  refine J.nil ?_
  refine Ej.seq ?_
  refine Cj.ret ?_
  refine Ej.persist hb1 (fun I3 hle2 hb1i => ?_)
  refine Ej.ret1 rfl rfl rfl ?_
  exact ⟨⟨_, rfl, b1, 6, [], rfl, hb1i⟩, rfl⟩

set_option maxRecDepth 20000 in
theorem crelations_ok (I : Heap) : Ctr Tryz.prog 59 [] I [] (fun e I' H' => (∃ v, e = .returned v ∧ StrSl 9 I' Cq.relations v) ∧ H' = []) := by
  refine Ctr.of_body Tryz.func59 rfl (by decide) (Nat.le_of_ble_eq_true rfl) ?_
  intro w0 hw0
  refine Cj.seq ?_
  refine Cj.region ?_
  refine J.y (yl_assign rfl rfl) rfl rfl rfl ?_
  refine J.nil ?_
  refine Ej.seq ?_
  refine Cj.seq ?_
  refine Cj.region ?_
  refine J.op rfl (op_buildSlice rfl rfl rfl Tryz.underlying44 Tryz.sizeOf9 Tryz.zeroValue9 rfl rfl rfl rfl (LCat.one rfl (LCat.one rfl (LCat.one rfl (LCat.one rfl (LCat.one rfl (LCat.one rfl LCat.none)))))) ?_)
  intro b1 hb1
  refine J.y (yl_assign rfl rfl) rfl rfl rfl ?_
  refine J.nil ?_
  refine Ej.seq ?_
  refine Cj.ret ?_
  refine Ej.persist hb1 (fun I3 hle2 hb1i => ?_)
  refine Ej.ret1 rfl rfl rfl ?_
  exact ⟨⟨_, rfl, b1, 6, [], rfl, hb1i⟩, rfl⟩

set_option maxRecDepth 20000 in
theorem coperators_ok (I : Heap) : Ctr Tryz.prog 50 [] I [] (fun e I' H' => (∃ v, e = .returned v ∧ StrSl 9 I' opers v) ∧ H' = []) := by
  refine Ctr.of_body Tryz.func50 rfl (by decide) (Nat.le_of_ble_eq_true rfl) ?_
  intro w0 hw0
  refine Cj.seq ?_
  refine Cj.region ?_
  refine J.y (yl_assign rfl rfl) rfl rfl rfl ?_
  refine J.nil ?_
  refine Ej.seq ?_
  refine Cj.seq ?_
  refine Cj.region ?_
  refine J.op rfl (op_buildSlice rfl rfl rfl Tryz.underlying44 Tryz.sizeOf9 Tryz.zeroValue9 rfl rfl rfl rfl (LCat.one rfl (LCat.one rfl (LCat.one rfl LCat.none))) ?_)
  intro b1 hb1
  refine J.y (yl_assign rfl rfl) rfl rfl rfl ?_
  refine J.nil ?_
  refine Ej.seq ?_
  refine Cj.ret ?_
  refine Ej.persist hb1 (fun I3 hle2 hb1i => ?_)
  refine Ej.ret1 rfl rfl rfl ?_
  exact ⟨⟨_, rfl, b1, 3, [], rfl, hb1i⟩, rfl⟩

set_option maxRecDepth 20000 in
theorem csmall_ok (s : List UInt8) (hs : s.length ≤ 10000000000) (I : Heap) (ht : Tabs I) : Pure Tryz.prog 78 [str s] I (str (small2 s)) := by
  refine Ctr.of_body Tryz.func78 rfl (by decide) (Nat.le_of_ble_eq_true rfl) ?_
  intro w0 hw0
  refine Cj.seq ?_
  refine Cj.region ?_
  refine J.y (yl_assign rfl rfl) rfl rfl rfl ?_
  refine J.nil ?_
  refine Ej.seq ?_
  refine Cj.seq ?_
  refine Cj.region ?_
  refine J.y (yl_move rfl rfl) rfl rfl rfl ?_
  refine J.op rfl (op_pure rfl rfl rfl rfl rfl (Map_ok s hs _ ht) ?_)
  refine J.y (yl_assign rfl rfl) rfl rfl rfl ?_
  refine J.nil ?_
  refine Ej.seq ?_
  refine Cj.ret ?_
  refine Ej.ret1 rfl rfl rfl ?_
  exact ⟨rfl, rfl, rfl⟩

set_option maxRecDepth 20000 in
theorem coperator_ok (t : Cq.Tok) (hx : t.text.length ≤ 10000000000) (I : Heap) (ht : Tabs I) : Pure Tryz.prog 56 [tokV t] I (i64 (Cq.operator t : Nat)) := by
  refine Ctr.toPure ?_
  refine Ctr.of_body Tryz.func56 rfl (by decide) (Nat.le_of_ble_eq_true rfl) ?_
  intro w0 hw0
  refine Cj.seq ?_
  refine Cj.region ?_
  refine J.op rfl (op_box rfl rfl rfl rfl rfl ?_)
  intro b1 hb1
  refine J.y (yl_assign rfl rfl) rfl rfl rfl ?_
  refine J.nil ?_
  refine Ej.seq ?_
  refine Cj.seq ?_
  refine Cj.seq ?_
  refine Cj.region ?_
  refine J.y (yl_fieldAddr (off' := 0) rfl rfl Tryz.underlying74 rfl Tryz.sizeOf72 rfl) rfl rfl rfl ?_
  refine J.y (yl_load rfl rfl Tryz.isAgg72 (Blk.at 0 rfl) rfl) rfl rfl rfl ?_
  refine J.y (yl_neq rfl rfl rfl) rfl rfl rfl ?_
  refine J.nil ?_
  refine Ej.seq ?_
  refine Cj.cond rfl (fun hc2 => ?_) (fun hc2 => ?_)
  ·
    have hc2p := bne_iff_ne.1 hc2
    have hk : ¬ t.kind = 3 := by omega
    have ho : Cq.operator t = 0 := by unfold Cq.operator; rw [if_pos hk]
    refine Cj.seq ?_
    refine Cj.region ?_
    refine J.y (yl_assign rfl rfl) rfl rfl rfl ?_
    refine J.nil ?_
    refine Ej.seq ?_
    refine Cj.ret ?_
    refine Ej.seqRet ?_
    refine Ej.bare ?_
    refine Ej.ret1 rfl rfl rfl ?_
    rw [ho]; exact ⟨rfl, rfl⟩
  ·
    have hc2p := bne_f hc2
    have hk : t.kind = 3 := by have := bne_f hc2; omega
    have hop := opIdx_operator t hk
    refine Cj.skip ?_
    refine Ej.seq ?_
    refine Cj.seq ?_
    refine Cj.drawSel [0] [] 6 (by kernel_rfl) ?_
    refine JA.take 1 rfl rfl (by kernel_rfl) (by kernel_rfl) (by kernel_rfl) (fun _ _ _ h => h) rfl rfl rfl (HSub.c 0 rfl HSub.n) CSub.n (Le.refl _) (yl_fieldAddr (off' := 1) rfl rfl Tryz.underlying74 rfl Tryz.sizeOf9 rfl) ?_
    refine JA.take 2 rfl rfl (by kernel_rfl) (by kernel_rfl) (by kernel_rfl) (fun _ _ _ h => h) rfl rfl rfl (HSub.c 0 rfl HSub.n) CSub.n (Le.refl _) (yl_load rfl rfl Tryz.isAgg9 (Blk.atC 0 rfl) rfl) ?_
    refine JA.step 0 (by kernel_rfl) rfl rfl (op_call (H1 := []) rfl rfl rfl rfl rfl (coperators_ok _) ?_ (fun _ _ _ _ h => by obtain ⟨⟨_, h, _⟩, _⟩ := h; cases h) (fun _ _ h => by obtain ⟨⟨_, h, _⟩, _⟩ := h; cases h))
    intro v3 I4 H5 hle6 hp7
    have ht := ht.mono hle6
    obtain ⟨⟨v3x, hv3, hsv3⟩, rfl⟩ := hp7; cases hv3
    refine ⟨⟨(Le.trans (Le.refl _) hle6), (HSub.c 0 rfl HSub.n), CSub.n⟩, ?_⟩
    refine JA.step 3 (by kernel_rfl) rfl rfl (op_pure rfl rfl rfl rfl rfl (csmall_ok _ (by omega) _ ht) ?_)
    refine ⟨⟨(Le.trans (Le.refl _) hle6), (HSub.c 0 rfl HSub.n), CSub.n⟩, ?_⟩
    refine JA.step 4 (by kernel_rfl) rfl rfl (op_pure rfl rfl rfl rfl rfl (Index_ok opers _ _ (by decide) _ hsv3) ?_)
    refine ⟨⟨(Le.trans (Le.refl _) hle6), (HSub.c 0 rfl HSub.n), CSub.n⟩, ?_⟩
    refine JA.eqv 11 rfl (show _ = i64 (opIdx (Cq.small t.text)) from (by rw [opIdx_eq, opIdx_small])) ?_
    refine JA.take 5 rfl rfl (by kernel_rfl) (by kernel_rfl) (by kernel_rfl) (fun _ _ _ h => h) rfl rfl rfl (HSub.c 0 rfl HSub.n) CSub.n (Le.trans (Le.refl _) hle6) (yl_assign rfl rfl) ?_
    refine JA.done (by kernel_rfl) ?_
    refine Ej.seq ?_
    refine Cj.seq ?_
    refine Cj.seq ?_
    refine Cj.region ?_
    refine J.y (yl_move rfl rfl) rfl rfl rfl ?_
    refine J.y (yl_lss rfl rfl rfl) rfl rfl rfl ?_
    refine J.nil ?_
    refine Ej.seq ?_
    refine Cj.cond rfl (fun hc8 => ?_) (fun hc8 => ?_)
    ·
      have hc8p := of_decide_eq_true hc8
      have ho : Cq.operator t = 0 := hop.1 (of_decide_eq_true hc8)
      refine Cj.seq ?_
      refine Cj.region ?_
      refine J.y (yl_assign rfl rfl) rfl rfl rfl ?_
      refine J.nil ?_
      refine Ej.seq ?_
      refine Cj.ret ?_
      refine Ej.seqRet ?_
      refine Ej.bare ?_
      refine Ej.ret1 rfl rfl rfl ?_
      rw [ho]; exact ⟨rfl, rfl⟩
    ·
      have hc8p := of_decide_eq_false hc8
      have h0 := of_decide_eq_false hc8
      have ho := hop.2.1 (by omega)
      refine Cj.skip ?_
      refine Ej.seq ?_
      refine Cj.seq ?_
      refine Cj.region ?_
      refine J.y (yl_move rfl rfl) rfl rfl rfl ?_
      refine J.y (yl_add rfl rfl rfl (w64 (by omega))) rfl rfl rfl ?_
      refine J.y (yl_assign rfl rfl) rfl rfl rfl ?_
      refine J.nil ?_
      refine Ej.seq ?_
      refine Cj.ret ?_
      refine Ej.bare ?_
      refine Ej.ret1 rfl rfl rfl ?_
      rw [ho]; exact ⟨rfl, rfl⟩

set_option maxRecDepth 20000 in
theorem crelation_ok (t : Cq.Tok) (hx : t.text.length ≤ 10000000000) (I : Heap) (ht : Tabs I) : Pure Tryz.prog 77 [tokV t] I (.bool (Cq.relation t)) := by
  refine Ctr.toPure ?_
  refine Ctr.of_body Tryz.func77 rfl (by decide) (Nat.le_of_ble_eq_true rfl) ?_
  intro w0 hw0
  refine Cj.seq ?_
  refine Cj.region ?_
  refine J.op rfl (op_box rfl rfl rfl rfl rfl ?_)
  intro b1 hb1
  refine J.y (yl_assign rfl rfl) rfl rfl rfl ?_
  refine J.nil ?_
  refine Ej.seq ?_
  refine Cj.seq ?_
  refine Cj.drawSel [0] [] 16 (by kernel_rfl) ?_
  refine JA.take 0 rfl rfl (by kernel_rfl) (by kernel_rfl) (by kernel_rfl) (fun _ _ _ h => h) rfl rfl rfl (HSub.c 0 rfl HSub.n) CSub.n (Le.refl _) (yl_fieldAddr (off' := 0) rfl rfl Tryz.underlying74 rfl Tryz.sizeOf72 rfl) ?_
  refine JA.take 1 rfl rfl (by kernel_rfl) (by kernel_rfl) (by kernel_rfl) (fun _ _ _ h => h) rfl rfl rfl (HSub.c 0 rfl HSub.n) CSub.n (Le.refl _) (yl_load rfl rfl Tryz.isAgg72 (Blk.atC 0 rfl) rfl) ?_
  refine JA.take 2 rfl rfl (by kernel_rfl) (by kernel_rfl) (by kernel_rfl) (fun _ _ _ h => h) rfl rfl rfl (HSub.c 0 rfl HSub.n) CSub.n (Le.refl _) (yl_eql rfl rfl rfl) ?_
  refine JA.take 3 rfl rfl (by kernel_rfl) (by kernel_rfl) (by kernel_rfl) (fun _ _ _ h => h) rfl rfl rfl (HSub.c 0 rfl HSub.n) CSub.n (Le.refl _) (yl_move rfl rfl) ?_
  refine JA.split 6 rfl (fun hg2 => ?_) (fun hg2 => ?_)
  ·
    have hk : t.kind = 3 := by have := eq_of_beq hg2; omega
    refine JA.takeS 4 3 6 false _ rfl rfl (by kernel_rfl) (by kernel_rfl) (by kernel_rfl) (fun _ _ _ h => h) rfl rfl rfl (.inl (congrArg Value.bool hg2)) rfl rfl (HSub.c 0 rfl HSub.n) CSub.n (Le.refl _) ?_
    refine JA.takeS 5 3 6 false _ rfl rfl (by kernel_rfl) (by kernel_rfl) (by kernel_rfl) (fun _ _ _ h => h) rfl rfl rfl (.inl (congrArg Value.bool hg2)) rfl rfl (HSub.c 0 rfl HSub.n) CSub.n (Le.refl _) ?_
    refine JA.takeS 6 3 6 false _ rfl rfl (by kernel_rfl) (by kernel_rfl) (by kernel_rfl) (fun _ _ _ h => h) rfl rfl rfl (.inl (congrArg Value.bool hg2)) rfl rfl (HSub.c 0 rfl HSub.n) CSub.n (Le.refl _) ?_
    refine JA.take 7 rfl rfl (by kernel_rfl) (by kernel_rfl) (by kernel_rfl) (fun _ _ _ h => h) rfl rfl rfl (HSub.c 0 rfl HSub.n) CSub.n (Le.refl _) (yl_pick1 rfl rfl hg2 rfl) ?_
    refine JA.take 8 rfl rfl (by kernel_rfl) (by kernel_rfl) (by kernel_rfl) (fun _ _ _ h => h) rfl rfl rfl (HSub.c 0 rfl HSub.n) CSub.n (Le.refl _) (yl_move rfl rfl) ?_
    refine JA.takeG 10 8 11 true _ rfl rfl (by kernel_rfl) (by kernel_rfl) (by kernel_rfl) (fun _ _ _ h => h) rfl rfl rfl rfl rfl rfl (HSub.c 0 rfl HSub.n) CSub.n (Le.refl _) (yl_fieldAddr (off' := 1) rfl rfl Tryz.underlying74 rfl Tryz.sizeOf9 rfl) ?_
    refine JA.takeG 11 8 11 true _ rfl rfl (by kernel_rfl) (by kernel_rfl) (by kernel_rfl) (fun _ _ _ h => h) rfl rfl rfl rfl rfl rfl (HSub.c 0 rfl HSub.n) CSub.n (Le.refl _) (yl_load rfl rfl Tryz.isAgg9 (Blk.atC 0 rfl) rfl) ?_
    refine JA.stepG 9 8 11 true _ (by kernel_rfl) rfl rfl rfl rfl rfl (op_call (H1 := []) rfl rfl rfl rfl rfl (crelations_ok _) ?_ (fun _ _ _ _ h => by obtain ⟨⟨_, h, _⟩, _⟩ := h; cases h) (fun _ _ h => by obtain ⟨⟨_, h, _⟩, _⟩ := h; cases h))
    intro v3 I4 H5 hle6 hp7
    have ht := ht.mono hle6
    obtain ⟨⟨v3x, hv3, hsv3⟩, rfl⟩ := hp7; cases hv3
    refine ⟨⟨(Le.trans (Le.refl _) hle6), (HSub.c 0 rfl HSub.n), CSub.n⟩, ?_⟩
    refine JA.stepG 12 8 11 true _ (by kernel_rfl) rfl rfl rfl rfl rfl (op_pure rfl rfl rfl rfl rfl (csmall_ok _ (by omega) _ ht) ?_)
    refine ⟨⟨(Le.trans (Le.refl _) hle6), (HSub.c 0 rfl HSub.n), CSub.n⟩, ?_⟩
    refine JA.stepG 13 8 11 true _ (by kernel_rfl) rfl rfl rfl rfl rfl (op_pure rfl rfl rfl rfl rfl (Contains_ok Cq.relations _ _ (by decide) _ hsv3) ?_)
    refine ⟨⟨(Le.trans (Le.refl _) hle6), (HSub.c 0 rfl HSub.n), CSub.n⟩, ?_⟩
    refine JA.eqv 16 rfl (show _ = .bool (Cq.relations.contains (Cq.small t.text)) from (by rw [(small2_in (l := Cq.relations) (by decide) t.text).1])) ?_
    refine JA.take 14 rfl rfl (by kernel_rfl) (by kernel_rfl) (by kernel_rfl) (fun _ _ _ h => h) rfl rfl rfl (HSub.c 0 rfl HSub.n) CSub.n (Le.trans (Le.refl _) hle6) (yl_pick1 rfl rfl rfl rfl) ?_
    refine JA.take 15 rfl rfl (by kernel_rfl) (by kernel_rfl) (by kernel_rfl) (fun _ _ _ h => h) rfl rfl rfl (HSub.c 0 rfl HSub.n) CSub.n (Le.trans (Le.refl _) hle6) (yl_assign rfl rfl) ?_
    refine JA.done (by kernel_rfl) ?_
    refine Ej.seq ?_
    refine Cj.ret ?_
    refine Ej.bare ?_
    refine Ej.ret1 rfl rfl rfl ?_
    refine ⟨?_, rfl⟩
    simp_all [Cq.relation]
  ·
    have hk : ¬ t.kind = 3 := by have := ne_of_beq_false hg2; omega
    refine JA.takeG 4 3 6 false _ rfl rfl (by kernel_rfl) (by kernel_rfl) (by kernel_rfl) (fun _ _ _ h => h) rfl rfl rfl hg2 rfl rfl (HSub.c 0 rfl HSub.n) CSub.n (Le.refl _) (yl_fieldAddr (off' := 0) rfl rfl Tryz.underlying74 rfl Tryz.sizeOf72 rfl) ?_
    refine JA.takeG 5 3 6 false _ rfl rfl (by kernel_rfl) (by kernel_rfl) (by kernel_rfl) (fun _ _ _ h => h) rfl rfl rfl hg2 rfl rfl (HSub.c 0 rfl HSub.n) CSub.n (Le.refl _) (yl_load rfl rfl Tryz.isAgg72 (Blk.atC 0 rfl) rfl) ?_
    refine JA.takeG 6 3 6 false _ rfl rfl (by kernel_rfl) (by kernel_rfl) (by kernel_rfl) (fun _ _ _ h => h) rfl rfl rfl hg2 rfl rfl (HSub.c 0 rfl HSub.n) CSub.n (Le.refl _) (yl_eql rfl rfl rfl) ?_
    refine JA.take 7 rfl rfl (by kernel_rfl) (by kernel_rfl) (by kernel_rfl) (fun _ _ _ h => h) rfl rfl rfl (HSub.c 0 rfl HSub.n) CSub.n (Le.refl _) (yl_pick0 rfl rfl hg2 rfl) ?_
    refine JA.take 8 rfl rfl (by kernel_rfl) (by kernel_rfl) (by kernel_rfl) (fun _ _ _ h => h) rfl rfl rfl (HSub.c 0 rfl HSub.n) CSub.n (Le.refl _) (yl_move rfl rfl) ?_
    refine JA.split 11 rfl (fun hg8 => ?_) (fun hg8 => ?_)
    ·
      refine JA.takeG 10 8 11 true _ rfl rfl (by kernel_rfl) (by kernel_rfl) (by kernel_rfl) (fun _ _ _ h => h) rfl rfl rfl hg8 rfl rfl (HSub.c 0 rfl HSub.n) CSub.n (Le.refl _) (yl_fieldAddr (off' := 1) rfl rfl Tryz.underlying74 rfl Tryz.sizeOf9 rfl) ?_
      refine JA.takeG 11 8 11 true _ rfl rfl (by kernel_rfl) (by kernel_rfl) (by kernel_rfl) (fun _ _ _ h => h) rfl rfl rfl hg8 rfl rfl (HSub.c 0 rfl HSub.n) CSub.n (Le.refl _) (yl_load rfl rfl Tryz.isAgg9 (Blk.atC 0 rfl) rfl) ?_
      refine JA.stepG 9 8 11 true _ (by kernel_rfl) rfl rfl rfl rfl hg8 (op_call (H1 := []) rfl rfl rfl rfl rfl (crelations_ok _) ?_ (fun _ _ _ _ h => by obtain ⟨⟨_, h, _⟩, _⟩ := h; cases h) (fun _ _ h => by obtain ⟨⟨_, h, _⟩, _⟩ := h; cases h))
      intro v9 I10 H11 hle12 hp13
      have ht := ht.mono hle12
      obtain ⟨⟨v9x, hv9, hsv9⟩, rfl⟩ := hp13; cases hv9
      refine ⟨⟨(Le.trans (Le.refl _) hle12), (HSub.c 0 rfl HSub.n), CSub.n⟩, ?_⟩
      refine JA.stepG 12 8 11 true _ (by kernel_rfl) rfl rfl rfl rfl hg8 (op_pure rfl rfl rfl rfl rfl (csmall_ok _ (by omega) _ ht) ?_)
      refine ⟨⟨(Le.trans (Le.refl _) hle12), (HSub.c 0 rfl HSub.n), CSub.n⟩, ?_⟩
      refine JA.stepG 13 8 11 true _ (by kernel_rfl) rfl rfl rfl rfl hg8 (op_pure rfl rfl rfl rfl rfl (Contains_ok Cq.relations _ _ (by decide) _ hsv9) ?_)
      refine ⟨⟨(Le.trans (Le.refl _) hle12), (HSub.c 0 rfl HSub.n), CSub.n⟩, ?_⟩
      refine JA.eqv 16 rfl (show _ = .bool (Cq.relations.contains (Cq.small t.text)) from (by rw [(small2_in (l := Cq.relations) (by decide) t.text).1])) ?_
      refine JA.take 14 rfl rfl (by kernel_rfl) (by kernel_rfl) (by kernel_rfl) (fun _ _ _ h => h) rfl rfl rfl (HSub.c 0 rfl HSub.n) CSub.n (Le.trans (Le.refl _) hle12) (yl_pick1 rfl rfl hg8 rfl) ?_
      refine JA.take 15 rfl rfl (by kernel_rfl) (by kernel_rfl) (by kernel_rfl) (fun _ _ _ h => h) rfl rfl rfl (HSub.c 0 rfl HSub.n) CSub.n (Le.trans (Le.refl _) hle12) (yl_assign rfl rfl) ?_
      refine JA.done (by kernel_rfl) ?_
      refine Ej.seq ?_
      refine Cj.ret ?_
      refine Ej.bare ?_
      refine Ej.ret1 rfl rfl rfl ?_
      refine ⟨?_, rfl⟩
      simp_all [Cq.relation, nb1]
    ·
      refine JA.takeS 9 8 11 true _ rfl rfl (by kernel_rfl) (by kernel_rfl) (by kernel_rfl) (fun _ _ _ h => h) rfl rfl rfl (.inl (congrArg Value.bool hg8)) rfl rfl (HSub.c 0 rfl HSub.n) CSub.n (Le.refl _) ?_
      refine JA.takeS 10 8 11 true _ rfl rfl (by kernel_rfl) (by kernel_rfl) (by kernel_rfl) (fun _ _ _ h => h) rfl rfl rfl (.inl (congrArg Value.bool hg8)) rfl rfl (HSub.c 0 rfl HSub.n) CSub.n (Le.refl _) ?_
      refine JA.takeS 11 8 11 true _ rfl rfl (by kernel_rfl) (by kernel_rfl) (by kernel_rfl) (fun _ _ _ h => h) rfl rfl rfl (.inl (congrArg Value.bool hg8)) rfl rfl (HSub.c 0 rfl HSub.n) CSub.n (Le.refl _) ?_
      refine JA.takeS 12 8 11 true _ rfl rfl (by kernel_rfl) (by kernel_rfl) (by kernel_rfl) (fun _ _ _ h => h) rfl rfl rfl (.inl (congrArg Value.bool hg8)) rfl rfl (HSub.c 0 rfl HSub.n) CSub.n (Le.refl _) ?_
      refine JA.takeS 13 8 11 true _ rfl rfl (by kernel_rfl) (by kernel_rfl) (by kernel_rfl) (fun _ _ _ h => h) rfl rfl rfl (.inl (congrArg Value.bool hg8)) rfl rfl (HSub.c 0 rfl HSub.n) CSub.n (Le.refl _) ?_
      refine JA.take 14 rfl rfl (by kernel_rfl) (by kernel_rfl) (by kernel_rfl) (fun _ _ _ h => h) rfl rfl rfl (HSub.c 0 rfl HSub.n) CSub.n (Le.refl _) (yl_pick0 rfl rfl hg8 rfl) ?_
      refine JA.take 15 rfl rfl (by kernel_rfl) (by kernel_rfl) (by kernel_rfl) (fun _ _ _ h => h) rfl rfl rfl (HSub.c 0 rfl HSub.n) CSub.n (Le.refl _) (yl_assign rfl rfl) ?_
      refine JA.done (by kernel_rfl) ?_
      refine Ej.seq ?_
      refine Cj.ret ?_
      refine Ej.bare ?_
      refine Ej.ret1 rfl rfl rfl ?_
      refine ⟨?_, rfl⟩
      simp_all [Cq.relation, nb1]

end Go.Proofs.YtlfpehljahgbkaaGreatDoor
