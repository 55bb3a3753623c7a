/-
  Own texts on the laws of the seat, joined: the logic, and contracts of functions. Conditions: none.
-/
import Derived.Test.YtekmeaoblpfnpaaGreatDoorNmR
import Derived.Test.YtekmeaoblpfnpaaGreatDoorPR11
set_option linter.all false
set_option maxRecDepth 100000
set_option maxHeartbeats 40000000
section
namespace Go.Proofs.YtekmeaoblpfnpaaGreatDoor
open Go Go.Sx
def vU (I : Heap) : Prop := ∀ w : World, (∀ b o, I b = some o → w.heap[b]? = some o) → Lib.TabIs Tryz.prog w "strings.asciiSpace" .u8 Lib.asciiSpaceTab ∧ Lib.WhiteTab 3 w
theorem vU.mono {I I'} (h : vU I) (hle : Le I I') : vU I' := fun w hw => h w fun b o hb => hw b o (hle b o hb)
theorem b0O s ws (hf : Lib.fieldsD s = ws) (hs : s.length ≤ 4000000000) I (hT : vU I) : jO Tryz.prog 261 [str s] I [] (fun e _ H' => ∃ b sp, e = .returned (.slice (some ⟨b, 0, none⟩) ws.length ws.length) ∧ H' = [(b, jM 9 (ws.map str ++ sp))]) :=
  jO.b3Y (vals := ws.map fun x => Value.string ⟨x.toArray⟩) rfl (Enters.of Tryz.func261 (by decide) rfl) fun w hw => by
    have h := Tryz.strings_Fields_any ⟨s.toArray⟩ w (by rw [size_mk]; omega) (hT w hw).1 (hT w hw).2
    rw [show (⟨s.toArray⟩ : ByteArray).data.toList = s by simp, hf] at h
    exact h
def sN (ws : List (List UInt8)) (i : Nat) : List (List UInt8) := (ws.take i).map Ke.plainW ++ ws.drop i
theorem WY ws i : (sN ws i).length = ws.length := by
  unfold sN; rw [List.length_append, List.length_map, List.length_take, List.length_drop]; omega
theorem a4u {ws i x} (h : ws[i]? = some x) : (sN ws i)[i]? = some x := by
  have hlt := (List.getElem?_eq_some_iff.1 h).1
  unfold sN
  rw [List.getElem?_append_right (by rw [List.length_map, List.length_take]; omega), List.length_map, List.length_take, Nat.min_eq_left (Nat.le_of_lt hlt), Nat.sub_self, List.getElem?_drop]
  exact h
theorem a5l {ws i x} (h : ws[i]? = some x) sp : ((sN ws i).map str ++ sp).set i (str (Ke.plainW x)) = (sN ws (i + 1)).map str ++ sp := by
  obtain ⟨hlt, hg⟩ := List.getElem?_eq_some_iff.1 h
  rw [List.set_append_left _ _ (by rw [List.length_map, WY]; exact hlt), List.map_set.symm]
  congr 2
  unfold sN
  rw [List.set_append_right _ _ (by rw [List.length_map, List.length_take]; omega), List.length_map, List.length_take, Nat.min_eq_left (Nat.le_of_lt hlt), Nat.sub_self, ← List.getElem_cons_drop hlt, List.set_cons_zero, List.take_succ_eq_append_getElem hlt, hg, List.map_append, List.append_assoc]
  rfl
theorem a6X {ws i x} (h : ws[i]? = some x) (hx : Ke.plainW x = x) : sN ws i = sN ws (i + 1) := by
  obtain ⟨hlt, hg⟩ := List.getElem?_eq_some_iff.1 h
  unfold sN
  rw [← List.getElem_cons_drop hlt, List.take_succ_eq_append_getElem hlt, hg, List.map_append, List.append_assoc]
  show _ = _ ++ ([Ke.plainW x] ++ _)
  rw [hx]; rfl
theorem b3w k (hk : Ke.a0C k) I (hT : vU I) : Pure Tryz.prog 218 [str k] I (str (Ke.QY k)) := by
 refine jO.toPure ?_
 have hkl := hk.1
 have hwl := Ke.qX k
 have hpl := hk.2.2.1
 refine jU Tryz.func218 fun w0 hw0 => ?_
 refine kL (b0O k (Ke.words k) hk.2.1 (by omega) _ hT) ?_
 intro v1 I2 H3 hle4 hp5
 obtain ⟨fb, fsp, h, rfl⟩ := hp5; cases h
 refine jL 12 ?_
 refine Cj.loop (ι := Nat) (fun i => i ≤ (Ke.words k).length) (fun i => (Ke.words k).length - i) (fun i => [(3, .slice (some ⟨fb, 0, none⟩) (Ke.words k).length (Ke.words k).length), (8, .slice (some ⟨fb, 0, none⟩) (Ke.words k).length (Ke.words k).length), (9, i64 ((Ke.words k).length : Int)), (10, i64 (i : Int))]) (fun i => _) (fun i => [(fb, jM 9 ((sN (Ke.words k) i).map str ++ fsp))]) 0 (Nat.zero_le _) ⟨rfl, rfl, rfl, rfl, trivial⟩ rfl (by unfold sN; simp) ?_
 rintro i hi
 have hml := WY (Ke.words k) i
 refine jS (fun hc6 hc6p => ?_) (fun hc6 hc6p => ?_)
 ·have hlt : i < (Ke.words k).length := by omega
  obtain ⟨x, hget⟩ : ∃ x, (Ke.words k)[i]? = some x := ⟨_, kW hlt⟩
  have hxm := lX hget
  have hxl := Ke.xB _ x hxm
  refine kJ i ?_
  refine J.z (jP rfl rfl lQ (jR.at 0 rfl) (nN (a4u hget))) ?_
  refine kC (a6o x (by omega) _) ?_
  refine jL 1 ?_
  refine J.ev 17 (.bool (Ke.digits x)) rfl (congrArg Value.bool (Ke.UE x)) ?_
  refine mW (fun hc17 => ?_) (fun hc17 => ?_)
  ·refine jL 6 ?_
   refine J.z (uN rfl rfl rfl) ?_
   refine J.ev 23 (i64 ((min 2 x.length : Nat) : Int)) rfl (congrArg i64 (by omega)) ?_
   refine J.z (lN (p := min 2 x.length) (q := x.length) rfl rfl lM ⟨_, rfl⟩ rfl (by omega) (by omega)) ?_
   refine J.ev 24 (str (Ke.plainW x)) rfl (by rw [List.take_length]; unfold Ke.plainW; rw [if_pos hc17]; congr 1; rcases Nat.le_total 2 x.length with h | h; rw [Nat.min_eq_left h]; rw [Nat.min_eq_right h, List.drop_length, List.drop_eq_nil_of_le h]) ?_
   refine kJ i ?_
   refine J.op rfl (tH 0 rfl rfl rfl rfl rfl rfl kU rfl (.inl rfl) (by rw [List.length_append, List.length_map, hml]; omega) lS.z ?_)
   refine jL 7 ?_
   refine Ej.round (i + 1) (by omega) (by omega) ⟨rfl, rfl, rfl, rfl, trivial⟩ rfl (by rw [a5l hget]; rfl)
  have hpw : Ke.plainW x = x := by unfold Ke.plainW; rw [hc17]; rfl
  refine jL 7 ?_
  refine Ej.round (i + 1) (by omega) (by omega) ⟨rfl, rfl, rfl, rfl, trivial⟩ rfl (by rw [a6X hget hpw])
 refine jL 6 ?_
 refine Cj.b3K rfl (fun hnew => ?_)
 refine Cj.persist (hnew _ (.head _)) (fun I9 hle9 hfbi => ?_)
 have hi2 : i = (Ke.words k).length := by omega
 have hfull : sN (Ke.words k) i = (Ke.words k).map Ke.plainW := by rw [hi2]; unfold sN; rw [List.take_length, List.drop_length, List.append_nil]
 rw [hfull] at hfbi
 have hv : oO 9 I9 ((Ke.words k).map Ke.plainW) (.slice (some ⟨fb, 0, none⟩) (Ke.words k).length (Ke.words k).length) := .inr ⟨fb, _, fsp, by rw [List.length_map], by rw [List.length_map]; exact Nat.le_refl _, hfbi⟩
 refine kC (a0k ((Ke.words k).map Ke.plainW) _ (by rw [List.length_map]; omega) (by show (Ke.QY k).length ≤ _; omega) _ hv) ?_
 refine jV ?_
 exact ⟨rfl, rfl⟩
end Go.Proofs.YtekmeaoblpfnpaaGreatDoor
end
namespace Go.Proofs.YtekmeaoblpfnpaaGreatDoor
open Go Go.Sx
def nK (m : ML Ix.Rec) (k : Nat) (S : Ix.Rec → Bool) : Prop := MS m k ∧ ∀ t, kH m t = if S t = true then some (.bool true) else none
def qN (I : Heap) (v : Value) (S : Ix.Rec → Bool) : Prop := (v = .map none ∧ ∀ t, S t = false) ∨ ∃ b m k, v = .map (some b) ∧ nK m k S ∧ I b = some (kG jZ m k)
def DZ (v : Value) (S : Ix.Rec → Bool) (H : HL) : Prop := ∃ b m k, v = .map (some b) ∧ nK m k S ∧ H = [(b, kG jZ m k)]
theorem qN.mono {I I' v S} (h : qN I v S) (hle : Le I I') : qN I' v S :=
  h.imp id fun ⟨b, m, k, h1, h2, h3⟩ => ⟨b, m, k, h1, h2, hle _ _ h3⟩
theorem qN.shape {I v S} (h : qN I v S) : ∃ o, v = .map o := h.elim (fun g => ⟨none, g.1⟩) fun ⟨b, _, _, g, _⟩ => ⟨some b, g⟩
def xH (l : List Ix.Rec) (t : Ix.Rec) : Bool := decide (t ∈ l)
theorem nK.nil : nK [] 0 (xH []) := ⟨MS.nil, fun t => by rw [show xH [] t = false from decide_eq_false (by simp)]; rfl⟩
theorem nK.congr {m k S S'} (h : nK m k S) (he : ∀ t, S t = S' t) : nK m k S' := ⟨h.1, fun t => by rw [← he t]; exact h.2 t⟩
theorem nK.add {m k S S'} (h : nK m k S) u (he : ∀ t, S' t = (t == u || S t)) : nK (kN m u (.bool true) k) (mV m u k) S' := by
  refine ⟨h.1.set u _, fun t => ?_⟩
  rw [wB, he t]
  by_cases ht : (t == u) = true
  · rw [if_pos ht, ht]; rfl
  rw [if_neg ht, h.2 t, Bool.eq_false_iff.2 ht]; rfl
theorem nK.push {m k l} (h : nK m k (xH l)) u : nK (kN m u (.bool true) k) (mV m u k) (xH (l ++ [u])) := h.add u fun t => by
  unfold xH
  rw [Bool.eq_iff_iff, Bool.or_eq_true, decide_eq_true_eq, decide_eq_true_eq, List.mem_append, List.mem_singleton, beq_iff_eq]
  exact Or.comm
theorem nK.get {m k S} (h : nK m k S) t : (kH m t).getD (.bool false) = .bool (S t) := by
  rw [h.2 t]
  cases S t <;> rfl
theorem nK.mem {m k S} (h : nK m k S) t : t ∈ m.map (·.1) ↔ S t = true := by
  have h1 := h.2 t
  constructor
  · intro hm
    cases hs : S t with
    | true => rfl
    | false =>
      rw [hs, if_neg Bool.false_ne_true] at h1
      exact absurd hm (pI.1 h1)
  intro hs
  rw [if_pos hs] at h1
  refine Classical.byContradiction fun hn => ?_
  rw [pI.2 hn] at h1
  cases h1
theorem nK.empty {m k S} (h : nK m k S) (h0 : m.length = 0) t : S t = false := by
  have hm : m = [] := List.length_eq_zero_iff.1 h0
  cases hs : S t with
  | false => rfl
  | true => have := (h.mem t).2 hs; rw [hm] at this; cases this
theorem nK.len {m k S} (h : nK m k S) {l : List Ix.Rec} (hl : ∀ t, S t = true → t ∈ l) : m.length ≤ l.length := by
  have := MJ (l := m.map (·.1)) (m := l) h.1.1 fun t ht => hl t ((h.mem t).1 ht)
  rwa [List.length_map] at this
def EN (vis : ML Ix.Rec) (P : Ix.Rec → Bool) (t : Ix.Rec) : Bool := decide (t ∈ vis.map (·.1)) && P t
theorem b0a {vis P x} (h : P x.1 = true) t : EN (vis ++ [x]) P t = (t == x.1 || EN vis P t) := by
  unfold EN
  rw [Bool.eq_iff_iff, Bool.or_eq_true, Bool.and_eq_true, Bool.and_eq_true, decide_eq_true_eq, decide_eq_true_eq, beq_iff_eq, List.map_append, List.mem_append, List.map_cons, List.map_nil, List.mem_singleton]
  constructor
  · rintro ⟨h1 | h1, h2⟩
    · exact .inr ⟨h1, h2⟩
    exact .inl h1
  rintro (rfl | ⟨h1, h2⟩)
  · exact ⟨.inr rfl, h⟩
  exact ⟨.inl h1, h2⟩
theorem b1v {vis P x} (h : P x.1 = false) t : EN (vis ++ [x]) P t = EN vis P t := by
  unfold EN
  rw [Bool.eq_iff_iff, Bool.and_eq_true, Bool.and_eq_true, decide_eq_true_eq, decide_eq_true_eq, List.map_append, List.mem_append, List.map_cons, List.map_nil, List.mem_singleton]
  constructor
  · rintro ⟨h1 | h1, h2⟩
    · exact ⟨h1, h2⟩
    rw [h1, h] at h2; cases h2
  rintro ⟨h1, h2⟩; exact ⟨.inl h1, h2⟩
theorem a8M {vis m k S P} (h : nK m k S) (hp : vis.Perm m) t : EN vis P t = (S t && P t) := by
  unfold EN
  congr 1
  rw [Bool.eq_iff_iff, decide_eq_true_eq, (hp.map _).mem_iff, h.mem]
def EX (vis : ML Ix.Rec) (A : Ix.Rec → Bool) (t : Ix.Rec) : Bool := A t || decide (t ∈ vis.map (·.1))
theorem a0b {vis A x} t : EX (vis ++ [x]) A t = (t == x.1 || EX vis A t) := by
  unfold EX
  rw [Bool.eq_iff_iff, Bool.or_eq_true, Bool.or_eq_true, Bool.or_eq_true, decide_eq_true_eq, decide_eq_true_eq, beq_iff_eq, List.map_append, List.mem_append, List.map_cons, List.map_nil, List.mem_singleton]
  constructor
  · rintro (h | h | h)
    · exact .inr (.inl h)
    · exact .inr (.inr h)
    exact .inl h
  rintro (h | h | h)
  · exact .inr (.inr h)
  · exact .inl h
  exact .inr (.inl h)
theorem a1B {vis m k S A} (h : nK m k S) (hp : vis.Perm m) t : EX vis A t = (A t || S t) := by
  unfold EX
  congr 1
  rw [Bool.eq_iff_iff, decide_eq_true_eq, (hp.map _).mem_iff, h.mem]
abbrev LR := List Ix.Rec × Value
abbrev PD (x : LR) : List Value := [x.2]
def XH (I : Heap) (l : List LR) (v : Value) : Prop := jW PD I l v ∧ ∀ x ∈ l, jW recC I x.1 x.2
theorem XH.mono {I I' l v} (h : XH I l v) (hle : Le I I') : XH I' l v := ⟨h.1.mono hle, fun x hx => (h.2 x hx).mono hle⟩
theorem RG {ls : List LR} {lcs lsp : List Value} {lo} (h : lcs.drop lo = ls.flatMap PD ++ lsp) {i x} (hx : ls[i]? = some x) : lcs[lo + i]? = some x.2 := by
  have h9 := lW (f := PD) (n := 1) (fun _ => rfl) h hx 0 Nat.zero_lt_one
  rw [Nat.mul_one, Nat.add_zero] at h9
  exact h9
theorem b4Z {l : List LR} {i x} (h : l[i]? = some x) : (l.take (i + 1)).flatMap (·.1) = (l.take i).flatMap (·.1) ++ x.1 := by
  obtain ⟨hlt, hg⟩ := List.getElem?_eq_some_iff.1 h
  rw [List.take_succ_eq_append_getElem hlt, hg, List.flatMap_append]
  simp
theorem b2h {l : List Ix.Rec} {i x} (h : l[i]? = some x) P : P ++ l.take (i + 1) = (P ++ l.take i) ++ [x] := by
  obtain ⟨hlt, hg⟩ := List.getElem?_eq_some_iff.1 h
  rw [List.take_succ_eq_append_getElem hlt, hg, List.append_assoc]
theorem lC {α : Type} {f : α → List Value} {I : Heap} {l : List α} {v : Value} (h : jW f I l v) : ∃ p c, v = .slice p l.length c := let ⟨p, c, h1, _⟩ := h; ⟨p, c, h1⟩
def yX (I : Heap) (v : Value) (L : Ix.Ix) : Prop := (v = .pointer none ∧ L = []) ∨ ∃ ib, v = ptr ib 0 ∧ zJ I ib L
theorem yX.mono {I I' v L} (h : yX I v L) (hle : Le I I') : yX I' v L := h.imp id fun ⟨ib, h1, h2⟩ => ⟨ib, h1, h2.mono hle⟩
theorem yX.pU {I v L} (h : yX I v L) : Ix.nO L := by
  rcases h with ⟨_, rfl⟩ | ⟨ib, _, h⟩
  · exact List.Pairwise.nil
  exact h.pU
theorem yX.big {I v L} (h : yX I v L) : L.length ≤ 100000 := by
  rcases h with ⟨_, rfl⟩ | ⟨ib, _, h⟩
  · exact Nat.zero_le _
  exact h.big
theorem a0g {l} (h : ∀ t, t ∈ l → t ∈ ([] : Ix.Ix).map (·.1)) : l = [] := List.eq_nil_iff_forall_not_mem.2 fun t ht => by have := h t ht; cases this
theorem b2L xv L n s (hs : s.length ≤ 100000000) I (hx : yX I xv L) : jO Tryz.prog 32 [xv, str n, str s] I [] (fun e _ H' => ∃ v, e = .returned v ∧ KL (Ix.word L n s) v H') := by
  rcases hx with ⟨rfl, rfl⟩ | ⟨ib, rfl, hx⟩
  · refine (b3z n s hs I).mono fun e I' H' _ ⟨h1, h2⟩ => ⟨_, h1, ?_⟩
    rw [a0g fun t ht => Ix.a0P (L := []) ht, h2]
    exact TU
  exact b4s ib L n s hs I hx
theorem a7t xv L n s (hs : s.length ≤ 100000000) I (hx : yX I xv L) : jO Tryz.prog 33 [xv, str n, str s] I [] (fun e _ H' => ∃ v, e = .returned v ∧ KL (Ix.phrase L n (Ke.words s)) v H') := by
  rcases hx with ⟨rfl, rfl⟩ | ⟨ib, rfl, hx⟩
  · refine (a8H n s hs I).mono fun e I' H' _ ⟨h1, h2⟩ => ⟨_, h1, ?_⟩
    rw [a0g fun t ht => Ix.RF (L := []) ht, h2]
    exact TU
  exact b0x ib L n s hs I hx
theorem a6I xv L n s (hs : s.length ≤ 100000000) I (hx : yX I xv L) : jO Tryz.prog 34 [xv, str n, str s] I [] (fun e _ H' => ∃ v, e = .returned v ∧ KL (Ix.oG L n (Ix.keyOf n s)) v H') := by
  rcases hx with ⟨rfl, rfl⟩ | ⟨ib, rfl, hx⟩
  · refine (b5y n s I).mono fun e I' H' _ ⟨h1, h2⟩ => ⟨_, h1, ?_⟩
    rw [a0g fun t ht => Ix.OM (L := []) ht, h2]
    exact TU
  exact b6k ib L n s hs I hx
theorem WM xv L n s (hs : s.length ≤ 100000000) most I (hx : yX I xv L) : jO Tryz.prog 160 [xv, str n, str s, i64 most] I [] (fun e _ H' => ∃ v, e = .returned v ∧ a7E (Ix.scan L n s most) v H') := by
  rcases hx with ⟨rfl, rfl⟩ | ⟨ib, rfl, hx⟩
  · refine (b1p n s most I).mono fun e I' H' _ ⟨h1, h2⟩ => ⟨_, h1, .inl ⟨?_, rfl, h2⟩⟩
    unfold Ix.scan Ix.mP
    simp
  exact b5e ib L n s hs most I hx
theorem b2O xv L t I (hx : yX I xv L) : Pure Tryz.prog 28 [xv, jZ t] I (str (Ix.oI L t)) := by
  rcases hx with ⟨rfl, rfl⟩ | ⟨ib, rfl, hx⟩
  · exact b2S t I
  exact b3f ib L t I hx
end Go.Proofs.YtekmeaoblpfnpaaGreatDoor
section
namespace Go.Proofs.YtekmeaoblpfnpaaGreatDoor
open _root_.Go.Proofs.Tryz
open Go Go.Sx
structure TC where
  vis : ML Ix.Rec
  rest : ML Ix.Rec
  l : ML Ix.Rec
  c : Nat
theorem TY ls v (hll : ls.length ≤ 1000000000000) (hlen : ∀ x ∈ ls, x.1.length ≤ 1000000) I (hls : XH I ls v) : jO Tryz.prog 152 [v] I [] (fun e _ H' => ∃ w, e = .returned w ∧ DZ w (xH (ls.flatMap (·.1))) H') := by
 obtain ⟨⟨p, c, rfl, hc, hp⟩, hrs⟩ := hls
 refine jU func152 fun w0 hw0 => ?_
 refine jL 7 ?_
 refine J.op rfl (kS rfl rfl rfl ?_)
 intro b1 hb1
 refine jL 12 ?_
 refine Cj.loop (ι := Nat × ML Ix.Rec × Nat) (fun y => y.1 ≤ ls.length ∧ nK y.2.1 y.2.2 (xH ((ls.take y.1).flatMap (·.1)))) (fun y => ls.length - y.1) (fun y => [(3, .map (some b1)), (9, .slice p ls.length c), (10, i64 (ls.length : Int)), (11, i64 (y.1 : Int))]) (fun y => _) (fun y => [(b1, kG jZ y.2.1 y.2.2)]) (0, [], 0) ⟨Nat.zero_le _, nK.nil⟩ ⟨rfl, rfl, rfl, rfl, trivial⟩ rfl rfl ?_
 rintro ⟨i, l, cc⟩ ⟨hi, hM⟩
 dsimp only at hi hM ⊢
 refine jS (fun hc2 hc2p => ?_) (fun hc2 hc2p => ?_)
 ·have hlt : i < ls.length := by omega
  obtain ⟨⟨xs, xv⟩, hget⟩ : ∃ x, ls[i]? = some x := ⟨_, kW hlt⟩
  obtain ⟨fb, fo, fcs, fty, ffr, fsp, rfl, hfb, hfd⟩ := hp (jT hlt)
  have hx2 := hrs _ (lX hget)
  obtain ⟨p2, c2, hxe, hc2, hp2⟩ := id hx2
  dsimp only at hxe hc2 hp2
  subst hxe
  have hxl := hlen _ (lX hget)
  dsimp only at hxl
  refine kJ (fo + i) ?_
  refine J.z (jP rfl rfl isAgg36 (jR.EH hfb) (RG hfd hget)) ?_
  refine jL 11 ?_
  refine Cj.loop (ι := Nat × ML Ix.Rec × Nat) (fun y => y.1 ≤ xs.length ∧ nK y.2.1 y.2.2 (xH (((ls.take i).flatMap (·.1)) ++ xs.take y.1))) (fun y => xs.length - y.1) (fun y => [(3, .map (some b1)), (9, .slice (some ⟨fb, fo, none⟩) ls.length c), (10, i64 (ls.length : Int)), (11, i64 (i : Int)), (15, .slice p2 xs.length c2), (16, i64 (xs.length : Int)), (17, i64 (y.1 : Int))]) (fun y => _) (fun y => [(b1, kG jZ y.2.1 y.2.2)]) (0, _, _) ⟨Nat.zero_le _, by rw [List.take_zero, List.append_nil]; exact hM⟩ ⟨rfl, rfl, rfl, rfl, rfl, rfl, rfl, trivial⟩ rfl rfl ?_
  clear hM
  rintro ⟨j, l, cc⟩ ⟨hj, hM⟩
  dsimp only at hj hM ⊢
  refine jS (fun hc3 hc3p => ?_) (fun hc3 hc3p => ?_)
  ·have hlj : j < xs.length := by omega
   obtain ⟨y, hgy⟩ : ∃ y, xs[j]? = some y := ⟨_, kW hlj⟩
   obtain ⟨qb, qo, qcs, qty, qfr, qsp, rfl, hqb, hqd⟩ := hp2 (jT hlj)
   refine kJ (qo + j * 2) ?_
   refine J.z (q2 oC lG (jR.EH hqb) (kY kF hqd hgy)) ?_
   refine jL 1 ?_
   intro b4 hb4
   refine jL 6 ?_
   refine J.op rfl (nY (kv := jZ) (a := y) 1 (.inr rfl) rfl rfl rfl rfl rfl pY nC rfl (lS.s lS.z) ?_)
   refine jL 7 ?_
   refine Ej.keep (Keeps.d (Keeps.k Keeps.n)) ?_
   refine Ej.round (j + 1, _, _) ⟨by dsimp only; omega, by dsimp only; rw [b2h hgy]; exact hM.push y⟩ (by dsimp only; omega) ⟨rfl, rfl, rfl, rfl, rfl, rfl, rfl, trivial⟩ rfl rfl
  refine jL 10 ?_
  refine Ej.round (i + 1, _, _) ⟨by dsimp only; omega, by dsimp only; rw [b4Z hget]; rw [List.take_of_length_le (by omega : xs.length ≤ j)] at hM; exact hM⟩ (by dsimp only; omega) ⟨rfl, rfl, rfl, rfl, trivial⟩ rfl rfl
 refine jL 12 ?_
 rw [List.take_of_length_le (by omega : ls.length ≤ i)] at hM
 refine jV ?_
 exact ⟨_, rfl, b1, l, cc, rfl, hM, rfl⟩
theorem b0i mb m k (S P : Ix.Rec → Bool) g cap (hm : nK m k S) I (hmb : I mb = some (kG jZ m k)) (hcl : ∀ t, S t = true → Pure Tryz.prog g (jZ t :: cap) I (.bool (P t))) : jO Tryz.prog 103 [.map (some mb), .func (.func g) #[] cap.toArray] I [] (fun e _ H' => ∃ w, e = .returned w ∧ DZ w (fun t => S t && P t) H') := by
 have hms := hm.1
 refine jU func103 fun w0 hw0 => ?_
 refine jL 7 ?_
 refine J.op rfl (kS rfl rfl rfl ?_)
 intro b1 hb1
 refine jL 7 ?_
 refine J.op rfl (uX (kv := jZ) (l := m) rfl rfl rfl rfl pY (jR.EH hmb) ?_)
 intro b2 hb2
 refine jL 3 ?_
 refine Cj.loop (ι := TC) (fun y => (y.vis ++ y.rest).Perm m ∧ nK y.l y.c (EN y.vis P)) (fun y => y.rest.length) (fun y => [(1, .func (.func g) #[] cap.toArray), (5, .map (some b1)), (9, ptr b2 0)]) (fun y => _) (fun y => [(b2, DJ mb k y.vis k), (b1, kG jZ y.l y.c)]) ⟨[], m, [], 0⟩ ⟨.refl _, nK.nil.congr fun _ => rfl⟩ ⟨rfl, rfl, rfl, trivial⟩ rfl rfl ?_
 rintro ⟨vis, rest, l, cc⟩ ⟨hp, hM⟩
 dsimp only at hp hM ⊢
 refine jL 2 ?_
 refine J.op rfl (xE (kv := jZ) (l := m) 0 rfl rfl rfl rfl rfl (jR.EH hmb) hms.2.2 (Nat.le_refl _) hms.2.1 hp ?_ ?_)
 ·rintro x rest2 H9 hrx hpx ⟨-, hset⟩; simp only [List.set_cons_zero, List.set_cons_succ] at hset; subst hset
  have hxm : x ∈ m := hpx.mem_iff.1 (List.mem_append_left _ (List.mem_append_right _ (.head _)))
  have hSx : S x.1 = true := (hm.mem x.1).1 (List.mem_map_of_mem hxm)
  refine jL 10 ?_
  refine J.z (BD (kv := jZ) (l := m) rfl rfl (jR.at 0 rfl) (jR.EH hmb) hxm hms.2.1) ?_
  refine jL 2 ?_
  intro b4 hb4
  refine kC (hcl x.1 hSx) ?_
  refine mW (fun hc16 => ?_) (fun hc16 => ?_)
  ·have hPx : P x.1 = true := hc16
   refine jL 3 ?_
   refine J.op rfl (nY (kv := jZ) (a := x.1) 2 (.inr rfl) rfl rfl rfl rfl rfl pY nC rfl (lS.s (lS.s lS.z)) ?_)
   refine jL 2 ?_
   refine Ej.keep (Keeps.d (Keeps.k (Keeps.k Keeps.n))) ?_
   refine Ej.round ⟨vis ++ [x], rest2, _, _⟩ ⟨hpx, hM.add x.1 (b0a hPx)⟩ (by have h := hrx.length_eq; simp only [List.length_cons] at h; dsimp only; omega) ⟨rfl, rfl, rfl, trivial⟩ rfl rfl
  have hPx : P x.1 = false := hc16
  refine jL 2 ?_
  refine Ej.keep (Keeps.d (Keeps.k (Keeps.k Keeps.n))) ?_
  refine Ej.round ⟨vis ++ [x], rest2, l, cc⟩ ⟨hpx, hM.congr fun t => (b1v hPx t).symm⟩ (by have h := hrx.length_eq; simp only [List.length_cons] at h; dsimp only; omega) ⟨rfl, rfl, rfl, trivial⟩ rfl rfl
 intro hend
 have hpv : vis.Perm m := by rw [hend, List.append_nil] at hp; exact hp
 refine jL 17 ?_
 refine Ej.keep (Keeps.d (Keeps.k Keeps.n)) ?_
 refine jV ?_
 exact ⟨_, rfl, b1, l, cc, rfl, hM.congr (a8M hm hpv), rfl⟩
theorem a8Q g (cap : List Value) (S P : Ix.Rec → Bool) (hS : ∀ t, S t = false) I : jO Tryz.prog 103 [.map none, .func (.func g) #[] cap.toArray] I [] (fun e _ H' => ∃ w, e = .returned w ∧ DZ w (fun t => S t && P t) H') := by
 refine jU func103 fun w0 hw0 => ?_
 refine jL 7 ?_
 refine J.op rfl (kS rfl rfl rfl ?_)
 intro b1 hb1
 refine jL 7 ?_
 refine J.op rfl (sF rfl rfl rfl rfl pY ?_)
 intro b2 hb2
 refine jL 3 ?_
 refine Cj.rounds 1 ?_
 refine Rj.succ ?_
 refine jL 2 ?_
 refine J.op rfl (tY 0 rfl rfl rfl rfl rfl ?_)
 refine jL 17 ?_
 refine Ej.keep (Keeps.d (Keeps.k Keeps.n)) ?_
 refine jV ?_
 exact ⟨_, rfl, _, [], 0, rfl, nK.nil.congr (fun t => by rw [hS t]; rfl), rfl⟩
theorem BP v (S P : Ix.Rec → Bool) g cap I (h : qN I v S) (hcl : ∀ t, S t = true → Pure Tryz.prog g (jZ t :: cap) I (.bool (P t))) : jO Tryz.prog 103 [v, .func (.func g) #[] cap.toArray] I [] (fun e _ H' => ∃ w, e = .returned w ∧ DZ w (fun t => S t && P t) H') := by
  rcases h with ⟨rfl, hS⟩ | ⟨b, m, k, rfl, hm, hb⟩
  · exact a8Q g cap S P hS I
  exact b0i b m k S P g cap hm I hb hcl
theorem a8S xb S mb m k (hm : nK m k S) t I (hxb : I xb = some (jM 120 [.map (some mb)])) (hmb : I mb = some (kG jZ m k)) : Pure Tryz.prog 157 [jZ t, ptr xb 0] I (.bool (S t)) := by
 refine jO.toPure ?_
 have hget := hm.get t
 refine jU func157 fun w0 hw0 => ?_
 refine jL 3 ?_
 intro b1 hb1
 refine jL 7 ?_
 refine J.z (kQ (kv := jZ) (l := m) (a := t) rfl rfl rfl rfl pY nC tZ4 (jR.EH hmb)) ?_
 refine J.ev 6 (.bool (S t)) rfl hget ?_
 refine kM ?_
 exact ⟨rfl, rfl⟩
theorem a9z xb (S : Ix.Rec → Bool) (hS : ∀ t, S t = false) t I (hxb : I xb = some (jM 120 [.map none])) : Pure Tryz.prog 157 [jZ t, ptr xb 0] I (.bool (S t)) := by
 refine jO.toPure ?_
 have hget : Value.bool false = .bool (S t) := by rw [hS t]
 refine jU func157 fun w0 hw0 => ?_
 refine jL 3 ?_
 intro b1 hb1
 refine jL 7 ?_
 refine J.z (qJ (kv := jZ) (a := t) rfl rfl rfl rfl pY nC tZ4) ?_
 refine J.ev 6 (.bool (S t)) rfl hget ?_
 refine kM ?_
 exact ⟨rfl, rfl⟩
theorem b5w xb v S t I (hxb : I xb = some (jM 120 [v])) (h : qN I v S) : Pure Tryz.prog 157 [jZ t, ptr xb 0] I (.bool (S t)) := by
  rcases h with ⟨rfl, hS⟩ | ⟨b, m, k, rfl, hm, hb⟩
  · exact a9z xb S hS t I hxb
  exact a8S xb S b m k hm t I hxb hb
theorem a9k xb S mb m k (hm : nK m k S) t I (hxb : I xb = some (jM 120 [.map (some mb)])) (hmb : I mb = some (kG jZ m k)) : Pure Tryz.prog 104 [jZ t, ptr xb 0] I (.bool (S t)) := by
 refine jO.toPure ?_
 have hget := hm.get t
 refine jU func104 fun w0 hw0 => ?_
 refine jL 3 ?_
 intro b1 hb1
 refine jL 7 ?_
 refine J.z (kQ (kv := jZ) (l := m) (a := t) rfl rfl rfl rfl pY nC tZ4 (jR.EH hmb)) ?_
 refine J.ev 6 (.bool (S t)) rfl hget ?_
 refine kM ?_
 exact ⟨rfl, rfl⟩
theorem b0H xb (S : Ix.Rec → Bool) (hS : ∀ t, S t = false) t I (hxb : I xb = some (jM 120 [.map none])) : Pure Tryz.prog 104 [jZ t, ptr xb 0] I (.bool (S t)) := by
 refine jO.toPure ?_
 have hget : Value.bool false = .bool (S t) := by rw [hS t]
 refine jU func104 fun w0 hw0 => ?_
 refine jL 3 ?_
 intro b1 hb1
 refine jL 7 ?_
 refine J.z (qJ (kv := jZ) (a := t) rfl rfl rfl rfl pY nC tZ4) ?_
 refine J.ev 6 (.bool (S t)) rfl hget ?_
 refine kM ?_
 exact ⟨rfl, rfl⟩
theorem a5Y xb v S t I (hxb : I xb = some (jM 120 [v])) (h : qN I v S) : Pure Tryz.prog 104 [jZ t, ptr xb 0] I (.bool (S t)) := by
  rcases h with ⟨rfl, hS⟩ | ⟨b, m, k, rfl, hm, hb⟩
  · exact b0H xb S hS t I hxb
  exact a9k xb S b m k hm t I hxb hb
theorem a9d xb S mb m k (hm : nK m k S) t I (hxb : I xb = some (jM 120 [.map (some mb)])) (hmb : I mb = some (kG jZ m k)) : Pure Tryz.prog 105 [jZ t, ptr xb 0] I (.bool (!S t)) := by
 refine jO.toPure ?_
 have hget := hm.get t
 refine jU func105 fun w0 hw0 => ?_
 refine jL 3 ?_
 intro b1 hb1
 refine jL 7 ?_
 refine J.z (kQ (kv := jZ) (l := m) (a := t) rfl rfl rfl rfl pY nC tZ4 (jR.EH hmb)) ?_
 refine J.ev 6 (.bool (S t)) rfl hget ?_
 refine kM ?_
 exact ⟨rfl, rfl⟩
theorem a9H xb (S : Ix.Rec → Bool) (hS : ∀ t, S t = false) t I (hxb : I xb = some (jM 120 [.map none])) : Pure Tryz.prog 105 [jZ t, ptr xb 0] I (.bool (!S t)) := by
 refine jO.toPure ?_
 have hget : Value.bool false = .bool (S t) := by rw [hS t]
 refine jU func105 fun w0 hw0 => ?_
 refine jL 3 ?_
 intro b1 hb1
 refine jL 7 ?_
 refine J.z (qJ (kv := jZ) (a := t) rfl rfl rfl rfl pY nC tZ4) ?_
 refine J.ev 6 (.bool (S t)) rfl hget ?_
 refine kM ?_
 exact ⟨rfl, rfl⟩
theorem a6c xb v S t I (hxb : I xb = some (jM 120 [v])) (h : qN I v S) : Pure Tryz.prog 105 [jZ t, ptr xb 0] I (.bool (!S t)) := by
  rcases h with ⟨rfl, hS⟩ | ⟨b, m, k, rfl, hm, hb⟩
  · exact a9H xb S hS t I hxb
  exact a9d xb S b m k hm t I hxb hb
theorem a9i t I : Pure Tryz.prog 106 [jZ t] I (.bool true) := by
 refine jO.toPure ?_
 refine jU func106 fun w0 hw0 => ?_
 refine jL 3 ?_
 intro b1 hb1
 refine kM ?_
 exact ⟨rfl, rfl⟩
end Go.Proofs.YtekmeaoblpfnpaaGreatDoor
end
namespace Cq
def Qs.kinds : Qs → List Int
  | .nil => []
  | .cons k _ _ _ _ rest => k :: rest.kinds
def TK (k : Int) (i r t : List UInt8) (n : Nat) (ps : Bool) : Bool :=
  if k = 1 then indexes.contains i && relations.contains r && n == 0
  else if k < 2 ∨ k > 4 ∨ i ≠ [] ∨ r ≠ [] ∨ t ≠ [] ∨ n ≠ 2 then false else ps
def Qs.forms : Qs → Bool
  | .nil => true
  | .cons k i r t ps rest => TK k i r t ps.len ps.forms && rest.forms
def form (q : Qn) : Bool := TK q.k q.i q.r q.t q.ps.len q.ps.forms
def up (k:Int):Nat:=if k=1 then 0 else 1
def QN (k : Int) (ks : List Int) (ds : List Nat) : Nat :=
  if k = 1 then 0 else match ks, ds with
    | [_, k1], [a, b] => max (b + up k1) a
    | _, _ => 0
def Qs.depths : Qs → List Nat
  | .nil => []
  | .cons k _ _ _ ps rest => QN k ps.kinds ps.depths :: rest.depths
def depth (q : Qn) : Nat := QN q.k q.ps.kinds q.ps.depths
def right (q : Qn) : Bool := form q && decide (depth q ≤ 50)
def escape (s : List UInt8) : List UInt8 := s.flatMap fun c => if c = 34 ∨ c = 92 then [92, c] else [c]
def text (s : List UInt8) : List UInt8 := 34 :: escape s ++ [34]
def word (k:Int):List UInt8:=if k=2 then[97,110,100]else if k=3 then[111,114]else[110,111,116]
def paren (k : Int) (x : List UInt8) : List UInt8 := if k = 1 then x else 40 :: x ++ [41]
def ZK (k : Int) (i r t : List UInt8) (ks : List Int) (ds : List (List UInt8)) : List UInt8 :=
  if k = 1 then i ++ [32] ++ r ++ [32] ++ text t else match ks, ds with
    | [_, k1], [a, b] => a ++ [32] ++ word k ++ [32] ++ paren k1 b
    | _, _ => []
def Qs.prints : Qs → List (List UInt8)
  | .nil => []
  | .cons k i r t ps rest => ZK k i r t ps.kinds ps.prints :: rest.prints
def write (q : Qn) : List UInt8 := ZK q.k q.i q.r q.t q.ps.kinds q.ps.prints
def Qs.size : Qs → Nat
  | .nil => 0
  | .cons _ _ _ _ ps rest => ps.size + rest.size + 1
def Qn.size (q : Qn) : Nat := q.ps.size
def Qn.Two (q a b : Qn) : Prop := q.ps = a.push (b.push .nil)
theorem Qs.XV : ∀ {ps : Qs}, ps.len = 2 → ∃ a b : Qn, ps = a.push (b.push .nil)
  | .nil, h => by simp [Qs.len] at h
  | .cons _ _ _ _ _ .nil, h => by simp [Qs.len] at h
  | .cons k i r t ps (.cons k' i' r' t' ps' .nil), _ => ⟨⟨k, i, r, t, ps⟩, ⟨k', i', r', t', ps'⟩, rfl⟩
  | .cons _ _ _ _ _ (.cons _ _ _ _ _ (.cons _ _ _ _ _ _)), h => by simp [Qs.len] at h
theorem Qn.Two.size {q a b : Qn} (h : q.Two a b) : a.size < q.size ∧ b.size < q.size := by
  simp only [Qn.size, show q.ps = _ from h, Qn.push, Qs.size]; omega
theorem Qn.Two.len {q a b : Qn} (h : q.Two a b) : q.ps.len = 2 := by rw [show q.ps = _ from h]; rfl
theorem wJ {q} (h : q.k = 1) : form q = (indexes.contains q.i && relations.contains q.r && q.ps.len == 0) := by simp [form, TK, h]
theorem LY {q} (h : q.k ≠ 1) (h2 : q.k < 2 ∨ q.k > 4 ∨ q.i ≠ [] ∨ q.r ≠ [] ∨ q.t ≠ [] ∨ q.ps.len ≠ 2) : form q = false := by unfold form TK; rw [if_neg h, if_pos h2]
theorem BM {q a b} (h : q.k ≠ 1) (h2 : ¬ (q.k < 2 ∨ q.k > 4 ∨ q.i ≠ [] ∨ q.r ≠ [] ∨ q.t ≠ [] ∨ q.ps.len ≠ 2)) (ht : q.Two a b) : form q = (form a && form b) := by
  unfold form TK
  rw [if_neg h, if_neg h2, show q.ps = _ from ht]
  simp [Qn.push, Qs.forms, TK]
theorem vZ {q} (h : form q = true) : q.k = 1 ∨ (q.k ≠ 1 ∧ 2 ≤ q.k ∧ q.k ≤ 4 ∧ ∃ a b, q.Two a b ∧ form a = true ∧ form b = true) := by
  by_cases h1 : q.k = 1
  · exact .inl h1
  by_cases h2 : q.k < 2 ∨ q.k > 4 ∨ q.i ≠ [] ∨ q.r ≠ [] ∨ q.t ≠ [] ∨ q.ps.len ≠ 2
  · rw [LY h1 h2] at h; cases h
  obtain ⟨a, b, hab⟩ := Qs.XV (ps := q.ps) (by omega)
  rw [BM h1 h2 hab, Bool.and_eq_true] at h
  exact .inr ⟨h1, by omega, by omega, a, b, hab, h.1, h.2⟩
theorem xG {q} (h : q.k = 1) : depth q = 0 := by simp [depth, QN, h]
theorem yR {q a b} (h : q.k ≠ 1) (ht : q.Two a b) : depth q = max (depth b + up b.k) (depth a) := by
  unfold depth
  rw [show q.ps = _ from ht]
  simp [Qn.push, Qs.depths, Qs.kinds, QN, h]
theorem MN {q} (h : q.k = 1) : write q = q.i ++ [32] ++ q.r ++ [32] ++ text q.t := by simp [write, ZK, h]
theorem PU {q a b} (h : q.k ≠ 1) (ht : q.Two a b) : write q = write a ++ [32] ++ word q.k ++ [32] ++ paren b.k (write b) := by
  unfold write
  rw [show q.ps = _ from ht]
  simp [Qn.push, Qs.prints, Qs.kinds, ZK, h]
theorem MB s : s.length ≤ (escape s).length ∧ (escape s).length ≤ 2 * s.length := by induction s <;> grind [escape, List.length_append, List.length_cons, List.length_nil]
theorem b0q k x : x.length ≤ (paren k x).length := by unfold paren; split <;> simp <;> omega
def Qs.wide : Qs → Nat
  | .nil => 0
  | .cons _ i r t ps rest => i.length + r.length + t.length + ps.wide + rest.wide
def Qn.wide (q : Qn) : Nat := q.i.length + q.r.length + q.t.length + q.ps.wide
theorem Qn.Two.wide {q a b : Qn} (h : q.Two a b) : a.wide ≤ q.wide ∧ b.wide ≤ q.wide := by
  unfold Qn.wide; rw [show q.ps = _ from h]; simp only [Qn.push, Qs.wide]; omega
def deep (q : Qn) : Int := if form q then (depth q : Int) else -1
theorem b0t {q} (h : q.k = 1) : deep q = if (indexes.contains q.i && relations.contains q.r && q.ps.len == 0) then 0 else -1 := by
  unfold deep; rw [wJ h, xG h]; rfl
theorem b1x {q} (h : q.k ≠ 1) (h2 : q.k < 2 ∨ q.k > 4 ∨ q.i ++ q.r ++ q.t ≠ [] ∨ q.ps.len ≠ 2) : deep q = -1 := by
  unfold deep
  rw [LY h (by
    rcases h2 with h2 | h2 | h2 | h2
    · exact .inl h2
    · exact .inr (.inl h2)
    · by_cases hi : q.i = []
      · by_cases hr : q.r = []
        · exact .inr (.inr (.inr (.inr (.inl fun ht => h2 (by simp [hi, hr, ht])))))
        exact .inr (.inr (.inr (.inl hr)))
      exact .inr (.inr (.inl hi))
    exact .inr (.inr (.inr (.inr (.inr h2)))))]
  rfl
theorem b1U {q a b} (h : q.k ≠ 1) (h2 : ¬ (q.k < 2 ∨ q.k > 4 ∨ q.i ≠ [] ∨ q.r ≠ [] ∨ q.t ≠ [] ∨ q.ps.len ≠ 2)) (ht : q.Two a b) : deep q = if min (deep a) (deep b) < 0 then -1 else max (deep a) (deep b + up b.k) := by
  unfold deep
  rw [BM h h2 ht, yR h ht]
  cases form a <;> cases form b <;> simp <;> omega
theorem a6H q : -1 ≤ deep q := by unfold deep; split <;> omega
theorem OL : ∀ (n : Nat) (q : Qn), q.size < n → form q = true → depth q ≤ q.size
  | 0, q, h, _ => by omega
  | n + 1, q, h, hf => by
    rcases vZ hf with hk | ⟨hk, _, _, a, b, htw, ha, hb⟩
    · rw [xG hk]; exact Nat.zero_le _
    have h1 := htw.size
    have ha' := OL n a (by omega) ha
    have hb' := OL n b (by omega) hb
    have hu : up b.k ≤ 1 := by unfold up; split <;> omega
    rw [yR hk htw]
    omega
theorem a7b q : deep q ≤ q.size := by
  unfold deep
  split
  · rename_i h; have := OL _ q (Nat.lt_succ_self _) h; omega
  omega
theorem ZM q : (decide (deep q ≥ 0) && decide (deep q ≤ 50)) = right q := by
  unfold deep right
  cases form q <;> simp
  omega
end Cq
namespace Go.Sx
open Cq
def QC (I : Heap) : Qs → List Value → Prop
  | .nil, _ => True
  | .cons k i r t ps rest, cs => ∃ p c tl, cs = i64 k :: str i :: str r :: str t :: .slice p ps.len c :: tl ∧
      (ps = .nil ∨ ∃ (b off : Nat) (cs' : List Value) (T : TypeId) (fr : Nat × Nat), p = some ⟨b, off, none⟩ ∧ I b = some (.cells cs'.toArray T fr) ∧ QC I ps (cs'.drop off)) ∧ QC I rest tl
theorem QC.mono {I I'} (hle : Le I I') : ∀ {q : Qs} {cs : List Value}, QC I q cs → QC I' q cs
  | .nil, _, _ => trivial
  | .cons _ _ _ _ _ps _rest, _, ⟨p, c, tl, h1, h2, h3⟩ => ⟨p, c, tl, h1, h2.imp id fun ⟨b, off, cs', T, fr, g1, g2, g3⟩ => ⟨b, off, cs', T, fr, g1, hle _ _ g2, QC.mono hle g3⟩, QC.mono hle h3⟩
def PS (I : Heap) (ps : Qs) (p : Option Addr) : Prop := ps = .nil ∨ ∃ (b off : Nat) (cs' : List Value) (T : TypeId) (fr : Nat × Nat), p = some ⟨b, off, none⟩ ∧ I b = some (.cells cs'.toArray T fr) ∧ QC I ps (cs'.drop off)
theorem PS.mono {I I' ps p} (h : PS I ps p) (hle : Le I I') : PS I' ps p :=
  h.imp id fun ⟨b, off, cs', T, fr, g1, g2, g3⟩ => ⟨b, off, cs', T, fr, g1, hle _ _ g2, QC.mono hle g3⟩
abbrev kD (q : Qn) (p : Option Addr) (c : Nat) : List Value := [i64 q.k, str q.i, str q.r, str q.t, .slice p q.ps.len c]
def QV (I : Heap) (q : Qn) (v : Value) : Prop := ∃ p c, v = .agg (kD q p c).toArray ∧ PS I q.ps p
theorem PS.two {I a b pa pb ca cb bl T} (ha : PS I a.ps pa) (hb : PS I b.ps pb) (h : I bl = some (jM T (kD a pa ca ++ (kD b pb cb ++ [])))) : PS I (a.push (b.push .nil)) (some ⟨bl, 0, none⟩) :=
  .inr ⟨bl, 0, _, T, (0, 0), rfl, h, pa, ca, _, rfl, ha, pb, cb, _, rfl, hb, trivial⟩
theorem PS.GY {I} {q a b : Qn} {p} (h : PS I q.ps p) (ht : q.Two a b) :
    ∃ bl off cs' T fr pa ca pb cb, p = some ⟨bl, off, none⟩ ∧ I bl = some (.cells (List.toArray cs') T fr) ∧ (cs'.drop off).take 5 = kD a pa ca ∧ (cs'.drop (off + 5)).take 5 = kD b pb cb ∧ cs'[off + 5]? = some (i64 b.k) ∧ PS I a.ps pa ∧ PS I b.ps pb := by
  rw [show q.ps = _ from ht] at h
  rcases h with h | ⟨bl, off, cs', T, fr, rfl, hI, pa, ca, tl, hcs, hpa, pb, cb, tl2, htl, hpb, _⟩
  · cases h
  subst htl
  refine ⟨bl, off, cs', T, fr, pa, ca, pb, cb, rfl, hI, ?_, ?_, ?_, hpa, hpb⟩
  · rw [hcs]; rfl
  · rw [← List.drop_drop, hcs]; rfl
  rw [← List.getElem?_drop, hcs]; rfl
end Go.Sx
section
namespace Go.Proofs.YtekmeaoblpfnpaaGreatDoor
open Go Go.Sx
structure VL where
  i : Nat
  J : Heap
  ls : List LR
  g : Gs
theorem DY {α β : Type} (f : α → β) {l : List α} {k x} (h : l[k]? = some x) : (l.take (k + 1)).map f = (l.take k).map f ++ [f x] := by
  obtain ⟨hlt, hg⟩ := List.getElem?_eq_some_iff.1 h
  rw [List.take_succ_eq_append_getElem hlt, hg, List.map_append]; rfl
theorem a6Y {J ls} (h : ∀ x ∈ ls, jW recC J x.1 x.2) {l w} (hw : jW recC J l w) : ∀ x ∈ ls ++ [(l, w)], jW recC J x.1 x.2 := fun x hx => by
  rcases List.mem_append.1 hx with g | g
  · exact h x g
  rw [List.mem_singleton.1 g]; exact hw
theorem a6O {ls : List LR} {l} (h : ls.map (·.1) = l) : ls.flatMap (·.1) = l.flatMap id := by
  rw [← h, List.flatMap_map]; rfl
theorem a0u L n s : (Ix.word L n s).length ≤ L.length := by
  unfold Ix.word Ix.phrase
  split
  · split
    · exact Nat.zero_le _
    rw [List.length_map]; exact List.length_filter_le _ _
  exact Nat.zero_le _
theorem YL L n w : (Ix.phrase L n w).length ≤ L.length := by
  unfold Ix.phrase
  split
  · exact Nat.zero_le _
  rw [List.length_map]; exact List.length_filter_le _ _
theorem a2v xv L q p c (hq : q.t.length ≤ 10000000) I (hx : yX I xv L) : jO Tryz.prog 155 [xv, .agg (kD q p c).toArray] I [] (fun e I' H' => ∃ w ls, e = .returned w ∧ ls.map (·.1) = (Ke.words q.t).map (Ix.word L q.i) ∧ XH I' ls w ∧ H' = []) := by
 have hwl := Ke.qX q.t
 refine jU Tryz.func155 fun w0 hw0 => ?_
 refine jL 3 ?_
 intro b1 hb1
 refine kL (yE q.t (by omega) _) ?_
 intro v2 I3 H4 hle5 hp6
 have hx := hx.mono hle5
 obtain ⟨wv, h, hw, rfl⟩ := hp6; cases h
 obtain ⟨pw, cw, rfl⟩ := qB hw
 refine jL 5 ?_
 refine Cj.loop (ι := VL) (fun y => y.i ≤ (Ke.words q.t).length ∧ Le I3 y.J ∧ y.ls.map (·.1) = ((Ke.words q.t).take y.i).map (Ix.word L q.i) ∧ (∀ x ∈ y.ls, jW recC y.J x.1 x.2) ∧ kZ w0.heap.size 1 y.ls.length (y.ls.flatMap PD) y.g) (fun y => (Ke.words q.t).length - y.i) (fun y => [(5, gV y.ls.length y.g), (0, xv), (3, ptr b1 0), (10, .slice pw (Ke.words q.t).length cw), (11, i64 ((Ke.words q.t).length : Int)), (12, i64 (y.i : Int))]) (fun y => y.J) (fun y => (b1, jM 32 (kD q p c)) :: gH 36 (y.ls.flatMap PD) y.g) ⟨0, _, [], none⟩ ⟨Nat.zero_le _, Le.refl _, rfl, (fun x hx => by cases hx), rfl, rfl⟩ ⟨rfl, rfl, rfl, rfl, rfl, rfl, trivial⟩ rfl rfl ?_
 rintro ⟨i, J1, ls, g⟩ ⟨hi, hIJ, hmp, hR, hg⟩
 dsimp only at hi hIJ hmp hR hg ⊢
 have hx := hx.mono hIJ
 have hw := hw.mono hIJ
 have hll : ls.length = i := by have h := congrArg List.length hmp; rw [List.length_map, List.length_map, List.length_take] at h; omega
 refine jS (fun hc7 hc7p => ?_) (fun hc7 hc7p => ?_)
 ·have hlt : i < (Ke.words q.t).length := by omega
  obtain ⟨x, hget⟩ : ∃ x, (Ke.words q.t)[i]? = some x := ⟨_, kW hlt⟩
  have hxl := Ke.xB _ x (lX hget)
  obtain ⟨wb, wc1, wsp, hwe, hwb⟩ := hw.some (jT hlt)
  cases hwe
  refine kJ i ?_
  refine J.z (jP rfl rfl lQ (jR.EH hwb) (nN hget)) ?_
  refine sV (b2L xv L q.i x (by omega) _ hx) ?_
  intro v9 I10 H11 hle12 hn8 hp13
  have hx := hx.mono hle12
  have hw := hw.mono hle12
  have hIJ := hIJ.mono hle12
  have hR := fun x9 hx9 => (hR x9 hx9).mono hle12
  have hwb := hle12 _ _ hwb
  obtain ⟨wa, h, hoa⟩ := hp13; cases h
  refine J.MR hoa hn8 (fun Ia hlea hra => ?_)
  have hx := hx.mono hlea
  have hw := hw.mono hlea
  have hIJ := hIJ.mono hlea
  have hR := fun x9 hx9 => (hR x9 hx9).mono hlea
  have hwb := hlea _ _ hwb
  replace hra := hra.row
  obtain ⟨pa, ca, rfl⟩ := lC hra
  refine jL 1 ?_
  intro b14 hb14
  refine yQ 23 [_, _] hg ?_
  intro g15 hg15
  refine jL 8 ?_
  refine Ej.keep (Keeps.d (Keeps.k Keeps.r)) ?_
  refine Ej.round ⟨i + 1, _, ls ++ [(Ix.word L q.i x, _)], g15⟩ ⟨by dsimp only; omega, hIJ, by dsimp only; rw [List.map_append, hmp, DY _ hget]; rfl, a6Y hR hra, by dsimp only; rw [List.length_append, List.flatMap_append]; exact hg15⟩ (by dsimp only; omega) ⟨by dsimp only; rw [List.length_append]; rfl, rfl, rfl, rfl, rfl, rfl, trivial⟩ rfl (by dsimp only; rw [List.flatMap_append]; rfl)
 refine jL 6 ?_
 rw [List.take_of_length_le (by omega : (Ke.words q.t).length ≤ i)] at hmp
 refine Cj.perm (H' := gH 36 (ls.flatMap PD) g ++ [_]) List.perm_append_comm ?_
 refine Cj.keepR (f := PD) (fun _ => rfl) (by decide) hg rfl (fun I8 hle8 hv => ?_)
 have hx := hx.mono hle8
 have hw := hw.mono hle8
 have hIJ := hIJ.mono hle8
 have hR := fun x9 hx9 => (hR x9 hx9).mono hle8
 refine kM ?_
 exact ⟨_, ls, rfl, hmp, ⟨hv, hR⟩, rfl⟩
theorem a3E xv L n ks v (hk : ∀ x ∈ ks, Ke.a0C x.1) (hkl : ks.length ≤ 1000000000000) I (hx : yX I xv L) (hT : vU I) (hr : jW oU I ks v) : jO Tryz.prog 159 [xv, str n, v] I [] (fun e _ H' => ∃ w, e = .returned w ∧ DZ w (xH (Ix.keyed L n (ks.map (·.1)))) H') := by
 have hbig := hx.big
 obtain ⟨p, c, rfl⟩ := lC hr
 refine jU Tryz.func159 fun w0 hw0 => ?_
 refine jL 19 ?_
 refine Cj.loop (ι := VL) (fun y => y.i ≤ ks.length ∧ Le I y.J ∧ y.ls.map (·.1) = (ks.take y.i).map (fun x => Ix.oG L n (Ix.keyOf n (Ke.QY x.1))) ∧ (∀ x ∈ y.ls, jW recC y.J x.1 x.2) ∧ kZ w0.heap.size 1 y.ls.length (y.ls.flatMap PD) y.g) (fun y => ks.length - y.i) (fun y => [(7, gV y.ls.length y.g), (0, xv), (1, str n), (10, .slice p ks.length c), (11, i64 (ks.length : Int)), (12, i64 (y.i : Int))]) (fun y => y.J) (fun y => gH 36 (y.ls.flatMap PD) y.g) ⟨0, _, [], none⟩ ⟨Nat.zero_le _, Le.refl _, rfl, (fun x hx => by cases hx), rfl, rfl⟩ ⟨rfl, rfl, rfl, rfl, rfl, rfl, trivial⟩ rfl rfl ?_
 rintro ⟨i, J1, ls, g⟩ ⟨hi, hIJ, hmp, hR, hg⟩
 dsimp only at hi hIJ hmp hR hg ⊢
 have hx := hx.mono hIJ
 have hT := hT.mono hIJ
 have hr := hr.mono hIJ
 have hll : ls.length = i := by have h := congrArg List.length hmp; rw [List.length_map, List.length_map, List.length_take] at h; omega
 refine jS (fun hc1 hc1p => ?_) (fun hc1 hc1p => ?_)
 ·have hlt : i < ks.length := by omega
  obtain ⟨x, hget⟩ : ∃ x, ks[i]? = some x := ⟨_, kW hlt⟩
  have hkx := hk x (lX hget)
  have hkx2 := hkx.2.2.1
  obtain ⟨p1, c1, hpe, hc1, hp⟩ := id hr
  cases hpe
  obtain ⟨fb, fo, fcs, fty, ffr, fsp, rfl, hfb, hfd⟩ := hp (jT hlt)
  refine kJ (fo + i * 2) ?_
  refine J.z (q2 Tryz.isAgg268 AP (jR.EH hfb) (kY pJ hfd hget)) ?_
  refine jL 1 ?_
  intro b2 hb2
  refine kC (b3w x.1 hkx _ hT) ?_
  refine sV (a6I xv L n (Ke.QY x.1) (by omega) _ hx) ?_
  intro v4 I5 H6 hle7 hn3 hp8
  have hx := hx.mono hle7
  have hT := hT.mono hle7
  have hr := hr.mono hle7
  have hIJ := hIJ.mono hle7
  have hR := fun x9 hx9 => (hR x9 hx9).mono hle7
  have hfb := hle7 _ _ hfb
  obtain ⟨wa, h, hoa⟩ := hp8; cases h
  refine J.MR hoa hn3 (fun Ia hlea hra => ?_)
  have hx := hx.mono hlea
  have hT := hT.mono hlea
  have hr := hr.mono hlea
  have hIJ := hIJ.mono hlea
  have hR := fun x9 hx9 => (hR x9 hx9).mono hlea
  have hfb := hlea _ _ hfb
  replace hra := hra.row
  obtain ⟨pa, ca, rfl⟩ := lC hra
  refine jL 1 ?_
  intro b9 hb9
  refine yQ 23 [_, _] hg ?_
  intro g10 hg10
  refine jL 8 ?_
  refine Ej.keep (Keeps.d (Keeps.d Keeps.r)) ?_
  refine Ej.round ⟨i + 1, _, ls ++ [(Ix.oG L n (Ix.keyOf n (Ke.QY x.1)), _)], g10⟩ ⟨by dsimp only; omega, hIJ, by dsimp only; rw [List.map_append, hmp, DY _ hget]; rfl, a6Y hR hra, by dsimp only; rw [List.length_append, List.flatMap_append]; exact hg10⟩ (by dsimp only; omega) ⟨by dsimp only; rw [List.length_append]; rfl, rfl, rfl, rfl, rfl, rfl, trivial⟩ rfl (by dsimp only; rw [List.flatMap_append]; rfl)
 refine jL 6 ?_
 rw [List.take_of_length_le (by omega : ks.length ≤ i)] at hmp
 refine Cj.perm (H' := gH 36 (ls.flatMap PD) g ++ []) (.of_eq (List.append_nil _)) ?_
 refine Cj.keepR (f := PD) (fun _ => rfl) (by decide) hg rfl (fun I8 hle8 hv => ?_)
 have hx := hx.mono hle8
 have hT := hT.mono hle8
 have hr := hr.mono hle8
 have hIJ := hIJ.mono hle8
 have hR := fun x9 hx9 => (hR x9 hx9).mono hle8
 have hlen : ∀ x ∈ ls, x.1.length ≤ 1000000 := fun x hx => by
   have h9 : x.1 ∈ ls.map (·.1) := List.mem_map_of_mem hx
   rw [hmp] at h9
   obtain ⟨y, _, hy⟩ := List.mem_map.1 h9
   rw [← hy]
   exact nP (Ix.BU _ _ _) (by omega)
 refine kL (TY ls _ (by omega) hlen _ ⟨hv, hR⟩) ?_
 intro v11 I12 H13 hle14 hp15
 have hx := hx.mono hle14
 have hT := hT.mono hle14
 have hr := hr.mono hle14
 have hIJ := hIJ.mono hle14
 have hR := fun x9 hx9 => (hR x9 hx9).mono hle14
 have hv := hv.mono hle14
 obtain ⟨wb, h, ob, mb, kb, rfl, hmb, rfl⟩ := hp15; cases h
 refine jL 4 ?_
 refine Ej.keep (Keeps.k Keeps.n) ?_
 refine jV ?_
 refine ⟨_, rfl, ob, mb, kb, rfl, hmb.congr fun t => ?_, rfl⟩
 rw [show Ix.keyed L n (ks.map (·.1)) = ls.flatMap (·.1) from ?_]
 rw [a6O hmp, List.flatMap_map]
 unfold Ix.keyed
 rw [List.flatMap_map]
 rfl
end Go.Proofs.YtekmeaoblpfnpaaGreatDoor
end
section
namespace Go.Proofs.YtekmeaoblpfnpaaGreatDoor
open _root_.Go.Proofs.Tryz
open Go Go.Sx
theorem yX.UU {I v L} (h : yX I v L) : ∀ e ∈ L, qA e.2 := by
  rcases h with ⟨_, rfl⟩ | ⟨ib, _, o, h, _⟩
  · exact fun e he => by cases he
  cases o with
  | none => rw [show L = [] from h]; exact fun e he => by cases he
  | some s => exact nZ.UU h
theorem UR {L} (hs : Ix.nO L) (hv : ∀ e ∈ L, qA e.2) (hL : L.length ≤ 100000) n b : (Ix.mP L n b).length ≤ 1000000000000 := by
  have h1 : ((Ix.mP L n b).map fun k => (n, k)).length ≤ (L.flatMap fun e => Ix.IG e.2).length := by
    refine MJ ?_ fun p hp => ?_
    · rw [List.nodup_iff_pairwise_ne, List.pairwise_map]
      refine (Ix.CQ L n b).imp fun {x y} h e => ?_
      have := congrArg Prod.snd e
      dsimp only at this
      rw [this] at h
      exact List.lt_irrefl _ h
    obtain ⟨k, hk, rfl⟩ := List.mem_map.1 hp
    obtain ⟨e, he, hpe⟩ := (Ix.KU hs).1 ((Ix.xU hs).1 hk).2
    exact List.mem_flatMap.2 ⟨e, he, hpe⟩
  have h2 : ∀ M : Ix.Ix, (∀ e ∈ M, qA e.2) → (M.flatMap fun e => Ix.IG e.2).length ≤ M.length * 10000000 := by
    intro M
    induction M with
    | nil => intro _; simp
    | cons a r ih =>
      intro hM
      have := ih fun e he => hM e (.tail _ he)
      have h3 := (hM a (.head _)).k
      rw [List.flatMap_cons, List.length_append, List.length_cons, Nat.add_mul]; omega
  rw [List.length_map] at h1
  exact nP (nP h1 (h2 L hv)) (Nat.mul_le_mul_right 10000000 hL)
abbrev wW : Int := 9223372036854775807
theorem yG{L:Ix.Ix}(A:Ix.nO L)(G:∀e∈L,qA e.2)(M:L.length≤100000)(n s:List UInt8):((Ix.scan L n s wW).map lZ).map (·.1)=Ix.mP L n (Ix.keyOf n s):=by
 have h:=UR A G M n (Ix.keyOf n s)
 rw[List.map_map]
 exact Ix.a2c (by show _≤9223372036854775807;omega)
theorem QX {L} (hs : Ix.nO L) (hv : ∀ e ∈ L, qA e.2) (hL : L.length ≤ 100000) n s : ((Ix.scan L n s wW).map lZ).length = (Ix.mP L n (Ix.keyOf n s)).length ∧ (Ix.mP L n (Ix.keyOf n s)).length ≤ 1000000000000 := by
  have h1 := congrArg List.length (yG hs hv hL n s)
  rw [List.length_map] at h1
  exact ⟨h1, UR hs hv hL n _⟩
theorem a2h {L} (ht : Ix.TOK L) (hs : Ix.nO L) (hv : ∀ e ∈ L, qA e.2) (hL : L.length ≤ 100000) n s : ∀ x ∈ (Ix.scan L n s wW).map lZ, Ke.a0C x.1 := fun x hx => by
  have h : x.1 ∈ ((Ix.scan L n s wW).map lZ).map (·.1) := List.mem_map_of_mem hx
  rw [yG hs hv hL] at h
  exact ht.key hs h
theorem b1B {L} (hs : Ix.nO L) n b : (Ix.mP L n b).length ≤ (Ix.mP L n []).length := by
  rw [Ix.QE hs n b]; exact List.length_filter_le _ _
theorem tX(l:List Ix.Rec)(v:Value):([((l,v):LR)].flatMap (·.1))=l:=List.append_nil l
def b3o (kb : Nat) : ML (List UInt8) := [([61], .func (.func 153) #[] #[ptr kb 0], 0), ([61, 61], .func (.func 151) #[] #[], 1), ([97, 110, 121], .func (.func 154) #[] #[], 2), ([97, 108, 108], .func (.func 156) #[] #[], 3), ([62, 61], .func (.func 158) #[] #[], 4), ([60], .func (.func 161) #[] #[], 5)]
theorem b7j {ls : List LR} {L i} {ws : Ke.Row} (h : ls.map (·.1) = ws.map (Ix.word L i)) t : xH (ls.flatMap (·.1)) t = ws.any fun w => decide (t ∈ Ix.word L i w) := by
  unfold xH
  rw [a6O h, Bool.eq_iff_iff, decide_eq_true_eq, List.mem_flatMap, List.any_eq_true]
  constructor
  · rintro ⟨l, hl, ht⟩
    obtain ⟨w, hw, rfl⟩ := List.mem_map.1 hl
    exact ⟨w, hw, decide_eq_true ht⟩
  rintro ⟨w, hw, ht⟩
  exact ⟨_, List.mem_map_of_mem hw, mO ht⟩
def GK (ls : List LR) (t : Ix.Rec) : Bool := ls.all fun x => decide (t ∈ x.1)
theorem a1u {ls : List LR} {i x} (h : ls[i]? = some x) t : GK (ls.take (i + 1)) t = (GK (ls.take i) t && decide (t ∈ x.1)) := by
  obtain ⟨hlt, hg⟩ := List.getElem?_eq_some_iff.1 h
  unfold GK
  rw [List.take_succ_eq_append_getElem hlt, hg, List.all_append, List.all_cons, List.all_nil, Bool.and_true]
theorem allL {ls L i} {ws : Ke.Row} (h : ls.map (·.1) = ws.map (Ix.word L i)) t : GK ls t = ws.all fun w => decide (t ∈ Ix.word L i w) := by
  have : GK ls t = (ls.map (·.1)).all fun l => decide (t ∈ l) := by unfold GK; rw [List.all_map]; rfl
  rw [this, h, List.all_map]; rfl
theorem a6r xv L q p c (hq : q.t.length ≤ 10000000) I (hx : yX I xv L) : jO Tryz.prog 151 [xv, .agg (kD q p c).toArray] I [] (fun e _ H' => ∃ w, e = .returned w ∧ DZ w (xH (Ix.oG L q.i (Ix.keyOf q.i q.t))) H') := by
 have hbig := hx.big
 refine jU func151 fun w0 hw0 => ?_
 refine jL 3 ?_
 intro b1 hb1
 refine sV (a6I xv L q.i q.t (by omega) _ hx) ?_
 intro v3 I4 H5 hle6 hn2 hp7
 have hx := hx.mono hle6
 obtain ⟨wa, h, hoa⟩ := hp7; cases h
 refine J.MR hoa hn2 (fun Ia hlea hra => ?_)
 have hx := hx.mono hlea
 replace hra := hra.row
 obtain ⟨pa, ca, rfl⟩ := lC hra
 refine jL 1 ?_
 intro b8 hb8
 refine J.persist hb8 (fun I10 hle9 hb8i => ?_)
 have hx := hx.mono hle9
 have hra := hra.mono hle9
 have hls : XH _ [((Ix.oG L q.i (Ix.keyOf q.i q.t)), .slice pa _ ca)] (.slice (some ⟨b8, 0, none⟩) 1 1) := ⟨jW.of (l := [(((Ix.oG L q.i (Ix.keyOf q.i q.t)), .slice pa _ ca) : LR)]) (sp := []) (Nat.le_refl _) hb8i, fun x hx => by rw [List.mem_singleton.1 hx]; exact hra⟩
 refine kL (TY [((Ix.oG L q.i (Ix.keyOf q.i q.t)), _)] _ (by show 1 ≤ _; decide) (fun x hx => by rw [List.mem_singleton.1 hx]; exact nP (Ix.BU _ _ _) (by omega)) _ hls) ?_
 intro v11 I12 H13 hle14 hp15
 have hx := hx.mono hle14
 have hra := hra.mono hle14
 have hb8i := hle14 _ _ hb8i
 have hls := hls.mono hle14
 obtain ⟨wb, h, ob, mb, kb, rfl, hmb, rfl⟩ := hp15; cases h
 refine jL 4 ?_
 refine Ej.keep (Keeps.k (Keeps.d Keeps.n)) ?_
 refine jV ?_
 exact ⟨_, rfl, ob, mb, kb, rfl, hmb.congr fun t => congrArg (fun l => xH l t) (tX _ _), rfl⟩
theorem b4A xv L q p c (hq : q.t.length ≤ 10000000) I (hx : yX I xv L) kb' (hkb : I kb' = some (jM 121 [.func (.func 151) #[] #[]])) : jO Tryz.prog 153 [xv, .agg (kD q p c).toArray, ptr kb' 0] I [] (fun e _ H' => ∃ w, e = .returned w ∧ DZ w (fun t => if q.i = Ix.uH then xH (Ix.oG L q.i (Ix.keyOf q.i q.t)) t else xH (Ix.phrase L q.i (Ke.words q.t)) t) H') := by
 have hbig := hx.big
 refine jU func153 fun w0 hw0 => ?_
 refine jL 3 ?_
 intro b1 hb1
 refine jS (fun hc2 hc2p => ?_) (fun hc2 hc2p => ?_)
 ·refine kL (a6r xv L q p c hq _ hx) ?_
  intro v3 I4 H5 hle6 hp7
  have hx := hx.mono hle6
  have hkb := hle6 _ _ hkb
  obtain ⟨wb, h, ob, mb, kb, rfl, hmb, rfl⟩ := hp7; cases h
  refine jL 5 ?_
  refine Ej.keep (Keeps.k (Keeps.d Keeps.n)) ?_
  have hi : q.i = Ix.uH := lU hc2
  refine jV ?_
  exact ⟨_, rfl, ob, mb, kb, rfl, hmb.congr fun t => by rw [if_pos hi], rfl⟩
 refine sV (a7t xv L q.i q.t (by omega) _ hx) ?_
 intro v9 I10 H11 hle12 hn8 hp13
 have hx := hx.mono hle12
 have hkb := hle12 _ _ hkb
 obtain ⟨wa, h, hoa⟩ := hp13; cases h
 refine J.MR hoa hn8 (fun Ia hlea hra => ?_)
 have hx := hx.mono hlea
 have hkb := hlea _ _ hkb
 replace hra := hra.row
 obtain ⟨pa, ca, rfl⟩ := lC hra
 refine jL 1 ?_
 intro b14 hb14
 refine J.persist hb14 (fun I16 hle15 hb14i => ?_)
 have hx := hx.mono hle15
 have hkb := hle15 _ _ hkb
 have hra := hra.mono hle15
 have hls : XH _ [((Ix.phrase L q.i (Ke.words q.t)), .slice pa _ ca)] (.slice (some ⟨b14, 0, none⟩) 1 1) := ⟨jW.of (l := [(((Ix.phrase L q.i (Ke.words q.t)), .slice pa _ ca) : LR)]) (sp := []) (Nat.le_refl _) hb14i, fun x hx => by rw [List.mem_singleton.1 hx]; exact hra⟩
 refine kL (TY [((Ix.phrase L q.i (Ke.words q.t)), _)] _ (by show 1 ≤ _; decide) (fun x hx => by rw [List.mem_singleton.1 hx]; exact nP (YL _ _ _) (by omega)) _ hls) ?_
 intro v17 I18 H19 hle20 hp21
 have hx := hx.mono hle20
 have hkb := hle20 _ _ hkb
 have hra := hra.mono hle20
 have hb14i := hle20 _ _ hb14i
 have hls := hls.mono hle20
 obtain ⟨wb, h, ob, mb, kb, rfl, hmb, rfl⟩ := hp21; cases h
 refine jL 4 ?_
 refine Ej.keep (Keeps.k (Keeps.d Keeps.n)) ?_
 have hi : q.i ≠ Ix.uH := lY hc2
 refine jV ?_
 exact ⟨_, rfl, ob, mb, kb, rfl, hmb.congr fun t => by rw [if_neg hi]; exact congrArg (fun l => xH l t) (tX _ _), rfl⟩
theorem b4f xv L q p c (hq : q.t.length ≤ 10000000) I (hx : yX I xv L) : jO Tryz.prog 154 [xv, .agg (kD q p c).toArray] I [] (fun e _ H' => ∃ w, e = .returned w ∧ DZ w (fun t => (Ke.words q.t).any fun w => decide (t ∈ Ix.word L q.i w)) H') := by
 have hbig := hx.big
 have hwl := Ke.qX q.t
 refine jU func154 fun w0 hw0 => ?_
 refine jL 3 ?_
 intro b1 hb1
 refine kL (a2v xv L q p c hq _ hx) ?_
 intro v2 I3 H4 hle5 hp6
 have hx := hx.mono hle5
 obtain ⟨wl, ls, h, hmp, hls, rfl⟩ := hp6; cases h
 have hlen : ∀ x ∈ ls, x.1.length ≤ 1000000 := fun x hx => by
   have h9 : x.1 ∈ ls.map (·.1) := List.mem_map_of_mem hx
   rw [hmp] at h9
   obtain ⟨y, _, hy⟩ := List.mem_map.1 h9
   rw [← hy]
   exact nP (a0u _ _ _) (by omega)
 have hll : ls.length = (Ke.words q.t).length := by have h := congrArg List.length hmp; rw [List.length_map, List.length_map] at h; exact h
 obtain ⟨pl, cl, hpcl, hcl, -⟩ := id hls.1
 subst hpcl
 refine kL (TY ls _ (by omega) hlen _ hls) ?_
 intro v7 I8 H9 hle10 hp11
 have hx := hx.mono hle10
 have hls := hls.mono hle10
 obtain ⟨wb, h, ob, mb, kb, rfl, hmb, rfl⟩ := hp11; cases h
 refine jL 4 ?_
 refine Ej.keep (Keeps.k (Keeps.d Keeps.n)) ?_
 refine jV ?_
 exact ⟨_, rfl, ob, mb, kb, rfl, hmb.congr (b7j hmp), rfl⟩
theorem qN.congr {I v S S'} (h : qN I v S) (he : ∀ t, S t = S' t) : qN I v S' :=
  h.imp (fun ⟨h1, h2⟩ => ⟨h1, fun t => by rw [← he t]; exact h2 t⟩) fun ⟨b, m, k, h1, h2, h3⟩ => ⟨b, m, k, h1, h2.congr he, h3⟩
theorem b1E {ls : List LR} {x} (h : ls[0]? = some x) t : GK (ls.take (0 + 1)) t = xH x.1 t := by
  rw [a1u h t]; rfl
theorem b4w xv L q p c (hq : q.t.length ≤ 10000000) I (hx : yX I xv L) : jO Tryz.prog 156 [xv, .agg (kD q p c).toArray] I [] (fun e I' H' => ∃ w, e = .returned w ∧ qN I' w (fun t => !(Ke.words q.t).isEmpty && (Ke.words q.t).all fun w => decide (t ∈ Ix.word L q.i w)) ∧ H' = []) := by
 have hbig := hx.big
 have hwl := Ke.qX q.t
 refine jU func156 fun w0 hw0 => ?_
 refine jL 3 ?_
 intro b1 hb1
 refine kL (a2v xv L q p c hq _ hx) ?_
 intro v2 I3 H4 hle5 hp6
 have hx := hx.mono hle5
 obtain ⟨wl, ls, h, hmp, hls, rfl⟩ := hp6; cases h
 have hlen : ∀ x ∈ ls, x.1.length ≤ 1000000 := fun x hx => by
   have h9 : x.1 ∈ ls.map (·.1) := List.mem_map_of_mem hx
   rw [hmp] at h9
   obtain ⟨y, _, hy⟩ := List.mem_map.1 h9
   rw [← hy]
   exact nP (a0u _ _ _) (by omega)
 have hll : ls.length = (Ke.words q.t).length := by have h := congrArg List.length hmp; rw [List.length_map, List.length_map] at h; exact h
 obtain ⟨pl, cl, hpcl, hcl, -⟩ := id hls.1
 subst hpcl
 refine jS (fun hc7 hc7p => ?_) (fun hc7 hc7p => ?_)
 ·refine kM ?_
  exact ⟨_, rfl, .inl ⟨rfl, fun t => by rw [show Ke.words q.t = [] from List.length_eq_zero_iff.1 (by have h := lU hc7; omega)]; rfl⟩, rfl⟩
 have hl0 : 0 < ls.length := by have h := lY hc7; omega
 obtain ⟨⟨xs0, xv0⟩, hget0⟩ : ∃ x, ls[0]? = some x := ⟨_, kW hl0⟩
 obtain ⟨p1, c1, hpe, hc1, hp⟩ := id hls.1
 cases hpe
 obtain ⟨lb, lo, lcs, lty, lfr, lsp, rfl, hlb, hld⟩ := hp (jT hl0)
 have hra := hls.2 _ (lX hget0)
 dsimp only at hra
 have hxl0 := hlen _ (lX hget0)
 dsimp only at hxl0
 obtain ⟨pa, ca, rfl⟩ := lC hra
 have hts := jW.cut (f := PD) (sz := 1) (fun _ => rfl) hls.1 (j := 1) (k := ls.length) hl0 (Nat.le_refl _)
 rw [List.take_of_length_le (by simp)] at hts
 obtain ⟨p4, c4, he4⟩ := lC hts
 rw [he4] at hts
 refine kJ (lo + 0) ?_
 refine J.z (jP rfl rfl isAgg36 (jR.EH hlb) (RG hld hget0)) ?_
 refine jL 1 ?_
 intro b8 hb8
 refine J.persist hb8 (fun I10 hle9 hb8i => ?_)
 have hx := hx.mono hle9
 have hls := hls.mono hle9
 have hlb := hle9 _ _ hlb
 have hra := hra.mono hle9
 have hts := hts.mono hle9
 have hls1 : XH _ [(xs0, .slice pa _ ca)] (.slice (some ⟨b8, 0, none⟩) 1 1) := ⟨jW.of (l := [((xs0, .slice pa _ ca) : LR)]) (sp := []) (Nat.le_refl _) hb8i, fun x hx => by rw [List.mem_singleton.1 hx]; exact hra⟩
 refine kL (TY [(xs0, _)] _ (by show 1 ≤ _; decide) (fun x hx => by rw [List.mem_singleton.1 hx]; exact hxl0) _ hls1) ?_
 intro v11 I12 H13 hle14 hp15
 have hx := hx.mono hle14
 have hlb := hle14 _ _ hlb
 have hra := hra.mono hle14
 have hts := hts.mono hle14
 have hb8i := hle14 _ _ hb8i
 have hls1 := hls1.mono hle14
 have hls := hls.mono hle14
 obtain ⟨wb, h, ob, mb, kb, rfl, hmb, rfl⟩ := hp15; cases h
 refine jL 5 ?_
 refine Cj.b3K rfl (fun hnew7 => ?_)
 refine Cj.persist (hnew7 _ (.head _)) (fun I7 hle7 hb7 => ?_)
 have hx := hx.mono hle7
 have hlb := hle7 _ _ hlb
 have hra := hra.mono hle7
 have hts := hts.mono hle7
 have hb8i := hle7 _ _ hb8i
 have hls1 := hls1.mono hle7
 have hls := hls.mono hle7
 have hset : qN I7 (.map (some ob)) (GK (ls.take (0 + 1))) := .inr ⟨ob, mb, kb, rfl, hmb.congr (fun t => by rw [b1E hget0 t, tX]), hb7⟩
 refine jL 2 ?_
 refine J.z (rQ (j := 1) rfl rfl rfl underlying225 sizeOf36 rfl hl0 hcl) ?_
 refine J.ev 22 (.slice p4 (ls.drop 1).length c4) rfl he4 ?_
 refine jL 5 ?_
 refine Cj.loop (ι := Nat × Heap × Value) (fun y => y.1 + 1 ≤ ls.length ∧ Le I7 y.2.1 ∧ qN y.2.1 y.2.2 (GK (ls.take (y.1 + 1)))) (fun y => ls.length - y.1) (fun y => [(3, ptr b1 0), (6, y.2.2), (22, .slice p4 (ls.drop 1).length c4), (23, i64 ((ls.drop 1).length : Int)), (24, i64 (y.1 : Int))]) (fun y => y.2.1) (fun y => [(b1, jM 32 (kD q p c))]) (0, _, _) ⟨hl0, Le.refl _, hset⟩ ⟨rfl, rfl, rfl, rfl, rfl, trivial⟩ rfl rfl ?_
 clear hset
 rintro ⟨i, J1, sv⟩ ⟨hi, hIJ, hset⟩
 dsimp only at hi hIJ hset ⊢
 have hls := hls.mono hIJ
 have hts := hts.mono hIJ
 have hdl : (ls.drop 1).length = ls.length - 1 := List.length_drop
 refine jS (fun hc16 hc16p => ?_) (fun hc16 hc16p => ?_)
 ·have hlt : i + 1 < ls.length := by omega
  obtain ⟨⟨xs, xv1⟩, hget⟩ : ∃ x, ls[i + 1]? = some x := ⟨_, kW hlt⟩
  have hgd : (ls.drop 1)[i]? = some (xs, xv1) := by rw [List.getElem?_drop, Nat.add_comm]; exact hget
  obtain ⟨p5, c5, hpe5, hc5, hp5⟩ := id hts
  cases hpe5
  obtain ⟨tb, tof, tcs, tty, tfr, tsp, rfl, htb, htd⟩ := hp5 (jT (by omega : i < (ls.drop 1).length))
  have hrb := hls.2 _ (lX hget)
  dsimp only at hrb
  have hxl := hlen _ (lX hget)
  dsimp only at hxl
  obtain ⟨pb, cb, rfl⟩ := lC hrb
  have hnx := a1u hget
  refine kJ (tof + i) ?_
  refine J.z (jP rfl rfl isAgg36 (jR.EH htb) (RG htd hgd)) ?_
  refine jL 7 ?_
  intro b17 hb17
  refine J.persist hb17 (fun I19 hle18 hb17i => ?_)
  have hls := hls.mono hle18
  have hts := hts.mono hle18
  have hset := hset.mono hle18
  have hIJ := hIJ.mono hle18
  have htb := hle18 _ _ htb
  have hrb := hrb.mono hle18
  have hls2 : XH _ [(xs, .slice pb _ cb)] (.slice (some ⟨b17, 0, none⟩) 1 1) := ⟨jW.of (l := [((xs, .slice pb _ cb) : LR)]) (sp := []) (Nat.le_refl _) hb17i, fun x hx => by rw [List.mem_singleton.1 hx]; exact hrb⟩
  refine kL (TY [(xs, _)] _ (by show 1 ≤ _; decide) (fun x hx => by rw [List.mem_singleton.1 hx]; exact hxl) _ hls2) ?_
  intro v20 I21 H22 hle23 hp24
  have hts := hts.mono hle23
  have hset := hset.mono hle23
  have hIJ := hIJ.mono hle23
  have htb := hle23 _ _ htb
  have hrb := hrb.mono hle23
  have hb17i := hle23 _ _ hb17i
  have hls2 := hls2.mono hle23
  have hls := hls.mono hle23
  obtain ⟨wc, h, oc, mc, kc, rfl, hmc, rfl⟩ := hp24; cases h
  refine jL 1 ?_
  intro b25 hb25
  refine jL 3 ?_
  refine Cj.pull (Pull.s Pull.z) ?_
  refine Cj.b3K rfl (fun hnew6 => ?_)
  refine Cj.persist (hnew6 _ (.head _)) (fun I6 hle6 hb6 => ?_)
  have hts := hts.mono hle6
  have hset := hset.mono hle6
  have hIJ := hIJ.mono hle6
  have htb := hle6 _ _ htb
  have hrb := hrb.mono hle6
  have hb17i := hle6 _ _ hb17i
  have hls2 := hls2.mono hle6
  have hls := hls.mono hle6
  have hset2 : qN I6 (.map (some oc)) (xH xs) := .inr ⟨oc, mc, kc, rfl, hmc.congr (fun t => congrArg (fun l => xH l t) (tX _ _)), hb6⟩
  refine Cj.persist hb25 (fun I27 hle26 hb25i => ?_)
  have hts := hts.mono hle26
  have hset := hset.mono hle26
  have hIJ := hIJ.mono hle26
  have htb := hle26 _ _ htb
  have hrb := hrb.mono hle26
  have hb17i := hle26 _ _ hb17i
  have hls2 := hls2.mono hle26
  have hls := hls.mono hle26
  have hset2 := hset2.mono hle26
  refine kL (BP _ (GK (ls.take (i + 1))) (xH xs) _ [ptr b25 0] _ hset (fun t _ => b5w b25 _ (xH xs) t _ hb25i hset2)) ?_
  intro v28 I29 H30 hle31 hp32
  have hts := hts.mono hle31
  have hset := hset.mono hle31
  have hIJ := hIJ.mono hle31
  have htb := hle31 _ _ htb
  have hrb := hrb.mono hle31
  have hb17i := hle31 _ _ hb17i
  have hls2 := hls2.mono hle31
  have hls := hls.mono hle31
  have hset2 := hset2.mono hle31
  have hb25i := hle31 _ _ hb25i
  obtain ⟨wd, h, od, md, kd, rfl, hmd, rfl⟩ := hp32; cases h
  refine jL 4 ?_
  refine Cj.b3K rfl (fun hnew8 => ?_)
  refine Cj.persist (hnew8 _ (.head _)) (fun I8 hle8 hb8 => ?_)
  have hts := hts.mono hle8
  have hset := hset.mono hle8
  have hIJ := hIJ.mono hle8
  have htb := hle8 _ _ htb
  have hrb := hrb.mono hle8
  have hb17i := hle8 _ _ hb17i
  have hls2 := hls2.mono hle8
  have hls := hls.mono hle8
  have hset2 := hset2.mono hle8
  have hb25i := hle8 _ _ hb25i
  have hset3 : qN I8 (.map (some od)) (GK (ls.take (i + 1 + 1))) := .inr ⟨od, md, kd, rfl, hmd.congr (fun t => (hnx t).symm), hb8⟩
  refine jL 4 ?_
  refine Ej.round (i + 1, _, _) ⟨by dsimp only; omega, hIJ, hset3⟩ (by dsimp only; omega) ⟨rfl, rfl, rfl, rfl, rfl, trivial⟩ rfl rfl
 refine kM ?_
 refine ⟨_, rfl, ?_, rfl⟩
 rw [List.take_of_length_le (by omega : ls.length ≤ i + 1)] at hset
 refine hset.congr fun t => ?_
 rw [allL hmp]
 rw [show (Ke.words q.t).isEmpty = false from by
   cases hw : Ke.words q.t with
   | nil => rw [hw] at hll; rw [hll] at hl0; exact absurd hl0 (Nat.lt_irrefl 0)
   | cons a r => rfl]
 rfl
theorem b4B xv L q p c (hq : q.t.length ≤ 10000000) I (hx : yX I xv L) (hT : vU I) (htk : Ix.TOK L) : jO Tryz.prog 158 [xv, .agg (kD q p c).toArray] I [] (fun e _ H' => ∃ w, e = .returned w ∧ DZ w (fun t => decide (t ∈ Ix.keyed L q.i (Ix.mP L q.i (Ix.keyOf q.i q.t)))) H') := by
 have hbig := hx.big
 have hsrt := hx.pU
 have hvok := hx.UU
 obtain ⟨hsl, hsl2⟩ := QX hsrt hvok hbig q.i q.t
 refine jU func158 fun w0 hw0 => ?_
 refine jL 3 ?_
 intro b1 hb1
 refine jL 4 ?_
 refine Cj.persist hb1 (fun I3 hle2 hb1i => ?_)
 have hx := hx.mono hle2
 have hT := hT.mono hle2
 refine Cj.qC [] [] 11 (by kernel_rfl) ?_
 have hb1i_1 := hb1i
 refine sV (WM xv L q.i q.t (by omega) wW _ hx) ?_
 intro v6 I7 H8 hle9 hn5 hp10
 have hx := hx.mono hle9
 have hT := hT.mono hle9
 have hb1i := hle9 _ _ hb1i
 obtain ⟨wa, h, hoa⟩ := hp10; cases h
 have hna := hn5
 refine jL 1 ?_
 refine JA.MR hoa hna (fun Ia hlea hra => ?_)
 have hx := hx.mono hlea
 have hT := hT.mono hlea
 have hb1i := hlea _ _ hb1i
 replace hra := hra.row
 obtain ⟨pa, ca, hpa, hca, -⟩ := id hra
 subst hpa
 refine kL (a3E xv L q.i ((Ix.scan L q.i q.t wW).map lZ) _ (a2h htk hsrt hvok hbig q.i q.t) (by omega) _ hx hT hra) ?_
 intro v11 I12 H13 hle14 hp15
 have hx := hx.mono hle14
 have hT := hT.mono hle14
 have hb1i := hle14 _ _ hb1i
 have hra := hra.mono hle14
 obtain ⟨wb, h, ob, mb, kb, rfl, hmb, rfl⟩ := hp15; cases h
 refine jL 5 ?_
 refine Ej.keep (Keeps.k Keeps.n) ?_
 refine jV ?_
 exact ⟨_, rfl, ob, mb, kb, rfl, hmb.congr fun t => congrArg (fun l => xH (Ix.keyed L q.i l) t) (yG hsrt hvok hbig q.i q.t), rfl⟩
theorem b3R xv L q p c (hq : q.t.length ≤ 10000000) I (hx : yX I xv L) (hT : vU I) (htk : Ix.TOK L) : jO Tryz.prog 161 [xv, .agg (kD q p c).toArray] I [] (fun e _ H' => ∃ w, e = .returned w ∧ DZ w (fun t => decide (t ∈ Ix.keyed L q.i ((Ix.mP L q.i []).take ((Ix.mP L q.i []).length - (Ix.mP L q.i (Ix.keyOf q.i q.t)).length)))) H') := by
 have hbig := hx.big
 have hsrt := hx.pU
 have hvok := hx.UU
 obtain ⟨hsl, hsl2⟩ := QX hsrt hvok hbig q.i q.t
 obtain ⟨hsm, hsm2⟩ := QX hsrt hvok hbig q.i []
 rw [Ix.JU] at hsm hsm2
 have hkl := b1B hsrt q.i (Ix.keyOf q.i q.t)
 refine jU func161 fun w0 hw0 => ?_
 refine jL 3 ?_
 intro b1 hb1
 refine jL 4 ?_
 refine Cj.persist hb1 (fun I3 hle2 hb1i => ?_)
 have hx := hx.mono hle2
 have hT := hT.mono hle2
 refine Cj.qC [] [] 12 (by kernel_rfl) ?_
 have hb1i_1 := hb1i
 refine sV (WM xv L q.i [] (by decide) wW _ hx) ?_
 intro v6 I7 H8 hle9 hn5 hp10
 have hx := hx.mono hle9
 have hT := hT.mono hle9
 have hb1i := hle9 _ _ hb1i
 obtain ⟨wa, h, hoa⟩ := hp10; cases h
 have hna := hn5
 refine jL 1 ?_
 refine JA.MR hoa hna (fun Ia hlea hra => ?_)
 have hx := hx.mono hlea
 have hT := hT.mono hlea
 have hb1i := hlea _ _ hb1i
 replace hra := hra.row
 obtain ⟨pa, ca, hpa, hca, -⟩ := id hra
 subst hpa
 refine sV (WM xv L q.i q.t (by omega) wW _ hx) ?_
 intro v12 I13 H14 hle15 hn11 hp16
 have hx := hx.mono hle15
 have hT := hT.mono hle15
 have hb1i := hle15 _ _ hb1i
 have hra := hra.mono hle15
 obtain ⟨wd, h, hod⟩ := hp16; cases h
 have hnd := hn11
 refine jL 1 ?_
 refine JA.MR hod hnd (fun Id hled hrd => ?_)
 have hx := hx.mono hled
 have hT := hT.mono hled
 have hb1i := hled _ _ hb1i
 have hra := hra.mono hled
 replace hrd := hrd.row
 obtain ⟨pd, cd, hpd, hcd, -⟩ := id hrd
 subst hpd
 refine jL 5 ?_
 refine Cj.qC [] [] 12 (by kernel_rfl) ?_
 have hb1i_2 := hb1i
 refine jL 9 ?_
 refine JA.ev 25 (i64 ((((Ix.scan L q.i [] wW).map lZ).length - ((Ix.scan L q.i q.t wW).map lZ).length) : Nat)) rfl (congrArg i64 (by omega)) ?_
 refine JA.zt 9 rfl (OH rfl rfl rfl zO AP (by omega)) ?_
 refine kL (a3E xv L q.i (((Ix.scan L q.i [] wW).map lZ).take (((Ix.scan L q.i [] wW).map lZ).length - ((Ix.scan L q.i q.t wW).map lZ).length)) _ (fun x hx => a2h htk hsrt hvok hbig q.i [] x (List.mem_of_mem_take hx)) (by rw [List.length_take]; omega) _ hx hT (jW.take hra (Nat.sub_le _ _))) ?_
 intro v19 I20 H21 hle22 hp23
 have hx := hx.mono hle22
 have hT := hT.mono hle22
 have hb1i := hle22 _ _ hb1i
 have hra := hra.mono hle22
 have hrd := hrd.mono hle22
 obtain ⟨wb, h, ob, mb, kb, rfl, hmb, rfl⟩ := hp23; cases h
 refine jL 5 ?_
 refine Ej.keep (Keeps.k Keeps.n) ?_
 refine jV ?_
 exact ⟨_, rfl, ob, mb, kb, rfl, hmb.congr fun t => by rw [List.map_take, yG hsrt hvok hbig q.i [], hsl, hsm, Ix.JU]; rfl, rfl⟩
theorem a3R I : jO Tryz.prog 102 [] I [] (fun e I' H' => ∃ kb mb, e = .returned (.map (some mb)) ∧ I' kb = some (jM 121 [.func (.func 151) #[] #[]]) ∧ I' mb = some (kG (fun a : List UInt8 => str a) (b3o kb) 6) ∧ H' = []) := by
 refine jU func102 fun w0 hw0 => ?_
 refine jL 8 ?_
 intro b1 hb1
 refine jL 5 ?_
 refine J.op rfl (kS rfl rfl rfl ?_)
 intro b2 hb2
 refine jL 1 ?_
 refine J.op rfl (nY (kv := (fun a : List UInt8 => str a)) (l := []) (c := 0) (a := [61]) 0 (.inl rfl) rfl rfl rfl rfl rfl OD (mY.text lM) rfl lS.z ?_)
 refine jL 1 ?_
 refine J.op rfl (nY (kv := (fun a : List UInt8 => str a)) (a := [61, 61]) 0 (.inl rfl) rfl rfl rfl rfl rfl OD (mY.text lM) rfl lS.z ?_)
 refine J.op rfl (nY (kv := (fun a : List UInt8 => str a)) (a := [97, 110, 121]) 0 (.inl rfl) rfl rfl rfl rfl rfl OD (mY.text lM) rfl lS.z ?_)
 refine J.op rfl (nY (kv := (fun a : List UInt8 => str a)) (a := [97, 108, 108]) 0 (.inl rfl) rfl rfl rfl rfl rfl OD (mY.text lM) rfl lS.z ?_)
 refine J.op rfl (nY (kv := (fun a : List UInt8 => str a)) (a := [62, 61]) 0 (.inl rfl) rfl rfl rfl rfl rfl OD (mY.text lM) rfl lS.z ?_)
 refine J.op rfl (nY (kv := (fun a : List UInt8 => str a)) (a := [60]) 0 (.inl rfl) rfl rfl rfl rfl rfl OD (mY.text lM) rfl lS.z ?_)
 refine jL 5 ?_
 refine Ej.pull (Pull.s Pull.z) ?_
 refine Ej.persist hb1 (fun I4 hle3 hb1i => ?_)
 refine Ej.persist hb2 (fun I6 hle5 hb2i => ?_)
 have hb1i := hle5 _ _ hb1i
 refine kM ?_
 exact ⟨b1, b2, rfl, hb1i, hb2i, rfl⟩
end Go.Proofs.YtekmeaoblpfnpaaGreatDoor
end
namespace Ix
open Ke
def XY (i r s : Bs) : Cq.Qn := ⟨1, i, r, s, .nil⟩
def zM (k : Int) (a b : Cq.Qn) : Cq.Qn := ⟨k, [], [], [], a.push (b.push .nil)⟩
theorem KY L {t} : ∀ (n : Nat) (q : Cq.Qn), q.size < n → Cq.form q = true → sat L q t = true → t ∈ L.map (·.1)
  | 0, _, h, _, _ => absurd h (Nat.not_lt_zero _)
  | n + 1, q, hn, hf, h => by
    rcases Cq.vZ hf with hk | ⟨hk, h2, h4, a, b, htw, ha, hb⟩
    · rw [WX hk] at h; exact b4c h
    rw [a0Z hk htw] at h
    have hs := htw.size
    unfold comb at h
    split at h
    · rw [Bool.and_eq_true] at h; exact KY L n a (by omega) ha h.1
    split at h
    · rw [Bool.or_eq_true] at h
      exact h.elim (KY L n a (by omega) ha) (KY L n b (by omega) hb)
    rw [Bool.and_eq_true] at h; exact KY L n a (by omega) ha h.1
theorem a3j {L q} (hf : Cq.form q = true) {l} (hp : l.Pairwise (oL L)) (hm : ∀ t, t ∈ l ↔ sat L q t = true) : CJ L q l :=
  ⟨hp, fun t => ⟨fun h => ⟨KY L _ q (Nat.lt_succ_self _) hf ((hm t).1 h), (hm t).1 h⟩, fun h => (hm t).2 h.2⟩⟩
def hits (L:Ix) (i s:Bs) (t:Rec):Nat:=(words s).countP fun w=>decide (t∈word L i w)
def JK (L : Ix) (i s : Bs) (t : Rec) (k : Nat) : Nat := ((words s).take k).countP fun w => decide (t ∈ word L i w)
theorem a9r L i s t {k} (h : (words s).length ≤ k) : JK L i s t k = hits L i s t := by unfold JK hits; rw [List.take_of_length_le h]
theorem b1A L i s t k : JK L i s t k ≤ k := Nat.le_trans List.countP_le_length (by rw [List.length_take]; omega)
theorem XR {L i s t k w} (h : (words s)[k]? = some w) : JK L i s t (k + 1) = JK L i s t k + if t ∈ word L i w then 1 else 0 := by
  obtain ⟨hlt, hg⟩ := List.getElem?_eq_some_iff.1 h
  unfold JK
  rw [List.take_succ_eq_append_getElem hlt, hg, List.countP_append]
  simp [List.countP_cons]
theorem b0M L i s t : JZ L i rEq s t = if i = uH then decide (t ∈ oG L i (keyOf i s)) else decide (t ∈ phrase L i (words s)) := rfl
theorem b3O L i s t : JZ L i b6x s t = decide (t ∈ oG L i (keyOf i s)) := rfl
theorem a6l L i s t : JZ L i a8o s t = decide (0 < hits L i s t) := by
  show (words s).any _ = _
  rw [Bool.eq_iff_iff, decide_eq_true_eq]
  unfold hits
  rw [List.countP_pos_iff, List.any_eq_true]
theorem a6q L i s t : JZ L i a7v s t = (decide (0 < hits L i s t) && decide (hits L i s t = (words s).length)) := by
  show (!(words s).isEmpty && (words s).all _) = _
  rw [Bool.eq_iff_iff, Bool.and_eq_true, Bool.and_eq_true, decide_eq_true_eq, decide_eq_true_eq]
  unfold hits
  rw [List.countP_eq_length, List.all_eq_true]
  cases hw : words s with
  | nil => simp
  | cons a r =>
    constructor
    · rintro ⟨_, h⟩
      exact ⟨List.countP_pos_iff.2 ⟨a, .head _, h a (.head _)⟩, h⟩
    rintro ⟨_, h⟩
    exact ⟨rfl, h⟩
end Ix
namespace Ix
open Ke
theorem a8E k a b : (zM k a b).size = a.size + b.size + 2 := by grind [zM, Cq.Qn.size, Cq.Qn.push, Cq.Qs.size]
theorem a8A k a b : (zM k a b).wide = a.wide + b.wide := by grind [zM, Cq.Qn.wide, Cq.Qn.push, Cq.Qs.wide, List.length_nil]
theorem ZV {i r} (hi : i ∈ Cq.indexes) (hr : r ∈ Cq.relations) s : Cq.form (XY i r s) = true := by
  rw [Cq.wJ (q := XY i r s) rfl, Bool.and_eq_true, Bool.and_eq_true]
  exact ⟨⟨List.contains_iff_mem.2 hi, List.contains_iff_mem.2 hr⟩, rfl⟩
theorem YO {k} (h2 : 2 ≤ k) (h4 : k ≤ 4) {a b} (ha : Cq.form a = true) (hb : Cq.form b = true) : Cq.form (zM k a b) = true := by
  rw [Cq.BM (q := zM k a b) (a := a) (b := b) (by show k ≠ 1; omega) (by show ¬ (k < 2 ∨ k > 4 ∨ ([] : Bs) ≠ [] ∨ ([] : Bs) ≠ [] ∨ ([] : Bs) ≠ [] ∨ (a.push (b.push .nil)).len ≠ 2); simp [Cq.Qn.push, Cq.Qs.len]; omega) rfl, ha, hb]
  rfl
theorem a4A {q} (h : Cq.form q = true) (hd : Cq.depth q ≤ 50) : Cq.right q = true := by
  unfold Cq.right; rw [h, decide_eq_true hd]; rfl
theorem a8G {i r} (hi : i ∈ Cq.indexes) (hr : r ∈ Cq.relations) s : Cq.right (XY i r s) = true :=
  a4A (ZV hi hr s) (by rw [Cq.xG (q := XY i r s) rfl]; exact Nat.zero_le _)
theorem a5D {k} (hk : k ≠ 1) a b : Cq.depth (zM k a b) ≤ max (Cq.depth b + 1) (Cq.depth a) := by
  rw [Cq.yR (q := zM k a b) (a := a) (b := b) hk rfl]
  have : Cq.up b.k ≤ 1 := by unfold Cq.up; split <;> omega
  omega
theorem ZQ {k} (h2 : 2 ≤ k) (h4 : k ≤ 4) {a b} (ha : Cq.form a = true) (hb : Cq.form b = true) (da : Cq.depth a ≤ 49) (db : Cq.depth b ≤ 49) : Cq.right (zM k a b) = true := by grind [a4A, YO, Nat.le_trans, a5D]
theorem b3a {L q l} (h1 : l.Pairwise (oL L)) (h2 : ∀ t ∈ L.map (·.1), (t ∈ l ↔ sat L q t = true)) (h3 : ∀ t ∈ l, t ∈ L.map (·.1)) : CJ L q l :=
  ⟨h1, fun t => ⟨fun h => ⟨h3 t h, (h2 t (h3 t h)).1 h⟩, fun h => (h2 t h.1).2 h.2⟩⟩
end Ix
section
namespace Go.Proofs.YtekmeaoblpfnpaaGreatDoor
open _root_.Go.Proofs.Tryz
open Go Go.Sx
theorem jO.b0V {f args I S} (h : jO Tryz.prog f args I [] (fun e I' H' => ∃ w, e = .returned w ∧ (DZ w S H' ∨ (qN I' w S ∧ H' = [])))) : jO Tryz.prog f args I [] (fun e I' H' => ∃ w, e = .returned w ∧ qN I' w S ∧ H' = []) := by
  refine ⟨h.1, fun w hw => (h.2 w hw).mono ?_⟩
  rintro e w' ⟨I', H', hst, u, rfl, ho | ⟨hv, rfl⟩⟩
  · obtain ⟨b, m, k, rfl, hm, rfl⟩ := ho
    have hb : w.heap.size ≤ b := (hst.new _ (.head _)).resolve_left (by simp)
    exact ⟨_, _, hst.persist hb, _, rfl, .inr ⟨b, m, k, rfl, hm, FQ _ _ _⟩, rfl⟩
  exact ⟨_, _, hst, _, rfl, hv, rfl⟩
theorem jO.QA {f args I S S'} (h : jO Tryz.prog f args I [] (fun e _ H' => ∃ w, e = .returned w ∧ DZ w S H')) (he : ∀ t, S t = S' t) : jO Tryz.prog f args I [] (fun e I' H' => ∃ w, e = .returned w ∧ qN I' w S' ∧ H' = []) :=
  jO.b0V (h.mono fun _ _ _ _ ⟨w, h1, b, m, k, h2, h3, h4⟩ => ⟨w, h1, .inl ⟨b, m, k, h2, h3.congr he, h4⟩⟩)
theorem b4i xv L q p c kb (hq : q.t.length ≤ 10000000) (htk : Ix.TOK L) (hr : Cq.relations.contains q.r = true) I (hx : yX I xv L) (hT : vU I) (hkb : I kb = some (jM 121 [.func (.func 151) #[] #[]])) :
    ∃ F caps, (kH (b3o kb) q.r).getD .nilFunc = .func (.func F) #[] (List.toArray caps) ∧ jO Tryz.prog F (xv :: .agg (kD q p c).toArray :: caps) I [] (fun e I' H' => ∃ w, e = .returned w ∧ qN I' w (fun t => Ix.JZ L q.i q.r q.t t) ∧ H' = []) := by
  have hm : q.r ∈ Cq.relations := List.contains_iff_mem.1 hr
  simp only [Cq.relations, List.mem_cons, List.not_mem_nil, or_false] at hm
  rcases hm with h | h | h | h | h | h <;> rw [h]
  · exact ⟨_, [ptr kb 0], rfl, jO.QA (b4A xv L q p c hq I hx kb hkb) fun t => rfl⟩
  · exact ⟨_, [], rfl, jO.QA (a6r xv L q p c hq I hx) fun t => rfl⟩
  · exact ⟨_, [], rfl, jO.QA (b3R xv L q p c hq I hx hT htk) fun t => rfl⟩
  · exact ⟨_, [], rfl, jO.QA (b4B xv L q p c hq I hx hT htk) fun t => rfl⟩
  · exact ⟨_, [], rfl, jO.QA (b4f xv L q p c hq I hx) fun t => rfl⟩
  exact ⟨_, [], rfl, b4w xv L q p c hq I hx⟩
def TD (xv : Value) (L : Ix.Ix) (q : Cq.Qn) : Prop := ∀ (p : Option Addr) (c : Nat) (I : Heap), PS I q.ps p → yX I xv L → vU I → q.wide ≤ 10000000 → Cq.form q = true → jO Tryz.prog 54 [xv, .agg (kD q p c).toArray] I [] (fun e I' H' => ∃ w, e = .returned w ∧ qN I' w (Ix.sat L q) ∧ H' = [])
theorem a4Y xv L (htk : Ix.TOK L) q (ih : ∀ q', Cq.Qn.size q' < q.size → TD xv L q') : TD xv L q := by
 intro p c I hps hx hT hwd hform
 refine jO.b0V ?_
 refine jU func54 fun w0 hw0 => ?_
 refine jL 3 ?_
 intro b1 hb1
 refine jS (fun hc2 hc2p => ?_) (fun hc2 hc2p => ?_)
 ·have hk : q.k = 1 := by omega
  have hrel : Cq.relations.contains q.r = true := by
    rw [Cq.wJ hk, Bool.and_eq_true, Bool.and_eq_true] at hform
    exact hform.1.2
  have htl : q.t.length ≤ 10000000 := by unfold Cq.Qn.wide at hwd; omega
  refine jL 1 ?_
  refine Cj.qC [0] [] 8 (by kernel_rfl) ?_
  refine kL (a3R _) ?_
  intro v4 I5 H6 hle7 hp8
  have hps := hps.mono hle7
  have hx := hx.mono hle7
  have hT := hT.mono hle7
  obtain ⟨kb1, mb1, h, hkb1, hmb1, rfl⟩ := hp8; cases h
  obtain ⟨F, caps, hF, hcl⟩ := b4i xv L q p c kb1 htl htk hrel _ hx hT hkb1
  refine jL 1 ?_
  refine q0 3 rfl (kV (kQ (kv := (fun a : List UInt8 => str a)) (l := (b3o kb1)) (a := q.r) rfl rfl rfl rfl OD (mY.text lM) zeroValue121 (jR.EH hmb1)) rfl rfl ?_)
  refine jL 1 ?_
  refine JA.ev 15 (.func (.func F) #[] caps.toArray) rfl hF ?_
  refine kL (hcl) ?_
  intro v9 I10 H11 hle12 hp13
  have hps := hps.mono hle12
  have hx := hx.mono hle12
  have hT := hT.mono hle12
  have hkb1 := hle12 _ _ hkb1
  have hmb1 := hle12 _ _ hmb1
  obtain ⟨wt, h, hset, rfl⟩ := hp13; cases h
  refine kM ?_
  exact ⟨_, rfl, .inr ⟨hset.congr fun t => (Ix.WX hk).symm, rfl⟩⟩
 have hk : q.k ≠ 1 := by omega
 obtain ⟨_, hk2, hk4, qa, qb, htw, hfa, hfb⟩ := (Cq.vZ hform).resolve_left hk
 obtain ⟨bl, off, cs', T, fr, pa, ca, pb, cb, rfl, hbl, hca, hcb, hkb, hpa, hpb⟩ := hps.GY htw
 have hsz2 := htw.size
 have hwd2 := htw.wide
 have hln := htw.len
 have hsat : ∀ t, Ix.sat L q t = Ix.comb q.k (Ix.sat L qa t) (Ix.sat L qb t) := fun t => Ix.a0Z hk htw
 refine kJ off ?_
 refine J.z (q2 lT kE (jR.EH hbl) hca) ?_
 refine kL (ih qa hsz2.1 pa ca _ hpa hx hT (by omega) hfa) ?_
 intro v15 I16 H17 hle18 hp19
 have hx := hx.mono hle18
 have hT := hT.mono hle18
 have hbl := hle18 _ _ hbl
 have hpa := hpa.mono hle18
 have hpb := hpb.mono hle18
 obtain ⟨wa, h, hsa, rfl⟩ := hp19; cases h
 rcases id hsa with ⟨rfl, hSa⟩ | ⟨ab, am, ak, rfl, hma, hab⟩
 ·have hz : ∀ t, Ix.sat L qa t = false := hSa
  refine jL 3 ?_
  refine Cj.join (ι := Heap × Option Nat) (fun y => qN y.1 (.map y.2) (Ix.sat L qa) ∧ PS y.1 qb.ps pb ∧ yX y.1 xv L ∧ vU y.1 ∧ y.1 bl = some (.cells (List.toArray cs') T fr)) (fun y => [(0, xv), (3, ptr b1 0), (5, .map y.2)]) (fun y => y.1) (fun y => [(b1, jM 32 (kD q (some ⟨bl, off, none⟩) c))]) ?_ (fun hcut => ?_)
  ·rintro ⟨J6, oa⟩ ⟨hsa, hpb, hx, hT, hbl⟩
   dsimp only at hsa hpb hx hT hbl ⊢
   refine kJ (off + 5) ?_
   refine J.z (q2 lT kE (jR.EH hbl) hcb) ?_
   refine kL (ih qb hsz2.2 pb cb _ hpb hx hT (by omega) hfb) ?_
   intro v20 I21 H22 hle23 hp24
   have hsa := hsa.mono hle23
   have hpb := hpb.mono hle23
   have hx := hx.mono hle23
   have hT := hT.mono hle23
   have hbl := hle23 _ _ hbl
   obtain ⟨wb, h, hsb, rfl⟩ := hp24; cases h
   obtain ⟨bo, rfl⟩ := hsb.shape
   refine jL 1 ?_
   intro b25 hb25
   refine jS (fun hc26 hc26p => ?_) (fun hc26 hc26p => ?_)
   ·have hk9 : q.k = 2 := lU hc26
    refine jL 1 ?_
    refine Cj.persist hb25 (fun I28 hle27 hb25i => ?_)
    have hsa := hsa.mono hle27
    have hpb := hpb.mono hle27
    have hx := hx.mono hle27
    have hT := hT.mono hle27
    have hbl := hle27 _ _ hbl
    have hsb := hsb.mono hle27
    refine kL (BP _ (Ix.sat L qa) (Ix.sat L qb) _ [ptr b25 0] _ hsa (fun t _ => a5Y b25 _ (Ix.sat L qb) t _ hb25i hsb)) ?_
    intro v29 I30 H31 hle32 hp33
    have hsa := hsa.mono hle32
    have hpb := hpb.mono hle32
    have hx := hx.mono hle32
    have hT := hT.mono hle32
    have hbl := hle32 _ _ hbl
    have hsb := hsb.mono hle32
    have hb25i := hle32 _ _ hb25i
    obtain ⟨wd, h, od, md, kd, rfl, hmd, rfl⟩ := hp33; cases h
    refine jL 6 ?_
    refine Ej.keep (Keeps.k (Keeps.d Keeps.n)) ?_
    refine jV ?_
    exact ⟨_, rfl, .inl ⟨od, md, kd, rfl, hmd.congr fun t => by rw [hsat t, hk9]; rfl, rfl⟩⟩
   have hkn2 : q.k ≠ 2 := lY hc26
   refine jS (fun hc34 hc34p => ?_) (fun hc34 hc34p => ?_)
   ·have hk9 : q.k = 4 := lU hc34
    refine jL 1 ?_
    refine Cj.persist hb25 (fun I36 hle35 hb25i => ?_)
    have hsa := hsa.mono hle35
    have hpb := hpb.mono hle35
    have hx := hx.mono hle35
    have hT := hT.mono hle35
    have hbl := hle35 _ _ hbl
    have hsb := hsb.mono hle35
    refine kL (BP _ (Ix.sat L qa) (fun t => !Ix.sat L qb t) _ [ptr b25 0] _ hsa (fun t _ => a6c b25 _ (Ix.sat L qb) t _ hb25i hsb)) ?_
    intro v37 I38 H39 hle40 hp41
    have hsa := hsa.mono hle40
    have hpb := hpb.mono hle40
    have hx := hx.mono hle40
    have hT := hT.mono hle40
    have hbl := hle40 _ _ hbl
    have hsb := hsb.mono hle40
    have hb25i := hle40 _ _ hb25i
    obtain ⟨wd, h, od, md, kd, rfl, hmd, rfl⟩ := hp41; cases h
    refine jL 6 ?_
    refine Ej.keep (Keeps.k (Keeps.d Keeps.n)) ?_
    refine jV ?_
    exact ⟨_, rfl, .inl ⟨od, md, kd, rfl, hmd.congr fun t => by rw [hsat t, hk9]; rfl, rfl⟩⟩
   have hkn4 : q.k ≠ 4 := lY hc34
   refine jL 4 ?_
   refine Cj.persist hb25 (fun I43 hle42 hb25i => ?_)
   have hsa := hsa.mono hle42
   have hpb := hpb.mono hle42
   have hx := hx.mono hle42
   have hT := hT.mono hle42
   have hbl := hle42 _ _ hbl
   have hsb := hsb.mono hle42
   refine kL (BP _ (Ix.sat L qa) (fun _ => true) _ [] _ hsa (fun t _ => a9i t _)) ?_
   intro v44 I45 H46 hle47 hp48
   have hsa := hsa.mono hle47
   have hpb := hpb.mono hle47
   have hx := hx.mono hle47
   have hT := hT.mono hle47
   have hbl := hle47 _ _ hbl
   have hsb := hsb.mono hle47
   have hb25i := hle47 _ _ hb25i
   obtain ⟨wd, h, od, md, kd, rfl, hmd, rfl⟩ := hp48; cases h
   refine jL 7 ?_
   rcases id hsb with ⟨hbo, hSb⟩ | ⟨bb, bm, bk, hbo, hmbb, hbb⟩
   ·cases hbo
    refine J.op rfl (sF rfl rfl rfl rfl pY ?_)
    intro b49 hb49
    refine jL 3 ?_
    refine Cj.rounds 1 ?_
    refine Rj.succ ?_
    refine jL 2 ?_
    refine J.op rfl (tY 0 rfl rfl rfl rfl rfl ?_)
    refine jL 17 ?_
    refine Ej.keep (Keeps.d (Keeps.k (Keeps.d Keeps.n))) ?_
    have hk9 : q.k = 3 := by omega
    refine jV ?_
    exact ⟨_, rfl, .inl ⟨od, md, kd, rfl, hmd.congr fun t => by rw [hsat t, hk9, Bool.and_true]; show _ = (_ || _); rw [hSb t, Bool.or_false], rfl⟩⟩
   cases hbo
   refine J.op rfl (uX (kv := jZ) (l := bm) rfl rfl rfl rfl pY (jR.EH hbb) ?_)
   intro b51 hb51
   refine jL 3 ?_
   refine Cj.keep (Keeps.k (Keeps.k (Keeps.d Keeps.n))) ?_
   refine Cj.loop (ι := TC) (fun y => (y.vis ++ y.rest).Perm bm ∧ nK y.l y.c (EX y.vis (fun t => Ix.sat L qa t && true))) (fun y => y.rest.length) (fun y => [(7, .map (some od)), (54, ptr b51 0)]) (fun y => _) (fun y => [(b51, DJ bb bk y.vis bk), (od, kG jZ y.l y.c)]) ⟨[], bm, md, kd⟩ ⟨.refl _, hmd.congr fun t => by unfold EX; simp⟩ ⟨rfl, rfl, trivial⟩ rfl rfl ?_
   rintro ⟨vis, rest, l, cc⟩ ⟨hp, hM⟩
   dsimp only at hp hM ⊢
   refine jL 2 ?_
   refine J.op rfl (xE (kv := jZ) (l := bm) 0 rfl rfl rfl rfl rfl (jR.EH hbb) hmbb.1.2.2 (Nat.le_refl _) hmbb.1.2.1 hp ?_ ?_)
   ·rintro x rest2 H9 hrx hpx ⟨-, hset⟩; simp only [List.set_cons_zero, List.set_cons_succ] at hset; subst hset
    have hxm : x ∈ bm := hpx.mem_iff.1 (List.mem_append_left _ (List.mem_append_right _ (.head _)))
    refine jL 10 ?_
    refine J.z (BD (kv := jZ) (l := bm) rfl rfl (jR.at 0 rfl) (jR.EH hbb) hxm hmbb.1.2.1) ?_
    refine jL 2 ?_
    intro b53 hb53
    refine jL 6 ?_
    refine J.op rfl (nY (kv := jZ) (a := x.1) 2 (.inr rfl) rfl rfl rfl rfl rfl pY nC rfl (lS.s (lS.s lS.z)) ?_)
    refine jL 2 ?_
    refine Ej.keep (Keeps.d (Keeps.k (Keeps.k Keeps.n))) ?_
    refine Ej.round ⟨vis ++ [x], rest2, _, _⟩ ⟨hpx, hM.add x.1 a0b⟩ (by have h := hrx.length_eq; simp only [List.length_cons] at h; dsimp only; omega) ⟨rfl, rfl, trivial⟩ rfl rfl
   intro hend
   have hpv : vis.Perm bm := by rw [hend, List.append_nil] at hp; exact hp
   refine jL 17 ?_
   refine Ej.keep (Keeps.d (Keeps.k Keeps.n)) ?_
   have hk9 : q.k = 3 := by omega
   refine jV ?_
   exact ⟨_, rfl, .inl ⟨od, l, cc, rfl, hM.congr fun t => by rw [hsat t, hk9, a1B hmbb hpv, Bool.and_true]; rfl, rfl⟩⟩
  refine jL 3 ?_
  refine J.z (a4h rfl rfl pY) ?_
  refine jS (fun hc55 hc55p => ?_) (fun hc55 hc55p => ?_)
  ·refine jL 7 ?_
   have hk3 : q.k ≠ 3 := bne_iff_ne.1 hc55
   refine kM ?_
   exact ⟨_, rfl, .inr ⟨.inl ⟨rfl, fun t => by rw [hsat t, hz t]; unfold Ix.comb; rw [if_neg hk3]; split <;> rfl⟩, rfl⟩⟩
  refine jL 1 ?_
  exact hcut (_, none) _ _ _ ⟨hsa, hpb, hx, hT, hbl⟩ ⟨rfl, rfl, rfl, trivial⟩ rfl rfl

 refine jL 3 ?_
 refine Cj.join (ι := Heap × Option Nat) (fun y => qN y.1 (.map y.2) (Ix.sat L qa) ∧ PS y.1 qb.ps pb ∧ yX y.1 xv L ∧ vU y.1 ∧ y.1 bl = some (.cells (List.toArray cs') T fr)) (fun y => [(0, xv), (3, ptr b1 0), (5, .map y.2)]) (fun y => y.1) (fun y => [(b1, jM 32 (kD q (some ⟨bl, off, none⟩) c))]) ?_ (fun hcut => ?_)
 ·rintro ⟨J6, oa⟩ ⟨hsa, hpb, hx, hT, hbl⟩
  dsimp only at hsa hpb hx hT hbl ⊢
  refine kJ (off + 5) ?_
  refine J.z (q2 lT kE (jR.EH hbl) hcb) ?_
  refine kL (ih qb hsz2.2 pb cb _ hpb hx hT (by omega) hfb) ?_
  intro v56 I57 H58 hle59 hp60
  have hsa := hsa.mono hle59
  have hpb := hpb.mono hle59
  have hx := hx.mono hle59
  have hT := hT.mono hle59
  have hbl := hle59 _ _ hbl
  obtain ⟨wb, h, hsb, rfl⟩ := hp60; cases h
  obtain ⟨bo, rfl⟩ := hsb.shape
  refine jL 1 ?_
  intro b61 hb61
  refine jS (fun hc62 hc62p => ?_) (fun hc62 hc62p => ?_)
  ·have hk9 : q.k = 2 := lU hc62
   refine jL 1 ?_
   refine Cj.persist hb61 (fun I64 hle63 hb61i => ?_)
   have hsa := hsa.mono hle63
   have hpb := hpb.mono hle63
   have hx := hx.mono hle63
   have hT := hT.mono hle63
   have hbl := hle63 _ _ hbl
   have hsb := hsb.mono hle63
   refine kL (BP _ (Ix.sat L qa) (Ix.sat L qb) _ [ptr b61 0] _ hsa (fun t _ => a5Y b61 _ (Ix.sat L qb) t _ hb61i hsb)) ?_
   intro v65 I66 H67 hle68 hp69
   have hsa := hsa.mono hle68
   have hpb := hpb.mono hle68
   have hx := hx.mono hle68
   have hT := hT.mono hle68
   have hbl := hle68 _ _ hbl
   have hsb := hsb.mono hle68
   have hb61i := hle68 _ _ hb61i
   obtain ⟨wd, h, od, md, kd, rfl, hmd, rfl⟩ := hp69; cases h
   refine jL 6 ?_
   refine Ej.keep (Keeps.k (Keeps.d Keeps.n)) ?_
   refine jV ?_
   exact ⟨_, rfl, .inl ⟨od, md, kd, rfl, hmd.congr fun t => by rw [hsat t, hk9]; rfl, rfl⟩⟩
  have hkn2 : q.k ≠ 2 := lY hc62
  refine jS (fun hc70 hc70p => ?_) (fun hc70 hc70p => ?_)
  ·have hk9 : q.k = 4 := lU hc70
   refine jL 1 ?_
   refine Cj.persist hb61 (fun I72 hle71 hb61i => ?_)
   have hsa := hsa.mono hle71
   have hpb := hpb.mono hle71
   have hx := hx.mono hle71
   have hT := hT.mono hle71
   have hbl := hle71 _ _ hbl
   have hsb := hsb.mono hle71
   refine kL (BP _ (Ix.sat L qa) (fun t => !Ix.sat L qb t) _ [ptr b61 0] _ hsa (fun t _ => a6c b61 _ (Ix.sat L qb) t _ hb61i hsb)) ?_
   intro v73 I74 H75 hle76 hp77
   have hsa := hsa.mono hle76
   have hpb := hpb.mono hle76
   have hx := hx.mono hle76
   have hT := hT.mono hle76
   have hbl := hle76 _ _ hbl
   have hsb := hsb.mono hle76
   have hb61i := hle76 _ _ hb61i
   obtain ⟨wd, h, od, md, kd, rfl, hmd, rfl⟩ := hp77; cases h
   refine jL 6 ?_
   refine Ej.keep (Keeps.k (Keeps.d Keeps.n)) ?_
   refine jV ?_
   exact ⟨_, rfl, .inl ⟨od, md, kd, rfl, hmd.congr fun t => by rw [hsat t, hk9]; rfl, rfl⟩⟩
  have hkn4 : q.k ≠ 4 := lY hc70
  refine jL 4 ?_
  refine Cj.persist hb61 (fun I79 hle78 hb61i => ?_)
  have hsa := hsa.mono hle78
  have hpb := hpb.mono hle78
  have hx := hx.mono hle78
  have hT := hT.mono hle78
  have hbl := hle78 _ _ hbl
  have hsb := hsb.mono hle78
  refine kL (BP _ (Ix.sat L qa) (fun _ => true) _ [] _ hsa (fun t _ => a9i t _)) ?_
  intro v80 I81 H82 hle83 hp84
  have hsa := hsa.mono hle83
  have hpb := hpb.mono hle83
  have hx := hx.mono hle83
  have hT := hT.mono hle83
  have hbl := hle83 _ _ hbl
  have hsb := hsb.mono hle83
  have hb61i := hle83 _ _ hb61i
  obtain ⟨wd, h, od, md, kd, rfl, hmd, rfl⟩ := hp84; cases h
  refine jL 7 ?_
  rcases id hsb with ⟨hbo, hSb⟩ | ⟨bb, bm, bk, hbo, hmbb, hbb⟩
  ·cases hbo
   refine J.op rfl (sF rfl rfl rfl rfl pY ?_)
   intro b85 hb85
   refine jL 3 ?_
   refine Cj.rounds 1 ?_
   refine Rj.succ ?_
   refine jL 2 ?_
   refine J.op rfl (tY 0 rfl rfl rfl rfl rfl ?_)
   refine jL 17 ?_
   refine Ej.keep (Keeps.d (Keeps.k (Keeps.d Keeps.n))) ?_
   have hk9 : q.k = 3 := by omega
   refine jV ?_
   exact ⟨_, rfl, .inl ⟨od, md, kd, rfl, hmd.congr fun t => by rw [hsat t, hk9, Bool.and_true]; show _ = (_ || _); rw [hSb t, Bool.or_false], rfl⟩⟩
  cases hbo
  refine J.op rfl (uX (kv := jZ) (l := bm) rfl rfl rfl rfl pY (jR.EH hbb) ?_)
  intro b87 hb87
  refine jL 3 ?_
  refine Cj.keep (Keeps.k (Keeps.k (Keeps.d Keeps.n))) ?_
  refine Cj.loop (ι := TC) (fun y => (y.vis ++ y.rest).Perm bm ∧ nK y.l y.c (EX y.vis (fun t => Ix.sat L qa t && true))) (fun y => y.rest.length) (fun y => [(7, .map (some od)), (54, ptr b87 0)]) (fun y => _) (fun y => [(b87, DJ bb bk y.vis bk), (od, kG jZ y.l y.c)]) ⟨[], bm, md, kd⟩ ⟨.refl _, hmd.congr fun t => by unfold EX; simp⟩ ⟨rfl, rfl, trivial⟩ rfl rfl ?_
  rintro ⟨vis, rest, l, cc⟩ ⟨hp, hM⟩
  dsimp only at hp hM ⊢
  refine jL 2 ?_
  refine J.op rfl (xE (kv := jZ) (l := bm) 0 rfl rfl rfl rfl rfl (jR.EH hbb) hmbb.1.2.2 (Nat.le_refl _) hmbb.1.2.1 hp ?_ ?_)
  ·rintro x rest2 H9 hrx hpx ⟨-, hset⟩; simp only [List.set_cons_zero, List.set_cons_succ] at hset; subst hset
   have hxm : x ∈ bm := hpx.mem_iff.1 (List.mem_append_left _ (List.mem_append_right _ (.head _)))
   refine jL 10 ?_
   refine J.z (BD (kv := jZ) (l := bm) rfl rfl (jR.at 0 rfl) (jR.EH hbb) hxm hmbb.1.2.1) ?_
   refine jL 2 ?_
   intro b89 hb89
   refine jL 6 ?_
   refine J.op rfl (nY (kv := jZ) (a := x.1) 2 (.inr rfl) rfl rfl rfl rfl rfl pY nC rfl (lS.s (lS.s lS.z)) ?_)
   refine jL 2 ?_
   refine Ej.keep (Keeps.d (Keeps.k (Keeps.k Keeps.n))) ?_
   refine Ej.round ⟨vis ++ [x], rest2, _, _⟩ ⟨hpx, hM.add x.1 a0b⟩ (by have h := hrx.length_eq; simp only [List.length_cons] at h; dsimp only; omega) ⟨rfl, rfl, trivial⟩ rfl rfl
  intro hend
  have hpv : vis.Perm bm := by rw [hend, List.append_nil] at hp; exact hp
  refine jL 17 ?_
  refine Ej.keep (Keeps.d (Keeps.k Keeps.n)) ?_
  have hk9 : q.k = 3 := by omega
  refine jV ?_
  exact ⟨_, rfl, .inl ⟨od, l, cc, rfl, hM.congr fun t => by rw [hsat t, hk9, a1B hmbb hpv, Bool.and_true]; rfl, rfl⟩⟩
 refine jL 3 ?_
 refine J.z (yP (kv := jZ) (l := am) rfl rfl pY (jR.EH hab)) ?_
 refine mX (fun hg91 hg91p => ?_) (fun hg91 hg91p => ?_)
 ·refine jS (fun hc92 hc92p => ?_) (fun hc92 hc92p => ?_)
  ·refine jL 7 ?_
   have hz : ∀ t, Ix.sat L qa t = false := hma.empty (by have h := lU hg91; omega)
   have hk3 : q.k ≠ 3 := bne_iff_ne.1 hc92
   refine kM ?_
   exact ⟨_, rfl, .inr ⟨.inl ⟨rfl, fun t => by rw [hsat t, hz t]; unfold Ix.comb; rw [if_neg hk3]; split <;> rfl⟩, rfl⟩⟩
  refine jL 1 ?_
  exact hcut (_, some ab) _ _ _ ⟨hsa, hpb, hx, hT, hbl⟩ ⟨rfl, rfl, rfl, trivial⟩ rfl rfl
 refine jL 8 ?_
 exact hcut (_, some ab) _ _ _ ⟨hsa, hpb, hx, hT, hbl⟩ ⟨rfl, rfl, rfl, trivial⟩ rfl rfl
theorem a7k xv L (htk : Ix.TOK L) q : TD xv L q := by
  suffices ∀ n (q : Cq.Qn), q.size < n → TD xv L q from this _ q (Nat.lt_succ_self _)
  intro n
  induction n with
  | zero => intro q h; omega
  | succ n ih => intro q h; exact a4Y xv L htk q fun q' h' => ih q' (by omega)
end Go.Proofs.YtekmeaoblpfnpaaGreatDoor
end
namespace Go.Proofs.YtekmeaoblpfnpaaGreatDoor
open _root_.Go.Proofs.Tryz
open Go Go.Sx
attribute [local instance] a8D
section
open Go.Shelf Go.RowKit Go.Lib
theorem b6f b r0 r1 r2 w (h0 : w.cell? ⟨b, 0, none⟩ = some (.int .i64 r0)) (h1 : w.cell? ⟨b, 1, none⟩ = some (.int .i64 r1)) (h2 : w.cell? ⟨b, 2, none⟩ = some (.int .i64 r2)) :
    Calls Tryz.prog 57 #[.slice (some ⟨b, 0, none⟩) 3 3] w fun e w' => e = .returned (.int .i64 (uK r0 (uK r1 r2))) ∧ w' = w := by
  go_enter func57, Tryz.ntmps57
  go_wp2
  refine wp_loop_rounds 4 ?_
  rw [rounds_succ]
  go_wp2
  · have hr : (r0 != 0) = true := by assumption
    have hc : uK r0 (uK r1 r2) = r0 := if_pos (by simpa using hr)
    go_ret
    exact ⟨by rw [hc]; rfl, rfl⟩
  have hr : (r0 != 0) = false := by assumption
  have hc : uK r0 (uK r1 r2) = uK r1 r2 := if_neg (by simpa using hr)
  rw [rounds_succ]
  go_wp2
  · have hs : (r1 != 0) = true := by assumption
    have hd : uK r1 r2 = r1 := if_pos (by simpa using hs)
    go_ret
    exact ⟨by rw [hc, hd]; rfl, rfl⟩
  have hs : (r1 != 0) = false := by assumption
  have hd : uK r1 r2 = r2 := if_neg (by simpa using hs)
  rw [rounds_succ]
  go_wp2
  · go_ret
    exact ⟨by rw [hc, hd]; rfl, rfl⟩
  have ht : (r2 != 0) = false := by assumption
  have ht1 : r2 = 0 := by simpa using ht
  rw [rounds_succ]
  go_wp2
  go_ret
  exact ⟨by rw [hc, hd, ht1]; rfl, rfl⟩
end
theorem b0n b r0 r1 r2 I : jO Tryz.prog 57 [.slice (some ⟨b, 0, none⟩) 3 3] I [(b, jM 3 [i64 r0, i64 r1, i64 r2])] (fun e I' H' => e = .returned (i64 (uK r0 (uK r1 r2))) ∧ I' = I ∧ H' = [(b, jM 3 [i64 r0, i64 r1, i64 r2])]) :=
  jO.same ⟨_, func57, by decide, rfl⟩ fun w hw => by
    have hb := hw.2.1 _ (.head _)
    refine b6f b r0 r1 r2 w ?_ ?_ ?_ <;> simp [World.cell?, hb, jM]
theorem UO : ∀ a b : List UInt8, Lib.compareBytes a b = wC a b
  | [], [] => rfl
  | [], _ :: _ => rfl
  | _ :: _, [] => rfl
  | a :: u, b :: v => by
    have ih := UO u v
    unfold Lib.compareBytes wC
    rw [ih]
    unfold wC
    by_cases h1 : a < b
    · rw [if_pos h1, if_pos (List.cons_lt_cons_iff.2 (.inl h1))]
    rw [if_neg h1]
    by_cases h2 : b < a
    · have hne : a ≠ b := fun e => by subst e; exact h1 h2
      rw [if_pos h2, if_neg (fun g => (List.cons_lt_cons_iff.1 g).elim h1 fun g => hne g.1), if_pos (List.cons_lt_cons_iff.2 (.inl h2))]
    have he : a = b := UInt8.toNat_inj.1 (by have := UInt8.not_lt.1 h1; have := UInt8.not_lt.1 h2; rw [UInt8.le_iff_toNat_le] at *; omega)
    subst he
    rw [if_neg h2]
    have e1 : (a :: u < a :: v) ↔ u < v := by rw [List.cons_lt_cons_iff]; simp [h1]
    have e2 : (a :: v < a :: u) ↔ v < u := by rw [List.cons_lt_cons_iff]; simp [h1]
    by_cases g1 : u < v
    · rw [if_pos g1, if_pos (e1.2 g1)]
    rw [if_neg g1, if_neg (fun g => g1 (e1.1 g))]
    by_cases g2 : v < u
    · rw [if_pos g2, if_pos (e2.2 g2)]
    rw [if_neg g2, if_neg (fun g => g2 (e2.1 g))]
theorem b5v a b I : jO Tryz.prog 58 [str a, str b] I [] (fun e I' H' => e = .returned (i64 (wC a b)) ∧ I' = I ∧ H' = []) :=
  jO.same ⟨_, func58, by decide, rfl⟩ fun w _ => by
    have h := Tryz.strings_Compare ⟨a.toArray⟩ ⟨b.toArray⟩ w
    rw [show (⟨a.toArray⟩ : ByteArray).data.toList = a by simp, show (⟨b.toArray⟩ : ByteArray).data.toList = b by simp, UO] at h
    exact h
theorem b2A a b x0 x1 y0 y1 I : jO Tryz.prog 56 [.agg #[str a, i64 x0, i64 x1], .agg #[str b, i64 y0, i64 y1]] I [] (fun e _ H' => e = .returned (i64 (uK (wC a b) (uK (Lib.compareInt x0 y0) (Lib.compareInt x1 y1)))) ∧ H' = []) := by
 refine jO.ob func56 ?_
 intro w0 hw0
 refine Cj.sr (J.op rfl (rV rfl rfl rfl rfl rfl ?_))
 intro b1 hb1
 refine J.op rfl (rV rfl rfl rfl rfl rfl ?_)
 intro b2 hb2
 refine J.as ?_
 refine J.nss (Cj.qC [0, 1] [] 22 (by kernel_rfl) ?_)
 refine JA.fix ⟨(HSub.c 0 rfl (HSub.c 1 rfl HSub.n)), CSub.n, (Le.refl _)⟩ (fun fx3 => ?_)
 refine JA.tk 0 rfl fx3 (q1 (off' := 0) underlying123 sizeOf9) ?_
 refine JA.tk 1 rfl fx3 (q4 isAgg9 (jR.atC 1 rfl)) ?_
 refine JA.tk 2 rfl fx3 (q1 (off' := 0) underlying123 sizeOf9) ?_
 refine JA.tk 3 rfl fx3 (q4 isAgg9 (jR.atC 0 rfl)) ?_
 refine JA.tk 5 rfl fx3 (q1 (off' := 1) underlying123 sizeOf54) ?_
 refine JA.tk 6 rfl fx3 (q1 (off' := 1) underlying54 sizeOf3) ?_
 refine JA.tk 7 rfl fx3 (q4 isAgg3 (jR.atC 1 rfl)) ?_
 refine JA.tk 8 rfl fx3 (q1 (off' := 1) underlying123 sizeOf54) ?_
 refine JA.tk 9 rfl fx3 (q1 (off' := 1) underlying54 sizeOf3) ?_
 refine JA.tk 10 rfl fx3 (q4 isAgg3 (jR.atC 0 rfl)) ?_
 refine JA.tk 12 rfl fx3 (q1 (off' := 1) underlying123 sizeOf54) ?_
 refine JA.tk 13 rfl fx3 (q1 (off' := 2) underlying54 sizeOf3) ?_
 refine JA.tk 14 rfl fx3 (q4 isAgg3 (jR.atC 1 rfl)) ?_
 refine JA.tk 15 rfl fx3 (q1 (off' := 1) underlying123 sizeOf54) ?_
 refine JA.tk 16 rfl fx3 (q1 (off' := 2) underlying54 sizeOf3) ?_
 refine JA.tk 17 rfl fx3 (q4 isAgg3 (jR.atC 0 rfl)) ?_
 refine q0 4 rfl (kT (H1 := []) rfl rfl rfl rfl rfl (b5v a b _) ?_ (fun _ _ _ _ h => by cases h.1) (fun _ _ h => by cases h.1))
 intro v4 I5 H6 hle7 hp8
 obtain ⟨h, rfl, rfl⟩ := hp8; cases h
 refine ⟨⟨(Le.trans (Le.refl _) hle7), (HSub.c 0 rfl (HSub.c 1 rfl HSub.n)), CSub.n⟩, ?_⟩
 refine q0 11 rfl (kT (H1 := []) rfl rfl rfl rfl rfl (ZP x0 y0 _) ?_ (fun _ _ _ _ h => by cases h.1) (fun _ _ h => by cases h.1))
 intro v9 I10 H11 hle12 hp13
 obtain ⟨h, rfl, rfl⟩ := hp13; cases h
 refine ⟨⟨(Le.trans (Le.trans (Le.refl _) hle7) hle12), (HSub.c 0 rfl (HSub.c 1 rfl HSub.n)), CSub.n⟩, ?_⟩
 refine q0 18 rfl (kT (H1 := []) rfl rfl rfl rfl rfl (ZP x1 y1 _) ?_ (fun _ _ _ _ h => by cases h.1) (fun _ _ h => by cases h.1))
 intro v14 I15 H16 hle17 hp18
 obtain ⟨h, rfl, rfl⟩ := hp18; cases h
 refine ⟨⟨(Le.trans (Le.trans (Le.trans (Le.refl _) hle7) hle12) hle17), (HSub.c 0 rfl (HSub.c 1 rfl HSub.n)), CSub.n⟩, ?_⟩
 refine q0 19 rfl (jY rfl rfl rfl underlying23 sizeOf3 zeroValue3 rfl rfl rfl rfl (xM.one rfl (xM.one rfl (xM.one rfl xM.none))) ?_)
 intro b19 hb19
 refine ⟨⟨(Le.trans (Le.trans (Le.trans (Le.refl _) hle7) hle12) hle17), (HSub.c 1 rfl (HSub.c 2 rfl HSub.n)), CSub.n⟩, ?_⟩
 refine JA.pull Pull.z ?_
 refine q0 20 rfl (kT (H1 := [_]) rfl rfl rfl rfl rfl (b0n _ (wC a b) (Lib.compareInt x0 y0) (Lib.compareInt x1 y1) _) ?_ (fun _ _ _ _ h => by cases h.1) (fun _ _ h => by cases h.1))
 intro v20 I21 H22 hle23 hp24
 obtain ⟨h, rfl, rfl⟩ := hp24; cases h
 refine ⟨⟨(Le.trans (Le.trans (Le.trans (Le.trans (Le.refl _) hle7) hle12) hle17) hle23), (HSub.c 1 rfl (HSub.c 2 rfl HSub.n)), CSub.n⟩, ?_⟩
 refine JA.fix ⟨(HSub.c 1 rfl (HSub.c 2 rfl HSub.n)), CSub.n, (Le.trans (Le.trans (Le.trans (Le.trans (Le.refl _) hle7) hle12) hle17) hle23)⟩ (fun fx25 => ?_)
 refine JA.tk 21 rfl fx25 (tC rfl rfl) ?_
 refine JA.done (by kernel_rfl) ?_
 refine Ej.seq (Cj.ret (Ej.bare ?_))
 refine Ej.MX rfl rfl rfl ?_
 exact ⟨rfl, rfl⟩
theorem b4v a b x0 x1 y0 y1 w : Calls Tryz.prog 56 #[.agg #[str a, i64 x0, i64 x1], .agg #[str b, i64 y0, i64 y1]] w fun e w' => e = .returned (i64 (uK (wC a b) (uK (Lib.compareInt x0 y0) (Lib.compareInt x1 y1)))) ∧ ∃ q os', w' = Sort.grow (w.drewN q) os' :=
  jO.grows (b2A a b x0 x1 y0 y1 _) (fun _ _ _ h => h.1) w
