/-
  Own texts on the laws of the seat, joined: the logic, and contracts of functions. Conditions: none.
-/
import Derived.Test.YtekmeaoblpfnpaaGreatDoorPG10
import Derived.Lib.FieldsU
set_option maxRecDepth 100000
set_option maxHeartbeats 40000000
section
namespace Go.Sx
open Go
theorem Ready.dom {I : Heap} {H : HL} {w : World} (h : Ready I H w) {b : Nat} (hb : w.heap.size ≤ b) : I b = none := by
  cases hI : I b with
  | none => rfl
  | some o =>
    have := h.1 b o hI
    rw [Array.getElem?_eq_none hb] at this; cases this
section
variable {cx : Cx} {Q : Qt} {e : Env} {I : Heap} {H : HL}
end
section
variable {cx : Cx} {Q : Qt} {e : Env} {I : Heap} {H : HL}
end
def RowN {α : Type} (N : Nat → Prop) (T : TypeId) (f : α → List Value) (I : Heap) (l : List α) (v : Value) : Prop :=
  ∃ p c, v = .slice p l.length c ∧ l.length ≤ c ∧ (l ≠ [] → ∃ b sp, p = some ⟨b, 0, none⟩ ∧ N b ∧ I b = some (cel T (l.flatMap f ++ sp)))
section
variable {α : Type} {N M : Nat → Prop} {T : TypeId} {f : α → List Value} {I I' : Heap} {l : List α} {v : Value}
theorem RowN.mono (h : RowN N T f I l v) (hle : Le I I') : RowN N T f I' l v :=
  let ⟨p, c, h1, h2, h3⟩ := h; ⟨p, c, h1, h2, fun hn => let ⟨b, sp, h4, h5, h6⟩ := h3 hn; ⟨b, sp, h4, h5, hle _ _ h6⟩⟩
theorem RowN.imp (h : RowN N T f I l v) (hm : ∀ b, N b → M b) : RowN M T f I l v :=
  let ⟨p, c, h1, h2, h3⟩ := h; ⟨p, c, h1, h2, fun hn => let ⟨b, sp, h4, h5, h6⟩ := h3 hn; ⟨b, sp, h4, hm b h5, h6⟩⟩
theorem RowN.rowT (h : RowN N T f I l v) : RowT T f I l v :=
  let ⟨p, c, h1, h2, h3⟩ := h; ⟨p, c, h1, h2, fun hn => let ⟨b, sp, h4, _, h6⟩ := h3 hn; ⟨b, sp, h4, h6⟩⟩
theorem RowN.row (h : RowN N T f I l v) : RowS f I l v := h.rowT.row
theorem RowN.nil : RowN N T f I ([] : List α) (.slice none 0 0) := ⟨none, 0, rfl, Nat.le_refl _, fun h => absurd rfl h⟩
end
section
variable {cx : Cx} {Q : Qt} {e : Env} {I : Heap} {R : HL} {T : TypeId} {α : Type} {l : List α} {f : α → List Value} {sz n base : Nat} {g : Gs}
theorem gN_cases {X : Heap → HL → Prop} (hf : ∀ x, (f x).length = sz) (hpos : 0 < sz) (hg : gOk base sz n (l.flatMap f) g) (hn : n = l.length) (hp : ∀ b o, base ≤ b → (∀ I', Le I I' → I' b = some o → X I' R) → X I ((b, o) :: R)) (k : ∀ I', Le I I' → RowN (base ≤ ·) T f I' l (gV n g) → X I' R) : X I (gH T (l.flatMap f) g ++ R) := by
  subst hn
  cases g with
  | none =>
    obtain ⟨h1, h2⟩ := hg
    have : l = [] := List.length_eq_zero_iff.1 h1
    subst this
    exact k I (Le.refl _) RowN.nil
  | some q =>
    obtain ⟨b, c, sp⟩ := q
    obtain ⟨h1, h2, h3⟩ := hg
    have hc : l.length ≤ c := by
      rw [flat_len hf] at h3
      exact Nat.le_of_mul_le_mul_right (by omega : l.length * sz ≤ c * sz) hpos
    exact hp b _ h1 fun I' hle hb => k I' hle ⟨_, c, rfl, hc, fun _ => ⟨b, sp, rfl, h1, hb⟩⟩
theorem Cj.keepN {c : Code} (hf : ∀ x, (f x).length = sz) (hpos : 0 < sz) (hg : gOk cx.w0.heap.size sz n (l.flatMap f) g) (hn : n = l.length) (k : ∀ I', Le I I' → RowN (cx.w0.heap.size ≤ ·) T f I' l (gV n g) → Cj cx Q c e I' R) : Cj cx Q c e I (gH T (l.flatMap f) g ++ R) :=
  gN_cases (X := fun I H => Cj cx Q c e I H) hf hpos hg hn (fun _ _ hb k => Cj.persist hb k) k
theorem Ej.keepN {x : Exit} (hf : ∀ x, (f x).length = sz) (hpos : 0 < sz) (hg : gOk cx.w0.heap.size sz n (l.flatMap f) g) (hn : n = l.length) (k : ∀ I', Le I I' → RowN (cx.w0.heap.size ≤ ·) T f I' l (gV n g) → Ej cx Q x e I' R) : Ej cx Q x e I (gH T (l.flatMap f) g ++ R) :=
  gN_cases (X := fun I H => Ej cx Q x e I H) hf hpos hg hn (fun _ _ hb k => Ej.persist hb k) k
end
section
variable {cx : Cx} {Q : Qt} {e : Env} {I I1 : Heap} {H A : HL} {Z : CL} {z : Nat} {l : List Oper} {fuel : Nat} {listed : Array Bool}
end
section
variable {cx : Cx} {Q : Qt} {e : Env} {I I1 : Heap} {R H1 A : HL} {Z : CL} {z : Nat} {ops : List Oper} {fuel : Nat} {listed : Array Bool} {T : TypeId} {α : Type} {l : List α} {f : α → List Value} {v : Value} {sz n : Nat} {g : Gs}
theorem JA.keepO (h : OwnR T f l v H1) (hb : ∀ p ∈ H1, cx.w0.heap.size ≤ p.1) (k : ∀ I', Le I I' → RowT T f I' l v → JA cx Q ops I1 A Z z fuel listed e I' R) : JA cx Q ops I1 A Z z fuel listed e I (H1 ++ R) :=
  own_cases (X := fun I H => JA cx Q ops I1 A Z z fuel listed e I H) h hb (fun _ _ hb k => JA.persist hb k) k
end
end Go.Sx
end
section
set_option maxHeartbeats 40000000
namespace Go.Proofs.YtekmeaoblpfnpaaGreatDoor
open _root_.Go.Proofs.Tryz
open Go Go.Sx
def In64 (a : Int) : Prop := -9223372036854775808 ≤ a ∧ a ≤ 9223372036854775807
theorem td_rng {a : Int} (h : In64 a) (m : Int) (hm : 2 ≤ m) : -4611686018427387904 ≤ a.tdiv m ∧ a.tdiv m ≤ 4611686018427387904 := by
  unfold In64 at h
  have h1 : (a.tdiv m).natAbs = a.natAbs / m.natAbs := Int.natAbs_tdiv a m
  have h2 : a.natAbs / m.natAbs ≤ a.natAbs / 2 := Nat.div_le_div_left (by omega) (by decide)
  omega
theorem mul_small {j : Nat} {m : Int} (hj : j ≤ 3) (h0 : 0 ≤ m) (h1 : m ≤ 2) : 0 ≤ (j : Int) * (1 + m) ∧ (j : Int) * (1 + m) ≤ 9 := by
  match j, hj with
  | 0, _ => simp
  | 1, _ => simp; omega
  | 2, _ => simp; omega
  | 3, _ => simp; omega
abbrev fourC (q : Ix.Four) : List Value := [i64 q.x0, i64 q.x1, i64 q.x2, i64 q.x3]
theorem fourC_len (q : Ix.Four) : (fourC q).length = 4 := rfl
structure FourOk (q : Ix.Four) : Prop where
  h0 : In64 q.x0
  h1 : In64 q.x1
  h2 : In64 q.x2
  h3 : In64 q.x3
theorem get_str {l : List (List UInt8)} {n : Int} (h0 : 0 ≤ n) (h1 : n < (l.length : Int)) : (l.map str)[n.toNat]? = some (str (l.getD n.toNat [])) := by
  have h2 : n.toNat < l.length := by omega
  rw [List.getElem?_map, List.getElem?_eq_getElem h2, List.getD_eq_getElem?_getD, List.getElem?_eq_getElem h2]; rfl
theorem get_code {l : List UInt8} {n : Int} (h0 : 0 ≤ n) (h1 : n < (l.length : Int)) : l[n.toNat]? = some (l.getD n.toNat 0) := by
  have h2 : n.toNat < l.length := by omega
  rw [List.getElem?_eq_getElem h2, List.getD_eq_getElem?_getD, List.getElem?_eq_getElem h2]; rfl
theorem nrm_add (fs : List Ke.Fld) (f : Ke.Fld) : Ke.nrm (fs ++ [f]) = Ke.nrm fs ++ [Ke.nrm1 f] := by unfold Ke.nrm; rw [List.map_append]; rfl
theorem nrm_len (fs : List Ke.Fld) : (Ke.nrm fs).length = fs.length := List.length_map _
theorem vals_nrm (fs : List Ke.Fld) : Ix.vals (Ke.nrm fs) = Ix.vals fs := by
  unfold Ix.vals Ke.nrm
  rw [List.flatMap_map]; rfl
def subsN (q : Ix.Four) (n : Nat) : List Ke.Sub := (List.range n).map fun j => Ix.subN q j
theorem subsN_next (q : Ix.Four) (n : Nat) : subsN q (n + 1) = subsN q n ++ [Ix.subN q n] := by unfold subsN; rw [List.range_succ, List.map_append]; rfl
theorem subsN_len (q : Ix.Four) (n : Nat) : (subsN q n).length = n := by unfold subsN; rw [List.length_map, List.length_range]
theorem fld_c {q : Ix.Four} (h : Ix.isC (Ix.tagN q.x0)) : Ix.fldN q = ⟨Ix.tagN q.x0, [], Ix.textN q.x3, .slice none 0 0, []⟩ := if_pos h
theorem fld_d {q : Ix.Four} (h : ¬ Ix.isC (Ix.tagN q.x0)) : Ix.fldN q = ⟨Ix.tagN q.x0, Ix.indsL.getD (q.x1 % 8).toNat [], [], .slice none 0 0, subsN q (1 + (q.x2 % 3).toNat)⟩ := if_neg h
theorem tagN_len (n : Int) : (Ix.tagN n).length ≤ 3 := by
  unfold Ix.tagN
  generalize (n % 20).toNat = k
  rcases Nat.lt_or_ge k 20 with h | h
  · have : ∀ k, k < 20 → (Ix.tagsL.getD k []).length ≤ 3 := by decide
    exact this k h
  rw [List.getD_eq_getElem?_getD, List.getElem?_eq_none (by simpa [Ix.tagsL] using h)]; simp
theorem indN_len (n : Nat) : (Ix.indsL.getD n []).length ≤ 2 := by
  rcases Nat.lt_or_ge n 8 with h | h
  · have : ∀ k, k < 8 → (Ix.indsL.getD k []).length ≤ 2 := by decide
    exact this n h
  rw [List.getD_eq_getElem?_getD, List.getElem?_eq_none (by simpa [Ix.indsL] using h)]; simp
theorem fldN_small (q : Ix.Four) : (Ix.fldN q).subs.length ≤ 3 ∧ textsLen (Ix.fldN q).subs ≤ 51 ∧ (Ix.fldN q).ind.length ≤ 2 := by
  by_cases h : Ix.isC (Ix.tagN q.x0)
  · rw [fld_c h]; exact ⟨by simp, by simp [textsLen], by simp⟩
  rw [fld_d h]
  refine ⟨by dsimp only; rw [subsN_len]; omega, ?_, indN_len _⟩
  dsimp only
  have hn : ∀ n, textsLen (subsN q n) ≤ n * 17 := by
    intro n
    induction n with
    | zero => simp [textsLen, subsN]
    | succ n ih =>
      rw [subsN_next]
      unfold textsLen at ih ⊢
      rw [List.map_append, List.sum_append]
      have h1 : (Ix.subN q n).text.length ≤ 17 := Ix.textN_len _
      simp only [List.map_cons, List.map_nil, List.sum_cons, List.sum_nil]; omega
  have := hn (1 + (q.x2 % 3).toNat)
  omega
theorem made_eok {l : List Ix.Four} {fs : List Ke.Fld} (h : Ke.nrm fs = Ix.madeR l) : EOK fs := by
  have hl : fs.length ≤ 20 := by
    rw [← nrm_len, h]
    unfold Ix.madeR
    rw [List.length_map, List.length_take]; omega
  refine ⟨by omega, fun f hf => ?_⟩
  have h1 : Ke.nrm1 f ∈ Ix.madeR l := by rw [← h]; exact List.mem_map_of_mem hf
  obtain ⟨q, _, he⟩ := List.mem_map.1 h1
  have h2 := fldN_small q
  rw [he] at h2
  exact ⟨by have : f.subs.length ≤ 3 := h2.1; omega, by have : textsLen f.subs ≤ 51 := h2.2.1; omega, by have : f.ind.length ≤ 2 := h2.2.2; omega⟩
theorem perm_front {α : Type} (A S Z : List α) : (S ++ (A ++ Z)).Perm (A ++ (S ++ Z)) := by
  rw [← List.append_assoc, ← List.append_assoc]
  exact List.Perm.append_right Z List.perm_append_comm
def RecN (N : Nat → Prop) (I : Heap) (fs : List Ke.Fld) (v : Value) : Prop := RowN N 108 fldC I fs v ∧ ∀ f ∈ fs, RowN N 176 subC I f.subs f.sv
theorem RecN.imp {N M : Nat → Prop} {I : Heap} {fs : List Ke.Fld} {v : Value} (h : RecN N I fs v) (hm : ∀ b, N b → M b) : RecN M I fs v := ⟨h.1.imp hm, fun f hf => (h.2 f hf).imp hm⟩
theorem RecN.rec {N : Nat → Prop} {I : Heap} {fs : List Ke.Fld} {v : Value} (h : RecN N I fs v) : RecS I fs v := ⟨h.1.row, fun f hf => (h.2 f hf).row⟩
def SubsN (N : Nat → Prop) (I : Heap) (fs : List Ke.Fld) : Prop := ∀ f ∈ fs, RowN N 176 subC I f.subs f.sv
theorem SubsN.mono {N : Nat → Prop} {I I' : Heap} {fs : List Ke.Fld} (h : SubsN N I fs) (hle : Le I I') : SubsN N I' fs := fun f hf => (h f hf).mono hle
theorem SubsN.nil {N : Nat → Prop} {I : Heap} : SubsN N I [] := fun _ h => by cases h
theorem SubsN.add {N : Nat → Prop} {I : Heap} {fs : List Ke.Fld} {f : Ke.Fld} (h : SubsN N I fs) (h1 : RowN N 176 subC I f.subs f.sv) : SubsN N I (fs ++ [f]) := fun x hx => by
  rcases List.mem_append.1 hx with g | g
  · exact h x g
  rw [List.mem_singleton.1 g]; exact h1
theorem nMod_ok (n : Int) (m : Int) (hm : 0 < m) (hm2 : m ≤ 1000000000) (I : Heap) : Pure Tryz.prog 141 [i64 n, i64 m] I (i64 (n % m)) := by
 have h1 := Int.tmod_lt_of_pos n hm
 have h2 := Int.lt_tmod_of_pos n hm
 refine xob func141 fun w0 hw0 => ?_
 refine axn 14 ?_
 refine J.ev 11 (i64 (n % m)) rfl (congrArg i64 (mod_eq n hm)) ?_
 refine axe ?_
 exact ⟨rfl, rfl, rfl⟩
theorem nTag_ok (n : Int) (I : Heap) : Pure Tryz.prog 139 [i64 n] I (str (Ix.tagN n)) := by
 refine Ctr.toPure ?_
 refine xob func139 fun w0 hw0 => ?_
 refine axn 8 ?_
 intro b1 hb1
 refine xpu (nMod_ok n 20 (by decide) (by decide) _) ?_
 refine xix ((n % 20).toNat) ?_
 refine J.z (yl_load rfl rfl isAgg9 (Blk.at 0 rfl) (get_str (l := Ix.tagsL) (by omega) (by simp [Ix.tagsL]; omega))) ?_
 refine axr ?_
 exact ⟨rfl, rfl⟩
theorem nText_ok (n : Int) (I : Heap) : Pure Tryz.prog 140 [i64 n] I (str (Ix.textN n)) := by
 refine Ctr.toPure ?_
 refine xob func140 fun w0 hw0 => ?_
 refine axn 8 ?_
 intro b1 hb1
 refine xpu (nMod_ok n 20 (by decide) (by decide) _) ?_
 refine xix ((n % 20).toNat) ?_
 refine J.z (yl_load rfl rfl isAgg9 (Blk.at 0 rfl) (get_str (l := Ix.textsL) (by omega) (by simp [Ix.textsL]; omega))) ?_
 refine axr ?_
 exact ⟨rfl, rfl⟩
theorem made_take {α : Type} {l : List α} {k : Nat} (hk : k ≤ l.length) (h : k ≤ 20 ∧ (l.length ≤ k ∨ 20 ≤ k)) : l.take k = l.take 20 := by
  rcases h.2 with g | g
  · rw [List.take_of_length_le g, List.take_of_length_le (by omega)]
  rw [show k = 20 by omega]
theorem nMadeN_ok (l : List Ix.Four) (v : Value) (hok : ∀ q ∈ l, FourOk q) (I : Heap) (hv0 : RowS fourC I l v) : Ctr Tryz.prog 87 [v] I [] (fun e I' H' => ∃ fs w, e = .returned (recV 97 109 w) ∧ RecN (I · = none) I' fs w ∧ Ke.nrm fs = Ix.madeR l ∧ H' = []) := by
 obtain ⟨p, c, rfl, hc, -⟩ := id hv0
 refine xob func87 fun w0 hw0 => ?_
 refine axn 3 ?_
 intro b1 hb1
 refine J.nssr (J.z (yl_buildS (pl := #[(0, 1), (1, 1), (2, 1)]) rfl rfl zeroValue57 rfl underlying57 (fun w => by simp [sizeOf5, sizeOf55]) (LBld.part rfl rfl rfl (LSpl.c LSpl.z) (LBld.part rfl rfl rfl (LSpl.s (LSpl.c LSpl.z)) LBld.none))) ?_)
 refine J.op rfl (op_alloc rfl rfl rfl zeroValue57 rfl ?_)
 intro b2 hb2
 refine J.op rfl (op_store 0 rfl rfl rfl rfl rfl rfl sizeOf57 rfl rfl (LSpl.c (LSpl.c (LSpl.c LSpl.z))) LSet.z ?_)
 refine J.nsss (Cj.region (J.as ?_))
 refine J.ns (Cj.block ?_)
 refine Cj.loop (ι := Nat × Heap × List Ke.Fld × Gs) (fun y => y.1 ≤ l.length ∧ y.1 ≤ 20 ∧ Le I y.2.1 ∧ SubsN (w0.heap.size ≤ ·) y.2.1 y.2.2.1 ∧ Ke.nrm y.2.2.1 = (l.take y.1).map Ix.fldN ∧ y.2.2.1.length = y.1 ∧ gOk w0.heap.size 4 y.2.2.1.length (y.2.2.1.flatMap fldC) y.2.2.2) (fun y => 20 - y.1) (fun y => [(0, .slice p l.length c), (2, ptr b1 0), (3, ptr b2 0), (4, i64 (y.1 : Int))]) (fun y => y.2.1) (fun y => (b2, cel 57 [u8 97, u8 109, gV y.2.2.1.length y.2.2.2]) :: (b1, cel 57 [u8 0, u8 0, .slice none 0 0]) :: gH 108 (y.2.2.1.flatMap fldC) y.2.2.2) (0, _, [], none) ⟨Nat.zero_le _, Nat.zero_le _, Le.refl _, SubsN.nil, rfl, rfl, rfl, rfl⟩ ⟨rfl, rfl, rfl, rfl, trivial⟩ rfl rfl ?_
 rintro ⟨k, Jh, fs, g⟩ ⟨hk, hk20, hIJ, hS, hN, hfl, hg⟩
 dsimp only at hk hk20 hIJ hS hN hfl hg ⊢
 have hv := hv0.mono hIJ
 refine axg (fun hg3 hg3p => ?_) (fun hg3 hg3p => ?_)
 ·
  refine axc (fun hc4 hc4p => ?_) (fun hc4 hc4p => ?_)
  ·
   refine axn 5 ?_
   have hlt : k < l.length := by omega
   have hlt2 : k < 20 := by omega
   obtain ⟨q, hget⟩ : ∃ x, l[k]? = some x := ⟨_, List.getElem?_eq_getElem hlt⟩
   have hq := hok q (List.mem_of_getElem? hget)
   obtain ⟨p1, c1, hpe, hc1, hp⟩ := id hv
   cases hpe
   obtain ⟨lb, lo, lcs, lty, lfr, sp, rfl, hlb, hld⟩ := hp (ne_nil_of hlt)
   have htl := tagN_len q.x0
   refine xix (lo + k * 4) ?_
   refine J.z (yl_loadAgg rfl rfl isAgg215 sizeOf215 (Blk.imm hlb) (row_from fourC_len hld hget) rfl) ?_
   refine axn 1 ?_
   intro b5 hb5
   refine xpu (nTag_ok q.x0 _) ?_
   refine J.z (yl_buildS (pl := #[(0, 1), (1, 1), (2, 1), (3, 1)]) rfl rfl zeroValue108 rfl underlying108 (fun w => by simp [sizeOf106, sizeOf9]) (LBld.part rfl rfl rfl (LSpl.c LSpl.z) LBld.none)) ?_
   refine J.op rfl (op_alloc rfl rfl rfl zeroValue108 rfl ?_)
   intro b6 hb6
   refine J.op rfl (op_store 0 rfl rfl rfl rfl rfl rfl sizeOf108 rfl rfl (LSpl.c (LSpl.c (LSpl.c (LSpl.c LSpl.z)))) LSet.z ?_)
   refine J.nsss (Cj.region (J.z (q1 (off' := 0) underlying108 sizeOf9) ?_))
   refine J.z (yl_load rfl rfl isAgg9 (Blk.at 0 rfl) rfl) ?_
   refine J.z (yl_lenStr rfl rfl underlying9) ?_
   refine J.z (yl_gtr rfl rfl rfl) ?_
   refine J.z q2 ?_
   refine J.split 32 rfl (fun hg7 => ?_) (fun hg7 => ?_)
   rotate_left
   ·
    have hg7p := of_decide_eq_false hg7
    have hC : ¬ Ix.isC (Ix.tagN q.x0) := fun g => by have h := of_decide_eq_false hg7; have := g.1; omega
    refine axn 13 ?_
    intro b23 hb23
    refine J.z (yl_indexArr (off' := 1) rfl rfl rfl underlying215 sizeOf3 (by decide) (by decide) (by decide)) ?_
    refine J.z (yl_load rfl rfl isAgg3 (Blk.at 2 rfl) rfl) ?_
    refine xpu (nMod_ok q.x1 8 (by decide) (by decide) _) ?_
    refine J.z (yl_indexAddr (off' := (q.x1 % 8).toNat) rfl rfl rfl underlying69 sizeOf9 (by omega) (by omega) (by omega)) ?_
    refine J.z (yl_load rfl rfl isAgg9 (Blk.at 0 rfl) (get_str (l := Ix.indsL) (by omega) (by simp [Ix.indsL]; omega))) ?_
    refine axn 5 ?_
    obtain ⟨nn, hnn⟩ : ∃ nn : Nat, nn = 1 + (q.x2 % 3).toNat := ⟨_, rfl⟩
    have hn3 : nn ≤ 3 := by omega
    refine xpu (nMod_ok q.x2 3 (by decide) (by decide) _) ?_
    refine axn 1 ?_
    refine J.ev 58 (i64 (nn : Int)) rfl (congrArg i64 (by omega)) ?_
    refine axn 5 ?_
    refine Cj.keep (Keeps.d Keeps.r) ?_
    refine axn 5 ?_
    refine Cj.keep (Keeps.k (Keeps.k (Keeps.k (Keeps.k Keeps.r)))) ?_
    refine Cj.loop (ι := Nat × Gs) (fun y => y.1 ≤ nn ∧ gOk w0.heap.size 2 (subsN q y.1).length ((subsN q y.1).flatMap subC) y.2) (fun y => nn - y.1) (fun y => [(0, .slice (some ⟨lb, lo, none⟩) l.length c), (2, ptr b1 0), (3, ptr b2 0), (4, i64 (k : Int)), (5, ptr b5 0), (6, ptr b6 0), (7, i64 (nn : Int)), (8, i64 (y.1 : Int))]) (fun y => _) (fun y => (b6, cel 108 [str (Ix.tagN q.x0), str (Ix.indsL.getD (q.x1 % 8).toNat []), str [], gV (subsN q y.1).length y.2]) :: (b5, cel 215 (fourC q)) :: (b2, cel 57 [u8 97, u8 109, gV fs.length g]) :: (b1, cel 57 [u8 0, u8 0, .slice none 0 0]) :: (gH 176 ((subsN q y.1).flatMap subC) y.2 ++ gH 108 (fs.flatMap fldC) g)) (0, none) ⟨Nat.zero_le _, rfl, rfl⟩ ⟨rfl, rfl, rfl, rfl, rfl, rfl, rfl, rfl, trivial⟩ rfl rfl ?_
    rintro ⟨j, g2⟩ ⟨hj, hgs⟩
    dsimp only at hj hgs ⊢
    have hsl := subsN_len q j
    refine axc (fun hc24 hc24p => ?_) (fun hc24 hc24p => ?_)
    ·
     refine axn 4 ?_
     refine Cj.drawSel [0, 1, 2, 3] [] 24 (by kernel_rfl) ?_
     have hlb_15 := hlb
     refine axn 4 ?_
     refine JA.zt 4 rfl (yl_quo rfl rfl rfl (by decide) (w64 (by have h := td_rng hq.h2 3 (by decide); omega))) ?_
     refine axn 7 ?_
     refine JA.zt 18 rfl (yl_addW rfl rfl rfl) ?_
     refine xpu (nMod_ok q.x1 3 (by decide) (by decide) _) ?_
     refine axn 2 ?_
     refine JA.zt 10 rfl (yl_mul rfl rfl rfl (w64 (by have h := mul_small (j := j) (m := q.x1 % 3) (by omega) (by omega) (by omega); omega))) ?_
     refine JA.zt 11 rfl (yl_add rfl rfl rfl (w64 (by have h := td_rng hq.h2 3 (by decide); have h2 := mul_small (j := j) (m := q.x1 % 3) (by omega) (by omega) (by omega); omega))) ?_
     refine xpu (nMod_ok (q.x2.tdiv 3 + (j : Int) * (1 + q.x1 % 3)) 8 (by decide) (by decide) _) ?_
     refine axn 1 ?_
     refine JA.zt 13 rfl (yl_index rfl rfl rfl underlying9 (by omega) (get_code (l := Ix.codesL) (by omega) (by simp [Ix.codesL]; omega))) ?_
     refine xpu (nText_ok _ _) ?_
     refine ⟨⟨(Le.refl _), (HSub.c 0 rfl (HSub.c 1 rfl (HSub.c 2 rfl (HSub.c 3 rfl HSub.n)))), CSub.n⟩, ?_⟩
     refine JA.fix fxA (fun fx28 => ?_)
     refine JA.tk 20 rfl fx28 (yl_buildS (pl := #[(0, 1), (1, 1)]) rfl rfl zeroValue176 rfl underlying176 (fun w => by simp [sizeOf5, sizeOf9]) (LBld.part rfl rfl rfl (LSpl.c LSpl.z) (LBld.part rfl rfl rfl (LSpl.s (LSpl.c LSpl.z)) LBld.none))) ?_
     refine q0 21 rfl (q3 underlying106 sizeOf176 zeroValue176 (LCat.agg rfl LCat.none) ?_)
     intro b29 hb29
     refine ⟨⟨(Le.refl _), (HSub.c 1 rfl (HSub.c 2 rfl (HSub.c 3 rfl (HSub.c 4 rfl HSub.n)))), CSub.n⟩, ?_⟩
     refine JA.perm (H' := [_, _, _, _, _] ++ (gH _ _ _ ++ gH _ _ _)) (perm_swap [_, _, _, _, _] _ _) ?_
     refine q0 22 rfl (op_append (by' := 23) ([_, _, _, _, _] ++ gH _ _ _) rfl rfl rfl rfl rfl underlying106 (.inr ⟨_, underlying106⟩) (by kernel_rfl) sizeOf176 zeroValue176 rfl hgs rfl (Src.slice (Blk.at 0 rfl) rfl rfl rfl) (by omega) ?_)
     intro g30 hg30
     refine axn 2 ?_
     refine JA.last 24 (by kernel_rfl) rfl rfl rfl (op_store 1 rfl rfl rfl rfl (gV_cells _ _) (gV_one _ _) sizeOf106 rfl rfl (LSpl.s (LSpl.s (LSpl.s (LSpl.c LSpl.z)))) (LSet.s LSet.z) ?_)
     refine axn 8 ?_
     refine Ej.perm (perm_swap [_, _, _, _, _] (gH _ _ _) (gH _ _ _)) ?_
     refine Ej.keep (Keeps.d (Keeps.k (Keeps.k (Keeps.k (Keeps.k Keeps.r))))) ?_
     refine Ej.round (j + 1, g30) ⟨by dsimp only; omega, by dsimp only; rw [subsN_next, List.length_append, List.flatMap_append]; exact hg30⟩ (by dsimp only; omega) ⟨rfl, rfl, rfl, rfl, rfl, rfl, rfl, rfl, trivial⟩ rfl (by dsimp only; rw [subsN_next, List.length_append, List.flatMap_append]; rfl)
    refine axn 5 ?_
    have hjn : j = nn := by omega
    subst hjn
    refine Cj.perm (perm_front [_, _, _, _] (gH _ _ _) (gH _ _ _)) ?_
    refine Cj.keepN subC_len (by decide) hgs rfl (fun I8 hle8 hss => ?_)
    have hIJ := hIJ.mono hle8
    have hS := hS.mono hle8
    have hv := hv.mono hle8
    have hlb := hle8 _ _ hlb
    refine axn 5 ?_
    intro b32 hb32
    refine J.op rfl (op_append (by' := 71) [_, _, _, _, _] rfl rfl rfl rfl rfl underlying55 (.inr ⟨_, underlying55⟩) (by kernel_rfl) sizeOf108 zeroValue108 rfl hg rfl (Src.slice (Blk.at 0 rfl) rfl rfl (by show [str (Ix.tagN q.x0), str (Ix.indsL.getD (q.x1 % 8).toNat []), str [], gV _ _].all Value.oneCell' = true; simp only [List.all_cons, List.all_nil, gV_one', Bool.and_true]; rfl)) (by omega) ?_)
    intro g33 hg33
    refine axn 10 ?_
    refine Ej.keep (Keeps.d (Keeps.d (Keeps.d (Keeps.k (Keeps.k Keeps.r))))) ?_
    refine Ej.round (k + 1, _, fs ++ [⟨Ix.tagN q.x0, Ix.indsL.getD (q.x1 % 8).toNat [], [], gV (subsN q j).length g2, subsN q j⟩], g33) ⟨by dsimp only; omega, by dsimp only; omega, hIJ, SubsN.add hS hss, by dsimp only; rw [nrm_add, map_next _ hget, hN, fld_d hC, ← hnn]; rfl, by dsimp only; rw [List.length_append, hfl]; rfl, by dsimp only; rw [flat_one, List.length_append]; exact hg33⟩ (by dsimp only; omega) ⟨rfl, rfl, rfl, rfl, trivial⟩ rfl (by dsimp only; rw [flat_one, List.length_append]; rfl)
   have hg7p := of_decide_eq_true hg7
   refine J.opG 4 32 true _ rfl rfl rfl hg7 (op_yld (q1 (off' := 0) underlying108 sizeOf9) rfl rfl ?_)
   refine J.opG 4 32 true _ rfl rfl rfl hg7 (op_yld (yl_load rfl rfl isAgg9 (Blk.at 0 rfl) rfl) rfl rfl ?_)
   refine J.opG 4 32 true _ rfl rfl rfl hg7 (op_yld (yl_sliceStr (p := 0) (q := 2) rfl rfl underlying9 rfl ⟨_, rfl⟩ (by omega) (by omega)) rfl rfl ?_)
   refine axc (fun hc8 hc8p => ?_) (fun hc8 hc8p => ?_)
   ·
    have hC : Ix.isC (Ix.tagN q.x0) := ⟨by omega, by have h := eq_of_beq hc8; rw [List.drop_zero] at h; exact h⟩
    refine xpu (nText_ok q.x3 _) ?_
    refine axn 10 ?_
    intro b9 hb9
    refine xap 71 [_, _, _, _, _] hg ?_
    intro g10 hg10
    refine axn 13 ?_
    refine Ej.keep (Keeps.d (Keeps.d (Keeps.d (Keeps.k (Keeps.k Keeps.r))))) ?_
    refine Ej.round (k + 1, _, fs ++ [⟨Ix.tagN q.x0, [], Ix.textN q.x3, .slice none 0 0, []⟩], g10) ⟨by dsimp only; omega, by dsimp only; omega, hIJ, SubsN.add hS RowN.nil, by dsimp only; rw [nrm_add, map_next _ hget, hN, fld_c hC]; rfl, by dsimp only; rw [List.length_append, hfl]; rfl, by dsimp only; rw [flat_one, List.length_append]; exact hg10⟩ (by dsimp only; omega) ⟨rfl, rfl, rfl, rfl, trivial⟩ rfl (by dsimp only; rw [flat_one, List.length_append]; rfl)
   ·
    have hC : ¬ Ix.isC (Ix.tagN q.x0) := fun g => ne_of_beq_false hc8 (by rw [List.drop_zero]; exact g.2)
    refine axn 5 ?_
    intro b11 hb11
    refine xpu (nMod_ok q.x1 8 (by decide) (by decide) _) ?_
    refine xix ((q.x1 % 8).toNat) ?_
    refine J.z (yl_load rfl rfl isAgg9 (Blk.at 0 rfl) (get_str (l := Ix.indsL) (by omega) (by simp [Ix.indsL]; omega))) ?_
    refine axn 5 ?_
    obtain ⟨nn, hnn⟩ : ∃ nn : Nat, nn = 1 + (q.x2 % 3).toNat := ⟨_, rfl⟩
    have hn3 : nn ≤ 3 := by omega
    refine xpu (nMod_ok q.x2 3 (by decide) (by decide) _) ?_
    refine axn 1 ?_
    refine J.ev 58 (i64 (nn : Int)) rfl (congrArg i64 (by omega)) ?_
    refine axn 5 ?_
    refine Cj.keep (Keeps.d Keeps.r) ?_
    refine axn 5 ?_
    refine Cj.keep (Keeps.k (Keeps.k (Keeps.k (Keeps.k Keeps.r)))) ?_
    refine Cj.loop (ι := Nat × Gs) (fun y => y.1 ≤ nn ∧ gOk w0.heap.size 2 (subsN q y.1).length ((subsN q y.1).flatMap subC) y.2) (fun y => nn - y.1) (fun y => [(0, .slice (some ⟨lb, lo, none⟩) l.length c), (2, ptr b1 0), (3, ptr b2 0), (4, i64 (k : Int)), (5, ptr b5 0), (6, ptr b6 0), (7, i64 (nn : Int)), (8, i64 (y.1 : Int))]) (fun y => _) (fun y => (b6, cel 108 [str (Ix.tagN q.x0), str (Ix.indsL.getD (q.x1 % 8).toNat []), str [], gV (subsN q y.1).length y.2]) :: (b5, cel 215 (fourC q)) :: (b2, cel 57 [u8 97, u8 109, gV fs.length g]) :: (b1, cel 57 [u8 0, u8 0, .slice none 0 0]) :: (gH 176 ((subsN q y.1).flatMap subC) y.2 ++ gH 108 (fs.flatMap fldC) g)) (0, none) ⟨Nat.zero_le _, rfl, rfl⟩ ⟨rfl, rfl, rfl, rfl, rfl, rfl, rfl, rfl, trivial⟩ rfl rfl ?_
    rintro ⟨j, g2⟩ ⟨hj, hgs⟩
    dsimp only at hj hgs ⊢
    have hsl := subsN_len q j
    refine axc (fun hc12 hc12p => ?_) (fun hc12 hc12p => ?_)
    ·
     refine axn 4 ?_
     refine Cj.drawSel [0, 1, 2, 3] [] 24 (by kernel_rfl) ?_
     have hlb_15 := hlb
     refine axn 4 ?_
     refine JA.zt 4 rfl (yl_quo rfl rfl rfl (by decide) (w64 (by have h := td_rng hq.h2 3 (by decide); omega))) ?_
     refine axn 7 ?_
     refine JA.zt 18 rfl (yl_addW rfl rfl rfl) ?_
     refine xpu (nMod_ok q.x1 3 (by decide) (by decide) _) ?_
     refine axn 2 ?_
     refine JA.zt 10 rfl (yl_mul rfl rfl rfl (w64 (by have h := mul_small (j := j) (m := q.x1 % 3) (by omega) (by omega) (by omega); omega))) ?_
     refine JA.zt 11 rfl (yl_add rfl rfl rfl (w64 (by have h := td_rng hq.h2 3 (by decide); have h2 := mul_small (j := j) (m := q.x1 % 3) (by omega) (by omega) (by omega); omega))) ?_
     refine xpu (nMod_ok (q.x2.tdiv 3 + (j : Int) * (1 + q.x1 % 3)) 8 (by decide) (by decide) _) ?_
     refine axn 1 ?_
     refine JA.zt 13 rfl (yl_index rfl rfl rfl underlying9 (by omega) (get_code (l := Ix.codesL) (by omega) (by simp [Ix.codesL]; omega))) ?_
     refine xpu (nText_ok _ _) ?_
     refine ⟨⟨(Le.refl _), (HSub.c 0 rfl (HSub.c 1 rfl (HSub.c 2 rfl (HSub.c 3 rfl HSub.n)))), CSub.n⟩, ?_⟩
     refine JA.fix fxA (fun fx16 => ?_)
     refine JA.tk 20 rfl fx16 (yl_buildS (pl := #[(0, 1), (1, 1)]) rfl rfl zeroValue176 rfl underlying176 (fun w => by simp [sizeOf5, sizeOf9]) (LBld.part rfl rfl rfl (LSpl.c LSpl.z) (LBld.part rfl rfl rfl (LSpl.s (LSpl.c LSpl.z)) LBld.none))) ?_
     refine q0 21 rfl (q3 underlying106 sizeOf176 zeroValue176 (LCat.agg rfl LCat.none) ?_)
     intro b17 hb17
     refine ⟨⟨(Le.refl _), (HSub.c 1 rfl (HSub.c 2 rfl (HSub.c 3 rfl (HSub.c 4 rfl HSub.n)))), CSub.n⟩, ?_⟩
     refine JA.perm (H' := [_, _, _, _, _] ++ (gH _ _ _ ++ gH _ _ _)) (perm_swap [_, _, _, _, _] _ _) ?_
     refine q0 22 rfl (op_append (by' := 23) ([_, _, _, _, _] ++ gH _ _ _) rfl rfl rfl rfl rfl underlying106 (.inr ⟨_, underlying106⟩) (by kernel_rfl) sizeOf176 zeroValue176 rfl hgs rfl (Src.slice (Blk.at 0 rfl) rfl rfl rfl) (by omega) ?_)
     intro g18 hg18
     refine axn 2 ?_
     refine JA.last 24 (by kernel_rfl) rfl rfl rfl (op_store 1 rfl rfl rfl rfl (gV_cells _ _) (gV_one _ _) sizeOf106 rfl rfl (LSpl.s (LSpl.s (LSpl.s (LSpl.c LSpl.z)))) (LSet.s LSet.z) ?_)
     refine axn 8 ?_
     refine Ej.perm (perm_swap [_, _, _, _, _] (gH _ _ _) (gH _ _ _)) ?_
     refine Ej.keep (Keeps.d (Keeps.k (Keeps.k (Keeps.k (Keeps.k Keeps.r))))) ?_
     refine Ej.round (j + 1, g18) ⟨by dsimp only; omega, by dsimp only; rw [subsN_next, List.length_append, List.flatMap_append]; exact hg18⟩ (by dsimp only; omega) ⟨rfl, rfl, rfl, rfl, rfl, rfl, rfl, rfl, trivial⟩ rfl (by dsimp only; rw [subsN_next, List.length_append, List.flatMap_append]; rfl)
    ·
     refine axn 5 ?_
     have hjn : j = nn := by omega
     subst hjn
     refine Cj.perm (perm_front [_, _, _, _] (gH _ _ _) (gH _ _ _)) ?_
     refine Cj.keepN subC_len (by decide) hgs rfl (fun I8 hle8 hss => ?_)
     have hIJ := hIJ.mono hle8
     have hS := hS.mono hle8
     have hv := hv.mono hle8
     have hlb := hle8 _ _ hlb
     refine Cj.region (J.z (q1 (off' := 2) underlying57 sizeOf55) ?_)
     refine J.z (yl_load rfl rfl isAgg55 (Blk.at 2 rfl) rfl) ?_
     refine J.z (yl_loadAgg rfl rfl isAgg108 sizeOf108 (Blk.at 0 rfl) rfl rfl) ?_
     refine J.op rfl (q3 underlying55 sizeOf108 zeroValue108 (LCat.agg rfl LCat.none) ?_)
     intro b20 hb20
     refine J.op rfl (op_append (by' := 71) [_, _, _, _, _] rfl rfl rfl rfl rfl underlying55 (.inr ⟨_, underlying55⟩) (by kernel_rfl) sizeOf108 zeroValue108 rfl hg rfl (Src.slice (Blk.at 0 rfl) rfl rfl (by show [str (Ix.tagN q.x0), str (Ix.indsL.getD (q.x1 % 8).toNat []), str [], gV _ _].all Value.oneCell' = true; simp only [List.all_cons, List.all_nil, gV_one', Bool.and_true]; rfl)) (by omega) ?_)
     intro g21 hg21
     refine J.z (q1 (off' := 2) underlying57 sizeOf55) ?_
     refine J.op rfl (op_store 3 rfl rfl rfl rfl (gV_cells _ _) (gV_one _ _) sizeOf55 rfl rfl (LSpl.s (LSpl.s (LSpl.c LSpl.z))) (LSet.s (LSet.s (LSet.s LSet.z))) ?_)
     refine J.nil (Ej.blkNormal (Ej.seq (Cj.region (J.z q2 ?_))))
     refine J.z (yl_add rfl rfl rfl (w64 (by omega))) ?_
     refine J.as ?_
     refine J.nil ?_
     refine Ej.keep (Keeps.d (Keeps.d (Keeps.d (Keeps.k (Keeps.k Keeps.r))))) ?_
     refine Ej.round (k + 1, _, fs ++ [⟨Ix.tagN q.x0, Ix.indsL.getD (q.x1 % 8).toNat [], [], gV (subsN q j).length g2, subsN q j⟩], g21) ⟨by dsimp only; omega, by dsimp only; omega, hIJ, SubsN.add hS hss, by dsimp only; rw [nrm_add, map_next _ hget, hN, fld_d hC, ← hnn]; rfl, by dsimp only; rw [List.length_append, hfl]; rfl, by dsimp only; rw [flat_one, List.length_append]; exact hg21⟩ (by dsimp only; omega) ⟨rfl, rfl, rfl, rfl, trivial⟩ rfl (by dsimp only; rw [flat_one, List.length_append]; rfl)
  refine axn 8 ?_
  refine J.op rfl (op_store 1 rfl rfl rfl rfl rfl (by show [u8 97, u8 109, gV _ _].all Value.oneCell' = true; simp only [List.all_cons, List.all_nil, gV_one', Bool.and_true]; rfl) sizeOf57 rfl rfl (LSpl.c (LSpl.c (LSpl.c LSpl.z))) (LSet.s LSet.z) ?_)
  refine axn 3 ?_
  have hmade : Ke.nrm fs = Ix.madeR l := by rw [hN]; unfold Ix.madeR; rw [made_take hk (by omega)]
  refine Ej.perm (H' := gH _ _ _ ++ [_, _]) List.perm_append_comm ?_
  refine Ej.keepN fldC_len (by decide) hg rfl (fun I9 hle9 hfs => ?_)
  refine Ej.retC (Keeps.d (Keeps.d Keeps.n)) rfl rfl rfl (Blk.at 1 rfl) isAgg57 sizeOf57 rfl ?_
  exact ⟨fs, _, rfl, RecN.imp ⟨hfs, fun f hf => ((hS f hf).mono hle9)⟩ (fun b hb => hw0.dom hb), hmade, rfl⟩
 refine axn 14 ?_
 refine J.op rfl (op_store 1 rfl rfl rfl rfl rfl (by show [u8 97, u8 109, gV _ _].all Value.oneCell' = true; simp only [List.all_cons, List.all_nil, gV_one', Bool.and_true]; rfl) sizeOf57 rfl rfl (LSpl.c (LSpl.c (LSpl.c LSpl.z))) (LSet.s LSet.z) ?_)
 refine axn 3 ?_
 have hmade : Ke.nrm fs = Ix.madeR l := by rw [hN]; unfold Ix.madeR; rw [made_take hk (by omega)]
 refine Ej.perm (H' := gH _ _ _ ++ [_, _]) List.perm_append_comm ?_
 refine Ej.keepN fldC_len (by decide) hg rfl (fun I9 hle9 hfs => ?_)
 refine Ej.retC (Keeps.d (Keeps.d Keeps.n)) rfl rfl rfl (Blk.at 1 rfl) isAgg57 sizeOf57 rfl ?_
 exact ⟨fs, _, rfl, RecN.imp ⟨hfs, fun f hf => ((hS f hf).mono hle9)⟩ (fun b hb => hw0.dom hb), hmade, rfl⟩
end Go.Proofs.YtekmeaoblpfnpaaGreatDoor
end
section
set_option maxHeartbeats 40000000
namespace Go.Proofs.YtekmeaoblpfnpaaGreatDoor
open _root_.Go.Proofs.Tryz
open Go Go.Sx
structure Act where
  a : Ix.ActL
  v : Value
def actC (x : Act) : List Value := [.bool x.a.drop, i64 x.a.src, i64 x.a.num, x.v]
theorem actC_len (x : Act) : (actC x).length = 4 := rfl
def ActsS (I : Heap) (xs : List Act) (v : Value) : Prop := RowS actC I xs v ∧ ∀ x ∈ xs, RowS fourC I x.a.fs x.v
theorem ActsS.mono {I I' : Heap} {xs : List Act} {v : Value} (h : ActsS I xs v) (hle : Le I I') : ActsS I' xs v := ⟨h.1.mono hle, fun x hx => (h.2 x hx).mono hle⟩
def ActsOk (xs : List Act) : Prop := ∀ x ∈ xs, ∀ q ∈ x.a.fs, FourOk q
abbrev acts (xs : List Act) : List Ix.ActL := xs.map (·.a)
theorem take_min {α : Type} (l : List α) : l.take (min l.length 8) = l.take 8 := by
  rcases Nat.le_total l.length 8 with h | h
  · rw [Nat.min_eq_left h, List.take_of_length_le h, List.take_of_length_le (Nat.le_refl _)]
  rw [Nat.min_eq_right h]
structure IsEnt (I : Heap) (a : Ix.ActL) (e : Ent) : Prop where
  t : e.t = a.title
  r : RecS I e.fs e.v
  n : Ke.nrm e.fs = a.record
theorem IsEnt.mono {I I' : Heap} {a : Ix.ActL} {e : Ent} (h : IsEnt I a e) (hle : Le I I') : IsEnt I' a e := ⟨h.t, h.r.mono hle, h.n⟩
structure IsEntN (N : Nat → Prop) (I : Heap) (a : Ix.ActL) (e : Ent) : Prop where
  t : e.t = a.title
  r : RecN N I e.fs e.v
  n : Ke.nrm e.fs = a.record
theorem IsEntN.ent {N : Nat → Prop} {I : Heap} {a : Ix.ActL} {e : Ent} (h : IsEntN N I a e) : IsEnt I a e := ⟨h.t, h.r.rec, h.n⟩
theorem IsEnt.vals {I : Heap} {a : Ix.ActL} {e : Ent} (h : IsEnt I a e) : Ix.vals e.fs = a.vs := by rw [← vals_nrm, h.n]; rfl
theorem IsEnt.eok {I : Heap} {a : Ix.ActL} {e : Ent} (h : IsEnt I a e) : EOK e.fs := made_eok h.n
theorem EntryN_ok (x : Act) (hok : ∀ q ∈ x.a.fs, FourOk q) (I : Heap) (hv : RowS fourC I x.a.fs x.v) : Ctr Tryz.prog 42 [.agg (actC x).toArray] I [] (fun ev I' H' => ∃ e, ev = .returned (.agg (entC e).toArray) ∧ IsEntN (I · = none) I' x.a e ∧ H' = []) := by
 obtain ⟨p, c, hxv⟩ := RowS.len hv
 have hcap : x.a.fs.length ≤ c := by obtain ⟨p1, c1, h1, h2, _⟩ := hv; rw [hxv] at h1; cases h1; exact h2
 have hrow : RowS fourC I (x.a.fs.take 8) (.slice p (min x.a.fs.length 8) c) := by rw [← take_min]; rw [hxv] at hv; exact hv.take (Nat.min_le_left _ _)
 refine xob func42 fun w0 hw0 => ?_
 refine axn 3 ?_
 intro b1 hb1
 refine axn 1 ?_
 intro b2 hb2
 refine axn 3 ?_
 refine Cj.drawSel [0, 1] [] 14 (by kernel_rfl) ?_
 refine JA.fix fxA (fun fx3 => ?_)
 refine JA.tk 0 rfl fx3 (q1 (off' := 1) underlying93 sizeOf3) ?_
 refine JA.tk 1 rfl fx3 (yl_load rfl rfl isAgg3 (Blk.atC 1 rfl) rfl) ?_
 refine JA.tk 2 rfl fx3 (q1 (off' := 2) underlying93 sizeOf3) ?_
 refine JA.tk 3 rfl fx3 (yl_load rfl rfl isAgg3 (Blk.atC 1 rfl) rfl) ?_
 refine JA.tk 4 rfl fx3 (yl_buildS (pl := #[(0, 1), (1, 1)]) rfl rfl zeroValue54 rfl underlying54 (fun w => by simp [sizeOf3]) (LBld.part rfl rfl rfl (LSpl.c LSpl.z) (LBld.part rfl rfl rfl (LSpl.s (LSpl.c LSpl.z)) LBld.none))) ?_
 refine JA.tk 5 rfl fx3 (q1 (off' := 3) underlying93 sizeOf91) ?_
 refine JA.tk 6 rfl fx3 (yl_load rfl rfl isAgg91 (Blk.atC 1 rfl) rfl) ?_
 refine JA.eqv 9 rfl (show _ = .slice p x.a.fs.length c from hxv) ?_
 refine JA.tk 7 rfl fx3 (q1 (off' := 3) underlying93 sizeOf91) ?_
 refine JA.tk 8 rfl fx3 (yl_load rfl rfl isAgg91 (Blk.atC 1 rfl) rfl) ?_
 refine JA.eqv 11 rfl (show _ = .slice p x.a.fs.length c from hxv) ?_
 refine JA.tk 9 rfl fx3 (yl_lenSlice rfl rfl underlying91) ?_
 refine JA.tk 10 rfl fx3 (yl_min2 rfl rfl rfl) ?_
 refine JA.tk 11 rfl fx3 (yl_slice0 (k := (min x.a.fs.length 8)) rfl rfl rfl underlying91 sizeOf215 (by split <;> omega) (by omega)) ?_
 refine q0 12 rfl (op_call (H1 := []) rfl rfl rfl rfl rfl (nMadeN_ok (x.a.fs.take 8) _ (fun q hq => hok q (List.mem_of_mem_take hq)) _ hrow) ?_ (fun _ _ _ _ ⟨_, _, h, _⟩ => by cases h) (fun _ _ ⟨_, _, h, _⟩ => by cases h))
 intro v4 I5 H6 hle7 hp8
 have hrow := hrow.mono hle7
 obtain ⟨fs, w, h, hrec, hmade, rfl⟩ := hp8; cases h
 obtain ⟨wp, wc, rfl⟩ := RowS.len hrec.1.row
 refine ⟨⟨(Le.trans (Le.refl _) hle7), (HSub.c 0 rfl (HSub.c 1 rfl HSub.n)), CSub.n⟩, ?_⟩
 refine JA.fix fxA (fun fx9 => ?_)
 refine JA.tk 13 rfl fx9 (yl_buildS (pl := #[(0, 2), (2, 3)]) rfl rfl zeroValue59 rfl underlying59 (fun w => by simp [sizeOf54, sizeOf57]) (LBld.part rfl rfl rfl (LSpl.c (LSpl.c LSpl.z)) (LBld.part rfl rfl rfl (LSpl.s (LSpl.s (LSpl.c (LSpl.c (LSpl.c LSpl.z))))) LBld.none))) ?_
 refine JA.last 14 (by kernel_rfl) rfl rfl rfl (op_store 0 rfl rfl rfl rfl rfl rfl sizeOf59 rfl rfl (LSpl.c (LSpl.c (LSpl.c (LSpl.c (LSpl.c LSpl.z))))) LSet.z ?_)
 refine axn 3 ?_
 refine Ej.retC (Keeps.d (Keeps.d Keeps.n)) rfl rfl rfl (Blk.at 0 rfl) isAgg59 sizeOf59 rfl ?_
 exact ⟨⟨x.a.title, 97, 109, _, fs⟩, rfl, ⟨rfl, hrec, hmade⟩, rfl⟩
theorem Entry_ok (x : Act) (hok : ∀ q ∈ x.a.fs, FourOk q) (I : Heap) (hv : RowS fourC I x.a.fs x.v) : Ctr Tryz.prog 42 [.agg (actC x).toArray] I [] (fun ev I' H' => ∃ e, ev = .returned (.agg (entC e).toArray) ∧ IsEnt I' x.a e ∧ H' = []) :=
  (EntryN_ok x hok I hv).mono fun _ _ _ _ ⟨e, h1, h2, h3⟩ => ⟨e, h1, h2.ent, h3⟩
theorem acts_take (xs : List Act) (k : Nat) : acts (xs.take k) = (acts xs).take k := List.map_take
theorem rPlay_ok (xs : List Act) (v : Value) (hok : ActsOk xs) (I : Heap) (hA0 : ActsS I xs v) : Ctr Tryz.prog 51 [v] I [] (fun ev I' H' => ∃ rb es w, ev = .returned (ptr rb 0) ∧ EntsS I' es w ∧ es.map entL = Ix.play (acts xs) ∧ (∀ e ∈ es, EOK e.fs) ∧ es.length ≤ 20 ∧ H' = [(rb, cel 50 [w])]) := by
 obtain ⟨p, c, rfl⟩ := RowS.len hA0.1
 refine xob func51 fun w0 hw0 => ?_
 refine axn 7 ?_
 refine J.z (yl_buildS (pl := #[(0, 1)]) rfl rfl zeroValue50 rfl underlying50 (fun w => by simp [sizeOf48]) LBld.none) ?_
 refine axn 1 ?_
 intro b1 hb1
 refine axn 10 ?_
 refine Cj.loop (ι := Nat × Heap × List Ent × Value) (fun y => y.1 ≤ xs.length ∧ y.1 ≤ 20 ∧ Le I y.2.1 ∧ EntsS y.2.1 y.2.2.1 y.2.2.2 ∧ y.2.2.1.map entL = (acts (xs.take y.1)).foldl Ix.act [] ∧ (∀ e ∈ y.2.2.1, EOK e.fs) ∧ y.2.2.1.length ≤ y.1) (fun y => 20 - y.1) (fun y => [(0, .slice p xs.length c), (3, ptr b1 0), (4, i64 (y.1 : Int))]) (fun y => y.2.1) (fun y => [(b1, cel 50 [y.2.2.2])]) (0, _, [], _) ⟨Nat.zero_le _, Nat.zero_le _, Le.refl _, EntsS.nil, rfl, fun e he => (by cases he), Nat.zero_le _⟩ ⟨rfl, rfl, rfl, trivial⟩ rfl rfl ?_
 rintro ⟨k, Jh, es, w⟩ ⟨hk, hk20, hIJ, hE, hL, hek, hel⟩
 dsimp only at hk hk20 hIJ hE hL hek hel ⊢
 have hA := hA0.mono hIJ
 refine axg (fun hg2 hg2p => ?_) (fun hg2 hg2p => ?_)
 ·
  refine axc (fun hc3 hc3p => ?_) (fun hc3 hc3p => ?_)
  ·
   refine axn 5 ?_
   have hIJ9 := hIJ
   have hlt : k < xs.length := by omega
   have hlt2 : k < 20 := by omega
   obtain ⟨x, hget⟩ : ∃ x, xs[k]? = some x := ⟨_, List.getElem?_eq_getElem hlt⟩
   have hxm := List.mem_of_getElem? hget
   obtain ⟨p1, c1, hpe, hc1, hp⟩ := id hA.1
   cases hpe
   obtain ⟨ab, ao, acs, aty, afr, asp, rfl, hab, had⟩ := hp (ne_nil_of hlt)
   have hfv := hA.2 x hxm
   obtain ⟨vp, vc, hxv⟩ := RowS.len hfv
   have hnx : acts (xs.take (k + 1)) = acts (xs.take k) ++ [x.a] := map_next _ hget
   refine xix (ao + k * 4) ?_
   refine axn 1 ?_
   refine J.z (yl_load rfl rfl isAgg4 (Blk.imm hab) (row_fcell actC_len had hget 0 (by decide))) ?_
   refine ax0 (fun hc4 => ?_) (fun hc4 => ?_)
   ·
    have hdr : x.a.drop = true := hc4
    refine xix (ao + k * 4) ?_
    refine J.z (yl_loadAgg rfl rfl isAgg93 sizeOf93 (Blk.imm hab) (row_from actC_len had hget) rfl) ?_
    refine xca (Entry_ok x (hok x hxm) _ hfv) ?_
    intro v5 I6 H7 hle8 hp9
    have hIJ := hIJ.mono hle8
    have hA := hA.mono hle8
    have hE := hE.mono hle8
    have hab := hle8 _ _ hab
    have hfv := hfv.mono hle8
    obtain ⟨e0, h, he0, rfl⟩ := hp9; cases h
    refine J.z (yl_fieldR (v := kvR e0.t) rfl rfl (fun _ => by kernel_rfl)) ?_
    refine J.pull Pull.z ?_
    refine xca (rDrop_ok b1 w es e0.t (by omega) _ hE) ?_
    intro v10 I11 H12 hle13 hp14
    have hIJ := hIJ.mono hle13
    have hA := hA.mono hle13
    have hE := hE.mono hle13
    have hab := hle13 _ _ hab
    have hfv := hfv.mono hle13
    have he0 := he0.mono hle13
    obtain ⟨w1, h, hE1, rfl⟩ := hp14; cases h
    refine axn 8 ?_
    refine Ej.round (k + 1, _, edrop es e0.t, _) ⟨by dsimp only; omega, by dsimp only; omega, hIJ, hE1, by dsimp only; rw [hnx, List.foldl_append, edrop_drop _ _ (hL ▸ Ix.acts_srt _ List.Pairwise.nil), hL, he0.t]; exact (if_pos (show x.a.drop = true from hdr)).symm, fun e he => hek e (edrop_mem he), by dsimp only; have := edrop_len es e0.t; omega⟩ (by dsimp only; omega) ⟨rfl, rfl, rfl, trivial⟩ rfl rfl
   have hdr : x.a.drop = false := hc4
   refine xix (ao + k * 4) ?_
   refine J.z (yl_loadAgg rfl rfl isAgg93 sizeOf93 (Blk.imm hab) (row_from actC_len had hget) rfl) ?_
   refine xca (Entry_ok x (hok x hxm) _ hfv) ?_
   intro v15 I16 H17 hle18 hp19
   have hIJ := hIJ.mono hle18
   have hA := hA.mono hle18
   have hE := hE.mono hle18
   have hab := hle18 _ _ hab
   have hfv := hfv.mono hle18
   obtain ⟨e0, h, he0, rfl⟩ := hp19; cases h
   refine J.pull Pull.z ?_
   refine xca (rPut_ok b1 w es e0 (by omega) _ hE he0.r) ?_
   intro v20 I21 H22 hle23 hp24
   have hIJ := hIJ.mono hle23
   have hA := hA.mono hle23
   have hE := hE.mono hle23
   have hab := hle23 _ _ hab
   have hfv := hfv.mono hle23
   have he0 := he0.mono hle23
   obtain ⟨w1, h, hE1, rfl⟩ := hp24; cases h
   refine axn 8 ?_
   refine Ej.round (k + 1, _, eput es e0, _) ⟨by dsimp only; omega, by dsimp only; omega, hIJ, hE1, by dsimp only; rw [hnx, List.foldl_append, eput_put e0 es, hL, he0.t, he0.vals]; exact (if_neg (fun g => Bool.noConfusion (g.symm.trans hdr))).symm, fun e he => (eput_mem he).elim (fun g => by rw [g]; exact he0.eok) (hek e), by dsimp only; have := eput_len es e0; omega⟩ (by dsimp only; omega) ⟨rfl, rfl, rfl, trivial⟩ rfl rfl
  refine axn 12 ?_
  have htk : (acts (xs.take k)).foldl Ix.act [] = Ix.play (acts xs) := by rw [made_take hk (by omega), acts_take]; rfl
  refine axe ?_
  exact ⟨_, es, _, rfl, hE, hL.trans htk, hek, by omega, rfl⟩
 refine axn 18 ?_
 have htk : (acts (xs.take k)).foldl Ix.act [] = Ix.play (acts xs) := by rw [made_take hk (by omega), acts_take]; rfl
 refine axe ?_
 exact ⟨_, es, _, rfl, hE, hL.trans htk, hek, by omega, rfl⟩
end Go.Proofs.YtekmeaoblpfnpaaGreatDoor
end
section
namespace Ke
def closed (c : Nat) : Prop := (97 ≤ c ∧ c ≤ 122) ∨ (48 ≤ c ∧ c ≤ 57) ∨ ((945 ≤ c ∧ c ≤ 969) ∧ c ≠ 962) ∨ (1072 ≤ c ∧ c ≤ 1103)
instance (c : Nat) : Decidable (closed c) := by unfold closed; infer_instance
theorem closed_okc {c : Nat} (h : closed c) : okc c := by unfold closed at h; unfold okc; omega
theorem tab_greek {c : Nat} (h : 945 ≤ c ∧ c ≤ 969) : tab.lookup c = none := by
  have h1 : ∀ k < 25, tab.lookup (945 + k) = none := by decide +kernel
  have := h1 (c - 945) (by omega)
  rwa [show 945 + (c - 945) = c by omega] at this
theorem tab_cyr {c : Nat} (h : 1072 ≤ c ∧ c ≤ 1103) : tab.lookup c = none := by
  have h1 : ∀ k < 32, tab.lookup (1072 + k) = none := by decide +kernel
  have := h1 (c - 1072) (by omega)
  rwa [show 1072 + (c - 1072) = c by omega] at this
theorem char_closed {c : Nat} (h : closed c) : char c = enc c := by
  unfold char
  unfold closed at h
  by_cases h1 : (97 ≤ c ∧ c ≤ 122) ∨ (48 ≤ c ∧ c ≤ 57)
  · rw [if_pos h1]
  have h2 : ((945 ≤ c ∧ c ≤ 969) ∧ c ≠ 962) ∨ (1072 ≤ c ∧ c ≤ 1103) := by omega
  rw [if_neg h1, if_neg (by omega), if_neg (by omega), if_neg (by omega)]
  have h3 : tab.lookup c = none := by
    rcases h2 with h2 | h2
    · exact tab_greek h2.1
    exact tab_cyr h2
  rw [h3]
  simp only
  rw [if_neg (by omega), if_pos (by omega)]
theorem enc_no_blank {c : Nat} (h : closed c) : enc c ≠ [32] := by
  intro he
  have h1 := runes_enc (closed_okc h)
  rw [he] at h1
  have h2 : runes [32] = [32] := by kernel_rfl
  rw [h2] at h1
  have : c = 32 := (List.cons.inj h1).1.symm
  unfold closed at h; omega
def tabImg (s : Bs) : Bool := decide (encs (runes s) = s) && (runes s).all fun c => decide (closed c)
theorem tab_img : tab.all (fun p => tabImg p.2) = true := by decide +kernel
theorem lookup_mem : ∀ {l : List (Nat × Bs)} {c : Nat} {s : Bs}, l.lookup c = some s → (c, s) ∈ l
  | [], _, _, h => by cases h
  | (a, b) :: r, c, s, h => by
    rw [List.lookup_cons] at h
    split at h
    · rename_i he
      have := eq_of_beq he
      subst this; cases h; exact .head _
    exact .tail _ (lookup_mem h)
theorem char_img (c : Nat) : char c = [32] ∨ ∃ l, char c = encs l ∧ ∀ d ∈ l, closed d := by
  have one : ∀ d, closed d → ∃ l, enc d = encs l ∧ ∀ x ∈ l, closed x := fun d hd => ⟨[d], by simp [encs], fun x hx => by simp at hx; subst hx; exact hd⟩
  unfold char
  split
  · rename_i h; exact .inr (one c (by unfold closed; omega))
  split
  · exact .inr (one (c + 32) (by unfold closed; omega))
  split
  · exact .inl rfl
  split
  · exact .inr ⟨[], rfl, fun _ h => by cases h⟩
  split
  · rename_i s hs
    have h1 := List.all_eq_true.1 tab_img _ (lookup_mem hs)
    simp only [tabImg, Bool.and_eq_true, decide_eq_true_eq] at h1
    exact .inr ⟨runes s, h1.1.symm, fun d hd => of_decide_eq_true (List.all_eq_true.1 h1.2 d hd)⟩
  split
  · exact .inr (one 963 (by decide))
  split
  · exact .inr (one c (by unfold closed; omega))
  split
  · exact .inr (one (c + 32) (by unfold closed; omega))
  exact .inl rfl
def wordly (w : Bs) : Prop := ∃ l, w = encs l ∧ ∀ d ∈ l, closed d
theorem encs_app (a b : List Nat) : encs (a ++ b) = encs a ++ encs b := by simp [encs]
theorem wordly_app {a b : Bs} (ha : wordly a) (hb : wordly b) : wordly (a ++ b) := by
  obtain ⟨l, rfl, h1⟩ := ha
  obtain ⟨m, rfl, h2⟩ := hb
  exact ⟨l ++ m, (encs_app l m).symm, fun d hd => (List.mem_append.1 hd).elim (h1 d) (h2 d)⟩
theorem wf_wordly : ∀ (l : List Nat) (w : Bs), wordly w → ∀ x ∈ wf w l, wordly x
  | [], w, hw, x, h => by
    unfold wf at h
    split at h
    · cases h
    simp at h; subst h; exact hw
  | c :: r, w, hw, x, h => by
    have h0 : wordly [] := ⟨[], rfl, fun _ h => by cases h⟩
    unfold wf at h
    split at h
    · split at h
      · exact wf_wordly r [] h0 x h
      rcases List.mem_cons.1 h with rfl | h
      · exact hw
      exact wf_wordly r [] h0 x h
    rename_i hne
    rcases char_img c with he | he
    · exact absurd he hne
    exact wf_wordly r _ (wordly_app hw he) x h
theorem words_wordly (s : Bs) : ∀ x ∈ words s, wordly x := wf_wordly _ _ ⟨[], rfl, fun _ h => by cases h⟩
theorem wf_closed : ∀ (l : List Nat) (w : Bs) (r : List Nat), (∀ d ∈ l, closed d) → wf w (l ++ r) = wf (w ++ encs l) r
  | [], w, r, _ => by simp [encs]
  | c :: l, w, r, h => by
    have hc := h c (.head _)
    show (if char c = [32] then _ else wf (w ++ char c) (l ++ r)) = _
    rw [char_closed hc, if_neg (enc_no_blank hc), wf_closed l _ r fun d hd => h d (.tail _ hd)]
    simp [encs]
theorem encs_runes {w : Bs} (h : wordly w) : ∃ l, w = encs l ∧ runes w = l ∧ ∀ d ∈ l, closed d := by
  obtain ⟨l, rfl, h1⟩ := h
  exact ⟨l, rfl, runes_encs l fun c hc => closed_okc (h1 c hc), h1⟩
theorem words_word {w : Bs} (h : wordly w) (hne : w ≠ []) : words w = [w] := by
  obtain ⟨l, rfl, h2, h3⟩ := encs_runes h
  unfold words
  rw [h2]
  have := wf_closed l [] [] h3
  rw [List.append_nil] at this
  rw [this, List.nil_append]
  unfold wf
  rw [if_neg hne]
theorem wf_sep {c : Nat} (hc : char c = [32]) : ∀ (l : List Nat) (w : Bs) (r : List Nat), wf w (l ++ c :: r) = wf w l ++ wf [] r
  | [], w, r => by
    simp only [List.nil_append, wf, hc, if_true]
    split <;> simp
  | d :: l, w, r => by
    simp only [List.cons_append, wf]
    split
    · split
      · exact wf_sep hc l [] r
      rw [wf_sep hc l [] r, List.cons_append]
    exact wf_sep hc l _ r
theorem char_blank : char 32 = [32] := by decide
theorem words_sep (c : UInt8) (s t : Bs) (hc : c.toNat < 128) (hb : char c.toNat = [32]) : words (s ++ c :: t) = words s ++ words t := by grind [words, runes_app, opens_cons, runes_ascii, wf_sep]
theorem words_join : ∀ (l : List Bs), (∀ w ∈ l, wordly w ∧ w ≠ []) → words (join l) = l
  | [], _ => rfl
  | [a], h => words_word (h a (.head _)).1 (h a (.head _)).2
  | a :: b :: r, h => by
    show words (a ++ [32] ++ join (b :: r)) = _
    rw [List.append_assoc, List.singleton_append, words_sep 32 a _ (by decide) char_blank, words_word (h a (.head _)).1 (h a (.head _)).2, words_join (b :: r) fun w hw => h w (.tail _ hw)]
    rfl
theorem words_one {s w : Bs} (h : w ∈ words s) : w ≠ [] ∧ words w = [w] :=
  ⟨words_ne _ _ w h, words_word (words_wordly s w h) (words_ne _ _ w h)⟩
end Ke
end
section
namespace Ke
theorem ofNat_toNat {k : Nat} (h : k < 256) : (UInt8.ofNat k).toNat = k := by simp; omega
theorem words_digits {w : Bs} (h : digits w = true) : wordly w := by
  induction w with
  | nil => exact ⟨[], rfl, fun _ h => by cases h⟩
  | cons c r ih =>
    rw [digits_cons, Bool.and_eq_true] at h
    have hc := digit_iff.1 h.1
    have h1 : wordly [c] := ⟨[c.toNat], by
      have : enc c.toNat = [c] := by rw [enc1 (by omega)]; simp
      simp [encs, this], fun d hd => by simp at hd; subst hd; unfold closed; omega⟩
    exact wordly_app h1 (ih h.2)
end Ke
end
section
namespace Ke
def plainW (w : Bs) : Bs := if digits w then w.drop 2 else w
def plainK (k : Bs) : Bs := join ((words k).map plainW)
theorem strip_ne {w : Bs} (h : w ≠ []) : strip w ≠ [] := by grind [strip, List.length_drop, List.length_nil]
theorem strip_digits {w : Bs} (h : digits w = true) : digits (strip w) = true := by
  unfold strip
  rw [digits_app, Bool.and_eq_true]
  refine ⟨List.all_eq_true.2 fun c hc => List.all_eq_true.1 h c ?_, List.all_eq_true.2 fun c hc => List.all_eq_true.1 h c (List.mem_of_mem_drop hc)⟩
  exact (List.dropLast_sublist _).subset ((List.dropWhile_sublist _).subset hc)
theorem number_digits {w : Bs} (h : digits w = true) : digits (number w) = true := by
  unfold number
  show digits ([_, _] ++ strip w) = true
  rw [digits_app, strip_digits h, Bool.and_true]
  have hd : ∀ n, n < 10 → digit (UInt8.ofNat (48 + n)) = true := by decide
  simp only [digits, List.all_cons, List.all_nil, Bool.and_true, Bool.and_eq_true]
  exact ⟨hd _ (by omega), hd _ (by omega)⟩
theorem number_drop (w : Bs) : (number w).drop 2 = strip w := rfl
theorem number_strip (w : Bs) (h : strip (strip w) = strip w) : number (strip w) = number w := by unfold number; rw [h]
theorem drop_while_fix {p : UInt8 → Bool} : ∀ (l : Bs), (l.dropWhile p).dropWhile p = l.dropWhile p
  | [] => rfl
  | a :: r => by
    by_cases h : p a = true
    · rw [List.dropWhile_cons_of_pos h]; exact drop_while_fix r
    rw [List.dropWhile_cons_of_neg h, List.dropWhile_cons_of_neg h]
theorem strip_strip (w : Bs) (h : w ≠ []) : strip (strip w) = strip w := by
  obtain ⟨a, c, rfl⟩ : ∃ a c, w = a ++ [c] := ⟨w.dropLast, w.getLast h, (List.dropLast_concat_getLast h).symm⟩
  have e : ∀ x : Bs, strip (x ++ [c]) = x.dropWhile (· == 48) ++ [c] := fun x => by
    unfold strip
    rw [List.dropLast_append_of_ne_nil (by simp), List.length_append, List.length_singleton, Nat.add_sub_cancel, List.drop_left]
    simp
  rw [e, e, drop_while_fix]
theorem sortWord_wordly {w : Bs} (h : wordly w) (hne : w ≠ []) : wordly (sortWord w) ∧ sortWord w ≠ [] := by grind [sortWord, number, words_digits, number_digits]
theorem plainW_wordly {w : Bs} (h : wordly w) (hne : w ≠ []) : wordly (plainW (sortWord w)) ∧ plainW (sortWord w) ≠ [] ∧ sortWord (plainW (sortWord w)) = sortWord w := by
  unfold sortWord
  by_cases hd : digits w = true
  · rw [if_pos hd]
    unfold plainW
    rw [if_pos (number_digits hd), number_drop, if_pos (strip_digits hd)]
    exact ⟨words_digits (strip_digits hd), strip_ne hne, number_strip w (strip_strip w hne)⟩
  rw [if_neg hd]
  unfold plainW
  rw [if_neg hd, if_neg hd]
  exact ⟨h, hne, rfl⟩
theorem key_plain (s : Bs) (skip : Int) : sortKey (plainK (sortKey s skip)) 0 = sortKey s skip := by
  have hw : ∀ w ∈ words (cut s skip), wordly w ∧ w ≠ [] := fun w hw => ⟨words_wordly _ w hw, (words_one hw).1⟩
  have h1 : words (sortKey s skip) = (words (cut s skip)).map sortWord := by
    unfold sortKey
    refine words_join _ fun x hx => ?_
    obtain ⟨w, hm, rfl⟩ := List.mem_map.1 hx
    exact sortWord_wordly (hw w hm).1 (hw w hm).2
  unfold plainK
  rw [h1]
  have hc : ∀ t : Bs, cut t 0 = t := fun t => by
    unfold cut
    rw [show (min (max (0 : Int) 0) (t.length : Int)).toNat = 0 by omega]; rfl
  have h2 : words (cut (join (((words (cut s skip)).map sortWord).map plainW)) 0) = ((words (cut s skip)).map sortWord).map plainW := by
    rw [hc]
    refine words_join _ fun x hx => ?_
    obtain ⟨y, hy, rfl⟩ := List.mem_map.1 hx
    obtain ⟨w, hm, rfl⟩ := List.mem_map.1 hy
    exact ⟨(plainW_wordly (hw w hm).1 (hw w hm).2).1, (plainW_wordly (hw w hm).1 (hw w hm).2).2.1⟩
  have h3 : sortKey (join (((words (cut s skip)).map sortWord).map plainW)) 0 = join ((((words (cut s skip)).map sortWord).map plainW).map sortWord) := by
    unfold sortKey at h2 ⊢
    rw [h2]
  rw [h3]
  unfold sortKey
  rw [List.map_map, List.map_map]
  congr 1
  refine List.map_congr_left fun w hm => ?_
  exact (plainW_wordly (hw w hm).1 (hw w hm).2).2.2
theorem words_key (s : Bs) (skip : Int) : words (sortKey s skip) = (words (cut s skip)).map sortWord := by
  unfold sortKey
  refine words_join _ fun x hx => ?_
  obtain ⟨w, hm, rfl⟩ := List.mem_map.1 hx
  exact sortWord_wordly (words_wordly _ w hm) (words_one hm).1
end Ke
end
section
namespace Ke
open Go.Lib (decodeL fieldsGoD fieldsD isSpaceR fieldsGoD_nil)
theorem closed_sp {c : Nat} (h : closed c) : isSpaceR c = false := by
  unfold closed at h
  unfold isSpaceR
  simp only [Bool.or_eq_false_iff, Bool.and_eq_false_iff, decide_eq_false_iff_not, beq_eq_false_iff_ne]
  omega
theorem fgo_word : ∀ (l : List Nat) (cur t : Bs) (f : Nat), (∀ d ∈ l, closed d) → opens t → (encs l ++ t).length < f → ∃ g, t.length < g ∧ fieldsGoD f cur (encs l ++ t) = fieldsGoD g (cur ++ encs l) t
  | [], cur, t, f, _, _, hf => ⟨f, hf, by simp [encs]⟩
  | c :: l, cur, t, 0, _, _, hf => absurd hf (Nat.not_lt_zero _)
  | c :: l, cur, t, f + 1, h, ht, hf => by
    have hc := h c (.head _)
    have ho := enc_opens (closed_okc hc)
    have e : encs (c :: l) ++ t = enc c ++ (encs l ++ t) := by simp [encs]
    have ht2 : opens (encs l ++ t) := opens_app' (encs_opens l fun d hd => closed_okc (h d (.tail _ hd))) ht
    have hp : 0 < (enc c).length := List.length_pos_iff.2 ho.2
    rw [e, List.length_append] at hf
    obtain ⟨g, hg, he⟩ := fgo_word l (cur ++ enc c) t f (fun d hd => h d (.tail _ hd)) ht (by omega)
    refine ⟨g, hg, ?_⟩
    rw [e]
    conv => lhs; unfold fieldsGoD
    rw [if_neg (by intro h0; exact ho.2 (List.append_eq_nil_iff.1 h0).1), decodeL_app _ _ ho.2 ht2, decodeL_enc (closed_okc hc)]
    dsimp only
    rw [closed_sp hc, if_neg Bool.false_ne_true, List.take_left, List.drop_left, he]
    simp [encs]
theorem fgo_join : ∀ (ws : List Bs) (f : Nat), (∀ w ∈ ws, wordly w ∧ w ≠ []) → (join ws).length < f → fieldsGoD f [] (join ws) = ws
  | [], f, _, _ => by rw [show join [] = [] from rfl, fieldsGoD_nil, if_pos rfl]
  | [a], f, h, hf => by
    obtain ⟨⟨l, rfl, hl⟩, hne⟩ := h a (.head _)
    show fieldsGoD f [] (encs l) = _
    have hf2 : (encs l ++ []).length < f := by rw [List.append_nil]; exact hf
    obtain ⟨g, _, he⟩ := fgo_word l [] [] f hl opens_nil hf2
    rw [List.append_nil, List.nil_append] at he
    rw [he, fieldsGoD_nil, if_neg hne]
  | a :: b :: r, f, h, hf => by
    obtain ⟨⟨l, rfl, hl⟩, hne⟩ := h a (.head _)
    have e : join (encs l :: b :: r) = encs l ++ (32 :: join (b :: r)) := by
      show encs l ++ [32] ++ join (b :: r) = _
      rw [List.append_assoc, List.singleton_append]
    rw [e] at hf ⊢
    obtain ⟨g, hg, he⟩ := fgo_word l [] (32 :: join (b :: r)) f hl (opens_cons (by decide)) hf
    rw [he, List.nil_append]
    match g, hg with
    | g + 1, hg =>
      rw [List.length_cons] at hg
      have hd : decodeL (32 :: join (b :: r)) = (32, 1) := Go.Lib.decodeL_ascii 32 _ (by decide)
      conv => lhs; unfold fieldsGoD
      rw [if_neg (by simp), hd]
      dsimp only
      rw [show isSpaceR 32 = true from rfl, if_pos rfl, if_neg hne, List.drop_one, List.tail_cons, fgo_join (b :: r) g (fun w hw => h w (.tail _ hw)) (by omega)]
      rfl
theorem fields_join (ws : List Bs) (h : ∀ w ∈ ws, wordly w ∧ w ≠ []) : fieldsD (join ws) = ws := fgo_join ws _ h (by omega)
theorem fields_key (s : Bs) (skip : Int) : fieldsD (sortKey s skip) = words (sortKey s skip) := by
  rw [words_key]
  unfold sortKey
  refine fields_join _ fun x hx => ?_
  obtain ⟨w, hm, rfl⟩ := List.mem_map.1 hx
  exact sortWord_wordly (words_wordly _ w hm) (words_one hm).1
theorem join_map_le (f : Bs → Bs) (hf : ∀ w, (f w).length ≤ w.length) : ∀ ws : List Bs, (join (ws.map f)).length ≤ (join ws).length
  | [] => Nat.le_refl _
  | [a] => hf a
  | a :: b :: r => by
    have h1 := hf a
    have h2 := join_map_le f hf (b :: r)
    show (f a ++ [32] ++ join ((b :: r).map f)).length ≤ (a ++ [32] ++ join (b :: r)).length
    simp only [List.length_append, List.length_singleton]
    omega
theorem plainW_len (w : Bs) : (plainW w).length ≤ w.length := by grind [plainW, List.length_drop]
def KeyT (k : Bs) : Prop := k.length ≤ 40000000 ∧ fieldsD k = words k ∧ (plainK k).length ≤ 40000000 ∧ (join (words k)).length ≤ 40000000
theorem keyT_of {s : Bs} {skip : Int} (h : s.length ≤ 4000000) : KeyT (sortKey s skip) := by
  have hc : (cut s skip).length ≤ s.length := by unfold cut; rw [List.length_drop]; omega
  have h1 : (sortKey s skip).length ≤ 40000000 := by
    have := sort_len (cut s skip)
    unfold sortKey
    omega
  have hj : join (words (sortKey s skip)) = sortKey s skip := by rw [words_key]; rfl
  refine ⟨h1, fields_key s skip, ?_, by rw [hj]; exact h1⟩
  have h2 := join_map_le plainW plainW_len (words (sortKey s skip))
  rw [hj] at h2
  unfold plainK
  omega
end Ke
end
section
namespace Ix
open Ke
theorem keyOf_nil (n : Bs) : keyOf n [] = [] := by
  unfold keyOf
  rw [if_neg (fun h => absurd h.1 (by decide +kernel))]
  decide +kernel
theorem keysAll_from {L : Ix} (h : Srt L) (n b : Bs) : keysAll L n b = (keysAll L n []).filter fun k => decide (¬ k < b) := by
  refine inc_eq (keysAll_inc L n b) ((keysAll_inc L n []).filter _) fun k => ?_
  rw [List.mem_filter, keysAll_mem h, keysAll_mem h, decide_eq_true_eq]
  constructor
  · rintro ⟨h1, h2⟩; exact ⟨⟨List.not_lt_nil k, h2⟩, h1⟩
  rintro ⟨⟨_, h2⟩, h1⟩; exact ⟨h1, h2⟩
def Few (L : Ix) : Prop := L.length ≤ 20 ∧ ∀ e ∈ L, ∃ a : ActL, e.2 = a.vs
theorem rput_len' (t : Rec) (v : List V) : ∀ L : Ix, (rput t v L).length ≤ L.length + 1
  | [] => by simp [rput]
  | (u, x) :: r => by
    have := rput_len' t v r
    unfold rput
    repeat' split
    all_goals simp only [List.length_cons]; omega
theorem acts_few : ∀ (l : List ActL) {L : Ix} {k : Nat}, Srt L → L.length ≤ k → (∀ e ∈ L, ∃ a : ActL, e.2 = a.vs) → (l.foldl act L).length ≤ k + l.length ∧ ∀ e ∈ l.foldl act L, ∃ a : ActL, e.2 = a.vs
  | [], _, k, _, h1, h2 => ⟨by simpa using h1, h2⟩
  | a :: r, L, k, hs, h1, h2 => by
    have h3 : (act L a).length ≤ k + 1 := by
      unfold act
      split
      · exact Nat.le_trans (List.length_filter_le _ _) (by omega)
      have := rput_len' a.title a.vs L; omega
    have h4 : ∀ e ∈ act L a, ∃ a : ActL, e.2 = a.vs := by
      intro e he
      unfold act at he
      split at he
      · exact h2 e ((rdrop_mem _ _ _).1 he).1
      rcases (rput_mem _ _ hs e).1 he with g | g
      · exact ⟨a, by rw [g]⟩
      exact h2 e g.1
    have := acts_few r (act_srt hs a) h3 h4
    rw [List.foldl_cons, List.length_cons]
    exact ⟨by omega, this.2⟩
theorem play_few (l : List ActL) : Few (play l) := by
  have h := acts_few (l.take 20) (L := []) (k := 0) List.Pairwise.nil (Nat.le_refl _) (fun _ h => by cases h)
  have h2 : (l.take 20).length ≤ 20 := by rw [List.length_take]; exact Nat.min_le_left _ _
  exact ⟨by unfold play; omega, h.2⟩
end Ix
end
section
namespace Cq
def indexes : List (List UInt8) := [[116, 105, 116, 108, 101], [97, 117, 116, 104, 111, 114], [115, 117, 98, 106, 101, 99, 116], [105, 115, 98, 110], [97, 110, 121], [121, 101, 97, 114]]
def relations : List (List UInt8) := [[61], [61, 61], [60], [62, 61], [97, 110, 121], [97, 108, 108]]
inductive Qs where
  | nil
  | cons (k : Int) (i r t : List UInt8) (ps rest : Qs)
deriving DecidableEq
structure Qn where
  k : Int
  i : List UInt8
  r : List UInt8
  t : List UInt8
  ps : Qs
deriving DecidableEq
def Qs.len : Qs → Nat
  | .nil => 0
  | .cons _ _ _ _ _ rest => rest.len + 1
def Qn.push (q : Qn) (rest : Qs) : Qs := .cons q.k q.i q.r q.t q.ps rest
end Cq
end
section
namespace Ix
open Ke
def rEq : Bs := [61]
def rKey : Bs := [61, 61]
def rLt : Bs := [60]
def rGe : Bs := [62, 61]
def rAny : Bs := [97, 110, 121]
def rAll : Bs := [97, 108, 108]
def keyed (L : Ix) (n : Bs) (ks : Row) : List Rec := ks.flatMap fun k => withK L n (keyOf n (plainK k))
def satT (L : Ix) (i r s : Bs) (t : Rec) : Bool :=
  if r = rEq then (if i = nIsbn then decide (t ∈ withK L i (keyOf i s)) else decide (t ∈ phrase L i (words s)))
  else if r = rKey then decide (t ∈ withK L i (keyOf i s))
  else if r = rAny then (words s).any fun w => decide (t ∈ word L i w)
  else if r = rAll then !(words s).isEmpty && (words s).all fun w => decide (t ∈ word L i w)
  else if r = rGe then decide (t ∈ keyed L i (keysAll L i (keyOf i s)))
  else decide (t ∈ keyed L i ((keysAll L i []).take ((keysAll L i []).length - (keysAll L i (keyOf i s)).length)))
def comb (k : Int) (a b : Bool) : Bool := if k = 2 then a && b else if k = 3 then a || b else a && !b
def sat1 (L : Ix) (t : Rec) (k : Int) (i r x : Bs) (bs : List Bool) : Bool := if k = 1 then satT L i r x t else match bs with
  | [a, b] => comb k a b
  | _ => false
def satQs (L : Ix) (t : Rec) : Cq.Qs → List Bool
  | .nil => []
  | .cons k i r x ps rest => sat1 L t k i r x (satQs L t ps) :: satQs L t rest
def sat (L : Ix) (q : Cq.Qn) (t : Rec) : Bool := sat1 L t q.k q.i q.r q.t (satQs L t q.ps)
theorem sat_term {L : Ix} {q : Cq.Qn} {t : Rec} (h : q.k = 1) : sat L q t = satT L q.i q.r q.t t := if_pos h
theorem sat_two {L : Ix} {q a b : Cq.Qn} {t : Rec} (h : q.k ≠ 1) (hp : q.ps = a.push (b.push .nil)) : sat L q t = comb q.k (sat L a t) (sat L b t) := by
  unfold sat sat1
  rw [if_neg h, hp]
  rfl
def lessS (L : Ix) (a b : Rec) : Prop := sortOf L a < sortOf L b ∨ (sortOf L a = sortOf L b ∧ lessR a b = true)
theorem lessS_irr (L : Ix) (a : Rec) : ¬ lessS L a a := by
  rintro (h | ⟨_, h⟩)
  · exact List.lt_irrefl _ h
  rw [lessR_irr] at h; cases h
theorem lessS_trans {L : Ix} {a b c : Rec} (h1 : lessS L a b) (h2 : lessS L b c) : lessS L a c := by
  rcases h1 with h1 | ⟨h1, h1'⟩ <;> rcases h2 with h2 | ⟨h2, h2'⟩
  · exact .inl (List.lt_trans h1 h2)
  · exact .inl (h2 ▸ h1)
  · exact .inl (h1 ▸ h2)
  exact .inr ⟨h1.trans h2, lessR_trans h1' h2'⟩
theorem pair_eq {α : Type} {r : α → α → Prop} (hi : ∀ a, ¬ r a a) (ht : ∀ {a b c}, r a b → r b c → r a c) : ∀ {l m : List α}, l.Pairwise r → m.Pairwise r → (∀ x, x ∈ l ↔ x ∈ m) → l = m
  | [], [], _, _, _ => rfl
  | [], b :: m, _, _, h => absurd ((h b).2 (.head _)) (by simp)
  | a :: l, [], _, _, h => absurd ((h a).1 (.head _)) (by simp)
  | a :: l, b :: m, hl, hm, h => by
    rw [List.pairwise_cons] at hl hm
    have hab : a = b := by
      rcases List.mem_cons.1 ((h a).1 (.head _)) with e | h1
      · exact e
      rcases List.mem_cons.1 ((h b).2 (.head _)) with e | h2
      · exact e.symm
      exact absurd (ht (hl.1 b h2) (hm.1 a h1)) (hi a)
    subst hab
    congr 1
    refine pair_eq hi ht hl.2 hm.2 fun x => ⟨fun hx => ?_, fun hx => ?_⟩
    · rcases List.mem_cons.1 ((h x).1 (.tail _ hx)) with e | g
      · exact absurd (e ▸ hl.1 x hx) (hi a)
      exact g
    rcases List.mem_cons.1 ((h x).2 (.tail _ hx)) with e | g
    · exact absurd (e ▸ hm.1 x hx) (hi a)
    exact g
theorem sub_lenS {l m : List Rec} (hl : l.Nodup) (h : ∀ x ∈ l, x ∈ m) : l.length ≤ m.length := by
  induction l generalizing m with
  | nil => simp
  | cons a r ih =>
    rw [List.nodup_cons] at hl
    have hm := h a (.head _)
    have := ih (m := m.erase a) hl.2 fun x hx => by
      have hne : x ≠ a := fun e => hl.1 (e ▸ hx)
      exact (List.mem_erase_of_ne hne).2 (h x (.tail _ hx))
    rw [List.length_erase_of_mem hm] at this
    have h0 : 0 < m.length := List.length_pos_of_mem hm
    rw [List.length_cons]; omega
def IsRun (L : Ix) (q : Cq.Qn) (l : List Rec) : Prop := l.Pairwise (lessS L) ∧ ∀ t, t ∈ l ↔ t ∈ L.map (·.1) ∧ sat L q t = true
theorem IsRun.eq {L : Ix} {q : Cq.Qn} {l m : List Rec} (h1 : IsRun L q l) (h2 : IsRun L q m) : l = m :=
  pair_eq (lessS_irr L) lessS_trans h1.1 h2.1 fun x => (h1.2 x).trans (h2.2 x).symm
theorem IsRun.len {L : Ix} {q : Cq.Qn} {l : List Rec} (h : IsRun L q l) : l.length ≤ L.length := by
  have hn : l.Nodup := List.nodup_iff_pairwise_ne.2 (h.1.imp fun {a b} g e => by subst e; exact lessS_irr L a g)
  have hs : ∀ x ∈ l, x ∈ L.map (·.1) := fun x hx => ((h.2 x).1 hx).1
  have := sub_lenS hn hs
  rwa [List.length_map] at this
theorem withK_in {L : Ix} {n k : Bs} {t : Rec} (h : t ∈ withK L n k) : t ∈ L.map (·.1) := by grind [withK]
theorem phrase_in {L : Ix} {n : Bs} {w : Row} {t : Rec} (h : t ∈ phrase L n w) : t ∈ L.map (·.1) := by grind [phrase]
theorem word_in {L : Ix} {n s : Bs} {t : Rec} (h : t ∈ word L n s) : t ∈ L.map (·.1) := by grind [word, phrase_in]
theorem keyed_in {L : Ix} {n : Bs} {ks : Row} {t : Rec} (h : t ∈ keyed L n ks) : t ∈ L.map (·.1) := by
  obtain ⟨k, _, h⟩ := List.mem_flatMap.1 h
  exact withK_in h
theorem satT_in {L : Ix} {i r s : Bs} {t : Rec} (h : satT L i r s t = true) : t ∈ L.map (·.1) := by
  unfold satT at h
  split at h
  · split at h
    · exact withK_in (of_decide_eq_true h)
    exact phrase_in (of_decide_eq_true h)
  split at h
  · exact withK_in (of_decide_eq_true h)
  split at h
  · obtain ⟨w, _, h⟩ := List.any_eq_true.1 h
    exact word_in (of_decide_eq_true h)
  split at h
  · rw [Bool.and_eq_true] at h
    cases hw : words s with
    | nil => rw [hw] at h; simp at h
    | cons a r => rw [hw] at h; exact word_in (of_decide_eq_true (List.all_eq_true.1 h.2 a (.head _)))
  split at h <;> exact keyed_in (of_decide_eq_true h)
def Back (L : Ix) (n : Bs) : Prop := ∀ e ∈ L, ∀ v ∈ e.2, v.name = n → keyOf n (plainK v.key) = v.key
theorem mem_withK {L : Ix} {n k : Bs} (hk : k ≠ []) {t : Rec} : t ∈ withK L n k ↔ ∃ e ∈ L, hasK n k e.2 = true ∧ e.1 = t := by
  unfold withK
  rw [if_neg hk, List.mem_map]
  constructor
  · rintro ⟨e, h, rfl⟩
    obtain ⟨h1, h2⟩ := List.mem_filter.1 h
    exact ⟨e, h1, h2, rfl⟩
  rintro ⟨e, h1, h2, rfl⟩
  exact ⟨e, List.mem_filter.2 ⟨h1, h2⟩, rfl⟩
theorem hasK_iff {n k : Bs} {vs : List V} : hasK n k vs = true ↔ ∃ v ∈ vs, v.name = n ∧ v.key = k := by unfold hasK; grind
theorem mem_keyed {L : Ix} (hs : Srt L) {n b : Bs} (hb : Back L n) (P : Bs → Prop) {ks : Row} (hks : ∀ k, k ∈ ks ↔ k ∈ keysAll L n b ∧ P k) {t : Rec} :
    t ∈ keyed L n ks ↔ ∃ e ∈ L, e.1 = t ∧ ∃ v ∈ e.2, v.name = n ∧ v.key ≠ [] ∧ ¬ v.key < b ∧ P v.key := by
  have key : ∀ k, k ∈ keysAll L n b → k ≠ [] ∧ ¬ k < b ∧ keyOf n (plainK k) = k := fun k hk => by
    obtain ⟨h1, h2⟩ := (keysAll_mem hs).1 hk
    obtain ⟨e, he, hp⟩ := (cnt_pos hs).1 h2
    obtain ⟨h3, h4⟩ := plK_iff.1 hp
    obtain ⟨v, hv, h5, rfl⟩ := hasK_iff.1 h4
    exact ⟨h3, h1, hb e he v hv h5⟩
  unfold keyed
  rw [List.mem_flatMap]
  constructor
  · rintro ⟨k, hk, ht⟩
    obtain ⟨hk1, hP⟩ := (hks k).1 hk
    obtain ⟨h1, h2, h3⟩ := key k hk1
    rw [h3] at ht
    obtain ⟨e, he, h4, rfl⟩ := (mem_withK h1).1 ht
    obtain ⟨v, hv, h5, rfl⟩ := hasK_iff.1 h4
    exact ⟨e, he, rfl, v, hv, h5, h1, h2, hP⟩
  rintro ⟨e, he, rfl, v, hv, h5, h1, h2, hP⟩
  have hk1 : v.key ∈ keysAll L n b := (keysAll_mem hs).2 ⟨h2, (cnt_pos hs).2 ⟨e, he, plK_iff.2 ⟨h1, hasK_iff.2 ⟨v, hv, h5, rfl⟩⟩⟩⟩
  refine ⟨v.key, (hks _).2 ⟨hk1, hP⟩, ?_⟩
  rw [(key _ hk1).2.2]
  exact (mem_withK h1).2 ⟨e, he, hasK_iff.2 ⟨v, hv, h5, rfl⟩, rfl⟩
theorem take_less {L : Ix} (h : Srt L) (n b : Bs) {k : Bs} : k ∈ (keysAll L n []).take ((keysAll L n []).length - (keysAll L n b).length) ↔ k ∈ keysAll L n [] ∧ k < b := by
  have e := keysAll_from h n b
  have hinc := keysAll_inc L n []
  generalize keysAll L n [] = l at e hinc
  rw [e]
  clear e
  induction l with
  | nil => simp
  | cons a r ih =>
    have hi := List.pairwise_cons.1 hinc
    by_cases hab : a < b
    · have hf : ((a :: r).filter fun k => decide (¬ k < b)) = r.filter fun k => decide (¬ k < b) := by rw [List.filter_cons, if_neg (by simpa using hab)]
      rw [hf]
      have hle := List.length_filter_le (fun k => decide (¬ k < b)) r
      rw [List.length_cons, show r.length + 1 - (r.filter fun k => decide (¬ k < b)).length = (r.length - (r.filter fun k => decide (¬ k < b)).length) + 1 by omega, List.take_succ_cons]
      refine List.mem_cons.trans ((or_congr_right (ih hi.2)).trans ?_)
      rw [List.mem_cons]
      constructor
      · rintro (rfl | ⟨h1, h2⟩)
        · exact ⟨.inl rfl, hab⟩
        exact ⟨.inr h1, h2⟩
      rintro ⟨rfl | h1, h2⟩
      · exact .inl rfl
      exact .inr ⟨h1, h2⟩
    have hall : ∀ x ∈ a :: r, ¬ x < b := fun x hx => by
      rcases List.mem_cons.1 hx with rfl | hx
      · exact hab
      exact fun g => hab (List.lt_trans (hi.1 x hx) g)
    rw [List.filter_eq_self.2 fun x hx => decide_eq_true (hall x hx), Nat.sub_self, List.take_zero]
    exact ⟨fun g => (by cases g), fun ⟨g1, g2⟩ => absurd g2 (hall k g1)⟩
end Ix
end
section
namespace Ix
open Ke
def TOK (L : Ix) : Prop := ∀ e ∈ L, ∀ v ∈ e.2, v.text.length ≤ 4000000
theorem keysAll_key {L : Ix} (hs : Srt L) {n b k : Bs} (h : k ∈ keysAll L n b) : ∃ e ∈ L, ∃ v ∈ e.2, v.name = n ∧ v.key = k := by
  obtain ⟨_, h2⟩ := (keysAll_mem hs).1 h
  obtain ⟨e, he, hp⟩ := (cnt_pos hs).1 h2
  obtain ⟨_, h4⟩ := plK_iff.1 hp
  obtain ⟨v, hv, h5, h6⟩ := hasK_iff.1 h4
  exact ⟨e, he, v, hv, h5, h6⟩
theorem TOK.key {L : Ix} (h : TOK L) (hs : Srt L) {n b k : Bs} (hk : k ∈ keysAll L n b) : KeyT k := by
  obtain ⟨e, he, v, hv, _, rfl⟩ := keysAll_key hs hk
  exact keyT_of (h e he v hv)
theorem withK_le (L : Ix) (n k : Bs) : (withK L n k).length ≤ L.length := by grind [withK, List.length_map]
theorem scan_keys {L : Ix} {n s : Bs} {most : Int} (h : (keysAll L n (keyOf n s)).length ≤ most.toNat) : (scan L n s most).map (·.1) = keysAll L n (keyOf n s) := by
  unfold scan
  rw [List.take_of_length_le h, List.map_map]
  exact List.map_id _
end Ix
end
section
set_option maxHeartbeats 40000000
namespace Go.Proofs.YtekmeaoblpfnpaaGreatDoor
open Go Go.Sx
def STab (I : Heap) : Prop := ∀ w : World, (∀ b o, I b = some o → w.heap[b]? = some o) → Lib.TabIs Tryz.prog w "strings.asciiSpace" .u8 Lib.asciiSpaceTab ∧ Lib.WhiteTab 3 w
theorem STab.mono {I I' : Heap} (h : STab I) (hle : Le I I') : STab I' := fun w hw => h w fun b o hb => hw b o (hle b o hb)
theorem Fields_ok (s : List UInt8) (ws : List (List UInt8)) (hf : Lib.fieldsD s = ws) (hs : s.length ≤ 4000000000) (I : Heap) (hT : STab I) : Ctr Tryz.prog 261 [str s] I [] (fun e _ H' => ∃ b sp, e = .returned (.slice (some ⟨b, 0, none⟩) ws.length ws.length) ∧ H' = [(b, cel 9 (ws.map str ++ sp))]) :=
  Ctr.of_rowO (vals := ws.map fun x => Value.string ⟨x.toArray⟩) rfl (Enters.of Tryz.func261 (by decide) rfl) fun w hw => by
    have h := Tryz.strings_Fields_any ⟨s.toArray⟩ w (by rw [size_mk]; omega) (hT w hw).1 (hT w hw).2
    rw [show (⟨s.toArray⟩ : ByteArray).data.toList = s by simp, hf] at h
    exact h
def mixW (ws : List (List UInt8)) (i : Nat) : List (List UInt8) := (ws.take i).map Ke.plainW ++ ws.drop i
theorem mixW_len (ws : List (List UInt8)) (i : Nat) : (mixW ws i).length = ws.length := by
  unfold mixW; rw [List.length_append, List.length_map, List.length_take, List.length_drop]; omega
theorem mixW_get {ws : List (List UInt8)} {i : Nat} {x : List UInt8} (h : ws[i]? = some x) : (mixW ws i)[i]? = some x := by
  have hlt := (List.getElem?_eq_some_iff.1 h).1
  unfold mixW
  rw [List.getElem?_append_right (by rw [List.length_map, List.length_take]; omega), List.length_map, List.length_take, Nat.min_eq_left (Nat.le_of_lt hlt), Nat.sub_self, List.getElem?_drop]
  exact h
theorem mixW_set {ws : List (List UInt8)} {i : Nat} {x : List UInt8} (h : ws[i]? = some x) (sp : List Value) : ((mixW ws i).map str ++ sp).set i (str (Ke.plainW x)) = (mixW ws (i + 1)).map str ++ sp := by
  obtain ⟨hlt, hg⟩ := List.getElem?_eq_some_iff.1 h
  rw [List.set_append_left _ _ (by rw [List.length_map, mixW_len]; exact hlt), List.map_set.symm]
  congr 2
  unfold mixW
  rw [List.set_append_right _ _ (by rw [List.length_map, List.length_take]; omega), List.length_map, List.length_take, Nat.min_eq_left (Nat.le_of_lt hlt), Nat.sub_self, ← List.getElem_cons_drop hlt, List.set_cons_zero, List.take_succ_eq_append_getElem hlt, hg, List.map_append, List.append_assoc]
  rfl
theorem mixW_id {ws : List (List UInt8)} {i : Nat} {x : List UInt8} (h : ws[i]? = some x) (hx : Ke.plainW x = x) : mixW ws i = mixW ws (i + 1) := by
  obtain ⟨hlt, hg⟩ := List.getElem?_eq_some_iff.1 h
  unfold mixW
  rw [← List.getElem_cons_drop hlt, List.take_succ_eq_append_getElem hlt, hg, List.map_append, List.append_assoc]
  show _ = _ ++ ([Ke.plainW x] ++ _)
  rw [hx]; rfl
theorem plain_ok (k : List UInt8) (hk : Ke.KeyT k) (I : Heap) (hT : STab I) : Pure Tryz.prog 218 [str k] I (str (Ke.plainK k)) := by
 refine Ctr.toPure ?_
 have hkl := hk.1
 have hwl := Ke.words_len k
 have hpl := hk.2.2.1
 refine xob Tryz.func218 fun w0 hw0 => ?_
 refine xca (Fields_ok k (Ke.words k) hk.2.1 (by omega) _ hT) ?_
 intro v1 I2 H3 hle4 hp5
 obtain ⟨fb, fsp, h, rfl⟩ := hp5; cases h
 refine axn 12 ?_
 refine Cj.loop (ι := Nat) (fun i => i ≤ (Ke.words k).length) (fun i => (Ke.words k).length - i) (fun i => [(3, .slice (some ⟨fb, 0, none⟩) (Ke.words k).length (Ke.words k).length), (8, .slice (some ⟨fb, 0, none⟩) (Ke.words k).length (Ke.words k).length), (9, i64 ((Ke.words k).length : Int)), (10, i64 (i : Int))]) (fun i => _) (fun i => [(fb, cel 9 ((mixW (Ke.words k) i).map str ++ fsp))]) 0 (Nat.zero_le _) ⟨rfl, rfl, rfl, rfl, trivial⟩ rfl (by unfold mixW; simp) ?_
 rintro i hi
 have hml := mixW_len (Ke.words k) i
 refine axc (fun hc6 hc6p => ?_) (fun hc6 hc6p => ?_)
 ·
  have hlt : i < (Ke.words k).length := by omega
  obtain ⟨x, hget⟩ : ∃ x, (Ke.words k)[i]? = some x := ⟨_, List.getElem?_eq_getElem hlt⟩
  have hxm := List.mem_of_getElem? hget
  have hxl := Ke.words_each _ x hxm
  refine xix i ?_
  refine J.z (yl_load rfl rfl Tryz.isAgg9 (Blk.at 0 rfl) (str_get (mixW_get hget))) ?_
  refine xpu (Trim_ok x (by omega) _) ?_
  refine axn 1 ?_
  refine J.ev 17 (.bool (Ke.digits x)) rfl (congrArg Value.bool (Ke.trim_digits x)) ?_
  refine ax0 (fun hc17 => ?_) (fun hc17 => ?_)
  ·
   refine axn 6 ?_
   refine J.z (yl_min2 rfl rfl rfl) ?_
   refine J.ev 23 (i64 ((min 2 x.length : Nat) : Int)) rfl (congrArg i64 (by omega)) ?_
   refine J.z (yl_sliceStr (p := min 2 x.length) (q := x.length) rfl rfl Tryz.underlying9 ⟨_, rfl⟩ rfl (by omega) (by omega)) ?_
   refine J.ev 24 (str (Ke.plainW x)) rfl (by rw [List.take_length]; unfold Ke.plainW; rw [if_pos hc17]; congr 1; rcases Nat.le_total 2 x.length with h | h; rw [Nat.min_eq_left h]; rw [Nat.min_eq_right h, List.drop_length, List.drop_eq_nil_of_le h]) ?_
   refine xix i ?_
   refine J.op rfl (op_store1 0 rfl rfl rfl rfl rfl rfl Tryz.sizeOf9 rfl (.inl rfl) (by rw [List.length_append, List.length_map, hml]; omega) LSet.z ?_)
   refine axn 7 ?_
   refine Ej.round (i + 1) (by omega) (by omega) ⟨rfl, rfl, rfl, rfl, trivial⟩ rfl (by rw [mixW_set hget]; rfl)
  have hpw : Ke.plainW x = x := by unfold Ke.plainW; rw [hc17]; rfl
  refine axn 7 ?_
  refine Ej.round (i + 1) (by omega) (by omega) ⟨rfl, rfl, rfl, rfl, trivial⟩ rfl (by rw [mixW_id hget hpw])
 refine axn 6 ?_
 refine Cj.isNew rfl (fun hnew => ?_)
 refine Cj.persist (hnew _ (.head _)) (fun I9 hle9 hfbi => ?_)
 have hi2 : i = (Ke.words k).length := by omega
 have hfull : mixW (Ke.words k) i = (Ke.words k).map Ke.plainW := by rw [hi2]; unfold mixW; rw [List.take_length, List.drop_length, List.append_nil]
 rw [hfull] at hfbi
 have hv : StrS 9 I9 ((Ke.words k).map Ke.plainW) (.slice (some ⟨fb, 0, none⟩) (Ke.words k).length (Ke.words k).length) := .inr ⟨fb, _, fsp, by rw [List.length_map], by rw [List.length_map]; exact Nat.le_refl _, hfbi⟩
 refine xpu (Join_ok ((Ke.words k).map Ke.plainW) _ (by rw [List.length_map]; omega) (by show (Ke.plainK k).length ≤ _; omega) _ hv) ?_
 refine axe ?_
 exact ⟨rfl, rfl⟩
end Go.Proofs.YtekmeaoblpfnpaaGreatDoor
end
section
namespace Go.Proofs.YtekmeaoblpfnpaaGreatDoor
open Go Go.Sx
def SetM (m : ML Ix.Rec) (k : Nat) (S : Ix.Rec → Bool) : Prop := MS m k ∧ ∀ t, mget m t = if S t = true then some (.bool true) else none
def SetV (I : Heap) (v : Value) (S : Ix.Rec → Bool) : Prop := (v = .map none ∧ ∀ t, S t = false) ∨ ∃ b m k, v = .map (some b) ∧ SetM m k S ∧ I b = some (mobj kvR m k)
def OwnS (v : Value) (S : Ix.Rec → Bool) (H : HL) : Prop := ∃ b m k, v = .map (some b) ∧ SetM m k S ∧ H = [(b, mobj kvR m k)]
theorem SetV.mono {I I' : Heap} {v : Value} {S : Ix.Rec → Bool} (h : SetV I v S) (hle : Le I I') : SetV I' v S :=
  h.imp id fun ⟨b, m, k, h1, h2, h3⟩ => ⟨b, m, k, h1, h2, hle _ _ h3⟩
theorem SetV.shape {I : Heap} {v : Value} {S : Ix.Rec → Bool} (h : SetV I v S) : ∃ o, v = .map o := h.elim (fun g => ⟨none, g.1⟩) fun ⟨b, _, _, g, _⟩ => ⟨some b, g⟩
def inL (l : List Ix.Rec) (t : Ix.Rec) : Bool := decide (t ∈ l)
theorem SetM.nil : SetM [] 0 (inL []) := ⟨MS.nil, fun t => by rw [show inL [] t = false from decide_eq_false (by simp)]; rfl⟩
theorem SetM.congr {m : ML Ix.Rec} {k : Nat} {S S' : Ix.Rec → Bool} (h : SetM m k S) (he : ∀ t, S t = S' t) : SetM m k S' := ⟨h.1, fun t => by rw [← he t]; exact h.2 t⟩
theorem SetM.add {m : ML Ix.Rec} {k : Nat} {S S' : Ix.Rec → Bool} (h : SetM m k S) (u : Ix.Rec) (he : ∀ t, S' t = (t == u || S t)) : SetM (mset m u (.bool true) k) (mclk m u k) S' := by
  refine ⟨h.1.set u _, fun t => ?_⟩
  rw [mget_mset, he t]
  by_cases ht : (t == u) = true
  · rw [if_pos ht, ht]; rfl
  rw [if_neg ht, h.2 t, Bool.eq_false_iff.2 ht]; rfl
theorem SetM.push {m : ML Ix.Rec} {k : Nat} {l : List Ix.Rec} (h : SetM m k (inL l)) (u : Ix.Rec) : SetM (mset m u (.bool true) k) (mclk m u k) (inL (l ++ [u])) := h.add u fun t => by
  unfold inL
  rw [Bool.eq_iff_iff, Bool.or_eq_true, decide_eq_true_eq, decide_eq_true_eq, List.mem_append, List.mem_singleton, beq_iff_eq]
  exact Or.comm
theorem SetM.get {m : ML Ix.Rec} {k : Nat} {S : Ix.Rec → Bool} (h : SetM m k S) (t : Ix.Rec) : (mget m t).getD (.bool false) = .bool (S t) := by
  rw [h.2 t]
  cases S t <;> rfl
theorem SetM.mem {m : ML Ix.Rec} {k : Nat} {S : Ix.Rec → Bool} (h : SetM m k S) (t : Ix.Rec) : t ∈ m.map (·.1) ↔ S t = true := by
  have h1 := h.2 t
  constructor
  · intro hm
    cases hs : S t with
    | true => rfl
    | false =>
      rw [hs, if_neg Bool.false_ne_true] at h1
      exact absurd hm (mget_none.1 h1)
  intro hs
  rw [if_pos hs] at h1
  refine Classical.byContradiction fun hn => ?_
  rw [mget_none.2 hn] at h1
  cases h1
theorem SetM.empty {m : ML Ix.Rec} {k : Nat} {S : Ix.Rec → Bool} (h : SetM m k S) (h0 : m.length = 0) (t : Ix.Rec) : S t = false := by
  have hm : m = [] := List.length_eq_zero_iff.1 h0
  cases hs : S t with
  | false => rfl
  | true => have := (h.mem t).2 hs; rw [hm] at this; cases this
theorem SetM.len {m : ML Ix.Rec} {k : Nat} {S : Ix.Rec → Bool} (h : SetM m k S) {l : List Ix.Rec} (hl : ∀ t, S t = true → t ∈ l) : m.length ≤ l.length := by
  have := sub_lenG (l := m.map (·.1)) (m := l) h.1.1 fun t ht => hl t ((h.mem t).1 ht)
  rwa [List.length_map] at this
def onlyS (vis : ML Ix.Rec) (P : Ix.Rec → Bool) (t : Ix.Rec) : Bool := decide (t ∈ vis.map (·.1)) && P t
theorem onlyS_yes {vis : ML Ix.Rec} {P : Ix.Rec → Bool} {x : Ix.Rec × Value × Nat} (h : P x.1 = true) (t : Ix.Rec) : onlyS (vis ++ [x]) P t = (t == x.1 || onlyS vis P t) := by
  unfold onlyS
  rw [Bool.eq_iff_iff, Bool.or_eq_true, Bool.and_eq_true, Bool.and_eq_true, decide_eq_true_eq, decide_eq_true_eq, beq_iff_eq, List.map_append, List.mem_append, List.map_cons, List.map_nil, List.mem_singleton]
  constructor
  · rintro ⟨h1 | h1, h2⟩
    · exact .inr ⟨h1, h2⟩
    exact .inl h1
  rintro (rfl | ⟨h1, h2⟩)
  · exact ⟨.inr rfl, h⟩
  exact ⟨.inl h1, h2⟩
theorem onlyS_no {vis : ML Ix.Rec} {P : Ix.Rec → Bool} {x : Ix.Rec × Value × Nat} (h : P x.1 = false) (t : Ix.Rec) : onlyS (vis ++ [x]) P t = onlyS vis P t := by
  unfold onlyS
  rw [Bool.eq_iff_iff, Bool.and_eq_true, Bool.and_eq_true, decide_eq_true_eq, decide_eq_true_eq, List.map_append, List.mem_append, List.map_cons, List.map_nil, List.mem_singleton]
  constructor
  · rintro ⟨h1 | h1, h2⟩
    · exact ⟨h1, h2⟩
    rw [h1, h] at h2; cases h2
  rintro ⟨h1, h2⟩; exact ⟨.inl h1, h2⟩
theorem onlyS_all {vis m : ML Ix.Rec} {k : Nat} {S P : Ix.Rec → Bool} (h : SetM m k S) (hp : vis.Perm m) (t : Ix.Rec) : onlyS vis P t = (S t && P t) := by
  unfold onlyS
  congr 1
  rw [Bool.eq_iff_iff, decide_eq_true_eq, (hp.map _).mem_iff, h.mem]
def withS (vis : ML Ix.Rec) (A : Ix.Rec → Bool) (t : Ix.Rec) : Bool := A t || decide (t ∈ vis.map (·.1))
theorem withS_next {vis : ML Ix.Rec} {A : Ix.Rec → Bool} {x : Ix.Rec × Value × Nat} (t : Ix.Rec) : withS (vis ++ [x]) A t = (t == x.1 || withS vis A t) := by
  unfold withS
  rw [Bool.eq_iff_iff, Bool.or_eq_true, Bool.or_eq_true, Bool.or_eq_true, decide_eq_true_eq, decide_eq_true_eq, beq_iff_eq, List.map_append, List.mem_append, List.map_cons, List.map_nil, List.mem_singleton]
  constructor
  · rintro (h | h | h)
    · exact .inr (.inl h)
    · exact .inr (.inr h)
    exact .inl h
  rintro (h | h | h)
  · exact .inr (.inr h)
  · exact .inl h
  exact .inr (.inl h)
theorem withS_all {vis m : ML Ix.Rec} {k : Nat} {S A : Ix.Rec → Bool} (h : SetM m k S) (hp : vis.Perm m) (t : Ix.Rec) : withS vis A t = (A t || S t) := by
  unfold withS
  congr 1
  rw [Bool.eq_iff_iff, decide_eq_true_eq, (hp.map _).mem_iff, h.mem]
abbrev LR := List Ix.Rec × Value
abbrev lrC (x : LR) : List Value := [x.2]
def LLS (I : Heap) (l : List LR) (v : Value) : Prop := RowS lrC I l v ∧ ∀ x ∈ l, RowS recC I x.1 x.2
theorem LLS.mono {I I' : Heap} {l : List LR} {v : Value} (h : LLS I l v) (hle : Le I I') : LLS I' l v := ⟨h.1.mono hle, fun x hx => (h.2 x hx).mono hle⟩
theorem sl_of_row {ls : List LR} {lcs lsp : List Value} {lo : Nat} (h : lcs.drop lo = ls.flatMap lrC ++ lsp) {i : Nat} {x : LR} (hx : ls[i]? = some x) : lcs[lo + i]? = some x.2 := by
  have h9 := row_fcell (f := lrC) (n := 1) (fun _ => rfl) h hx 0 Nat.zero_lt_one
  rw [Nat.mul_one, Nat.add_zero] at h9
  exact h9
theorem lr_next {l : List LR} {i : Nat} {x : LR} (h : l[i]? = some x) : (l.take (i + 1)).flatMap (·.1) = (l.take i).flatMap (·.1) ++ x.1 := by
  obtain ⟨hlt, hg⟩ := List.getElem?_eq_some_iff.1 h
  rw [List.take_succ_eq_append_getElem hlt, hg, List.flatMap_append]
  simp
theorem rec_next {l : List Ix.Rec} {i : Nat} {x : Ix.Rec} (h : l[i]? = some x) (P : List Ix.Rec) : P ++ l.take (i + 1) = (P ++ l.take i) ++ [x] := by
  obtain ⟨hlt, hg⟩ := List.getElem?_eq_some_iff.1 h
  rw [List.take_succ_eq_append_getElem hlt, hg, List.append_assoc]
theorem rowS_len {α : Type} {f : α → List Value} {I : Heap} {l : List α} {v : Value} (h : RowS f I l v) : ∃ p c, v = .slice p l.length c := let ⟨p, c, h1, _⟩ := h; ⟨p, c, h1⟩
def IxV (I : Heap) (v : Value) (L : Ix.Ix) : Prop := (v = .pointer none ∧ L = []) ∨ ∃ ib, v = ptr ib 0 ∧ IxP I ib L
theorem IxV.mono {I I' : Heap} {v : Value} {L : Ix.Ix} (h : IxV I v L) (hle : Le I I') : IxV I' v L := h.imp id fun ⟨ib, h1, h2⟩ => ⟨ib, h1, h2.mono hle⟩
theorem IxV.srt {I : Heap} {v : Value} {L : Ix.Ix} (h : IxV I v L) : Ix.Srt L := by
  rcases h with ⟨_, rfl⟩ | ⟨ib, _, h⟩
  · exact List.Pairwise.nil
  exact h.srt
theorem IxV.big {I : Heap} {v : Value} {L : Ix.Ix} (h : IxV I v L) : L.length ≤ 100000 := by
  rcases h with ⟨_, rfl⟩ | ⟨ib, _, h⟩
  · exact Nat.zero_le _
  exact h.big
end Go.Proofs.YtekmeaoblpfnpaaGreatDoor
end
section
namespace Go.Proofs.YtekmeaoblpfnpaaGreatDoor
open Go Go.Sx
theorem none_in {l : List Ix.Rec} (h : ∀ t, t ∈ l → t ∈ ([] : Ix.Ix).map (·.1)) : l = [] := List.eq_nil_iff_forall_not_mem.2 fun t ht => by have := h t ht; cases this
theorem WordV_ok (xv : Value) (L : Ix.Ix) (n s : List UInt8) (hs : s.length ≤ 100000000) (I : Heap) (hx : IxV I xv L) : Ctr Tryz.prog 32 [xv, str n, str s] I [] (fun e _ H' => ∃ v, e = .returned v ∧ OwnT (Ix.word L n s) v H') := by
  rcases hx with ⟨rfl, rfl⟩ | ⟨ib, rfl, hx⟩
  · refine (Word_nil n s hs I).mono fun e I' H' _ ⟨h1, h2⟩ => ⟨_, h1, ?_⟩
    rw [none_in fun t ht => Ix.word_in (L := []) ht, h2]
    exact own_nil
  exact Word_ok ib L n s hs I hx
theorem PhraseV_ok (xv : Value) (L : Ix.Ix) (n s : List UInt8) (hs : s.length ≤ 100000000) (I : Heap) (hx : IxV I xv L) : Ctr Tryz.prog 33 [xv, str n, str s] I [] (fun e _ H' => ∃ v, e = .returned v ∧ OwnT (Ix.phrase L n (Ke.words s)) v H') := by
  rcases hx with ⟨rfl, rfl⟩ | ⟨ib, rfl, hx⟩
  · refine (Phrase_nil n s hs I).mono fun e I' H' _ ⟨h1, h2⟩ => ⟨_, h1, ?_⟩
    rw [none_in fun t ht => Ix.phrase_in (L := []) ht, h2]
    exact own_nil
  exact Phrase_ok ib L n s hs I hx
theorem KeyV_ok (xv : Value) (L : Ix.Ix) (n s : List UInt8) (hs : s.length ≤ 100000000) (I : Heap) (hx : IxV I xv L) : Ctr Tryz.prog 34 [xv, str n, str s] I [] (fun e _ H' => ∃ v, e = .returned v ∧ OwnT (Ix.withK L n (Ix.keyOf n s)) v H') := by
  rcases hx with ⟨rfl, rfl⟩ | ⟨ib, rfl, hx⟩
  · refine (Key_nil n s I).mono fun e I' H' _ ⟨h1, h2⟩ => ⟨_, h1, ?_⟩
    rw [none_in fun t ht => Ix.withK_in (L := []) ht, h2]
    exact own_nil
  exact Key_ok ib L n s hs I hx
theorem ScanV_ok (xv : Value) (L : Ix.Ix) (n s : List UInt8) (hs : s.length ≤ 100000000) (most : Int) (I : Heap) (hx : IxV I xv L) : Ctr Tryz.prog 160 [xv, str n, str s, i64 most] I [] (fun e _ H' => ∃ v, e = .returned v ∧ OwnL (Ix.scan L n s most) v H') := by
  rcases hx with ⟨rfl, rfl⟩ | ⟨ib, rfl, hx⟩
  · refine (Scan_nil n s most I).mono fun e I' H' _ ⟨h1, h2⟩ => ⟨_, h1, .inl ⟨?_, rfl, h2⟩⟩
    unfold Ix.scan Ix.keysAll
    simp
  exact Scan_ok ib L n s hs most I hx
theorem SortV_ok (xv : Value) (L : Ix.Ix) (t : Ix.Rec) (I : Heap) (hx : IxV I xv L) : Pure Tryz.prog 28 [xv, kvR t] I (str (Ix.sortOf L t)) := by
  rcases hx with ⟨rfl, rfl⟩ | ⟨ib, rfl, hx⟩
  · exact Sort_nil t I
  exact Sort_ok' ib L t I hx
end Go.Proofs.YtekmeaoblpfnpaaGreatDoor
end
section
set_option maxHeartbeats 40000000
namespace Go.Proofs.YtekmeaoblpfnpaaGreatDoor
open _root_.Go.Proofs.Tryz
open Go Go.Sx
structure TC where
  vis : ML Ix.Rec
  rest : ML Ix.Rec
  l : ML Ix.Rec
  c : Nat
theorem of_ok (ls : List LR) (v : Value) (hll : ls.length ≤ 1000000000000) (hlen : ∀ x ∈ ls, x.1.length ≤ 1000000) (I : Heap) (hls : LLS I ls v) : Ctr Tryz.prog 152 [v] I [] (fun e _ H' => ∃ w, e = .returned w ∧ OwnS w (inL (ls.flatMap (·.1))) H') := by
 obtain ⟨⟨p, c, rfl, hc, hp⟩, hrs⟩ := hls
 refine xob func152 fun w0 hw0 => ?_
 refine axn 7 ?_
 refine J.op rfl (op_makeMap rfl rfl rfl ?_)
 intro b1 hb1
 refine axn 12 ?_
 refine Cj.loop (ι := Nat × ML Ix.Rec × Nat) (fun y => y.1 ≤ ls.length ∧ SetM y.2.1 y.2.2 (inL ((ls.take y.1).flatMap (·.1)))) (fun y => ls.length - y.1) (fun y => [(3, .map (some b1)), (9, .slice p ls.length c), (10, i64 (ls.length : Int)), (11, i64 (y.1 : Int))]) (fun y => _) (fun y => [(b1, mobj kvR y.2.1 y.2.2)]) (0, [], 0) ⟨Nat.zero_le _, SetM.nil⟩ ⟨rfl, rfl, rfl, rfl, trivial⟩ rfl rfl ?_
 rintro ⟨i, l, cc⟩ ⟨hi, hM⟩
 dsimp only at hi hM ⊢
 refine axc (fun hc2 hc2p => ?_) (fun hc2 hc2p => ?_)
 ·
  have hlt : i < ls.length := by omega
  obtain ⟨⟨xs, xv⟩, hget⟩ : ∃ x, ls[i]? = some x := ⟨_, List.getElem?_eq_getElem hlt⟩
  obtain ⟨fb, fo, fcs, fty, ffr, fsp, rfl, hfb, hfd⟩ := hp (ne_nil_of hlt)
  have hx2 := hrs _ (List.mem_of_getElem? hget)
  obtain ⟨p2, c2, hxe, hc2, hp2⟩ := id hx2
  dsimp only at hxe hc2 hp2
  subst hxe
  have hxl := hlen _ (List.mem_of_getElem? hget)
  dsimp only at hxl
  refine xix (fo + i) ?_
  refine J.z (yl_load rfl rfl isAgg36 (Blk.imm hfb) (sl_of_row hfd hget)) ?_
  refine axn 11 ?_
  refine Cj.loop (ι := Nat × ML Ix.Rec × Nat) (fun y => y.1 ≤ xs.length ∧ SetM y.2.1 y.2.2 (inL (((ls.take i).flatMap (·.1)) ++ xs.take y.1))) (fun y => xs.length - y.1) (fun y => [(3, .map (some b1)), (9, .slice (some ⟨fb, fo, none⟩) ls.length c), (10, i64 (ls.length : Int)), (11, i64 (i : Int)), (15, .slice p2 xs.length c2), (16, i64 (xs.length : Int)), (17, i64 (y.1 : Int))]) (fun y => _) (fun y => [(b1, mobj kvR y.2.1 y.2.2)]) (0, _, _) ⟨Nat.zero_le _, by rw [List.take_zero, List.append_nil]; exact hM⟩ ⟨rfl, rfl, rfl, rfl, rfl, rfl, rfl, trivial⟩ rfl rfl ?_
  clear hM
  rintro ⟨j, l, cc⟩ ⟨hj, hM⟩
  dsimp only at hj hM ⊢
  refine axc (fun hc3 hc3p => ?_) (fun hc3 hc3p => ?_)
  ·
   have hlj : j < xs.length := by omega
   obtain ⟨y, hgy⟩ : ∃ y, xs[j]? = some y := ⟨_, List.getElem?_eq_getElem hlj⟩
   obtain ⟨qb, qo, qcs, qty, qfr, qsp, rfl, hqb, hqd⟩ := hp2 (ne_nil_of hlj)
   refine xix (qo + j * 2) ?_
   refine J.z (yl_loadAgg rfl rfl isAgg54 sizeOf54 (Blk.imm hqb) (row_from recC_len hqd hgy) rfl) ?_
   refine axn 1 ?_
   intro b4 hb4
   refine axn 6 ?_
   refine J.op rfl (op_insert (kv := kvR) (a := y) 1 (.inr rfl) rfl rfl rfl rfl rfl underlying120 keyR rfl (LSet.s LSet.z) ?_)
   refine axn 7 ?_
   refine Ej.keep (Keeps.d (Keeps.k Keeps.n)) ?_
   refine Ej.round (j + 1, _, _) ⟨by dsimp only; omega, by dsimp only; rw [rec_next hgy]; exact hM.push y⟩ (by dsimp only; omega) ⟨rfl, rfl, rfl, rfl, rfl, rfl, rfl, trivial⟩ rfl rfl
  refine axn 10 ?_
  refine Ej.round (i + 1, _, _) ⟨by dsimp only; omega, by dsimp only; rw [lr_next hget]; rw [List.take_of_length_le (by omega : xs.length ≤ j)] at hM; exact hM⟩ (by dsimp only; omega) ⟨rfl, rfl, rfl, rfl, trivial⟩ rfl rfl
 refine axn 12 ?_
 rw [List.take_of_length_le (by omega : ls.length ≤ i)] at hM
 refine axe ?_
 exact ⟨_, rfl, b1, l, cc, rfl, hM, rfl⟩
theorem only_some (mb : Nat) (m : ML Ix.Rec) (k : Nat) (S P : Ix.Rec → Bool) (g : Nat) (cap : List Value) (hm : SetM m k S) (I : Heap) (hmb : I mb = some (mobj kvR m k)) (hcl : ∀ t, S t = true → Pure Tryz.prog g (kvR t :: cap) I (.bool (P t))) : Ctr Tryz.prog 103 [.map (some mb), .func (.func g) #[] cap.toArray] I [] (fun e _ H' => ∃ w, e = .returned w ∧ OwnS w (fun t => S t && P t) H') := by
 have hms := hm.1
 refine xob func103 fun w0 hw0 => ?_
 refine axn 7 ?_
 refine J.op rfl (op_makeMap rfl rfl rfl ?_)
 intro b1 hb1
 refine axn 7 ?_
 refine J.op rfl (op_rangeMap (kv := kvR) (l := m) rfl rfl rfl rfl underlying120 (Blk.imm hmb) ?_)
 intro b2 hb2
 refine axn 3 ?_
 refine Cj.loop (ι := TC) (fun y => (y.vis ++ y.rest).Perm m ∧ SetM y.l y.c (onlyS y.vis P)) (fun y => y.rest.length) (fun y => [(1, .func (.func g) #[] cap.toArray), (5, .map (some b1)), (9, ptr b2 0)]) (fun y => _) (fun y => [(b2, mit mb k y.vis k), (b1, mobj kvR y.l y.c)]) ⟨[], m, [], 0⟩ ⟨.refl _, SetM.nil.congr fun _ => rfl⟩ ⟨rfl, rfl, rfl, trivial⟩ rfl rfl ?_
 rintro ⟨vis, rest, l, cc⟩ ⟨hp, hM⟩
 dsimp only at hp hM ⊢
 refine axn 2 ?_
 refine J.op rfl (op_nextMap (kv := kvR) (l := m) 0 rfl rfl rfl rfl rfl (Blk.imm hmb) hms.2.2 (Nat.le_refl _) hms.2.1 hp ?_ ?_)
 ·
  rintro x rest2 H9 hrx hpx ⟨-, hset⟩; simp only [List.set_cons_zero] at hset; subst hset
  have hxm : x ∈ m := hpx.mem_iff.1 (List.mem_append_left _ (List.mem_append_right _ (.head _)))
  have hSx : S x.1 = true := (hm.mem x.1).1 (List.mem_map_of_mem hxm)
  refine axn 10 ?_
  refine J.z (yl_entry (kv := kvR) (l := m) rfl rfl (Blk.at 0 rfl) (Blk.imm hmb) hxm hms.2.1) ?_
  refine axn 2 ?_
  intro b4 hb4
  refine xpu (hcl x.1 hSx) ?_
  refine ax0 (fun hc16 => ?_) (fun hc16 => ?_)
  ·
   have hPx : P x.1 = true := hc16
   refine axn 3 ?_
   refine J.op rfl (op_insert (kv := kvR) (a := x.1) 2 (.inr rfl) rfl rfl rfl rfl rfl underlying120 keyR rfl (LSet.s (LSet.s LSet.z)) ?_)
   refine axn 2 ?_
   refine Ej.keep (Keeps.d (Keeps.k (Keeps.k Keeps.n))) ?_
   refine Ej.round ⟨vis ++ [x], rest2, _, _⟩ ⟨hpx, hM.add x.1 (onlyS_yes hPx)⟩ (by have h := hrx.length_eq; simp only [List.length_cons] at h; dsimp only; omega) ⟨rfl, rfl, rfl, trivial⟩ rfl rfl
  have hPx : P x.1 = false := hc16
  refine axn 2 ?_
  refine Ej.keep (Keeps.d (Keeps.k (Keeps.k Keeps.n))) ?_
  refine Ej.round ⟨vis ++ [x], rest2, l, cc⟩ ⟨hpx, hM.congr fun t => (onlyS_no hPx t).symm⟩ (by have h := hrx.length_eq; simp only [List.length_cons] at h; dsimp only; omega) ⟨rfl, rfl, rfl, trivial⟩ rfl rfl
 intro hend
 have hpv : vis.Perm m := by rw [hend, List.append_nil] at hp; exact hp
 refine axn 17 ?_
 refine Ej.keep (Keeps.d (Keeps.k Keeps.n)) ?_
 refine axe ?_
 exact ⟨_, rfl, b1, l, cc, rfl, hM.congr (onlyS_all hm hpv), rfl⟩
theorem only_none (g : Nat) (cap : List Value) (S P : Ix.Rec → Bool) (hS : ∀ t, S t = false) (I : Heap) : Ctr Tryz.prog 103 [.map none, .func (.func g) #[] cap.toArray] I [] (fun e _ H' => ∃ w, e = .returned w ∧ OwnS w (fun t => S t && P t) H') := by
 refine xob func103 fun w0 hw0 => ?_
 refine axn 7 ?_
 refine J.op rfl (op_makeMap rfl rfl rfl ?_)
 intro b1 hb1
 refine axn 7 ?_
 refine J.op rfl (op_rangeNil rfl rfl rfl rfl underlying120 ?_)
 intro b2 hb2
 refine axn 3 ?_
 refine Cj.rounds 1 ?_
 refine Rj.succ ?_
 refine axn 2 ?_
 refine J.op rfl (op_nextNil 0 rfl rfl rfl rfl rfl ?_)
 refine axn 17 ?_
 refine Ej.keep (Keeps.d (Keeps.k Keeps.n)) ?_
 refine axe ?_
 exact ⟨_, rfl, _, [], 0, rfl, SetM.nil.congr (fun t => by rw [hS t]; rfl), rfl⟩
theorem only_ok (v : Value) (S P : Ix.Rec → Bool) (g : Nat) (cap : List Value) (I : Heap) (h : SetV I v S) (hcl : ∀ t, S t = true → Pure Tryz.prog g (kvR t :: cap) I (.bool (P t))) : Ctr Tryz.prog 103 [v, .func (.func g) #[] cap.toArray] I [] (fun e _ H' => ∃ w, e = .returned w ∧ OwnS w (fun t => S t && P t) H') := by
  rcases h with ⟨rfl, hS⟩ | ⟨b, m, k, rfl, hm, hb⟩
  · exact only_none g cap S P hS I
  exact only_some b m k S P g cap hm I hb hcl
theorem shas_some (xb : Nat) (S : Ix.Rec → Bool) (mb : Nat) (m : ML Ix.Rec) (k : Nat) (hm : SetM m k S) (t : Ix.Rec) (I : Heap) (hxb : I xb = some (cel 120 [.map (some mb)])) (hmb : I mb = some (mobj kvR m k)) : Pure Tryz.prog 157 [kvR t, ptr xb 0] I (.bool (S t)) := by
 refine Ctr.toPure ?_
 have hget := hm.get t
 refine xob func157 fun w0 hw0 => ?_
 refine axn 3 ?_
 intro b1 hb1
 refine axn 7 ?_
 refine J.z (yl_lookup1 (kv := kvR) (l := m) (a := t) rfl rfl rfl rfl underlying120 keyR zeroValue4 (Blk.imm hmb)) ?_
 refine J.ev 6 (.bool (S t)) rfl hget ?_
 refine axr ?_
 exact ⟨rfl, rfl⟩
theorem shas_none (xb : Nat) (S : Ix.Rec → Bool) (hS : ∀ t, S t = false) (t : Ix.Rec) (I : Heap) (hxb : I xb = some (cel 120 [.map none])) : Pure Tryz.prog 157 [kvR t, ptr xb 0] I (.bool (S t)) := by
 refine Ctr.toPure ?_
 have hget : Value.bool false = .bool (S t) := by rw [hS t]
 refine xob func157 fun w0 hw0 => ?_
 refine axn 3 ?_
 intro b1 hb1
 refine axn 7 ?_
 refine J.z (yl_lookupNil1 (kv := kvR) (a := t) rfl rfl rfl rfl underlying120 keyR zeroValue4) ?_
 refine J.ev 6 (.bool (S t)) rfl hget ?_
 refine axr ?_
 exact ⟨rfl, rfl⟩
theorem shas_ok (xb : Nat) (v : Value) (S : Ix.Rec → Bool) (t : Ix.Rec) (I : Heap) (hxb : I xb = some (cel 120 [v])) (h : SetV I v S) : Pure Tryz.prog 157 [kvR t, ptr xb 0] I (.bool (S t)) := by
  rcases h with ⟨rfl, hS⟩ | ⟨b, m, k, rfl, hm, hb⟩
  · exact shas_none xb S hS t I hxb
  exact shas_some xb S b m k hm t I hxb hb
theorem and1_some (xb : Nat) (S : Ix.Rec → Bool) (mb : Nat) (m : ML Ix.Rec) (k : Nat) (hm : SetM m k S) (t : Ix.Rec) (I : Heap) (hxb : I xb = some (cel 120 [.map (some mb)])) (hmb : I mb = some (mobj kvR m k)) : Pure Tryz.prog 104 [kvR t, ptr xb 0] I (.bool (S t)) := by
 refine Ctr.toPure ?_
 have hget := hm.get t
 refine xob func104 fun w0 hw0 => ?_
 refine axn 3 ?_
 intro b1 hb1
 refine axn 7 ?_
 refine J.z (yl_lookup1 (kv := kvR) (l := m) (a := t) rfl rfl rfl rfl underlying120 keyR zeroValue4 (Blk.imm hmb)) ?_
 refine J.ev 6 (.bool (S t)) rfl hget ?_
 refine axr ?_
 exact ⟨rfl, rfl⟩
theorem and1_none (xb : Nat) (S : Ix.Rec → Bool) (hS : ∀ t, S t = false) (t : Ix.Rec) (I : Heap) (hxb : I xb = some (cel 120 [.map none])) : Pure Tryz.prog 104 [kvR t, ptr xb 0] I (.bool (S t)) := by
 refine Ctr.toPure ?_
 have hget : Value.bool false = .bool (S t) := by rw [hS t]
 refine xob func104 fun w0 hw0 => ?_
 refine axn 3 ?_
 intro b1 hb1
 refine axn 7 ?_
 refine J.z (yl_lookupNil1 (kv := kvR) (a := t) rfl rfl rfl rfl underlying120 keyR zeroValue4) ?_
 refine J.ev 6 (.bool (S t)) rfl hget ?_
 refine axr ?_
 exact ⟨rfl, rfl⟩
theorem and1_ok (xb : Nat) (v : Value) (S : Ix.Rec → Bool) (t : Ix.Rec) (I : Heap) (hxb : I xb = some (cel 120 [v])) (h : SetV I v S) : Pure Tryz.prog 104 [kvR t, ptr xb 0] I (.bool (S t)) := by
  rcases h with ⟨rfl, hS⟩ | ⟨b, m, k, rfl, hm, hb⟩
  · exact and1_none xb S hS t I hxb
  exact and1_some xb S b m k hm t I hxb hb
theorem not1_some (xb : Nat) (S : Ix.Rec → Bool) (mb : Nat) (m : ML Ix.Rec) (k : Nat) (hm : SetM m k S) (t : Ix.Rec) (I : Heap) (hxb : I xb = some (cel 120 [.map (some mb)])) (hmb : I mb = some (mobj kvR m k)) : Pure Tryz.prog 105 [kvR t, ptr xb 0] I (.bool (!S t)) := by
 refine Ctr.toPure ?_
 have hget := hm.get t
 refine xob func105 fun w0 hw0 => ?_
 refine axn 3 ?_
 intro b1 hb1
 refine axn 7 ?_
 refine J.z (yl_lookup1 (kv := kvR) (l := m) (a := t) rfl rfl rfl rfl underlying120 keyR zeroValue4 (Blk.imm hmb)) ?_
 refine J.ev 6 (.bool (S t)) rfl hget ?_
 refine axr ?_
 exact ⟨rfl, rfl⟩
theorem not1_none (xb : Nat) (S : Ix.Rec → Bool) (hS : ∀ t, S t = false) (t : Ix.Rec) (I : Heap) (hxb : I xb = some (cel 120 [.map none])) : Pure Tryz.prog 105 [kvR t, ptr xb 0] I (.bool (!S t)) := by
 refine Ctr.toPure ?_
 have hget : Value.bool false = .bool (S t) := by rw [hS t]
 refine xob func105 fun w0 hw0 => ?_
 refine axn 3 ?_
 intro b1 hb1
 refine axn 7 ?_
 refine J.z (yl_lookupNil1 (kv := kvR) (a := t) rfl rfl rfl rfl underlying120 keyR zeroValue4) ?_
 refine J.ev 6 (.bool (S t)) rfl hget ?_
 refine axr ?_
 exact ⟨rfl, rfl⟩
theorem not1_ok (xb : Nat) (v : Value) (S : Ix.Rec → Bool) (t : Ix.Rec) (I : Heap) (hxb : I xb = some (cel 120 [v])) (h : SetV I v S) : Pure Tryz.prog 105 [kvR t, ptr xb 0] I (.bool (!S t)) := by
  rcases h with ⟨rfl, hS⟩ | ⟨b, m, k, rfl, hm, hb⟩
  · exact not1_none xb S hS t I hxb
  exact not1_some xb S b m k hm t I hxb hb
theorem yes_ok (t : Ix.Rec) (I : Heap) : Pure Tryz.prog 106 [kvR t] I (.bool true) := by
 refine Ctr.toPure ?_
 refine xob func106 fun w0 hw0 => ?_
 refine axn 3 ?_
 intro b1 hb1
 refine axr ?_
 exact ⟨rfl, rfl⟩
end Go.Proofs.YtekmeaoblpfnpaaGreatDoor
end
section
namespace Cq
def Qs.kinds : Qs → List Int
  | .nil => []
  | .cons k _ _ _ _ rest => k :: rest.kinds
def form1 (k : Int) (i r t : List UInt8) (n : Nat) (ps : Bool) : Bool :=
  if k = 1 then indexes.contains i && relations.contains r && n == 0
  else if k < 2 ∨ k > 4 ∨ i ≠ [] ∨ r ≠ [] ∨ t ≠ [] ∨ n ≠ 2 then false else ps
def Qs.forms : Qs → Bool
  | .nil => true
  | .cons k i r t ps rest => form1 k i r t ps.len ps.forms && rest.forms
def form (q : Qn) : Bool := form1 q.k q.i q.r q.t q.ps.len q.ps.forms
def up (k : Int) : Nat := if k = 1 then 0 else 1
def depth1 (k : Int) (ks : List Int) (ds : List Nat) : Nat :=
  if k = 1 then 0 else match ks, ds with
    | [_, k1], [a, b] => max (b + up k1) a
    | _, _ => 0
def Qs.depths : Qs → List Nat
  | .nil => []
  | .cons k _ _ _ ps rest => depth1 k ps.kinds ps.depths :: rest.depths
def depth (q : Qn) : Nat := depth1 q.k q.ps.kinds q.ps.depths
def right (q : Qn) : Bool := form q && decide (depth q ≤ 50)
def Qs.size : Qs → Nat
  | .nil => 0
  | .cons _ _ _ _ ps rest => ps.size + rest.size + 1
def Qn.size (q : Qn) : Nat := q.ps.size
def Qn.Two (q a b : Qn) : Prop := q.ps = a.push (b.push .nil)
theorem Qs.two_of : ∀ {ps : Qs}, ps.len = 2 → ∃ a b : Qn, ps = a.push (b.push .nil)
  | .nil, h => by simp [Qs.len] at h
  | .cons _ _ _ _ _ .nil, h => by simp [Qs.len] at h
  | .cons k i r t ps (.cons k' i' r' t' ps' .nil), _ => ⟨⟨k, i, r, t, ps⟩, ⟨k', i', r', t', ps'⟩, rfl⟩
  | .cons _ _ _ _ _ (.cons _ _ _ _ _ (.cons _ _ _ _ _ _)), h => by simp [Qs.len] at h
theorem Qn.Two.size {q a b : Qn} (h : q.Two a b) : a.size < q.size ∧ b.size < q.size := by
  simp only [Qn.size, show q.ps = _ from h, Qn.push, Qs.size]; omega
theorem Qn.Two.len {q a b : Qn} (h : q.Two a b) : q.ps.len = 2 := by rw [show q.ps = _ from h]; rfl
theorem form_term {q : Qn} (h : q.k = 1) : form q = (indexes.contains q.i && relations.contains q.r && q.ps.len == 0) := by simp [form, form1, h]
theorem form_bad {q : Qn} (h : q.k ≠ 1) (h2 : q.k < 2 ∨ q.k > 4 ∨ q.i ≠ [] ∨ q.r ≠ [] ∨ q.t ≠ [] ∨ q.ps.len ≠ 2) : form q = false := by unfold form form1; rw [if_neg h, if_pos h2]
theorem form_two {q a b : Qn} (h : q.k ≠ 1) (h2 : ¬ (q.k < 2 ∨ q.k > 4 ∨ q.i ≠ [] ∨ q.r ≠ [] ∨ q.t ≠ [] ∨ q.ps.len ≠ 2)) (ht : q.Two a b) : form q = (form a && form b) := by
  unfold form form1
  rw [if_neg h, if_neg h2, show q.ps = _ from ht]
  simp [Qn.push, Qs.forms, form1]
theorem form_tree {q : Qn} (h : form q = true) : q.k = 1 ∨ (q.k ≠ 1 ∧ 2 ≤ q.k ∧ q.k ≤ 4 ∧ ∃ a b, q.Two a b ∧ form a = true ∧ form b = true) := by
  by_cases h1 : q.k = 1
  · exact .inl h1
  by_cases h2 : q.k < 2 ∨ q.k > 4 ∨ q.i ≠ [] ∨ q.r ≠ [] ∨ q.t ≠ [] ∨ q.ps.len ≠ 2
  · rw [form_bad h1 h2] at h; cases h
  obtain ⟨a, b, hab⟩ := Qs.two_of (ps := q.ps) (by omega)
  rw [form_two h1 h2 hab, Bool.and_eq_true] at h
  exact .inr ⟨h1, by omega, by omega, a, b, hab, h.1, h.2⟩
theorem depth_term {q : Qn} (h : q.k = 1) : depth q = 0 := by simp [depth, depth1, h]
theorem depth_two {q a b : Qn} (h : q.k ≠ 1) (ht : q.Two a b) : depth q = max (depth b + up b.k) (depth a) := by
  unfold depth
  rw [show q.ps = _ from ht]
  simp [Qn.push, Qs.depths, Qs.kinds, depth1, h]
def Qs.wide : Qs → Nat
  | .nil => 0
  | .cons _ i r t ps rest => i.length + r.length + t.length + ps.wide + rest.wide
def Qn.wide (q : Qn) : Nat := q.i.length + q.r.length + q.t.length + q.ps.wide
theorem Qn.Two.wide {q a b : Qn} (h : q.Two a b) : a.wide ≤ q.wide ∧ b.wide ≤ q.wide := by
  unfold Qn.wide; rw [show q.ps = _ from h]; simp only [Qn.push, Qs.wide]; omega
def deep (q : Qn) : Int := if form q then (depth q : Int) else -1
theorem deep_term {q : Qn} (h : q.k = 1) : deep q = if (indexes.contains q.i && relations.contains q.r && q.ps.len == 0) then 0 else -1 := by
  unfold deep; rw [form_term h, depth_term h]; rfl
theorem deep_bad {q : Qn} (h : q.k ≠ 1) (h2 : q.k < 2 ∨ q.k > 4 ∨ q.i ++ q.r ++ q.t ≠ [] ∨ q.ps.len ≠ 2) : deep q = -1 := by
  unfold deep
  rw [form_bad h (by
    rcases h2 with h2 | h2 | h2 | h2
    · exact .inl h2
    · exact .inr (.inl h2)
    · by_cases hi : q.i = []
      · by_cases hr : q.r = []
        · exact .inr (.inr (.inr (.inr (.inl fun ht => h2 (by simp [hi, hr, ht])))))
        exact .inr (.inr (.inr (.inl hr)))
      exact .inr (.inr (.inl hi))
    exact .inr (.inr (.inr (.inr (.inr h2)))))]
  rfl
theorem deep_two {q a b : Qn} (h : q.k ≠ 1) (h2 : ¬ (q.k < 2 ∨ q.k > 4 ∨ q.i ≠ [] ∨ q.r ≠ [] ∨ q.t ≠ [] ∨ q.ps.len ≠ 2)) (ht : q.Two a b) : deep q = if min (deep a) (deep b) < 0 then -1 else max (deep a) (deep b + up b.k) := by
  unfold deep
  rw [form_two h h2 ht, depth_two h ht]
  cases form a <;> cases form b <;> simp <;> omega
theorem deep_ge (q : Qn) : -1 ≤ deep q := by unfold deep; split <;> omega
theorem depth_size : ∀ (n : Nat) (q : Qn), q.size < n → form q = true → depth q ≤ q.size
  | 0, q, h, _ => by omega
  | n + 1, q, h, hf => by
    rcases form_tree hf with hk | ⟨hk, _, _, a, b, htw, ha, hb⟩
    · rw [depth_term hk]; exact Nat.zero_le _
    have h1 := htw.size
    have ha' := depth_size n a (by omega) ha
    have hb' := depth_size n b (by omega) hb
    have hu : up b.k ≤ 1 := by unfold up; split <;> omega
    rw [depth_two hk htw]
    omega
theorem deep_le (q : Qn) : deep q ≤ q.size := by
  unfold deep
  split
  · rename_i h; have := depth_size _ q (Nat.lt_succ_self _) h; omega
  omega
theorem deep_right (q : Qn) : (decide (deep q ≥ 0) && decide (deep q ≤ 50)) = right q := by
  unfold deep right
  cases form q <;> simp
  omega
end Cq
end
