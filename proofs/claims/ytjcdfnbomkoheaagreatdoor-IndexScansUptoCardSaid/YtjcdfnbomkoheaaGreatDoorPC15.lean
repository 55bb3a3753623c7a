/-
  Own texts on the laws of the seat, joined: the logic, and contracts of functions. Conditions: none.
-/
import Derived.Test.YtjcdfnbomkoheaaGreatDoorPC14
import Derived.Test.YtjcdfnbomkoheaaGreatDoorPC7
import Derived.Test.YtjcdfnbomkoheaaGreatDoorPC11
import Derived.Test.YtjcdfnbomkoheaaGreatDoorPC6
set_option maxRecDepth 100000
set_option maxHeartbeats 4000000
section
namespace Go.Proofs.YtjcdfnbomkoheaaGreatDoor
open _root_.Go.Proofs.Tryz
open Go Go.Sx
abbrev lineA (x : List UInt8 × Int) : Array Value := #[str x.1, i64 x.2]
theorem eqLine : EqK Tryz.prog 57 lineA := EqK.textInt underlying57 (by kernel_rfl) (by decide) (by decide) rfl rfl rfl rfl underlying9 underlying3 isAgg9 isAgg3
theorem take_eqR {α : Type} {a b : List α} {k : Nat} {x y : α} (h : a.take k = b.take k) (hx : a[k]? = some x) (hy : b[k]? = some y) (he : x = y) : a.take (k + 1) = b.take (k + 1) := by
  obtain ⟨h1, e1⟩ := List.getElem?_eq_some_iff.1 hx
  obtain ⟨h2, e2⟩ := List.getElem?_eq_some_iff.1 hy
  rw [List.take_succ_eq_append_getElem h1, List.take_succ_eq_append_getElem h2, h, e1, e2, he]
theorem rRecs_ok (a b : List Ix.Rec) (va vb : Value) (hal : a.length ≤ 100000000000000) (I : Heap) (ha : RowS recC I a va) (hb : RowS recC I b vb) : Pure Tryz.prog 18 [va, vb] I (.bool (decide (a = b))) := by
 refine Ctr.toPure ?_
 obtain ⟨p1, c1, rfl, hc1, hp1⟩ := ha
 obtain ⟨p2, c2, rfl, hc2, hp2⟩ := hb
 refine Ctr.ob func18 ?_
 intro w0 hw0
 refine Cj.sr (J.z q1 ?_)
 refine J.nsss (Cj.region (J.z q0 ?_))
 refine J.z (q16 underlying44) ?_
 refine J.z q0 ?_
 refine J.z (q16 underlying44) ?_
 refine J.z (yl_neq rfl rfl rfl) ?_
 refine J.cd (fun hc1 => ?_) (fun hc1 => ?_)
 ·
  have hc1p := bne_iff_ne.1 hc1
  have hln : a.length ≠ b.length := by have h := bne_iff_ne.1 hc1; omega
  refine Cj.sr (J.z q1 ?_)
  refine J.ns (Cj.ret (Ej.seqRet (q6 ?_)))
  rw [decide_eq_false (fun e => hln (by rw [e]))]
  exact ⟨rfl, rfl⟩
 have hc1p := bne_f hc1
 have hlen : a.length = b.length := by have h := bne_f hc1; omega
 refine Cj.skip (Ej.seq (Cj.seq (Cj.sr (J.z q1 ?_))))
 refine J.ns (Cj.block (Cj.loop (ι := Nat) (fun j => j ≤ a.length ∧ a.take j = b.take j) (fun j => a.length - j) (fun j => [(0, .slice p1 a.length c1), (1, .slice p2 b.length c2), (5, i64 (j : Int))]) (fun j => _) (fun j => []) 0 ⟨Nat.zero_le _, rfl⟩ ⟨rfl, rfl, rfl, trivial⟩ rfl rfl ?_))
 rintro j ⟨hj, hall⟩
 refine Cj.seq (Cj.sr (J.z q0 ?_))
 refine J.z q0 ?_
 refine J.z (q16 underlying44) ?_
 refine J.z q17 ?_
 refine J.cd (fun hc2 => ?_) (fun hc2 => ?_)
 ·
  have hc2p := of_decide_eq_true hc2
  have hlt : j < a.length := by omega
  obtain ⟨x, hx⟩ : ∃ x, a[j]? = some x := ⟨_, List.getElem?_eq_getElem hlt⟩
  obtain ⟨y, hy⟩ : ∃ y, b[j]? = some y := ⟨_, List.getElem?_eq_getElem (by omega)⟩
  obtain ⟨fa, oa, acs, aty, afr, asp, rfl, hfa, had⟩ := hp1 (ne_nil_of hlt)
  obtain ⟨fb, ob, bcs, bty, bfr, bsp, rfl, hfb, hbd⟩ := hp2 (ne_nil_of (by omega : j < b.length))
  refine Cj.skip (Ej.seq (Cj.seq (Cj.block (Cj.seq (Cj.drawSel [] [] 9 (by kernel_rfl) ?_)))))
  refine JA.fix fx1 (fun fx3 => ?_)
  refine JA.tk 0 rfl fx3 q0 ?_
  refine JA.tk 1 rfl fx3 q0 ?_
  refine JA.tk 2 rfl fx3 (q24 (off' := oa + j * 2) underlying44 sizeOf26) ?_
  refine JA.tk 3 rfl fx3 (yl_loadAgg rfl rfl isAgg26 sizeOf26 (Blk.immC hfa) (row_from recC_len had hx) rfl) ?_
  refine JA.tk 4 rfl fx3 q0 ?_
  refine JA.tk 5 rfl fx3 q0 ?_
  refine JA.tk 6 rfl fx3 (q24 (off' := ob + j * 2) underlying44 sizeOf26) ?_
  refine JA.tk 7 rfl fx3 (yl_loadAgg rfl rfl isAgg26 sizeOf26 (Blk.immC hfb) (row_from recC_len hbd hy) rfl) ?_
  refine JA.tk 8 rfl fx3 (yl_neqK (kv := recA) (a := x) (b := y) rfl rfl rfl rfl rfl eqRec (by kernel_rfl)) ?_
  refine JA.done (by kernel_rfl) ?_
  refine Ej.seq (Cj.cond rfl (fun hc4 => ?_) (fun hc4 => ?_))
  ·
   have hc4p := bne_iff_ne.1 hc4
   have hxy : x ≠ y := bne_iff_ne.1 hc4
   refine Cj.sr (J.z q1 ?_)
   refine J.ns (Cj.ret (Ej.blkRet (Ej.seqRet (Ej.loopRet (Ej.blkRet (Ej.seqRet (q6 ?_)))))))
   rw [decide_eq_false (fun e => hxy (by rw [e, hy] at hx; exact (Option.some.inj hx).symm))]
   exact ⟨rfl, rfl⟩
  have hc4p := bne_f hc4
  have hxy : x = y := bne_f hc4
  refine Cj.skip (Ej.blkNormal (Ej.seq (Cj.region (J.z q0 ?_))))
  refine J.z (yl_add rfl rfl rfl (w64 (by omega))) ?_
  refine J.z q1 ?_
  refine J.nil (Ej.round (j + 1) ⟨by omega, take_eqR hall hx hy hxy⟩ (by omega) ⟨rfl, rfl, rfl, trivial⟩ rfl rfl)
 have hc2p := of_decide_eq_false hc2
 refine Cj.exit (Ej.seqExit (Ej.loopExit (Ej.blkExit (Ej.seq (Cj.sr (J.z q1 ?_))))))
 refine J.ns (Cj.ret (q6 ?_))
 rw [List.take_of_length_le (by omega : a.length ≤ j), List.take_of_length_le (by omega : b.length ≤ j)] at hall
 rw [decide_eq_true hall]
 exact ⟨rfl, rfl⟩
theorem rLines_ok (a b : List (List UInt8 × Int)) (va vb : Value) (hal : a.length ≤ 100000000000000) (I : Heap) (ha : RowS lineC I a va) (hb : RowS lineC I b vb) : Pure Tryz.prog 25 [va, vb] I (.bool (decide (a = b))) := by
 refine Ctr.toPure ?_
 obtain ⟨p1, c1, rfl, hc1, hp1⟩ := ha
 obtain ⟨p2, c2, rfl, hc2, hp2⟩ := hb
 refine Ctr.ob func25 ?_
 intro w0 hw0
 refine Cj.sr (J.z q1 ?_)
 refine J.nsss (Cj.region (J.z q0 ?_))
 refine J.z (q16 underlying47) ?_
 refine J.z q0 ?_
 refine J.z (q16 underlying47) ?_
 refine J.z (yl_neq rfl rfl rfl) ?_
 refine J.cd (fun hc1 => ?_) (fun hc1 => ?_)
 ·
  have hc1p := bne_iff_ne.1 hc1
  have hln : a.length ≠ b.length := by have h := bne_iff_ne.1 hc1; omega
  refine Cj.sr (J.z q1 ?_)
  refine J.ns (Cj.ret (Ej.seqRet (q6 ?_)))
  rw [decide_eq_false (fun e => hln (by rw [e]))]
  exact ⟨rfl, rfl⟩
 have hc1p := bne_f hc1
 have hlen : a.length = b.length := by have h := bne_f hc1; omega
 refine Cj.skip (Ej.seq (Cj.seq (Cj.sr (J.z q1 ?_))))
 refine J.ns (Cj.block (Cj.loop (ι := Nat) (fun j => j ≤ a.length ∧ a.take j = b.take j) (fun j => a.length - j) (fun j => [(0, .slice p1 a.length c1), (1, .slice p2 b.length c2), (5, i64 (j : Int))]) (fun j => _) (fun j => []) 0 ⟨Nat.zero_le _, rfl⟩ ⟨rfl, rfl, rfl, trivial⟩ rfl rfl ?_))
 rintro j ⟨hj, hall⟩
 refine Cj.seq (Cj.sr (J.z q0 ?_))
 refine J.z q0 ?_
 refine J.z (q16 underlying47) ?_
 refine J.z q17 ?_
 refine J.cd (fun hc2 => ?_) (fun hc2 => ?_)
 ·
  have hc2p := of_decide_eq_true hc2
  have hlt : j < a.length := by omega
  obtain ⟨x, hx⟩ : ∃ x, a[j]? = some x := ⟨_, List.getElem?_eq_getElem hlt⟩
  obtain ⟨y, hy⟩ : ∃ y, b[j]? = some y := ⟨_, List.getElem?_eq_getElem (by omega)⟩
  obtain ⟨fa, oa, acs, aty, afr, asp, rfl, hfa, had⟩ := hp1 (ne_nil_of hlt)
  obtain ⟨fb, ob, bcs, bty, bfr, bsp, rfl, hfb, hbd⟩ := hp2 (ne_nil_of (by omega : j < b.length))
  refine Cj.skip (Ej.seq (Cj.seq (Cj.block (Cj.seq (Cj.drawSel [] [] 9 (by kernel_rfl) ?_)))))
  refine JA.fix fx1 (fun fx3 => ?_)
  refine JA.tk 0 rfl fx3 q0 ?_
  refine JA.tk 1 rfl fx3 q0 ?_
  refine JA.tk 2 rfl fx3 (q24 (off' := oa + j * 2) underlying47 sizeOf57) ?_
  refine JA.tk 3 rfl fx3 (yl_loadAgg rfl rfl isAgg57 sizeOf57 (Blk.immC hfa) (row_from lineC_len had hx) rfl) ?_
  refine JA.tk 4 rfl fx3 q0 ?_
  refine JA.tk 5 rfl fx3 q0 ?_
  refine JA.tk 6 rfl fx3 (q24 (off' := ob + j * 2) underlying47 sizeOf57) ?_
  refine JA.tk 7 rfl fx3 (yl_loadAgg rfl rfl isAgg57 sizeOf57 (Blk.immC hfb) (row_from lineC_len hbd hy) rfl) ?_
  refine JA.tk 8 rfl fx3 (yl_neqK (kv := lineA) (a := x) (b := y) rfl rfl rfl rfl rfl eqLine (by kernel_rfl)) ?_
  refine JA.done (by kernel_rfl) ?_
  refine Ej.seq (Cj.cond rfl (fun hc4 => ?_) (fun hc4 => ?_))
  ·
   have hc4p := bne_iff_ne.1 hc4
   have hxy : x ≠ y := bne_iff_ne.1 hc4
   refine Cj.sr (J.z q1 ?_)
   refine J.ns (Cj.ret (Ej.blkRet (Ej.seqRet (Ej.loopRet (Ej.blkRet (Ej.seqRet (q6 ?_)))))))
   rw [decide_eq_false (fun e => hxy (by rw [e, hy] at hx; exact (Option.some.inj hx).symm))]
   exact ⟨rfl, rfl⟩
  have hc4p := bne_f hc4
  have hxy : x = y := bne_f hc4
  refine Cj.skip (Ej.blkNormal (Ej.seq (Cj.region (J.z q0 ?_))))
  refine J.z (yl_add rfl rfl rfl (w64 (by omega))) ?_
  refine J.z q1 ?_
  refine J.nil (Ej.round (j + 1) ⟨by omega, take_eqR hall hx hy hxy⟩ (by omega) ⟨rfl, rfl, rfl, trivial⟩ rfl rfl)
 have hc2p := of_decide_eq_false hc2
 refine Cj.exit (Ej.seqExit (Ej.loopExit (Ej.blkExit (Ej.seq (Cj.sr (J.z q1 ?_))))))
 refine J.ns (Cj.ret (q6 ?_))
 rw [List.take_of_length_le (by omega : a.length ≤ j), List.take_of_length_le (by omega : b.length ≤ j)] at hall
 rw [decide_eq_true hall]
 exact ⟨rfl, rfl⟩
theorem rKeyOf_ok (n s : List UInt8) (hs : s.length ≤ 100000000) (I : Heap) : Pure Tryz.prog 32 [str n, str s] I (str (Ix.keyOf n s)) := by
 refine Ctr.toPure ?_
 have hil := isbn_len s
 refine Ctr.ob func32 ?_
 intro w0 hw0
 refine Cj.sr (J.z q1 ?_)
 refine J.nssr (J.z q0 ?_)
 refine J.op rfl (op_pure rfl rfl rfl rfl rfl (rIsbn_ok s hs _) ?_)
 refine J.z q0 ?_
 refine J.z q22 ?_
 refine J.z q22 ?_
 refine J.z q1 ?_
 refine J.z q1 ?_
 refine J.nsss (Cj.region (J.z q0 ?_))
 refine J.z q0 ?_
 refine J.split 13 rfl (fun hg1 => ?_) (fun hg1 => ?_)
 rotate_left
 ·
  have hk : Ix.keyOf n s = Ke.sortKey s 0 := if_neg (fun g => Bool.noConfusion (g.1.symm.trans hg1))
  refine q4 1 13 14 true hg1 ?_
  refine q4 1 13 15 true hg1 ?_
  refine J.z (q10 hg1) ?_
  refine J.c0 (fun hc3 => ?_)
  refine Cj.skip (Ej.seq (Cj.sr (J.z q0 ?_)))
  refine J.op rfl (op_pure rfl rfl rfl rfl rfl (rSort_ok s 0 hs _) ?_)
  refine J.z q1 ?_
  refine J.ns (Cj.ret (q6 ?_))
  rw [hk]
  exact ⟨rfl, rfl⟩
 refine q5 1 13 true hg1 (q2 q0 ?_)
 refine q5 1 13 true hg1 (q2 (yl_eqlStr rfl rfl rfl) ?_)
 refine J.z (q11 hg1) ?_
 refine J.cd (fun hc2 => ?_) (fun hc2 => ?_)
 ·
  have hc2p := eq_of_beq hc2
  have hk : Ix.keyOf n s = Ke.sortKey (Ke.isbn s).1 0 := if_pos ⟨hg1, eq_of_beq hc2⟩
  refine Cj.sr (J.z q0 ?_)
  refine J.op rfl (op_pure rfl rfl rfl rfl rfl (rSort_ok (Ke.isbn s).1 0 (by omega) _) ?_)
  refine J.z q1 ?_
  refine J.ns (Cj.ret (Ej.seqRet (q6 ?_)))
  rw [hk]
  exact ⟨rfl, rfl⟩
 ·
  have hc2p := ne_of_beq_false hc2
  have hk : Ix.keyOf n s = Ke.sortKey s 0 := if_neg (fun g => ne_of_beq_false hc2 g.2)
  refine Cj.skip (Ej.seq (Cj.sr (J.z q0 ?_)))
  refine J.op rfl (op_pure rfl rfl rfl rfl rfl (rSort_ok s 0 hs _) ?_)
  refine J.z q1 ?_
  refine J.ns (Cj.ret (q6 ?_))
  rw [hk]
  exact ⟨rfl, rfl⟩
end Go.Proofs.YtjcdfnbomkoheaaGreatDoor
end
section
namespace Go.Proofs.YtjcdfnbomkoheaaGreatDoor
open Go Go.Sx
theorem RowS.len {α : Type} {f : α → List Value} {I : Heap} {l : List α} {v : Value} (h : RowS f I l v) : ∃ p c, v = .slice p l.length c := let ⟨p, c, h1, _⟩ := h; ⟨p, c, h1⟩
end Go.Proofs.YtjcdfnbomkoheaaGreatDoor
end
section
namespace Go.Proofs.YtjcdfnbomkoheaaGreatDoor
open Go Go.Sx
theorem flat_next {α β : Type} (f : α → List β) {l : List α} {k : Nat} {x : α} (h : l[k]? = some x) : (l.take (k + 1)).flatMap f = (l.take k).flatMap f ++ f x := by
  obtain ⟨hlt, h⟩ := List.getElem?_eq_some_iff.1 h
  rw [List.take_succ_eq_append_getElem hlt, h, List.flatMap_append]; simp
end Go.Proofs.YtjcdfnbomkoheaaGreatDoor
end
section
namespace Ke
def nrm1 (f : Fld) : Fld := { f with sv := .slice none 0 0 }
def nrm (fs : List Fld) : List Fld := fs.map nrm1
end Ke
end
section
namespace Go.Sx
open Go
theorem Ready.dom {I : Heap} {H : HL} {w : World} (h : Ready I H w) {b : Nat} (hb : w.heap.size ≤ b) : I b = none := by
  cases hI : I b with
  | none => rfl
  | some o =>
    have := h.1 b o hI
    rw [Array.getElem?_eq_none hb] at this; cases this
section
variable {cx : Cx} {Q : Qt} {e : Env} {I : Heap} {H : HL}
end
section
variable {cx : Cx} {Q : Qt} {e : Env} {I : Heap} {H : HL}
end
def RowN {α : Type} (N : Nat → Prop) (T : TypeId) (f : α → List Value) (I : Heap) (l : List α) (v : Value) : Prop :=
  ∃ p c, v = .slice p l.length c ∧ l.length ≤ c ∧ (l ≠ [] → ∃ b sp, p = some ⟨b, 0, none⟩ ∧ N b ∧ I b = some (cel T (l.flatMap f ++ sp)))
section
variable {α : Type} {N M : Nat → Prop} {T : TypeId} {f : α → List Value} {I I' : Heap} {l : List α} {v : Value}
theorem RowN.mono (h : RowN N T f I l v) (hle : Le I I') : RowN N T f I' l v :=
  let ⟨p, c, h1, h2, h3⟩ := h; ⟨p, c, h1, h2, fun hn => let ⟨b, sp, h4, h5, h6⟩ := h3 hn; ⟨b, sp, h4, h5, hle _ _ h6⟩⟩
theorem RowN.imp (h : RowN N T f I l v) (hm : ∀ b, N b → M b) : RowN M T f I l v :=
  let ⟨p, c, h1, h2, h3⟩ := h; ⟨p, c, h1, h2, fun hn => let ⟨b, sp, h4, h5, h6⟩ := h3 hn; ⟨b, sp, h4, hm b h5, h6⟩⟩
theorem RowN.rowT (h : RowN N T f I l v) : RowT T f I l v :=
  let ⟨p, c, h1, h2, h3⟩ := h; ⟨p, c, h1, h2, fun hn => let ⟨b, sp, h4, _, h6⟩ := h3 hn; ⟨b, sp, h4, h6⟩⟩
theorem RowN.row (h : RowN N T f I l v) : RowS f I l v := h.rowT.row
theorem RowN.nil : RowN N T f I ([] : List α) (.slice none 0 0) := ⟨none, 0, rfl, Nat.le_refl _, fun h => absurd rfl h⟩
end
section
variable {cx : Cx} {Q : Qt} {e : Env} {I : Heap} {R : HL} {T : TypeId} {α : Type} {l : List α} {f : α → List Value} {sz n base : Nat} {g : Gs}
theorem gN_cases {X : Heap → HL → Prop} (hf : ∀ x, (f x).length = sz) (hpos : 0 < sz) (hg : gOk base sz n (l.flatMap f) g) (hn : n = l.length) (hp : ∀ b o, base ≤ b → (∀ I', Le I I' → I' b = some o → X I' R) → X I ((b, o) :: R)) (k : ∀ I', Le I I' → RowN (base ≤ ·) T f I' l (gV n g) → X I' R) : X I (gH T (l.flatMap f) g ++ R) := by
  subst hn
  cases g with
  | none =>
    obtain ⟨h1, h2⟩ := hg
    have : l = [] := List.length_eq_zero_iff.1 h1
    subst this
    exact k I (Le.refl _) RowN.nil
  | some q =>
    obtain ⟨b, c, sp⟩ := q
    obtain ⟨h1, h2, h3⟩ := hg
    have hc : l.length ≤ c := by
      rw [flat_len hf] at h3
      exact Nat.le_of_mul_le_mul_right (by omega : l.length * sz ≤ c * sz) hpos
    exact hp b _ h1 fun I' hle hb => k I' hle ⟨_, c, rfl, hc, fun _ => ⟨b, sp, rfl, h1, hb⟩⟩
theorem Cj.keepN {c : Code} (hf : ∀ x, (f x).length = sz) (hpos : 0 < sz) (hg : gOk cx.w0.heap.size sz n (l.flatMap f) g) (hn : n = l.length) (k : ∀ I', Le I I' → RowN (cx.w0.heap.size ≤ ·) T f I' l (gV n g) → Cj cx Q c e I' R) : Cj cx Q c e I (gH T (l.flatMap f) g ++ R) :=
  gN_cases (X := fun I H => Cj cx Q c e I H) hf hpos hg hn (fun _ _ hb k => Cj.persist hb k) k
theorem Ej.keepN {x : Exit} (hf : ∀ x, (f x).length = sz) (hpos : 0 < sz) (hg : gOk cx.w0.heap.size sz n (l.flatMap f) g) (hn : n = l.length) (k : ∀ I', Le I I' → RowN (cx.w0.heap.size ≤ ·) T f I' l (gV n g) → Ej cx Q x e I' R) : Ej cx Q x e I (gH T (l.flatMap f) g ++ R) :=
  gN_cases (X := fun I H => Ej cx Q x e I H) hf hpos hg hn (fun _ _ hb k => Ej.persist hb k) k
end
section
variable {cx : Cx} {Q : Qt} {e : Env} {I I1 : Heap} {H A : HL} {Z : CL} {z : Nat} {l : List Oper} {fuel : Nat} {listed : Array Bool}
end
section
variable {cx : Cx} {Q : Qt} {e : Env} {I I1 : Heap} {R H1 A : HL} {Z : CL} {z : Nat} {ops : List Oper} {fuel : Nat} {listed : Array Bool} {T : TypeId} {α : Type} {l : List α} {f : α → List Value} {v : Value} {sz n : Nat} {g : Gs}
theorem JA.keepO (h : OwnR T f l v H1) (hb : ∀ p ∈ H1, cx.w0.heap.size ≤ p.1) (k : ∀ I', Le I I' → RowT T f I' l v → JA cx Q ops I1 A Z z fuel listed e I' R) : JA cx Q ops I1 A Z z fuel listed e I (H1 ++ R) :=
  own_cases (X := fun I H => JA cx Q ops I1 A Z z fuel listed e I H) h hb (fun _ _ hb k => JA.persist hb k) k
end
end Go.Sx
end
section
namespace Go.Proofs.YtjcdfnbomkoheaaGreatDoor
open _root_.Go.Proofs.Tryz
open Go Go.Sx
def In64 (a : Int) : Prop := -9223372036854775808 ≤ a ∧ a ≤ 9223372036854775807
theorem td_rng {a : Int} (h : In64 a) (m : Int) (hm : 2 ≤ m) : -4611686018427387904 ≤ a.tdiv m ∧ a.tdiv m ≤ 4611686018427387904 := by
  unfold In64 at h
  have h1 : (a.tdiv m).natAbs = a.natAbs / m.natAbs := Int.natAbs_tdiv a m
  have h2 : a.natAbs / m.natAbs ≤ a.natAbs / 2 := Nat.div_le_div_left (by omega) (by decide)
  omega
theorem mul_small {j : Nat} {m : Int} (hj : j ≤ 3) (h0 : 0 ≤ m) (h1 : m ≤ 2) : 0 ≤ (j : Int) * (1 + m) ∧ (j : Int) * (1 + m) ≤ 9 := by
  match j, hj with
  | 0, _ => simp
  | 1, _ => simp; omega
  | 2, _ => simp; omega
  | 3, _ => simp; omega
abbrev fourC (q : Ix.Four) : List Value := [i64 q.x0, i64 q.x1, i64 q.x2, i64 q.x3]
theorem fourC_len (q : Ix.Four) : (fourC q).length = 4 := rfl
structure FourOk (q : Ix.Four) : Prop where
  h0 : In64 q.x0
  h1 : In64 q.x1
  h2 : In64 q.x2
  h3 : In64 q.x3
theorem get_str {l : List (List UInt8)} {n : Int} (h0 : 0 ≤ n) (h1 : n < (l.length : Int)) : (l.map str)[n.toNat]? = some (str (l.getD n.toNat [])) := by
  have h2 : n.toNat < l.length := by omega
  rw [List.getElem?_map, List.getElem?_eq_getElem h2, List.getD_eq_getElem?_getD, List.getElem?_eq_getElem h2]; rfl
theorem get_code {l : List UInt8} {n : Int} (h0 : 0 ≤ n) (h1 : n < (l.length : Int)) : l[n.toNat]? = some (l.getD n.toNat 0) := by
  have h2 : n.toNat < l.length := by omega
  rw [List.getElem?_eq_getElem h2, List.getD_eq_getElem?_getD, List.getElem?_eq_getElem h2]; rfl
theorem nrm_add (fs : List Ke.Fld) (f : Ke.Fld) : Ke.nrm (fs ++ [f]) = Ke.nrm fs ++ [Ke.nrm1 f] := by unfold Ke.nrm; rw [List.map_append]; rfl
theorem nrm_len (fs : List Ke.Fld) : (Ke.nrm fs).length = fs.length := List.length_map _
theorem vals_nrm (fs : List Ke.Fld) : Ix.vals (Ke.nrm fs) = Ix.vals fs := by
  unfold Ix.vals Ke.nrm
  rw [List.flatMap_map]; rfl
def subsN (q : Ix.Four) (n : Nat) : List Ke.Sub := (List.range n).map fun j => Ix.subN q j
theorem subsN_next (q : Ix.Four) (n : Nat) : subsN q (n + 1) = subsN q n ++ [Ix.subN q n] := by unfold subsN; rw [List.range_succ, List.map_append]; rfl
theorem subsN_len (q : Ix.Four) (n : Nat) : (subsN q n).length = n := by unfold subsN; rw [List.length_map, List.length_range]
theorem fld_c {q : Ix.Four} (h : Ix.isC (Ix.tagN q.x0)) : Ix.fldN q = ⟨Ix.tagN q.x0, [], Ix.textN q.x3, .slice none 0 0, []⟩ := if_pos h
theorem fld_d {q : Ix.Four} (h : ¬ Ix.isC (Ix.tagN q.x0)) : Ix.fldN q = ⟨Ix.tagN q.x0, Ix.indsL.getD (q.x1 % 8).toNat [], [], .slice none 0 0, subsN q (1 + (q.x2 % 3).toNat)⟩ := if_neg h
theorem tagN_len (n : Int) : (Ix.tagN n).length ≤ 3 := by
  unfold Ix.tagN
  generalize (n % 20).toNat = k
  rcases Nat.lt_or_ge k 20 with h | h
  · have : ∀ k, k < 20 → (Ix.tagsL.getD k []).length ≤ 3 := by decide
    exact this k h
  rw [List.getD_eq_getElem?_getD, List.getElem?_eq_none (by simpa [Ix.tagsL] using h)]; simp
theorem indN_len (n : Nat) : (Ix.indsL.getD n []).length ≤ 2 := by
  rcases Nat.lt_or_ge n 8 with h | h
  · have : ∀ k, k < 8 → (Ix.indsL.getD k []).length ≤ 2 := by decide
    exact this n h
  rw [List.getD_eq_getElem?_getD, List.getElem?_eq_none (by simpa [Ix.indsL] using h)]; simp
theorem fldN_small (q : Ix.Four) : (Ix.fldN q).subs.length ≤ 3 ∧ textsLen (Ix.fldN q).subs ≤ 51 ∧ (Ix.fldN q).ind.length ≤ 2 := by
  by_cases h : Ix.isC (Ix.tagN q.x0)
  · rw [fld_c h]; exact ⟨by simp, by simp [textsLen], by simp⟩
  rw [fld_d h]
  refine ⟨by dsimp only; rw [subsN_len]; omega, ?_, indN_len _⟩
  dsimp only
  have hn : ∀ n, textsLen (subsN q n) ≤ n * 17 := by
    intro n
    induction n with
    | zero => simp [textsLen, subsN]
    | succ n ih =>
      rw [subsN_next]
      unfold textsLen at ih ⊢
      rw [List.map_append, List.sum_append]
      have h1 : (Ix.subN q n).text.length ≤ 17 := Ix.textN_len _
      simp only [List.map_cons, List.map_nil, List.sum_cons, List.sum_nil]; omega
  have := hn (1 + (q.x2 % 3).toNat)
  omega
theorem made_eok {l : List Ix.Four} {fs : List Ke.Fld} (h : Ke.nrm fs = Ix.madeR l) : EOK fs := by
  have hl : fs.length ≤ 20 := by
    rw [← nrm_len, h]
    unfold Ix.madeR
    rw [List.length_map, List.length_take]; omega
  refine ⟨by omega, fun f hf => ?_⟩
  have h1 : Ke.nrm1 f ∈ Ix.madeR l := by rw [← h]; exact List.mem_map_of_mem hf
  obtain ⟨q, _, he⟩ := List.mem_map.1 h1
  have h2 := fldN_small q
  rw [he] at h2
  exact ⟨by have : f.subs.length ≤ 3 := h2.1; omega, by have : textsLen f.subs ≤ 51 := h2.2.1; omega, by have : f.ind.length ≤ 2 := h2.2.2; omega⟩
theorem perm_front {α : Type} (A S Z : List α) : (S ++ (A ++ Z)).Perm (A ++ (S ++ Z)) := by
  rw [← List.append_assoc, ← List.append_assoc]
  exact List.Perm.append_right Z List.perm_append_comm
def RecN (N : Nat → Prop) (I : Heap) (fs : List Ke.Fld) (v : Value) : Prop := RowN N 31 fldC I fs v ∧ ∀ f ∈ fs, RowN N 65 subC I f.subs f.sv
theorem RecN.imp {N M : Nat → Prop} {I : Heap} {fs : List Ke.Fld} {v : Value} (h : RecN N I fs v) (hm : ∀ b, N b → M b) : RecN M I fs v := ⟨h.1.imp hm, fun f hf => (h.2 f hf).imp hm⟩
theorem RecN.rec {N : Nat → Prop} {I : Heap} {fs : List Ke.Fld} {v : Value} (h : RecN N I fs v) : RecS I fs v := ⟨h.1.row, fun f hf => (h.2 f hf).row⟩
def SubsN (N : Nat → Prop) (I : Heap) (fs : List Ke.Fld) : Prop := ∀ f ∈ fs, RowN N 65 subC I f.subs f.sv
theorem SubsN.mono {N : Nat → Prop} {I I' : Heap} {fs : List Ke.Fld} (h : SubsN N I fs) (hle : Le I I') : SubsN N I' fs := fun f hf => (h f hf).mono hle
theorem SubsN.nil {N : Nat → Prop} {I : Heap} : SubsN N I [] := fun _ h => by cases h
theorem SubsN.add {N : Nat → Prop} {I : Heap} {fs : List Ke.Fld} {f : Ke.Fld} (h : SubsN N I fs) (h1 : RowN N 65 subC I f.subs f.sv) : SubsN N I (fs ++ [f]) := fun x hx => by
  rcases List.mem_append.1 hx with g | g
  · exact h x g
  rw [List.mem_singleton.1 g]; exact h1
theorem nMod_ok (n : Int) (m : Int) (hm : 0 < m) (hm2 : m ≤ 1000000000) (I : Heap) : Pure Tryz.prog 67 [i64 n, i64 m] I (i64 (n % m)) := by
 have h1 := Int.tmod_lt_of_pos n hm
 have h2 := Int.lt_tmod_of_pos n hm
 refine Ctr.ob func67 ?_
 intro w0 hw0
 refine Cj.sr (J.z q1 ?_)
 refine J.nssr (J.z q0 ?_)
 refine J.z q0 ?_
 refine J.z (yl_rem rfl rfl rfl (by omega)) ?_
 refine J.z q0 ?_
 refine J.z (yl_add rfl rfl rfl (w64 (by omega))) ?_
 refine J.z q0 ?_
 refine J.z (yl_rem rfl rfl rfl (by omega)) ?_
 refine J.eqv 11 rfl (show _ = i64 (n % m) from (congrArg i64 (mod_eq n hm))) ?_
 refine J.z q1 ?_
 refine J.ns (Cj.ret (q6 ?_))
 exact ⟨rfl, rfl, rfl⟩
theorem nTag_ok (n : Int) (I : Heap) : Pure Tryz.prog 100 [i64 n] I (str (Ix.tagN n)) := by
 refine Ctr.toPure ?_
 refine Ctr.ob func100 ?_
 intro w0 hw0
 refine Cj.sr (J.z q1 ?_)
 refine J.nssr (J.op rfl (q13 underlying28 sizeOf9 zeroValue9 (LCat.one rfl (LCat.one rfl (LCat.one rfl (LCat.one rfl (LCat.one rfl (LCat.one rfl (LCat.one rfl (LCat.one rfl (LCat.one rfl (LCat.one rfl (LCat.one rfl (LCat.one rfl (LCat.one rfl (LCat.one rfl (LCat.one rfl (LCat.one rfl (LCat.one rfl (LCat.one rfl (LCat.one rfl (LCat.one rfl LCat.none)))))))))))))))))))) ?_))
 intro b1 hb1
 refine J.z q1 ?_
 refine J.nssr (J.z q0 ?_)
 refine J.z q0 ?_
 refine J.z q0 ?_
 refine J.z (q16 underlying28) ?_
 refine J.op rfl (op_pure rfl rfl rfl rfl rfl (nMod_ok n 20 (by decide) (by decide) _) ?_)
 refine J.z (yl_indexAddr (off' := (n % 20).toNat) rfl rfl rfl underlying28 sizeOf9 (by omega) (by omega) (by omega)) ?_
 refine J.z (yl_load rfl rfl isAgg9 (Blk.at 0 rfl) (get_str (l := Ix.tagsL) (by omega) (by simp [Ix.tagsL]; omega))) ?_
 refine J.z q1 ?_
 refine J.ns (Cj.ret (Ej.bare ?_))
 refine q6 ?_
 exact ⟨rfl, rfl⟩
theorem nText_ok (n : Int) (I : Heap) : Pure Tryz.prog 34 [i64 n] I (str (Ix.textN n)) := by
 refine Ctr.toPure ?_
 refine Ctr.ob func34 ?_
 intro w0 hw0
 refine Cj.sr (J.z q1 ?_)
 refine J.nssr (J.op rfl (q13 underlying28 sizeOf9 zeroValue9 (LCat.one rfl (LCat.one rfl (LCat.one rfl (LCat.one rfl (LCat.one rfl (LCat.one rfl (LCat.one rfl (LCat.one rfl (LCat.one rfl (LCat.one rfl (LCat.one rfl (LCat.one rfl (LCat.one rfl (LCat.one rfl (LCat.one rfl (LCat.one rfl (LCat.one rfl (LCat.one rfl (LCat.one rfl (LCat.one rfl LCat.none)))))))))))))))))))) ?_))
 intro b1 hb1
 refine J.z q1 ?_
 refine J.nssr (J.z q0 ?_)
 refine J.z q0 ?_
 refine J.z q0 ?_
 refine J.z (q16 underlying28) ?_
 refine J.op rfl (op_pure rfl rfl rfl rfl rfl (nMod_ok n 20 (by decide) (by decide) _) ?_)
 refine J.z (yl_indexAddr (off' := (n % 20).toNat) rfl rfl rfl underlying28 sizeOf9 (by omega) (by omega) (by omega)) ?_
 refine J.z (yl_load rfl rfl isAgg9 (Blk.at 0 rfl) (get_str (l := Ix.textsL) (by omega) (by simp [Ix.textsL]; omega))) ?_
 refine J.z q1 ?_
 refine J.ns (Cj.ret (Ej.bare ?_))
 refine q6 ?_
 exact ⟨rfl, rfl⟩
theorem made_take {α : Type} {l : List α} {k : Nat} (hk : k ≤ l.length) (h : k ≤ 20 ∧ (l.length ≤ k ∨ 20 ≤ k)) : l.take k = l.take 20 := by
  rcases h.2 with g | g
  · rw [List.take_of_length_le g, List.take_of_length_le (by omega)]
  rw [show k = 20 by omega]
theorem nMadeN_ok (l : List Ix.Four) (v : Value) (hok : ∀ q ∈ l, FourOk q) (I : Heap) (hv0 : RowS fourC I l v) : Ctr Tryz.prog 71 [v] I [] (fun e I' H' => ∃ fs w, e = .returned (recV 97 109 w) ∧ RecN (I · = none) I' fs w ∧ Ke.nrm fs = Ix.madeR l ∧ H' = []) := by
 obtain ⟨p, c, rfl, hc, -⟩ := id hv0
 refine Ctr.ob func71 ?_
 intro w0 hw0
 refine Cj.sr (J.op rfl (op_alloc rfl rfl rfl zeroValue35 rfl ?_))
 intro b1 hb1
 refine J.nssr (J.z (yl_buildS (pl := #[(0, 1), (1, 1), (2, 1)]) rfl rfl zeroValue35 rfl underlying35 (fun w => by simp [sizeOf33, sizeOf5]) (LBld.part rfl rfl rfl (LSpl.c LSpl.z) (LBld.part rfl rfl rfl (LSpl.s (LSpl.c LSpl.z)) LBld.none))) ?_)
 refine J.op rfl (op_alloc rfl rfl rfl zeroValue35 rfl ?_)
 intro b2 hb2
 refine J.op rfl (q18 0 sizeOf35 (LSpl.c (LSpl.c (LSpl.c LSpl.z))) LSet.z ?_)
 refine J.nsss (Cj.region (J.z q1 ?_))
 refine J.ns (Cj.block (Cj.loop (ι := Nat × Heap × List Ke.Fld × Gs) (fun y => y.1 ≤ l.length ∧ y.1 ≤ 20 ∧ Le I y.2.1 ∧ SubsN (w0.heap.size ≤ ·) y.2.1 y.2.2.1 ∧ Ke.nrm y.2.2.1 = (l.take y.1).map Ix.fldN ∧ y.2.2.1.length = y.1 ∧ gOk w0.heap.size 4 y.2.2.1.length (y.2.2.1.flatMap fldC) y.2.2.2) (fun y => 20 - y.1) (fun y => [(0, .slice p l.length c), (2, ptr b1 0), (3, ptr b2 0), (4, i64 (y.1 : Int))]) (fun y => y.2.1) (fun y => (b2, cel 35 [u8 97, u8 109, gV y.2.2.1.length y.2.2.2]) :: (b1, cel 35 [u8 0, u8 0, .slice none 0 0]) :: gH 31 (y.2.2.1.flatMap fldC) y.2.2.2) (0, _, [], none) ⟨Nat.zero_le _, Nat.zero_le _, Le.refl _, SubsN.nil, rfl, rfl, rfl, rfl⟩ ⟨rfl, rfl, rfl, rfl, trivial⟩ rfl rfl ?_))
 rintro ⟨k, Jh, fs, g⟩ ⟨hk, hk20, hIJ, hS, hN, hfl, hg⟩
 dsimp only at hk hk20 hIJ hS hN hfl hg ⊢
 have hv := hv0.mono hIJ
 refine Cj.seq (Cj.sr (J.z q0 ?_))
 refine J.z q0 ?_
 refine J.z (q16 underlying78) ?_
 refine J.z q17 ?_
 refine J.z q0 ?_
 refine J.split 14 rfl (fun hg3 => ?_) (fun hg3 => ?_)
 rotate_left
 ·
  have hg3p := of_decide_eq_false hg3
  refine q4 4 14 15 true hg3 ?_
  refine q4 4 14 16 true hg3 ?_
  refine J.z (q10 hg3) ?_
  refine J.c0 (fun hc34 => ?_)
  refine Cj.exit (Ej.seqExit (Ej.loopExit (Ej.blkExit (Ej.seq (Cj.sr (J.z (q14 isAgg35 sizeOf35 (Blk.at 0 rfl)) ?_))))))
  refine J.op rfl (op_store 1 rfl rfl rfl rfl rfl (by show [u8 97, u8 109, gV _ _].all Value.oneCell' = true; simp only [List.all_cons, List.all_nil, gV_one', Bool.and_true]; rfl) sizeOf35 rfl rfl (LSpl.c (LSpl.c (LSpl.c LSpl.z))) (LSet.s LSet.z) ?_)
  refine J.ns (Cj.ret ?_)
  have hmade : Ke.nrm fs = Ix.madeR l := by rw [hN]; unfold Ix.madeR; rw [made_take hk (by omega)]
  refine Ej.perm (H' := gH _ _ _ ++ [_, _]) List.perm_append_comm ?_
  refine Ej.keepN fldC_len (by decide) hg rfl (fun I9 hle9 hfs => ?_)
  refine Ej.retC (Keeps.d (Keeps.d Keeps.n)) rfl rfl rfl (Blk.at 1 rfl) isAgg35 sizeOf35 rfl ?_
  exact ⟨fs, _, rfl, RecN.imp ⟨hfs, fun f hf => ((hS f hf).mono hle9)⟩ (fun b hb => hw0.dom hb), hmade, rfl⟩
 have hg3p := of_decide_eq_true hg3
 refine q5 4 14 true hg3 (q2 q0 ?_)
 refine q5 4 14 true hg3 (q2 q17 ?_)
 refine J.z (q11 hg3) ?_
 refine J.cd (fun hc4 => ?_) (fun hc4 => ?_)
 ·
  have hc4p := of_decide_eq_true hc4
  refine Cj.skip (Ej.seq (Cj.seq (Cj.block (Cj.seq ?_))))
  have hlt : k < l.length := by omega
  have hlt2 : k < 20 := by omega
  obtain ⟨q, hget⟩ : ∃ x, l[k]? = some x := ⟨_, List.getElem?_eq_getElem hlt⟩
  have hq := hok q (List.mem_of_getElem? hget)
  obtain ⟨p1, c1, hpe, hc1, hp⟩ := id hv
  cases hpe
  obtain ⟨lb, lo, lcs, lty, lfr, sp, rfl, hlb, hld⟩ := hp (ne_nil_of hlt)
  have htl := tagN_len q.x0
  refine Cj.region (J.z q0 ?_)
  refine J.z q0 ?_
  refine J.z (q24 (off' := lo + k * 4) underlying78 sizeOf143) ?_
  refine J.z (yl_loadAgg rfl rfl isAgg143 sizeOf143 (Blk.imm hlb) (row_from fourC_len hld hget) rfl) ?_
  refine J.op rfl (op_alloc rfl rfl rfl zeroValue143 rfl ?_)
  intro b5 hb5
  refine J.op rfl (q18 0 sizeOf143 (LSpl.c (LSpl.c (LSpl.c (LSpl.c LSpl.z)))) LSet.z ?_)
  refine J.nssr (J.z (q26 (off' := 0) underlying143 sizeOf3) ?_)
  refine J.z (q7 isAgg3 (Blk.at 0 rfl)) ?_
  refine J.op rfl (op_pure rfl rfl rfl rfl rfl (nTag_ok q.x0 _) ?_)
  refine J.z (yl_buildS (pl := #[(0, 1), (1, 1), (2, 1), (3, 1)]) rfl rfl zeroValue31 rfl underlying31 (fun w => by simp [sizeOf29, sizeOf9]) (LBld.part rfl rfl rfl (LSpl.c LSpl.z) LBld.none)) ?_
  refine J.op rfl (op_alloc rfl rfl rfl zeroValue31 rfl ?_)
  intro b6 hb6
  refine J.op rfl (q18 0 sizeOf31 (LSpl.c (LSpl.c (LSpl.c (LSpl.c LSpl.z)))) LSet.z ?_)
  refine J.nsss (Cj.region (J.z (q3 (off' := 0) underlying31 sizeOf9) ?_))
  refine J.z (q7 isAgg9 (Blk.at 0 rfl)) ?_
  refine J.z (q23 underlying9) ?_
  refine J.z (yl_gtr rfl rfl rfl) ?_
  refine J.z q0 ?_
  refine J.split 32 rfl (fun hg7 => ?_) (fun hg7 => ?_)
  ·
   have hg7p := of_decide_eq_true hg7
   refine q5 4 32 true hg7 (q2 (q3 (off' := 0) underlying31 sizeOf9) ?_)
   refine q5 4 32 true hg7 (q2 (q7 isAgg9 (Blk.at 0 rfl)) ?_)
   refine J.opG 4 32 true _ rfl rfl rfl hg7 (op_yld (yl_sliceStr (p := 0) (q := 2) rfl rfl underlying9 rfl ⟨_, rfl⟩ (by omega) (by omega)) rfl rfl ?_)
   refine q5 4 32 true hg7 (q2 (yl_eqlStr rfl rfl rfl) ?_)
   refine J.z (q11 hg7) ?_
   refine J.cd (fun hc8 => ?_) (fun hc8 => ?_)
   ·
    have hc8p := eq_of_beq hc8
    have hC : Ix.isC (Ix.tagN q.x0) := ⟨by omega, by have h := eq_of_beq hc8; rw [List.drop_zero] at h; exact h⟩
    refine Cj.sr (J.z (q26 (off' := 3) underlying143 sizeOf3) ?_)
    refine J.z (q7 isAgg3 (Blk.at 1 rfl)) ?_
    refine J.op rfl (op_pure rfl rfl rfl rfl rfl (nText_ok q.x3 _) ?_)
    refine J.z (q3 (off' := 2) underlying31 sizeOf9) ?_
    refine J.op rfl (q18 0 sizeOf9 (LSpl.s (LSpl.s (LSpl.c LSpl.z))) LSet.z ?_)
    refine J.nssr (J.z (q3 (off' := 2) underlying35 sizeOf33) ?_)
    refine J.z (q7 isAgg33 (Blk.at 2 rfl)) ?_
    refine J.z (q14 isAgg31 sizeOf31 (Blk.at 0 rfl)) ?_
    refine J.op rfl (q13 underlying33 sizeOf31 zeroValue31 (LCat.agg rfl LCat.none) ?_)
    intro b9 hb9
    refine J.op rfl (op_append (by' := 71) [_, _, _, _, _] rfl rfl rfl rfl rfl underlying33 (.inr ⟨_, underlying33⟩) (by kernel_rfl) sizeOf31 zeroValue31 rfl hg rfl (Src.slice (Blk.at 0 rfl) rfl rfl rfl) (by omega) ?_)
    intro g10 hg10
    refine J.z (q3 (off' := 2) underlying35 sizeOf33) ?_
    refine J.op rfl (op_store 3 rfl rfl rfl rfl (gV_cells _ _) (gV_one _ _) sizeOf33 rfl rfl (LSpl.s (LSpl.s (LSpl.c LSpl.z))) (LSet.s (LSet.s (LSet.s LSet.z))) ?_)
    refine J.ns (Cj.exit (Ej.seqExit (Ej.blkExit (Ej.seq (Cj.region (J.z q0 ?_))))))
    refine J.z (yl_add rfl rfl rfl (w64 (by omega))) ?_
    refine J.z q1 ?_
    refine J.nil (Ej.keep (Keeps.d (Keeps.d (Keeps.d (Keeps.k (Keeps.k Keeps.r))))) ?_)
    refine Ej.round (k + 1, _, fs ++ [⟨Ix.tagN q.x0, [], Ix.textN q.x3, .slice none 0 0, []⟩], g10) ⟨by dsimp only; omega, by dsimp only; omega, hIJ, SubsN.add hS RowN.nil, by dsimp only; rw [nrm_add, map_next _ hget, hN, fld_c hC]; rfl, by dsimp only; rw [List.length_append, hfl]; rfl, by dsimp only; rw [flat_one, List.length_append]; exact hg10⟩ (by dsimp only; omega) ⟨rfl, rfl, rfl, rfl, trivial⟩ rfl (by dsimp only; rw [flat_one, List.length_append]; rfl)
   ·
    have hc8p := ne_of_beq_false hc8
    have hC : ¬ Ix.isC (Ix.tagN q.x0) := fun g => ne_of_beq_false hc8 (by rw [List.drop_zero]; exact g.2)
    refine Cj.skip (Ej.seq (Cj.sr (J.op rfl (q13 underlying28 sizeOf9 zeroValue9 (LCat.one rfl (LCat.one rfl (LCat.one rfl (LCat.one rfl (LCat.one rfl (LCat.one rfl (LCat.one rfl (LCat.one rfl LCat.none)))))))) ?_))))
    intro b11 hb11
    refine J.z (q26 (off' := 1) underlying143 sizeOf3) ?_
    refine J.z (q7 isAgg3 (Blk.at 2 rfl)) ?_
    refine J.op rfl (op_pure rfl rfl rfl rfl rfl (nMod_ok q.x1 8 (by decide) (by decide) _) ?_)
    refine J.z (yl_indexAddr (off' := (q.x1 % 8).toNat) rfl rfl rfl underlying28 sizeOf9 (by omega) (by omega) (by omega)) ?_
    refine J.z (yl_load rfl rfl isAgg9 (Blk.at 0 rfl) (get_str (l := Ix.indsL) (by omega) (by simp [Ix.indsL]; omega))) ?_
    refine J.z (q3 (off' := 1) underlying31 sizeOf9) ?_
    refine J.op rfl (q18 1 sizeOf9 (LSpl.s (LSpl.c LSpl.z)) (LSet.s LSet.z) ?_)
    refine J.nss ?_
    obtain ⟨nn, hnn⟩ : ∃ nn : Nat, nn = 1 + (q.x2 % 3).toNat := ⟨_, rfl⟩
    have hn3 : nn ≤ 3 := by omega
    refine Cj.region (J.z (q26 (off' := 2) underlying143 sizeOf3) ?_)
    refine J.z (q7 isAgg3 (Blk.at 2 rfl)) ?_
    refine J.op rfl (op_pure rfl rfl rfl rfl rfl (nMod_ok q.x2 3 (by decide) (by decide) _) ?_)
    refine J.z (yl_add rfl rfl rfl (w64 (by omega))) ?_
    refine J.eqv 58 rfl (show _ = i64 (nn : Int) from (congrArg i64 (by omega))) ?_
    refine J.z q1 ?_
    refine J.nsss (Cj.keep (Keeps.d Keeps.r) ?_)
    refine Cj.region (J.z q1 ?_)
    refine J.ns (Cj.block (Cj.keep (Keeps.k (Keeps.k (Keeps.k (Keeps.k Keeps.r)))) ?_))
    refine Cj.loop (ι := Nat × Gs) (fun y => y.1 ≤ nn ∧ gOk w0.heap.size 2 (subsN q y.1).length ((subsN q y.1).flatMap subC) y.2) (fun y => nn - y.1) (fun y => [(0, .slice (some ⟨lb, lo, none⟩) l.length c), (2, ptr b1 0), (3, ptr b2 0), (4, i64 (k : Int)), (5, ptr b5 0), (6, ptr b6 0), (7, i64 (nn : Int)), (8, i64 (y.1 : Int))]) (fun y => _) (fun y => (b6, cel 31 [str (Ix.tagN q.x0), str (Ix.indsL.getD (q.x1 % 8).toNat []), str [], gV (subsN q y.1).length y.2]) :: (b5, cel 143 (fourC q)) :: (b2, cel 35 [u8 97, u8 109, gV fs.length g]) :: (b1, cel 35 [u8 0, u8 0, .slice none 0 0]) :: (gH 65 ((subsN q y.1).flatMap subC) y.2 ++ gH 31 (fs.flatMap fldC) g)) (0, none) ⟨Nat.zero_le _, rfl, rfl⟩ ⟨rfl, rfl, rfl, rfl, rfl, rfl, rfl, rfl, trivial⟩ rfl rfl ?_
    rintro ⟨j, g2⟩ ⟨hj, hgs⟩
    dsimp only at hj hgs ⊢
    have hsl := subsN_len q j
    refine Cj.seq (Cj.sr (J.z q0 ?_))
    refine J.z q0 ?_
    refine J.z q17 ?_
    refine J.cd (fun hc12 => ?_) (fun hc12 => ?_)
    ·
     have hc12p := of_decide_eq_true hc12
     refine Cj.skip (Ej.seq (Cj.seq (Cj.block (Cj.drawSel [0, 1, 2, 3] [] 24 (by kernel_rfl) ?_))))
     have hlb_15 := hlb
     refine JA.fix ⟨(HSub.c 0 rfl (HSub.c 1 rfl (HSub.c 2 rfl (HSub.c 3 rfl HSub.n)))), CSub.n, (Le.refl _)⟩ (fun fx13 => ?_)
     refine JA.tk 0 rfl fx13 (q3 (off' := 3) underlying31 sizeOf29) ?_
     refine JA.tk 1 rfl fx13 (q7 isAgg29 (Blk.atC 0 rfl)) ?_
     refine JA.tk 2 rfl fx13 (q26 (off' := 2) underlying143 sizeOf3) ?_
     refine JA.tk 3 rfl fx13 (q7 isAgg3 (Blk.atC 1 rfl)) ?_
     refine JA.tk 4 rfl fx13 (yl_quo rfl rfl rfl (by decide) (w64 (by have h := td_rng hq.h2 3 (by decide); omega))) ?_
     refine JA.tk 5 rfl fx13 q0 ?_
     refine JA.tk 6 rfl fx13 (q26 (off' := 1) underlying143 sizeOf3) ?_
     refine JA.tk 7 rfl fx13 (q7 isAgg3 (Blk.atC 1 rfl)) ?_
     refine JA.tk 14 rfl fx13 (q26 (off' := 3) underlying143 sizeOf3) ?_
     refine JA.tk 15 rfl fx13 (q7 isAgg3 (Blk.atC 1 rfl)) ?_
     refine JA.tk 16 rfl fx13 q0 ?_
     refine JA.tk 17 rfl fx13 (yl_mul rfl rfl rfl (w64 (by omega))) ?_
     refine JA.tk 18 rfl fx13 (yl_addW rfl rfl rfl) ?_
     refine JA.step 8 (by kernel_rfl) rfl rfl (op_pure rfl rfl rfl rfl rfl (nMod_ok q.x1 3 (by decide) (by decide) _) ?_)
     refine ⟨⟨(Le.refl _), (HSub.c 0 rfl (HSub.c 1 rfl (HSub.c 2 rfl (HSub.c 3 rfl HSub.n)))), CSub.n⟩, ?_⟩
     refine JA.fix ⟨(HSub.c 0 rfl (HSub.c 1 rfl (HSub.c 2 rfl (HSub.c 3 rfl HSub.n)))), CSub.n, (Le.refl _)⟩ (fun fx14 => ?_)
     refine JA.tk 9 rfl fx14 (yl_add rfl rfl rfl (w64 (by omega))) ?_
     refine JA.tk 10 rfl fx14 (yl_mul rfl rfl rfl (w64 (by have h := mul_small (j := j) (m := q.x1 % 3) (by omega) (by omega) (by omega); omega))) ?_
     refine JA.tk 11 rfl fx14 (yl_add rfl rfl rfl (w64 (by have h := td_rng hq.h2 3 (by decide); have h2 := mul_small (j := j) (m := q.x1 % 3) (by omega) (by omega) (by omega); omega))) ?_
     refine JA.step 12 (by kernel_rfl) rfl rfl (op_pure rfl rfl rfl rfl rfl (nMod_ok (q.x2.tdiv 3 + (j : Int) * (1 + q.x1 % 3)) 8 (by decide) (by decide) _) ?_)
     refine ⟨⟨(Le.refl _), (HSub.c 0 rfl (HSub.c 1 rfl (HSub.c 2 rfl (HSub.c 3 rfl HSub.n)))), CSub.n⟩, ?_⟩
     refine JA.fix ⟨(HSub.c 0 rfl (HSub.c 1 rfl (HSub.c 2 rfl (HSub.c 3 rfl HSub.n)))), CSub.n, (Le.refl _)⟩ (fun fx15 => ?_)
     refine JA.tk 13 rfl fx15 (yl_index rfl rfl rfl underlying9 (by omega) (get_code (l := Ix.codesL) (by omega) (by simp [Ix.codesL]; omega))) ?_
     refine q15 19 rfl (op_pure rfl rfl rfl rfl rfl (nText_ok _ _) ?_)
     refine ⟨⟨(Le.refl _), (HSub.c 0 rfl (HSub.c 1 rfl (HSub.c 2 rfl (HSub.c 3 rfl HSub.n)))), CSub.n⟩, ?_⟩
     refine JA.fix ⟨(HSub.c 0 rfl (HSub.c 1 rfl (HSub.c 2 rfl (HSub.c 3 rfl HSub.n)))), CSub.n, (Le.refl _)⟩ (fun fx16 => ?_)
     refine JA.tk 20 rfl fx16 (yl_buildS (pl := #[(0, 1), (1, 1)]) rfl rfl zeroValue65 rfl underlying65 (fun w => by simp [sizeOf5, sizeOf9]) (LBld.part rfl rfl rfl (LSpl.c LSpl.z) (LBld.part rfl rfl rfl (LSpl.s (LSpl.c LSpl.z)) LBld.none))) ?_
     refine q15 21 rfl (q13 underlying29 sizeOf65 zeroValue65 (LCat.agg rfl LCat.none) ?_)
     intro b17 hb17
     refine ⟨⟨(Le.refl _), (HSub.c 1 rfl (HSub.c 2 rfl (HSub.c 3 rfl (HSub.c 4 rfl HSub.n)))), CSub.n⟩, ?_⟩
     refine JA.perm (H' := [_, _, _, _, _] ++ (gH _ _ _ ++ gH _ _ _)) (perm_swap [_, _, _, _, _] _ _) ?_
     refine JA.step 22 (by kernel_rfl) rfl rfl (op_append (by' := 23) ([_, _, _, _, _] ++ gH _ _ _) rfl rfl rfl rfl rfl underlying29 (.inr ⟨_, underlying29⟩) (by kernel_rfl) sizeOf65 zeroValue65 rfl hgs rfl (Src.slice (Blk.at 0 rfl) rfl rfl rfl) (by omega) ?_)
     intro g18 hg18
     refine ⟨⟨(Le.refl _), (HSub.c 1 rfl (HSub.c 2 rfl (HSub.c 3 rfl (HSub.c 4 rfl HSub.n)))), CSub.n⟩, ?_⟩
     refine JA.fix ⟨(HSub.c 1 rfl (HSub.c 2 rfl (HSub.c 3 rfl (HSub.c 4 rfl HSub.n)))), CSub.n, (Le.refl _)⟩ (fun fx19 => ?_)
     refine JA.tk 23 rfl fx19 (q3 (off' := 3) underlying31 sizeOf29) ?_
     refine JA.last 24 (by kernel_rfl) rfl rfl rfl (op_store 1 rfl rfl rfl rfl (gV_cells _ _) (gV_one _ _) sizeOf29 rfl rfl (LSpl.s (LSpl.s (LSpl.s (LSpl.c LSpl.z)))) (LSet.s LSet.z) ?_)
     refine JA.done (by kernel_rfl) ?_
     refine Ej.blkNormal (Ej.seq (Cj.region (J.z q0 ?_)))
     refine J.z (yl_add rfl rfl rfl (w64 (by omega))) ?_
     refine J.z q1 ?_
     refine J.nil (Ej.perm (perm_swap [_, _, _, _, _] (gH _ _ _) (gH _ _ _)) ?_)
     refine Ej.keep (Keeps.d (Keeps.k (Keeps.k (Keeps.k (Keeps.k Keeps.r))))) ?_
     refine Ej.round (j + 1, g18) ⟨by dsimp only; omega, by dsimp only; rw [subsN_next, List.length_append, List.flatMap_append]; exact hg18⟩ (by dsimp only; omega) ⟨rfl, rfl, rfl, rfl, rfl, rfl, rfl, rfl, trivial⟩ rfl (by dsimp only; rw [subsN_next, List.length_append, List.flatMap_append]; rfl)
    ·
     have hc12p := of_decide_eq_false hc12
     refine Cj.exit (Ej.seqExit (Ej.loopExit (Ej.blkExit (Ej.seq ?_))))
     have hjn : j = nn := by omega
     subst hjn
     refine Cj.perm (perm_front [_, _, _, _] (gH _ _ _) (gH _ _ _)) ?_
     refine Cj.keepN subC_len (by decide) hgs rfl (fun I8 hle8 hss => ?_)
     have hIJ := hIJ.mono hle8
     have hS := hS.mono hle8
     have hv := hv.mono hle8
     have hlb := hle8 _ _ hlb
     refine Cj.region (J.z (q3 (off' := 2) underlying35 sizeOf33) ?_)
     refine J.z (q7 isAgg33 (Blk.at 2 rfl)) ?_
     refine J.z (q14 isAgg31 sizeOf31 (Blk.at 0 rfl)) ?_
     refine J.op rfl (q13 underlying33 sizeOf31 zeroValue31 (LCat.agg rfl LCat.none) ?_)
     intro b20 hb20
     refine J.op rfl (op_append (by' := 71) [_, _, _, _, _] rfl rfl rfl rfl rfl underlying33 (.inr ⟨_, underlying33⟩) (by kernel_rfl) sizeOf31 zeroValue31 rfl hg rfl (Src.slice (Blk.at 0 rfl) rfl rfl (by show [str (Ix.tagN q.x0), str (Ix.indsL.getD (q.x1 % 8).toNat []), str [], gV _ _].all Value.oneCell' = true; simp only [List.all_cons, List.all_nil, gV_one', Bool.and_true]; rfl)) (by omega) ?_)
     intro g21 hg21
     refine J.z (q3 (off' := 2) underlying35 sizeOf33) ?_
     refine J.op rfl (op_store 3 rfl rfl rfl rfl (gV_cells _ _) (gV_one _ _) sizeOf33 rfl rfl (LSpl.s (LSpl.s (LSpl.c LSpl.z))) (LSet.s (LSet.s (LSet.s LSet.z))) ?_)
     refine J.nil (Ej.blkNormal (Ej.seq (Cj.region (J.z q0 ?_))))
     refine J.z (yl_add rfl rfl rfl (w64 (by omega))) ?_
     refine J.z q1 ?_
     refine J.nil (Ej.keep (Keeps.d (Keeps.d (Keeps.d (Keeps.k (Keeps.k Keeps.r))))) ?_)
     refine Ej.round (k + 1, _, fs ++ [⟨Ix.tagN q.x0, Ix.indsL.getD (q.x1 % 8).toNat [], [], gV (subsN q j).length g2, subsN q j⟩], g21) ⟨by dsimp only; omega, by dsimp only; omega, hIJ, SubsN.add hS hss, by dsimp only; rw [nrm_add, map_next _ hget, hN, fld_d hC, ← hnn]; rfl, by dsimp only; rw [List.length_append, hfl]; rfl, by dsimp only; rw [flat_one, List.length_append]; exact hg21⟩ (by dsimp only; omega) ⟨rfl, rfl, rfl, rfl, trivial⟩ rfl (by dsimp only; rw [flat_one, List.length_append]; rfl)
  ·
   have hg7p := of_decide_eq_false hg7
   have hC : ¬ Ix.isC (Ix.tagN q.x0) := fun g => by have h := of_decide_eq_false hg7; have := g.1; omega
   refine q4 4 32 33 true hg7 ?_
   refine q4 4 32 34 true hg7 ?_
   refine q4 4 32 35 true hg7 ?_
   refine q4 4 32 36 true hg7 ?_
   refine J.z (q10 hg7) ?_
   refine J.c0 (fun hc22 => ?_)
   refine Cj.skip (Ej.seq (Cj.sr (J.op rfl (q13 underlying28 sizeOf9 zeroValue9 (LCat.one rfl (LCat.one rfl (LCat.one rfl (LCat.one rfl (LCat.one rfl (LCat.one rfl (LCat.one rfl (LCat.one rfl LCat.none)))))))) ?_))))
   intro b23 hb23
   refine J.z (q26 (off' := 1) underlying143 sizeOf3) ?_
   refine J.z (q7 isAgg3 (Blk.at 2 rfl)) ?_
   refine J.op rfl (op_pure rfl rfl rfl rfl rfl (nMod_ok q.x1 8 (by decide) (by decide) _) ?_)
   refine J.z (yl_indexAddr (off' := (q.x1 % 8).toNat) rfl rfl rfl underlying28 sizeOf9 (by omega) (by omega) (by omega)) ?_
   refine J.z (yl_load rfl rfl isAgg9 (Blk.at 0 rfl) (get_str (l := Ix.indsL) (by omega) (by simp [Ix.indsL]; omega))) ?_
   refine J.z (q3 (off' := 1) underlying31 sizeOf9) ?_
   refine J.op rfl (q18 1 sizeOf9 (LSpl.s (LSpl.c LSpl.z)) (LSet.s LSet.z) ?_)
   refine J.nss ?_
   obtain ⟨nn, hnn⟩ : ∃ nn : Nat, nn = 1 + (q.x2 % 3).toNat := ⟨_, rfl⟩
   have hn3 : nn ≤ 3 := by omega
   refine Cj.region (J.z (q26 (off' := 2) underlying143 sizeOf3) ?_)
   refine J.z (q7 isAgg3 (Blk.at 2 rfl)) ?_
   refine J.op rfl (op_pure rfl rfl rfl rfl rfl (nMod_ok q.x2 3 (by decide) (by decide) _) ?_)
   refine J.z (yl_add rfl rfl rfl (w64 (by omega))) ?_
   refine J.eqv 58 rfl (show _ = i64 (nn : Int) from (congrArg i64 (by omega))) ?_
   refine J.z q1 ?_
   refine J.nsss (Cj.keep (Keeps.d Keeps.r) ?_)
   refine Cj.region (J.z q1 ?_)
   refine J.ns (Cj.block (Cj.keep (Keeps.k (Keeps.k (Keeps.k (Keeps.k Keeps.r)))) ?_))
   refine Cj.loop (ι := Nat × Gs) (fun y => y.1 ≤ nn ∧ gOk w0.heap.size 2 (subsN q y.1).length ((subsN q y.1).flatMap subC) y.2) (fun y => nn - y.1) (fun y => [(0, .slice (some ⟨lb, lo, none⟩) l.length c), (2, ptr b1 0), (3, ptr b2 0), (4, i64 (k : Int)), (5, ptr b5 0), (6, ptr b6 0), (7, i64 (nn : Int)), (8, i64 (y.1 : Int))]) (fun y => _) (fun y => (b6, cel 31 [str (Ix.tagN q.x0), str (Ix.indsL.getD (q.x1 % 8).toNat []), str [], gV (subsN q y.1).length y.2]) :: (b5, cel 143 (fourC q)) :: (b2, cel 35 [u8 97, u8 109, gV fs.length g]) :: (b1, cel 35 [u8 0, u8 0, .slice none 0 0]) :: (gH 65 ((subsN q y.1).flatMap subC) y.2 ++ gH 31 (fs.flatMap fldC) g)) (0, none) ⟨Nat.zero_le _, rfl, rfl⟩ ⟨rfl, rfl, rfl, rfl, rfl, rfl, rfl, rfl, trivial⟩ rfl rfl ?_
   rintro ⟨j, g2⟩ ⟨hj, hgs⟩
   dsimp only at hj hgs ⊢
   have hsl := subsN_len q j
   refine Cj.seq (Cj.sr (J.z q0 ?_))
   refine J.z q0 ?_
   refine J.z q17 ?_
   refine J.cd (fun hc24 => ?_) (fun hc24 => ?_)
   ·
    have hc24p := of_decide_eq_true hc24
    refine Cj.skip (Ej.seq (Cj.seq (Cj.block (Cj.drawSel [0, 1, 2, 3] [] 24 (by kernel_rfl) ?_))))
    have hlb_15 := hlb
    refine JA.fix ⟨(HSub.c 0 rfl (HSub.c 1 rfl (HSub.c 2 rfl (HSub.c 3 rfl HSub.n)))), CSub.n, (Le.refl _)⟩ (fun fx25 => ?_)
    refine JA.tk 0 rfl fx25 (q3 (off' := 3) underlying31 sizeOf29) ?_
    refine JA.tk 1 rfl fx25 (q7 isAgg29 (Blk.atC 0 rfl)) ?_
    refine JA.tk 2 rfl fx25 (q26 (off' := 2) underlying143 sizeOf3) ?_
    refine JA.tk 3 rfl fx25 (q7 isAgg3 (Blk.atC 1 rfl)) ?_
    refine JA.tk 4 rfl fx25 (yl_quo rfl rfl rfl (by decide) (w64 (by have h := td_rng hq.h2 3 (by decide); omega))) ?_
    refine JA.tk 5 rfl fx25 q0 ?_
    refine JA.tk 6 rfl fx25 (q26 (off' := 1) underlying143 sizeOf3) ?_
    refine JA.tk 7 rfl fx25 (q7 isAgg3 (Blk.atC 1 rfl)) ?_
    refine JA.tk 14 rfl fx25 (q26 (off' := 3) underlying143 sizeOf3) ?_
    refine JA.tk 15 rfl fx25 (q7 isAgg3 (Blk.atC 1 rfl)) ?_
    refine JA.tk 16 rfl fx25 q0 ?_
    refine JA.tk 17 rfl fx25 (yl_mul rfl rfl rfl (w64 (by omega))) ?_
    refine JA.tk 18 rfl fx25 (yl_addW rfl rfl rfl) ?_
    refine JA.step 8 (by kernel_rfl) rfl rfl (op_pure rfl rfl rfl rfl rfl (nMod_ok q.x1 3 (by decide) (by decide) _) ?_)
    refine ⟨⟨(Le.refl _), (HSub.c 0 rfl (HSub.c 1 rfl (HSub.c 2 rfl (HSub.c 3 rfl HSub.n)))), CSub.n⟩, ?_⟩
    refine JA.fix ⟨(HSub.c 0 rfl (HSub.c 1 rfl (HSub.c 2 rfl (HSub.c 3 rfl HSub.n)))), CSub.n, (Le.refl _)⟩ (fun fx26 => ?_)
    refine JA.tk 9 rfl fx26 (yl_add rfl rfl rfl (w64 (by omega))) ?_
    refine JA.tk 10 rfl fx26 (yl_mul rfl rfl rfl (w64 (by have h := mul_small (j := j) (m := q.x1 % 3) (by omega) (by omega) (by omega); omega))) ?_
    refine JA.tk 11 rfl fx26 (yl_add rfl rfl rfl (w64 (by have h := td_rng hq.h2 3 (by decide); have h2 := mul_small (j := j) (m := q.x1 % 3) (by omega) (by omega) (by omega); omega))) ?_
    refine JA.step 12 (by kernel_rfl) rfl rfl (op_pure rfl rfl rfl rfl rfl (nMod_ok (q.x2.tdiv 3 + (j : Int) * (1 + q.x1 % 3)) 8 (by decide) (by decide) _) ?_)
    refine ⟨⟨(Le.refl _), (HSub.c 0 rfl (HSub.c 1 rfl (HSub.c 2 rfl (HSub.c 3 rfl HSub.n)))), CSub.n⟩, ?_⟩
    refine JA.fix ⟨(HSub.c 0 rfl (HSub.c 1 rfl (HSub.c 2 rfl (HSub.c 3 rfl HSub.n)))), CSub.n, (Le.refl _)⟩ (fun fx27 => ?_)
    refine JA.tk 13 rfl fx27 (yl_index rfl rfl rfl underlying9 (by omega) (get_code (l := Ix.codesL) (by omega) (by simp [Ix.codesL]; omega))) ?_
    refine q15 19 rfl (op_pure rfl rfl rfl rfl rfl (nText_ok _ _) ?_)
    refine ⟨⟨(Le.refl _), (HSub.c 0 rfl (HSub.c 1 rfl (HSub.c 2 rfl (HSub.c 3 rfl HSub.n)))), CSub.n⟩, ?_⟩
    refine JA.fix ⟨(HSub.c 0 rfl (HSub.c 1 rfl (HSub.c 2 rfl (HSub.c 3 rfl HSub.n)))), CSub.n, (Le.refl _)⟩ (fun fx28 => ?_)
    refine JA.tk 20 rfl fx28 (yl_buildS (pl := #[(0, 1), (1, 1)]) rfl rfl zeroValue65 rfl underlying65 (fun w => by simp [sizeOf5, sizeOf9]) (LBld.part rfl rfl rfl (LSpl.c LSpl.z) (LBld.part rfl rfl rfl (LSpl.s (LSpl.c LSpl.z)) LBld.none))) ?_
    refine q15 21 rfl (q13 underlying29 sizeOf65 zeroValue65 (LCat.agg rfl LCat.none) ?_)
    intro b29 hb29
    refine ⟨⟨(Le.refl _), (HSub.c 1 rfl (HSub.c 2 rfl (HSub.c 3 rfl (HSub.c 4 rfl HSub.n)))), CSub.n⟩, ?_⟩
    refine JA.perm (H' := [_, _, _, _, _] ++ (gH _ _ _ ++ gH _ _ _)) (perm_swap [_, _, _, _, _] _ _) ?_
    refine JA.step 22 (by kernel_rfl) rfl rfl (op_append (by' := 23) ([_, _, _, _, _] ++ gH _ _ _) rfl rfl rfl rfl rfl underlying29 (.inr ⟨_, underlying29⟩) (by kernel_rfl) sizeOf65 zeroValue65 rfl hgs rfl (Src.slice (Blk.at 0 rfl) rfl rfl rfl) (by omega) ?_)
    intro g30 hg30
    refine ⟨⟨(Le.refl _), (HSub.c 1 rfl (HSub.c 2 rfl (HSub.c 3 rfl (HSub.c 4 rfl HSub.n)))), CSub.n⟩, ?_⟩
    refine JA.fix ⟨(HSub.c 1 rfl (HSub.c 2 rfl (HSub.c 3 rfl (HSub.c 4 rfl HSub.n)))), CSub.n, (Le.refl _)⟩ (fun fx31 => ?_)
    refine JA.tk 23 rfl fx31 (q3 (off' := 3) underlying31 sizeOf29) ?_
    refine JA.last 24 (by kernel_rfl) rfl rfl rfl (op_store 1 rfl rfl rfl rfl (gV_cells _ _) (gV_one _ _) sizeOf29 rfl rfl (LSpl.s (LSpl.s (LSpl.s (LSpl.c LSpl.z)))) (LSet.s LSet.z) ?_)
    refine JA.done (by kernel_rfl) ?_
    refine Ej.blkNormal (Ej.seq (Cj.region (J.z q0 ?_)))
    refine J.z (yl_add rfl rfl rfl (w64 (by omega))) ?_
    refine J.z q1 ?_
    refine J.nil (Ej.perm (perm_swap [_, _, _, _, _] (gH _ _ _) (gH _ _ _)) ?_)
    refine Ej.keep (Keeps.d (Keeps.k (Keeps.k (Keeps.k (Keeps.k Keeps.r))))) ?_
    refine Ej.round (j + 1, g30) ⟨by dsimp only; omega, by dsimp only; rw [subsN_next, List.length_append, List.flatMap_append]; exact hg30⟩ (by dsimp only; omega) ⟨rfl, rfl, rfl, rfl, rfl, rfl, rfl, rfl, trivial⟩ rfl (by dsimp only; rw [subsN_next, List.length_append, List.flatMap_append]; rfl)
   ·
    have hc24p := of_decide_eq_false hc24
    refine Cj.exit (Ej.seqExit (Ej.loopExit (Ej.blkExit (Ej.seq ?_))))
    have hjn : j = nn := by omega
    subst hjn
    refine Cj.perm (perm_front [_, _, _, _] (gH _ _ _) (gH _ _ _)) ?_
    refine Cj.keepN subC_len (by decide) hgs rfl (fun I8 hle8 hss => ?_)
    have hIJ := hIJ.mono hle8
    have hS := hS.mono hle8
    have hv := hv.mono hle8
    have hlb := hle8 _ _ hlb
    refine Cj.region (J.z (q3 (off' := 2) underlying35 sizeOf33) ?_)
    refine J.z (q7 isAgg33 (Blk.at 2 rfl)) ?_
    refine J.z (q14 isAgg31 sizeOf31 (Blk.at 0 rfl)) ?_
    refine J.op rfl (q13 underlying33 sizeOf31 zeroValue31 (LCat.agg rfl LCat.none) ?_)
    intro b32 hb32
    refine J.op rfl (op_append (by' := 71) [_, _, _, _, _] rfl rfl rfl rfl rfl underlying33 (.inr ⟨_, underlying33⟩) (by kernel_rfl) sizeOf31 zeroValue31 rfl hg rfl (Src.slice (Blk.at 0 rfl) rfl rfl (by show [str (Ix.tagN q.x0), str (Ix.indsL.getD (q.x1 % 8).toNat []), str [], gV _ _].all Value.oneCell' = true; simp only [List.all_cons, List.all_nil, gV_one', Bool.and_true]; rfl)) (by omega) ?_)
    intro g33 hg33
    refine J.z (q3 (off' := 2) underlying35 sizeOf33) ?_
    refine J.op rfl (op_store 3 rfl rfl rfl rfl (gV_cells _ _) (gV_one _ _) sizeOf33 rfl rfl (LSpl.s (LSpl.s (LSpl.c LSpl.z))) (LSet.s (LSet.s (LSet.s LSet.z))) ?_)
    refine J.nil (Ej.blkNormal (Ej.seq (Cj.region (J.z q0 ?_))))
    refine J.z (yl_add rfl rfl rfl (w64 (by omega))) ?_
    refine J.z q1 ?_
    refine J.nil (Ej.keep (Keeps.d (Keeps.d (Keeps.d (Keeps.k (Keeps.k Keeps.r))))) ?_)
    refine Ej.round (k + 1, _, fs ++ [⟨Ix.tagN q.x0, Ix.indsL.getD (q.x1 % 8).toNat [], [], gV (subsN q j).length g2, subsN q j⟩], g33) ⟨by dsimp only; omega, by dsimp only; omega, hIJ, SubsN.add hS hss, by dsimp only; rw [nrm_add, map_next _ hget, hN, fld_d hC, ← hnn]; rfl, by dsimp only; rw [List.length_append, hfl]; rfl, by dsimp only; rw [flat_one, List.length_append]; exact hg33⟩ (by dsimp only; omega) ⟨rfl, rfl, rfl, rfl, trivial⟩ rfl (by dsimp only; rw [flat_one, List.length_append]; rfl)
 ·
  have hc4p := of_decide_eq_false hc4
  refine Cj.exit (Ej.seqExit (Ej.loopExit (Ej.blkExit (Ej.seq (Cj.sr (J.z (q14 isAgg35 sizeOf35 (Blk.at 0 rfl)) ?_))))))
  refine J.op rfl (op_store 1 rfl rfl rfl rfl rfl (by show [u8 97, u8 109, gV _ _].all Value.oneCell' = true; simp only [List.all_cons, List.all_nil, gV_one', Bool.and_true]; rfl) sizeOf35 rfl rfl (LSpl.c (LSpl.c (LSpl.c LSpl.z))) (LSet.s LSet.z) ?_)
  refine J.ns (Cj.ret ?_)
  have hmade : Ke.nrm fs = Ix.madeR l := by rw [hN]; unfold Ix.madeR; rw [made_take hk (by omega)]
  refine Ej.perm (H' := gH _ _ _ ++ [_, _]) List.perm_append_comm ?_
  refine Ej.keepN fldC_len (by decide) hg rfl (fun I9 hle9 hfs => ?_)
  refine Ej.retC (Keeps.d (Keeps.d Keeps.n)) rfl rfl rfl (Blk.at 1 rfl) isAgg35 sizeOf35 rfl ?_
  exact ⟨fs, _, rfl, RecN.imp ⟨hfs, fun f hf => ((hS f hf).mono hle9)⟩ (fun b hb => hw0.dom hb), hmade, rfl⟩
end Go.Proofs.YtjcdfnbomkoheaaGreatDoor
end
section
namespace Go.Proofs.YtjcdfnbomkoheaaGreatDoor
open _root_.Go.Proofs.Tryz
open Go Go.Sx
structure Act where
  a : Ix.ActL
  v : Value
def actC (x : Act) : List Value := [.bool x.a.drop, i64 x.a.src, i64 x.a.num, x.v]
theorem actC_len (x : Act) : (actC x).length = 4 := rfl
def ActsS (I : Heap) (xs : List Act) (v : Value) : Prop := RowS actC I xs v ∧ ∀ x ∈ xs, RowS fourC I x.a.fs x.v
theorem ActsS.mono {I I' : Heap} {xs : List Act} {v : Value} (h : ActsS I xs v) (hle : Le I I') : ActsS I' xs v := ⟨h.1.mono hle, fun x hx => (h.2 x hx).mono hle⟩
def ActsOk (xs : List Act) : Prop := ∀ x ∈ xs, ∀ q ∈ x.a.fs, FourOk q
abbrev acts (xs : List Act) : List Ix.ActL := xs.map (·.a)
theorem take_min {α : Type} (l : List α) : l.take (min l.length 8) = l.take 8 := by
  rcases Nat.le_total l.length 8 with h | h
  · rw [Nat.min_eq_left h, List.take_of_length_le h, List.take_of_length_le (Nat.le_refl _)]
  rw [Nat.min_eq_right h]
structure IsEnt (I : Heap) (a : Ix.ActL) (e : Ent) : Prop where
  t : e.t = a.title
  r : RecS I e.fs e.v
  n : Ke.nrm e.fs = a.record
theorem IsEnt.mono {I I' : Heap} {a : Ix.ActL} {e : Ent} (h : IsEnt I a e) (hle : Le I I') : IsEnt I' a e := ⟨h.t, h.r.mono hle, h.n⟩
structure IsEntN (N : Nat → Prop) (I : Heap) (a : Ix.ActL) (e : Ent) : Prop where
  t : e.t = a.title
  r : RecN N I e.fs e.v
  n : Ke.nrm e.fs = a.record
theorem IsEntN.ent {N : Nat → Prop} {I : Heap} {a : Ix.ActL} {e : Ent} (h : IsEntN N I a e) : IsEnt I a e := ⟨h.t, h.r.rec, h.n⟩
theorem IsEnt.vals {I : Heap} {a : Ix.ActL} {e : Ent} (h : IsEnt I a e) : Ix.vals e.fs = a.vs := by rw [← vals_nrm, h.n]; rfl
theorem IsEnt.eok {I : Heap} {a : Ix.ActL} {e : Ent} (h : IsEnt I a e) : EOK e.fs := made_eok h.n
theorem EntryN_ok (x : Act) (hok : ∀ q ∈ x.a.fs, FourOk q) (I : Heap) (hv : RowS fourC I x.a.fs x.v) : Ctr Tryz.prog 41 [.agg (actC x).toArray] I [] (fun ev I' H' => ∃ e, ev = .returned (.agg (entC e).toArray) ∧ IsEntN (I · = none) I' x.a e ∧ H' = []) := by
 obtain ⟨p, c, hxv⟩ := RowS.len hv
 have hcap : x.a.fs.length ≤ c := by obtain ⟨p1, c1, h1, h2, _⟩ := hv; rw [hxv] at h1; cases h1; exact h2
 have hrow : RowS fourC I (x.a.fs.take 8) (.slice p (min x.a.fs.length 8) c) := by rw [← take_min]; rw [hxv] at hv; exact hv.take (Nat.min_le_left _ _)
 refine Ctr.ob func41 ?_
 intro w0 hw0
 refine Cj.sr (J.op rfl (q25 ?_))
 intro b1 hb1
 refine J.op rfl (op_alloc rfl rfl rfl zeroValue37 rfl ?_)
 intro b2 hb2
 refine J.nss (Cj.drawSel [0, 1] [] 14 (by kernel_rfl) ?_)
 refine JA.fix ⟨(HSub.c 0 rfl (HSub.c 1 rfl HSub.n)), CSub.n, (Le.refl _)⟩ (fun fx3 => ?_)
 refine JA.tk 0 rfl fx3 (q3 (off' := 1) underlying80 sizeOf3) ?_
 refine JA.tk 1 rfl fx3 (q7 isAgg3 (Blk.atC 1 rfl)) ?_
 refine JA.tk 2 rfl fx3 (q3 (off' := 2) underlying80 sizeOf3) ?_
 refine JA.tk 3 rfl fx3 (q7 isAgg3 (Blk.atC 1 rfl)) ?_
 refine JA.tk 4 rfl fx3 (yl_buildS (pl := #[(0, 1), (1, 1)]) rfl rfl zeroValue26 rfl underlying26 (fun w => by simp [sizeOf3]) (LBld.part rfl rfl rfl (LSpl.c LSpl.z) (LBld.part rfl rfl rfl (LSpl.s (LSpl.c LSpl.z)) LBld.none))) ?_
 refine JA.tk 5 rfl fx3 (q3 (off' := 3) underlying80 sizeOf78) ?_
 refine JA.tk 6 rfl fx3 (q7 isAgg78 (Blk.atC 1 rfl)) ?_
 refine JA.eqv 9 rfl (show _ = .slice p x.a.fs.length c from hxv) ?_
 refine JA.tk 7 rfl fx3 (q3 (off' := 3) underlying80 sizeOf78) ?_
 refine JA.tk 8 rfl fx3 (q7 isAgg78 (Blk.atC 1 rfl)) ?_
 refine JA.eqv 11 rfl (show _ = .slice p x.a.fs.length c from hxv) ?_
 refine JA.tk 9 rfl fx3 (q16 underlying78) ?_
 refine JA.tk 10 rfl fx3 (yl_min2 rfl rfl rfl) ?_
 refine JA.tk 11 rfl fx3 (yl_slice0 (k := (min x.a.fs.length 8)) rfl rfl rfl underlying78 sizeOf143 (by split <;> omega) (by omega)) ?_
 refine JA.step 12 (by kernel_rfl) rfl rfl (op_call (H1 := []) rfl rfl rfl rfl rfl (nMadeN_ok (x.a.fs.take 8) _ (fun q hq => hok q (List.mem_of_mem_take hq)) _ hrow) ?_ (fun _ _ _ _ ⟨_, _, h, _⟩ => nomatch h) (fun _ _ ⟨_, _, h, _⟩ => nomatch h))
 intro v4 I5 H6 hle7 hp8
 have hrow := hrow.mono hle7
 obtain ⟨fs, w, h, hrec, hmade, rfl⟩ := hp8; cases h
 obtain ⟨wp, wc, rfl⟩ := RowS.len hrec.1.row
 refine ⟨⟨(Le.trans (Le.refl _) hle7), (HSub.c 0 rfl (HSub.c 1 rfl HSub.n)), CSub.n⟩, ?_⟩
 refine JA.fix ⟨(HSub.c 0 rfl (HSub.c 1 rfl HSub.n)), CSub.n, (Le.trans (Le.refl _) hle7)⟩ (fun fx9 => ?_)
 refine JA.tk 13 rfl fx9 (yl_buildS (pl := #[(0, 2), (2, 3)]) rfl rfl zeroValue37 rfl underlying37 (fun w => by simp [sizeOf26, sizeOf35]) (LBld.part rfl rfl rfl (LSpl.c (LSpl.c LSpl.z)) (LBld.part rfl rfl rfl (LSpl.s (LSpl.s (LSpl.c (LSpl.c (LSpl.c LSpl.z))))) LBld.none))) ?_
 refine JA.last 14 (by kernel_rfl) rfl rfl rfl (q18 0 sizeOf37 (LSpl.c (LSpl.c (LSpl.c (LSpl.c (LSpl.c LSpl.z))))) LSet.z ?_)
 refine JA.done (by kernel_rfl) ?_
 refine Ej.seq (Cj.ret (Ej.retC (Keeps.d (Keeps.d Keeps.n)) rfl rfl rfl (Blk.at 0 rfl) isAgg37 sizeOf37 rfl ?_))
 exact ⟨⟨x.a.title, 97, 109, _, fs⟩, rfl, ⟨rfl, hrec, hmade⟩, rfl⟩
theorem Entry_ok (x : Act) (hok : ∀ q ∈ x.a.fs, FourOk q) (I : Heap) (hv : RowS fourC I x.a.fs x.v) : Ctr Tryz.prog 41 [.agg (actC x).toArray] I [] (fun ev I' H' => ∃ e, ev = .returned (.agg (entC e).toArray) ∧ IsEnt I' x.a e ∧ H' = []) :=
  (EntryN_ok x hok I hv).mono fun _ _ _ _ ⟨e, h1, h2, h3⟩ => ⟨e, h1, h2.ent, h3⟩
theorem acts_take (xs : List Act) (k : Nat) : acts (xs.take k) = (acts xs).take k := List.map_take
end Go.Proofs.YtjcdfnbomkoheaaGreatDoor
end
section
namespace Go.Proofs.YtjcdfnbomkoheaaGreatDoor
open _root_.Go.Proofs.Tryz
open Go Go.Sx
def nms : List (List UInt8) := Ix.names ++ [[120]]
def nameN (n : UInt8) : List UInt8 := nms.getD (n.toNat % 7) []
theorem nms_at (n : UInt8) (sp : List Value) : (Ix.names.map str ++ [str [120]] ++ sp)[n.toNat % 7]? = some (str (nameN n)) := by
  have h : n.toNat % 7 < 7 := Nat.mod_lt _ (by decide)
  rw [List.getElem?_append_left (by show n.toNat % 7 < 7; exact h)]
  have h2 : Ix.names.map str ++ [str [120]] = nms.map str := rfl
  rw [h2, List.getElem?_map]
  unfold nameN
  rw [List.getElem?_eq_getElem (by show n.toNat % 7 < 7; exact h), List.getD_eq_getElem?_getD, List.getElem?_eq_getElem (by show n.toNat % 7 < 7; exact h)]; rfl
theorem name_ok (n : UInt8) (I : Heap) : Pure Tryz.prog 31 [u8 n] I (str (nameN n)) := by
 refine Ctr.toPure ?_
 have hnl := n.toNat_lt
 refine Ctr.ob func31 ?_
 intro w0 hw0
 refine Cj.sr (J.z q1 ?_)
 refine J.nssr (J.op rfl (op_callN rfl rfl rfl rfl rfl (Names_ok _) ?_ (fun _ _ _ _ ⟨_, h, _⟩ => nomatch h) (fun _ _ ⟨_, h, _⟩ => nomatch h)))
 intro v2 I3 H4 hle5 hn1 hp6
 obtain ⟨nb, h, rfl⟩ := hp6; cases h
 have hnb := hn1 _ (.head _)
 refine J.op rfl (q13 underlying28 sizeOf9 zeroValue9 (LCat.one rfl LCat.none) ?_)
 intro b7 hb7
 refine J.op rfl (op_append (by' := 15) (n := 6) (g := some (nb, 6, [])) (xs := Ix.names.map str) [_] rfl rfl rfl rfl rfl underlying28 (.inr ⟨_, underlying28⟩) (by kernel_rfl) sizeOf9 zeroValue9 rfl ⟨hnb, rfl, rfl⟩ rfl (Src.slice (Blk.at 0 rfl) rfl rfl rfl) (by omega) ?_)
 intro g8 hg8
 refine J.z q0 ?_
 refine J.z (yl_convInt rfl rfl underlying5 underlying3) ?_
 refine J.eqv 7 rfl (show _ = i64 ((n.toNat : Nat) : Int) from (congrArg i64 (w64 (by omega)))) ?_
 obtain ⟨bg9, cg10, sp11, rfl, hbg9⟩ := hg8.some (by decide)
 refine J.op rfl (op_callN rfl rfl rfl rfl rfl (Names_ok _) ?_ (fun _ _ _ _ ⟨_, h, _⟩ => nomatch h) (fun _ _ ⟨_, h, _⟩ => nomatch h))
 intro v13 I14 H15 hle16 hn12 hp17
 obtain ⟨nc, h, rfl⟩ := hp17; cases h
 have hnc := hn12 _ (.head _)
 refine J.z (q16 underlying28) ?_
 refine J.z (yl_add rfl rfl rfl (w64 (by omega))) ?_
 refine J.z (yl_rem rfl rfl rfl (by decide)) ?_
 refine J.eqv 11 rfl (show _ = i64 ((n.toNat % 7 : Nat) : Int) from (congrArg i64 (by rw [Int.tmod_eq_emod_of_nonneg (by omega)]; omega))) ?_
 refine J.z (yl_indexAddr (off' := n.toNat % 7) rfl rfl rfl underlying28 sizeOf9 (by omega) (by simp; omega) (by omega)) ?_
 refine J.z (yl_load rfl rfl isAgg9 (Blk.at 2 rfl) (nms_at n _)) ?_
 refine J.z q1 ?_
 refine J.ns (Cj.ret (Ej.bare ?_))
 refine q6 ?_
 exact ⟨rfl, rfl⟩
theorem act_t {L : Ix.Ix} {a : Ix.ActL} (h : a.drop = true) : Ix.act L a = Ix.rdrop a.title L := if_pos h
theorem act_f {L : Ix.Ix} {a : Ix.ActL} (h : a.drop = false) : Ix.act L a = Ix.rput a.title a.vs L := if_neg (by rw [h]; decide)
theorem act_len (L : Ix.Ix) (a : Ix.ActL) : (Ix.act L a).length ≤ L.length + 1 := by
  unfold Ix.act
  split
  · exact Nat.le_succ_of_le (List.length_filter_le _ _)
  exact rput_len _ _ _
theorem acts_lenF : ∀ (l : List Ix.ActL) (L : Ix.Ix), (l.foldl Ix.act L).length ≤ L.length + l.length
  | [], _ => Nat.le_refl _
  | a :: r, L => by
    have h1 := acts_lenF r (Ix.act L a)
    have h2 := act_len L a
    rw [List.foldl_cons, List.length_cons]; omega
theorem acts_len (xs : List Act) : ((acts xs).foldl Ix.act []).length ≤ xs.length := by
  have := acts_lenF (acts xs) []
  rw [List.length_map, List.length_nil] at this; omega
theorem play_eq {xs : List Act} {k : Nat} (hk : k ≤ xs.length) (h : k ≤ 20 ∧ (xs.length ≤ k ∨ 20 ≤ k)) : (acts (xs.take k)).foldl Ix.act [] = Ix.play (acts xs) := by
  rw [made_take hk h, acts_take]; rfl
theorem play_ok (xs : List Act) (v : Value) (hao : ActsOk xs) (I : Heap) (hA0 : ActsS I xs v) : Ctr Tryz.prog 30 [v] I [] (fun ev I' H' => ∃ ib o, ev = .returned (ptr ib 0) ∧ IxOk I' o (Ix.play (acts xs)) ∧ H' = ixH ib o) := by
 obtain ⟨p, c, rfl⟩ := RowS.len hA0.1
 refine Ctr.ob func30 ?_
 intro w0 hw0
 refine Cj.sr (J.z q1 ?_)
 refine J.nssr (J.op rfl (op_callR (H1 := []) [] rfl rfl rfl rfl rfl rfl (Build_ok [] _ (by simp) (fun e h => (by cases h)) _ EntsS.nil) ?_ (fun _ _ _ _ ⟨_, _, h, _⟩ => nomatch h) (fun _ _ ⟨_, _, h, _⟩ => nomatch h)))
 intro v1 I2 H3 hle4 hp5
 obtain ⟨ib, o0, h, hok0, rfl⟩ := hp5; cases h
 have hIJ0 := hle4
 refine J.z q1 ?_
 refine J.nsss (Cj.region (J.z q1 ?_))
 refine J.ns (Cj.block (Cj.keep Keeps.r ?_))
 refine Cj.loop (ι := Nat × Heap × Option Ist) (fun y => y.1 ≤ xs.length ∧ y.1 ≤ 20 ∧ Le I y.2.1 ∧ IxOk y.2.1 y.2.2 ((acts (xs.take y.1)).foldl Ix.act [])) (fun y => 20 - y.1) (fun y => [(0, .slice p xs.length c), (3, ptr ib 0), (4, i64 (y.1 : Int))]) (fun y => y.2.1) (fun y => ixH ib y.2.2) (0, _, o0) ⟨Nat.zero_le _, Nat.zero_le _, hIJ0, hok0⟩ ⟨rfl, rfl, rfl, trivial⟩ rfl rfl ?_
 rintro ⟨k, Jh, o⟩ ⟨hk, hk20, hIJ, hok⟩
 dsimp only at hk hk20 hIJ hok ⊢
 have hA := hA0.mono hIJ
 have hll := acts_len (xs.take k)
 rw [List.length_take, Nat.min_eq_left hk] at hll
 refine Cj.seq (Cj.sr (J.z q0 ?_))
 refine J.z q0 ?_
 refine J.z (q16 underlying51) ?_
 refine J.z q17 ?_
 refine J.z q0 ?_
 refine J.split 10 rfl (fun hg6 => ?_) (fun hg6 => ?_)
 rotate_left
 ·
  have hg6p := of_decide_eq_false hg6
  refine q4 4 10 11 true hg6 ?_
  refine q4 4 10 12 true hg6 ?_
  refine J.z (q10 hg6) ?_
  refine J.c0 (fun hc29 => ?_)
  refine Cj.exit (Ej.seqExit (Ej.loopExit (Ej.blkExit (Ej.seq (Cj.sr (J.z q0 ?_))))))
  refine J.z q1 ?_
  refine J.ns (Cj.ret ?_)
  have hpl := play_eq hk (by omega)
  rw [hpl] at hok
  refine q6 ?_
  exact ⟨ib, o, rfl, hok, rfl⟩
 have hg6p := of_decide_eq_true hg6
 refine q5 4 10 true hg6 (q2 q0 ?_)
 refine q5 4 10 true hg6 (q2 q17 ?_)
 refine J.z (q11 hg6) ?_
 refine J.cd (fun hc7 => ?_) (fun hc7 => ?_)
 ·
  have hc7p := of_decide_eq_true hc7
  refine Cj.skip (Ej.seq (Cj.seq (Cj.block (Cj.seq ?_))))
  have hlt : k < xs.length := by omega
  have hlt2 : k < 20 := by omega
  obtain ⟨x, hget⟩ : ∃ x, xs[k]? = some x := ⟨_, List.getElem?_eq_getElem hlt⟩
  have hxm := List.mem_of_getElem? hget
  obtain ⟨p1, c1, hpe, hc1, hp⟩ := id hA.1
  cases hpe
  obtain ⟨ab, ao, acs, aty, afr, asp, rfl, hab, had⟩ := hp (ne_nil_of hlt)
  have hfv := hA.2 x hxm
  obtain ⟨vp, vc, hxv⟩ := RowS.len hfv
  have hnx : acts (xs.take (k + 1)) = acts (xs.take k) ++ [x.a] := map_next _ hget
  refine Cj.region (J.z q0 ?_)
  refine J.z q0 ?_
  refine J.z (q24 (off' := ao + k * 4) underlying51 sizeOf80) ?_
  refine J.z (q3 underlying80 sizeOf4) ?_
  refine J.z (yl_load rfl rfl isAgg4 (Blk.imm hab) (row_fcell actC_len had hget 0 (by decide))) ?_
  refine J.cd (fun hc8 => ?_) (fun hc8 => ?_)
  ·
   have hdr : x.a.drop = true := hc8
   refine Cj.region (J.z q0 ?_)
   refine J.z q0 ?_
   refine J.z q0 ?_
   refine J.z (q24 (off' := ao + k * 4) underlying51 sizeOf80) ?_
   refine J.z (yl_loadAgg rfl rfl isAgg80 sizeOf80 (Blk.imm hab) (row_from actC_len had hget) rfl) ?_
   refine J.op rfl (op_call (H1 := []) rfl rfl rfl rfl rfl (Entry_ok x (hao x hxm) _ hfv) ?_ (fun _ _ _ _ ⟨_, h, _⟩ => nomatch h) (fun _ _ ⟨_, h, _⟩ => nomatch h))
   intro v9 I10 H11 hle12 hp13
   have hIJ := hIJ.mono hle12
   have hA := hA.mono hle12
   have hok := hok.mono hle12
   have hab := hle12 _ _ hab
   have hfv := hfv.mono hle12
   obtain ⟨e0, h, he0, rfl⟩ := hp13; cases h
   refine J.z (yl_fieldR (v := kvR e0.t) rfl rfl (fun _ => by kernel_rfl)) ?_
   refine J.op rfl (op_callR (H1 := ixH _ _) [] rfl rfl rfl rfl rfl rfl (Drop_ok ib o _ e0.t _ hok) ?_ (fun _ _ _ _ ⟨_, h, _⟩ => nomatch h) (fun _ _ ⟨_, h, _⟩ => nomatch h))
   intro v14 I15 H16 hle17 hp18
   have hIJ := hIJ.mono hle17
   have hA := hA.mono hle17
   have hok := hok.mono hle17
   have hab := hle17 _ _ hab
   have hfv := hfv.mono hle17
   have he0 := he0.mono hle17
   obtain ⟨o1, h, hok1, rfl⟩ := hp18; cases h
   refine J.nil (Ej.blkNormal (Ej.seq (Cj.region (J.z q0 ?_))))
   refine J.z (yl_add rfl rfl rfl (w64 (by omega))) ?_
   refine J.z q1 ?_
   refine J.nil (Ej.round (k + 1, _, o1) ⟨by dsimp only; omega, by dsimp only; omega, hIJ, by dsimp only; rw [hnx, List.foldl_append]; rw [he0.t] at hok1; show IxOk _ _ (Ix.act _ x.a); rw [act_t hdr]; exact hok1⟩ (by dsimp only; omega) ⟨rfl, rfl, rfl, trivial⟩ rfl rfl)
  ·
   have hdr : x.a.drop = false := hc8
   refine Cj.region (J.z q0 ?_)
   refine J.z q0 ?_
   refine J.z q0 ?_
   refine J.z (q24 (off' := ao + k * 4) underlying51 sizeOf80) ?_
   refine J.z (yl_loadAgg rfl rfl isAgg80 sizeOf80 (Blk.imm hab) (row_from actC_len had hget) rfl) ?_
   refine J.op rfl (op_call (H1 := []) rfl rfl rfl rfl rfl (Entry_ok x (hao x hxm) _ hfv) ?_ (fun _ _ _ _ ⟨_, h, _⟩ => nomatch h) (fun _ _ ⟨_, h, _⟩ => nomatch h))
   intro v19 I20 H21 hle22 hp23
   have hIJ := hIJ.mono hle22
   have hA := hA.mono hle22
   have hok := hok.mono hle22
   have hab := hle22 _ _ hab
   have hfv := hfv.mono hle22
   obtain ⟨e0, h, he0, rfl⟩ := hp23; cases h
   refine J.op rfl (op_callR (H1 := ixH _ _) [] rfl rfl rfl rfl rfl rfl (Put_ok ib o _ e0 _ hok (by omega) he0.eok he0.r) ?_ (fun _ _ _ _ ⟨_, h, _⟩ => nomatch h) (fun _ _ ⟨_, h, _⟩ => nomatch h))
   intro v24 I25 H26 hle27 hp28
   have hIJ := hIJ.mono hle27
   have hA := hA.mono hle27
   have hok := hok.mono hle27
   have hab := hle27 _ _ hab
   have hfv := hfv.mono hle27
   have he0 := he0.mono hle27
   obtain ⟨o1, h, hok1, rfl⟩ := hp28; cases h
   refine J.nil (Ej.blkNormal (Ej.seq (Cj.region (J.z q0 ?_))))
   refine J.z (yl_add rfl rfl rfl (w64 (by omega))) ?_
   refine J.z q1 ?_
   refine J.nil (Ej.round (k + 1, _, o1) ⟨by dsimp only; omega, by dsimp only; omega, hIJ, by dsimp only; rw [hnx, List.foldl_append]; rw [he0.t, he0.vals] at hok1; show IxOk _ _ (Ix.act _ x.a); rw [act_f hdr]; exact hok1⟩ (by dsimp only; omega) ⟨rfl, rfl, rfl, trivial⟩ rfl rfl)
 ·
  have hc7p := of_decide_eq_false hc7
  refine Cj.exit (Ej.seqExit (Ej.loopExit (Ej.blkExit (Ej.seq (Cj.sr (J.z q0 ?_))))))
  refine J.z q1 ?_
  refine J.ns (Cj.ret ?_)
  have hpl := play_eq hk (by omega)
  rw [hpl] at hok
  refine q6 ?_
  exact ⟨ib, o, rfl, hok, rfl⟩
def prs (ps : List Ke.Sub) : List (List UInt8) := ps.flatMap fun s => [[s.code], s.text]
theorem prs_len (ps : List Ke.Sub) : (prs ps).length = 2 * ps.length := by
  unfold prs
  induction ps with
  | nil => rfl
  | cons a r ih => rw [List.flatMap_cons, List.length_append, ih, List.length_cons]; simp; omega
theorem prs_at : ∀ {ps : List Ke.Sub} {i : Nat} {s : Ke.Sub}, ps[i]? = some s → (prs ps)[2 * i]? = some [s.code] ∧ (prs ps)[2 * i + 1]? = some s.text
  | [], i, _, h => by simp at h
  | a :: r, 0, s, h => by cases h; exact ⟨rfl, rfl⟩
  | a :: r, i + 1, s, h => by
    have := prs_at (ps := r) (i := i) (s := s) h
    have e : prs (a :: r) = [a.code] :: a.text :: prs r := rfl
    rw [e, show 2 * (i + 1) = 2 * i + 1 + 1 by omega, List.getElem?_cons_succ, List.getElem?_cons_succ, List.getElem?_cons_succ, List.getElem?_cons_succ]
    exact this
theorem field_ok (tag ind : List UInt8) (ps : List Ke.Sub) (v : Value) (hps : ps.length ≤ 1000) (I : Heap) (hv : StrP I (prs ps) v) : Ctr Tryz.prog 14 [str tag, str ind, v] I [] (fun e I' H' => ∃ w, e = .returned (.agg (fldC ⟨tag, ind, [], w, ps⟩).toArray) ∧ RowS subC I' ps w ∧ H' = []) := by
 obtain ⟨p, c, rfl, hc, hp⟩ := hv
 have hpl := prs_len ps
 refine Ctr.ob func14 ?_
 intro w0 hw0
 refine Cj.sr (J.op rfl (op_alloc rfl rfl rfl zeroValue31 rfl ?_))
 intro b1 hb1
 refine J.nssr (J.z q0 ?_)
 refine J.z q0 ?_
 refine J.z (yl_buildS (pl := #[(0, 1), (1, 1), (2, 1), (3, 1)]) rfl rfl zeroValue31 rfl underlying31 (fun w => by simp [sizeOf29, sizeOf9]) (LBld.part rfl rfl rfl (LSpl.c LSpl.z) (LBld.part rfl rfl rfl (LSpl.s (LSpl.c LSpl.z)) LBld.none))) ?_
 refine J.op rfl (op_alloc rfl rfl rfl zeroValue31 rfl ?_)
 intro b2 hb2
 refine J.op rfl (q18 0 sizeOf31 (LSpl.c (LSpl.c (LSpl.c (LSpl.c LSpl.z)))) LSet.z ?_)
 refine J.nsss (Cj.region (J.z q1 ?_))
 refine J.ns (Cj.block (Cj.loop (ι := Nat × Gs) (fun y => y.1 ≤ ps.length ∧ gOk w0.heap.size 2 (ps.take y.1).length ((ps.take y.1).flatMap subC) y.2) (fun y => ps.length - y.1) (fun y => [(0, str tag), (2, .slice p (prs ps).length c), (6, ptr b1 0), (7, ptr b2 0), (8, i64 ((2 * y.1 + 1 : Nat) : Int))]) (fun y => _) (fun y => (b2, cel 31 [str tag, str ind, str [], gV (ps.take y.1).length y.2]) :: (b1, cel 31 [str [], str [], str [], .slice none 0 0]) :: gH 65 ((ps.take y.1).flatMap subC) y.2) (0, none) ⟨Nat.zero_le _, rfl, rfl⟩ ⟨rfl, rfl, rfl, rfl, rfl, trivial⟩ rfl rfl ?_))
 rintro ⟨i, g⟩ ⟨hi, hg⟩
 dsimp only at hi hg ⊢
 have hsl : (ps.take i).length = i := by rw [List.length_take]; omega
 refine Cj.seq (Cj.sr (J.z q0 ?_))
 refine J.z q0 ?_
 refine J.z (q16 underlying28) ?_
 refine J.z q17 ?_
 refine J.cd (fun hc3 => ?_) (fun hc3 => ?_)
 ·
  have hc3p := of_decide_eq_true hc3
  refine Cj.skip (Ej.seq (Cj.seq (Cj.block ?_)))
  have hlt : i < ps.length := by omega
  obtain ⟨x, hsget⟩ : ∃ x, ps[i]? = some x := ⟨_, List.getElem?_eq_getElem hlt⟩
  have hsl1 : (ps.take (i + 1)).length = (ps.take i).length + 1 := by rw [List.length_take, List.length_take]; omega
  obtain ⟨hg1, hg2⟩ := prs_at hsget
  obtain ⟨lb, lo, lcs, lty, lfr, sp, rfl, hlb, hld⟩ := hp (ne_nil_of (k := 2 * i) (by omega))
  refine Cj.drawSel [0, 1] [] 16 (by kernel_rfl) ?_
  refine JA.fix ⟨(HSub.c 0 rfl (HSub.c 1 rfl HSub.n)), CSub.n, (Le.refl _)⟩ (fun fx4 => ?_)
  refine JA.tk 0 rfl fx4 (q3 (off' := 3) underlying31 sizeOf29) ?_
  refine JA.tk 1 rfl fx4 (q7 isAgg29 (Blk.atC 0 rfl)) ?_
  refine JA.tk 2 rfl fx4 q0 ?_
  refine JA.tk 3 rfl fx4 q0 ?_
  refine JA.tk 4 rfl fx4 (yl_sub rfl rfl rfl (w64 (by omega))) ?_
  refine JA.eqv 22 rfl (show _ = i64 ((2 * i : Nat) : Int) from (congrArg i64 (by omega))) ?_
  refine JA.tk 5 rfl fx4 (yl_indexAddr (off' := lo + 2 * i) rfl rfl rfl underlying28 sizeOf9 (by omega) (by omega) (by omega)) ?_
  refine JA.tk 6 rfl fx4 (yl_load rfl rfl isAgg9 (Blk.immC hlb) (str_from hld hg1)) ?_
  refine JA.tk 7 rfl fx4 (yl_index rfl rfl rfl underlying9 (by decide) rfl) ?_
  refine JA.tk 8 rfl fx4 q0 ?_
  refine JA.tk 9 rfl fx4 q0 ?_
  refine JA.tk 10 rfl fx4 (yl_indexAddr (off' := lo + (2 * i + 1)) rfl rfl rfl underlying28 sizeOf9 (by omega) (by omega) (by omega)) ?_
  refine JA.tk 11 rfl fx4 (yl_load rfl rfl isAgg9 (Blk.immC hlb) (str_from hld hg2)) ?_
  refine JA.tk 12 rfl fx4 (yl_buildS (pl := #[(0, 1), (1, 1)]) rfl rfl zeroValue65 rfl underlying65 (fun w => by simp [sizeOf5, sizeOf9]) (LBld.part rfl rfl rfl (LSpl.c LSpl.z) (LBld.part rfl rfl rfl (LSpl.s (LSpl.c LSpl.z)) LBld.none))) ?_
  refine q15 13 rfl (q13 underlying29 sizeOf65 zeroValue65 (LCat.agg rfl LCat.none) ?_)
  intro b5 hb5
  refine ⟨⟨(Le.refl _), (HSub.c 1 rfl (HSub.c 2 rfl HSub.n)), CSub.n⟩, ?_⟩
  refine JA.step 14 (by kernel_rfl) rfl rfl (op_append (by' := 23) [_, _, _] rfl rfl rfl rfl rfl underlying29 (.inr ⟨_, underlying29⟩) (by kernel_rfl) sizeOf65 zeroValue65 rfl hg rfl (Src.slice (Blk.at 0 rfl) rfl rfl rfl) (by omega) ?_)
  intro g6 hg6
  refine ⟨⟨(Le.refl _), (HSub.c 1 rfl (HSub.c 2 rfl HSub.n)), CSub.n⟩, ?_⟩
  refine JA.fix ⟨(HSub.c 1 rfl (HSub.c 2 rfl HSub.n)), CSub.n, (Le.refl _)⟩ (fun fx7 => ?_)
  refine JA.tk 15 rfl fx7 (q3 (off' := 3) underlying31 sizeOf29) ?_
  refine JA.last 16 (by kernel_rfl) rfl rfl rfl (op_store 1 rfl rfl rfl rfl (gV_cells _ _) (gV_one _ _) sizeOf29 rfl rfl (LSpl.s (LSpl.s (LSpl.s (LSpl.c LSpl.z)))) (LSet.s LSet.z) ?_)
  refine JA.done (by kernel_rfl) ?_
  refine Ej.blkNormal (Ej.seq (Cj.region (J.z q0 ?_)))
  refine J.z (yl_add rfl rfl rfl (w64 (by omega))) ?_
  refine J.eqv 17 rfl (show _ = i64 ((2 * (i + 1) + 1 : Nat) : Int) from (congrArg i64 (by omega))) ?_
  refine J.z q1 ?_
  refine J.nil (Ej.keep (Keeps.d (Keeps.k (Keeps.k Keeps.r))) ?_)
  refine Ej.round (i + 1, g6) ⟨by dsimp only; omega, by dsimp only; rw [hsl1, flat_next subC hsget]; exact hg6⟩ (by dsimp only; omega) ⟨rfl, rfl, rfl, rfl, rfl, trivial⟩ rfl (by dsimp only; rw [hsl1, flat_next subC hsget]; rfl)
 have hc3p := of_decide_eq_false hc3
 refine Cj.exit (Ej.seqExit (Ej.loopExit (Ej.blkExit (Ej.seq (Cj.sr (J.z (q14 isAgg31 sizeOf31 (Blk.at 0 rfl)) ?_))))))
 refine J.op rfl (op_store 1 rfl rfl rfl rfl rfl (by show [str tag, str ind, str [], gV _ _].all Value.oneCell' = true; simp only [List.all_cons, List.all_nil, gV_one', Bool.and_true]; rfl) sizeOf31 rfl rfl (LSpl.c (LSpl.c (LSpl.c (LSpl.c LSpl.z)))) (LSet.s LSet.z) ?_)
 refine J.ns (Cj.ret ?_)
 have hfull : ps.take i = ps := List.take_of_length_le (by omega)
 rw [hfull] at hg ⊢
 refine Ej.perm (H' := gH _ _ _ ++ [_, _]) List.perm_append_comm ?_
 refine Ej.keepR subC_len (by decide) hg rfl (fun I9 hle9 hfs => ?_)
 refine Ej.retC (Keeps.d (Keeps.d Keeps.n)) rfl rfl rfl (Blk.at 1 rfl) isAgg31 sizeOf31 rfl ?_
 exact ⟨_, rfl, hfs, rfl⟩
end Go.Proofs.YtjcdfnbomkoheaaGreatDoor
end
section
namespace Go.Proofs.YtjcdfnbomkoheaaGreatDoor
open Go Go.Sx
end Go.Proofs.YtjcdfnbomkoheaaGreatDoor
end
section
namespace Go.Sx
open Go
structure Fact where
  p : Value → Heap → Prop
  m : ∀ v I I', p v I → Le I I' → p v I'
def Fact.is (v0 : Value) : Fact := ⟨fun v _ => v = v0, fun _ _ _ h _ => h⟩
theorem countP_lt {α : Type} {p q : α → Bool} : ∀ {l : List α} {i : α}, (∀ x ∈ l, q x = true → p x = true) → i ∈ l → p i = true → q i = false → l.countP q < l.countP p
  | [], _, _, h, _, _ => by cases h
  | a :: r, i, hs, hi, hp, hq => by
    have hs' : ∀ x ∈ r, q x = true → p x = true := fun x hx => hs x (.tail _ hx)
    have hle : r.countP q ≤ r.countP p := List.countP_mono_left hs'
    rw [List.countP_cons, List.countP_cons]
    by_cases ha : a = i
    · subst ha; rw [hp, hq]; simp; omega
    have hr : i ∈ r := by
      rcases List.mem_cons.1 hi with g | g
      · exact absurd g.symm ha
      exact g
    have := countP_lt hs' hr hp hq
    have h2 := hs a (.head _)
    cases hqa : q a with
    | false => simp; omega
    | true => rw [h2 hqa]; simp; omega
theorem OpJ.mono {cx : Cx} {Q : Qt} {o : Oper} {e : Env} {I : Heap} {H : HL} {C C' : Ct} (h : OpJ cx Q o e I H C) (hc : ∀ e' I' H', C e' I' H' → C' e' I' H') : OpJ cx Q o e I H C' :=
  fun K hK a w ha hs => h K (fun e' I' H' h1 => hK e' I' H' (hc e' I' H' h1)) a w ha hs
def waitsFor (l : List Oper) (k j : Nat) : Bool := match l[k]? with
  | none => false
  | some o => o.after.any fun ed => Region.binds .any ed && ed.on == j
def backwards (l : List Oper) : Bool := (List.range l.length).all fun k => match l[k]? with
  | none => true
  | some o => o.after.all fun ed => !Region.binds .any ed || Nat.blt ed.on k
def dsts (l : List Oper) : List Nat := l.filterMap (·.dst)
def dstAll (l : List Oper) : Bool := l.all (·.dst.isSome) && decide (dsts l).Nodup
theorem dst_inj : ∀ {l : List Oper}, (∀ o ∈ l, o.dst.isSome = true) → (dsts l).Nodup → ∀ {j k : Nat} {oj ok : Oper} {d : Nat}, l[j]? = some oj → l[k]? = some ok → oj.dst = some d → ok.dst = some d → j = k
  | [], _, _, j, _, _, _, _, h, _, _, _ => by simp at h
  | a :: r, hs, hn, j, k, oj, ok, d, hj, hk, h1, h2 => by
    obtain ⟨x, hx⟩ := Option.isSome_iff_exists.1 (hs a (.head _))
    have hc : dsts (a :: r) = x :: dsts r := by unfold dsts; rw [List.filterMap_cons, hx]
    rw [hc, List.nodup_cons] at hn
    have hs' : ∀ o ∈ r, o.dst.isSome = true := fun o ho => hs o (.tail _ ho)
    have hin : ∀ {i : Nat} {o : Oper}, r[i]? = some o → o.dst = some x → False := fun {i o} hi ho => hn.1 (List.mem_filterMap.2 ⟨o, List.mem_of_getElem? hi, ho⟩)
    match j, k with
    | 0, 0 => rfl
    | 0, k + 1 =>
      cases hj
      rw [List.getElem?_cons_succ] at hk
      exact absurd (by rw [h2, ← h1, hx]) fun g => hin hk g
    | j + 1, 0 =>
      cases hk
      rw [List.getElem?_cons_succ] at hj
      exact absurd (by rw [h1, ← h2, hx]) fun g => hin hj g
    | j + 1, k + 1 =>
      rw [List.getElem?_cons_succ] at hj hk
      rw [dst_inj hs' hn.2 hj hk h1 h2]
section
variable {cx : Cx} {Q : Qt} {l : List Oper} {I1 : Heap} {H : HL} {e0 : Env}
def Base (l : List Oper) (e0 e : Env) : Prop := ∀ t, t ∉ dsts l → eg e t = eg e0 t
def FlowT (cx : Cx) (_l : List Oper) (F : Nat → Fact) (k d : Nat) (e : Env) (I : Heap) (H : HL) : Ct := fun e' I' H' =>
  ∃ v K, e' = (d, v) :: e ∧ H' = K ++ H ∧ (∀ p ∈ K, cx.w0.heap.size ≤ p.1) ∧ Le I I' ∧ ∀ I'', Le I' I'' → (∀ p ∈ K, I'' p.1 = some p.2) → (F k).p v I''
def Known (l : List Oper) (F : Nat → Fact) (e : Env) (I : Heap) (j : Nat) : Prop := ∀ oj dj, l[j]? = some oj → oj.dst = some dj → ∃ v, eg e dj = some v ∧ (F j).p v I
theorem JA.flowN (F : Nat → Fact) (hb : backwards l = true) (hd : dstAll l = true)
    (step : ∀ k o d, l[k]? = some o → o.dst = some d → ∀ e I, Le I1 I → Base l e0 e → (∀ j, waitsFor l k j = true → Known l F e I j) → o.guard = none ∧ OpJ cx Q o e I H (FlowT cx l F k d e I H))
    (fin : ∀ e I, Le I1 I → Base l e0 e → (∀ k, Known l F e I k) → Ej cx Q .normal e I H) :
    ∀ (fuel : Nat) (listed : Array Bool) (e : Env) (I : Heap), listed.size = l.length → (List.range l.length).countP (fun i => !listed.getD i true) ≤ fuel → Le I1 I → Base l e0 e →
      (∀ k, listed.getD k false = true → Known l F e I k) → JA cx Q l I1 [] [] l.length fuel listed e I H := by
  have hds := hd
  unfold dstAll at hds
  rw [Bool.and_eq_true, List.all_eq_true, decide_eq_true_eq] at hds
  have hall : ∀ (listed : Array Bool) (e : Env) (I : Heap), listed.size = l.length → Region.ready .any l.toArray listed = [] → (∀ k, listed.getD k false = true → Known l F e I k) → ∀ k, Known l F e I k := by
    intro listed e I hsz hr hk k
    have hL : ∀ k, k < l.length → listed.getD k false = true := by
      intro k
      induction k using Nat.strongRecOn with
      | ind k ih =>
        intro hk
        refine Classical.byContradiction fun hn => ?_
        have hlt : k < listed.size := by omega
        have h1 : listed.getD k true = false := by
          rw [Array.getD, dif_pos hlt] at hn ⊢
          simpa using hn
        have h2 : k ∈ Region.ready .any l.toArray listed := by
          rw [mem_ready]
          refine ⟨h1, l[k], by simp [hk], fun ed hed hbd => ?_⟩
          have h3 := List.all_eq_true.1 hb k (List.mem_range.2 hk)
          rw [List.getElem?_eq_getElem hk] at h3
          have h4 := Array.all_eq_true_iff_forall_mem.1 h3 ed hed
          rw [hbd] at h4
          have h5 : ed.on < k := Nat.le_of_ble_eq_true (by simpa [Nat.blt] using h4)
          exact ih ed.on h5 (by omega)
        rw [hr] at h2; cases h2
    rcases Nat.lt_or_ge k l.length with g | g
    · exact hk k (hL k g)
    intro oj dj hj _
    rw [List.getElem?_eq_none g] at hj; cases hj
  intro fuel
  induction fuel with
  | zero =>
    intro listed e I hsz hc hle hba hk
    have hr : Region.ready .any l.toArray listed = [] := by
      refine List.eq_nil_iff_forall_not_mem.2 fun i hi => ?_
      obtain ⟨h1, o, h2, _⟩ := mem_ready.1 hi
      have h3 : i < l.length := by
        rcases Nat.lt_or_ge i l.length with g | g
        · exact g
        simp [List.getElem?_eq_none g] at h2
      have h4 : 0 < (List.range l.length).countP (fun i => !listed.getD i true) := List.countP_pos_iff.2 ⟨i, List.mem_range.2 h3, by rw [h1]; rfl⟩
      omega
    exact JA.done hr (fin e I hle hba (hall listed e I hsz hr hk))
  | succ fuel ih =>
    intro listed e I hsz hc hle hba hk
    by_cases hr : Region.ready .any l.toArray listed = []
    · exact JA.done hr (fin e I hle hba (hall listed e I hsz hr hk))
    refine JA.all _ rfl hr fun i hi => ?_
    obtain ⟨h1, o, h2, h3⟩ := mem_ready.1 hi
    have h2' : l[i]? = some o := by simpa using h2
    have hil : i < l.length := (List.getElem?_eq_some_iff.1 h2').1
    obtain ⟨d, hod⟩ := Option.isSome_iff_exists.1 (hds.1 o (List.mem_of_getElem? h2'))
    have hst := step i o d h2' hod e I hle hba fun j hj => by
      unfold waitsFor at hj
      rw [h2'] at hj
      obtain ⟨ed, hed, hp⟩ := Array.any_eq_true'.1 hj
      rw [Bool.and_eq_true, beq_iff_eq] at hp
      rw [← hp.2]
      exact hk _ (h3 ed hed hp.1)
    refine ⟨o, h2, hst.1, hst.2.mono ?_⟩
    rintro e' I' H' ⟨v, K, rfl, rfl, hK, hle', hF⟩
    refine ⟨⟨hle.trans hle', trivial, trivial⟩, ?_⟩
    refine persists_any (X := fun I H => JA cx Q l I1 [] [] l.length fuel (listed.setIfInBounds i true) ((d, v) :: e) I H) (base := cx.w0.heap.size) (fun _ _ _ _ hb k => JA.persist hb k) K I' hK fun I'' hle'' hKI => ?_
    have hdm : d ∈ dsts l := List.mem_filterMap.2 ⟨o, List.mem_of_getElem? h2', hod⟩
    refine ih _ _ _ (by simpa using hsz) ?_ ((hle.trans hle').trans hle'') (fun t ht => ?_) fun k hkl => ?_
    · have hlt := countP_lt (l := List.range l.length) (p := fun i => !listed.getD i true) (q := fun j => !(listed.setIfInBounds i true).getD j true) (i := i) (fun x _ hx => ?_) (List.mem_range.2 hil) (by rw [h1]; rfl) ?_
      · omega
      · by_cases hxi : i = x
        · subst hxi; rw [h1]; rfl
        rwa [getD_set_ne true hxi] at hx
      have : i < (listed.setIfInBounds i true).size := by rw [Array.size_setIfInBounds]; omega
      rw [Array.getD, dif_pos this]
      simp
    · have hne : Nat.beq d t = false := by
        refine Bool.eq_false_iff.2 fun g => ht ?_
        rw [← Nat.eq_of_beq_eq_true g]; exact hdm
      show (bif Nat.beq d t then some v else eg e t) = _
      rw [hne]; exact hba t ht
    by_cases hki : i = k
    · subst hki
      intro oj dj hj hdj
      rw [h2'] at hj; cases hj
      rw [hod] at hdj; cases hdj
      refine ⟨v, ?_, hF I'' hle'' hKI⟩
      show (bif Nat.beq d d then some v else eg e d) = _
      rw [Nat.beq_refl]; rfl
    rw [getD_set_ne false hki] at hkl
    intro oj dj hj hdj
    obtain ⟨u, hu, hp⟩ := hk k hkl oj dj hj hdj
    refine ⟨u, ?_, (F k).m _ _ _ hp (hle'.trans hle'')⟩
    have hne : Nat.beq d dj = false := by
      refine Bool.eq_false_iff.2 fun g => hki ?_
      have := Nat.eq_of_beq_eq_true g
      subst this
      exact dst_inj hds.1 hds.2 h2' hj hod hdj
    show (bif Nat.beq d dj then some v else eg e dj) = _
    rw [hne]; exact hu
theorem Cj.flow {id : Nat} (F : Nat → Fact) (hm : cx.P.follows .mixedOrders = true) (hb : backwards l = true) (hd : dstAll l = true)
    (step : ∀ k o d, l[k]? = some o → o.dst = some d → ∀ e I, Le I1 I → Base l e0 e → (∀ j, waitsFor l k j = true → Known l F e I j) → o.guard = none ∧ OpJ cx Q o e I H (FlowT cx l F k d e I H))
    (fin : ∀ e I, Le I1 I → Base l e0 e → (∀ k, Known l F e I k) → Ej cx Q .normal e I H)
    (hnd : cx.rd = none ∨ (noDefer l.toArray = true ∧ ¬ LetsOut Q) := by first | exact .inl rfl | exact .inr ⟨rfl, fun h => h.elim fun _ h => h.elim fun _ h => h⟩) : Cj cx Q (.region id l.toArray true) e0 I1 H := by
  refine Cj.draw [] [] l.length hm (JA.flowN F hb hd step fin _ _ _ _ (by simp) ?_ (Le.refl _) (fun _ _ => rfl) fun k hk => ?_) hnd
  · exact Nat.le_trans List.countP_le_length (by simp)
  rw [Array.getD] at hk
  split at hk
  · simp at hk
  cases hk
end
end Go.Sx
end
