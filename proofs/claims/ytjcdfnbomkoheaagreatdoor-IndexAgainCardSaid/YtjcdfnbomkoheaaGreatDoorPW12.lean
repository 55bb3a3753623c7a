/-
  Own texts on the laws of the seat, joined: the logic, and contracts of functions. Conditions: none.
-/
import Derived.Test.YtjcdfnbomkoheaaGreatDoorPW11
import Derived.Test.YtjcdfnbomkoheaaGreatDoorPW6
import Derived.Test.YtjcdfnbomkoheaaGreatDoorPW10
section
namespace Go.Proofs.YtjcdfnbomkoheaaGreatDoor
open Go Go.Sx
abbrev lineA (x : List UInt8 × Int) : Array Value := #[str x.1, i64 x.2]
theorem eqLine : EqK Tryz.prog 57 lineA := EqK.textInt Tryz.underlying57 (by kernel_rfl) (by decide) (by decide) rfl rfl rfl rfl Tryz.underlying9 Tryz.underlying3 Tryz.isAgg9 Tryz.isAgg3
theorem take_eqR {α : Type} {a b : List α} {k : Nat} {x y : α} (h : a.take k = b.take k) (hx : a[k]? = some x) (hy : b[k]? = some y) (he : x = y) : a.take (k + 1) = b.take (k + 1) := by
  obtain ⟨h1, e1⟩ := List.getElem?_eq_some_iff.1 hx
  obtain ⟨h2, e2⟩ := List.getElem?_eq_some_iff.1 hy
  rw [List.take_succ_eq_append_getElem h1, List.take_succ_eq_append_getElem h2, h, e1, e2, he]
set_option maxRecDepth 20000 in
theorem rRecs_ok (a b : List Ix.Rec) (va vb : Value) (hal : a.length ≤ 100000000000000) (I : Heap) (ha : RowS recC I a va) (hb : RowS recC I b vb) : Pure Tryz.prog 18 [va, vb] I (.bool (decide (a = b))) := by
 refine Ctr.toPure ?_
 obtain ⟨p1, c1, rfl, hc1, hp1⟩ := ha
 obtain ⟨p2, c2, rfl, hc2, hp2⟩ := hb
 refine Ctr.of_body Tryz.func18 rfl (by decide) (Nat.le_of_ble_eq_true rfl) ?_
 intro w0 hw0
 refine Cj.seq (Cj.region (J.z (yl_assign rfl rfl) ?_))
 refine J.nil (Ej.seq (Cj.seq (Cj.seq (Cj.region (J.z (yl_move rfl rfl) ?_)))))
 refine J.z (yl_lenSlice rfl rfl Tryz.underlying44) ?_
 refine J.z (yl_move rfl rfl) ?_
 refine J.z (yl_lenSlice rfl rfl Tryz.underlying44) ?_
 refine J.z (yl_neq rfl rfl rfl) ?_
 refine J.nil (Ej.seq (Cj.cond rfl (fun hc1 => ?_) (fun hc1 => ?_)))
 ·
  have hc1p := bne_iff_ne.1 hc1
  have hln : a.length ≠ b.length := by have h := bne_iff_ne.1 hc1; omega
  refine Cj.seq (Cj.region (J.z (yl_assign rfl rfl) ?_))
  refine J.nil (Ej.seq (Cj.ret (Ej.seqRet (Ej.ret1 rfl rfl rfl ?_))))
  rw [decide_eq_false (fun e => hln (by rw [e]))]
  exact ⟨rfl, rfl⟩
 ·
  have hc1p := bne_f hc1
  have hlen : a.length = b.length := by have h := bne_f hc1; omega
  refine Cj.skip (Ej.seq (Cj.seq (Cj.seq (Cj.region (J.z (yl_assign rfl rfl) ?_)))))
  refine J.nil (Ej.seq (Cj.block (Cj.loop (ι := Nat) (fun j => j ≤ a.length ∧ a.take j = b.take j) (fun j => a.length - j) (fun j => [(0, .slice p1 a.length c1), (1, .slice p2 b.length c2), (5, i64 (j : Int))]) (fun j => _) (fun j => []) 0 ⟨Nat.zero_le _, rfl⟩ ⟨rfl, rfl, rfl, trivial⟩ rfl rfl ?_)))
  rintro j ⟨hj, hall⟩
  refine Cj.seq (Cj.seq (Cj.region (J.z (yl_move rfl rfl) ?_)))
  refine J.z (yl_move rfl rfl) ?_
  refine J.z (yl_lenSlice rfl rfl Tryz.underlying44) ?_
  refine J.z (yl_lss rfl rfl rfl) ?_
  refine J.nil (Ej.seq (Cj.cond rfl (fun hc2 => ?_) (fun hc2 => ?_)))
  ·
   have hc2p := of_decide_eq_true hc2
   have hlt : j < a.length := by omega
   obtain ⟨x, hx⟩ : ∃ x, a[j]? = some x := ⟨_, List.getElem?_eq_getElem hlt⟩
   obtain ⟨y, hy⟩ : ∃ y, b[j]? = some y := ⟨_, List.getElem?_eq_getElem (by omega)⟩
   obtain ⟨fa, oa, acs, aty, afr, asp, rfl, hfa, had⟩ := hp1 (ne_nil_of hlt)
   obtain ⟨fb, ob, bcs, bty, bfr, bsp, rfl, hfb, hbd⟩ := hp2 (ne_nil_of (by omega : j < b.length))
   refine Cj.skip (Ej.seq (Cj.seq (Cj.block (Cj.seq (Cj.drawSel [] [] 9 (by kernel_rfl) ?_)))))
   refine JA.fix ⟨HSub.n, CSub.n, (Le.refl _)⟩ (fun fx3 => ?_)
   refine JA.tk 0 rfl fx3 (yl_move rfl rfl) ?_
   refine JA.tk 1 rfl fx3 (yl_move rfl rfl) ?_
   refine JA.tk 2 rfl fx3 (yl_indexAddr (off' := oa + j * 2) rfl rfl rfl Tryz.underlying44 Tryz.sizeOf26 (by omega) (by omega) (by simp)) ?_
   refine JA.tk 3 rfl fx3 (yl_loadAgg rfl rfl Tryz.isAgg26 Tryz.sizeOf26 (Blk.immC hfa) (row_from recC_len had hx) rfl) ?_
   refine JA.tk 4 rfl fx3 (yl_move rfl rfl) ?_
   refine JA.tk 5 rfl fx3 (yl_move rfl rfl) ?_
   refine JA.tk 6 rfl fx3 (yl_indexAddr (off' := ob + j * 2) rfl rfl rfl Tryz.underlying44 Tryz.sizeOf26 (by omega) (by omega) (by simp)) ?_
   refine JA.tk 7 rfl fx3 (yl_loadAgg rfl rfl Tryz.isAgg26 Tryz.sizeOf26 (Blk.immC hfb) (row_from recC_len hbd hy) rfl) ?_
   refine JA.tk 8 rfl fx3 (yl_neqK (kv := recA) (a := x) (b := y) rfl rfl rfl rfl rfl eqRec (by kernel_rfl)) ?_
   refine JA.done (by kernel_rfl) ?_
   refine Ej.seq (Cj.cond rfl (fun hc4 => ?_) (fun hc4 => ?_))
   ·
    have hc4p := bne_iff_ne.1 hc4
    have hxy : x ≠ y := bne_iff_ne.1 hc4
    refine Cj.seq (Cj.region (J.z (yl_assign rfl rfl) ?_))
    refine J.nil (Ej.seq (Cj.ret (Ej.blkRet (Ej.seqRet (Ej.loopRet (Ej.blkRet (Ej.seqRet (Ej.ret1 rfl rfl rfl ?_))))))))
    rw [decide_eq_false (fun e => hxy (by rw [e, hy] at hx; exact (Option.some.inj hx).symm))]
    exact ⟨rfl, rfl⟩
   ·
    have hc4p := bne_f hc4
    have hxy : x = y := bne_f hc4
    refine Cj.skip (Ej.blkNormal (Ej.seq (Cj.region (J.z (yl_move rfl rfl) ?_))))
    refine J.z (yl_add rfl rfl rfl (w64 (by omega))) ?_
    refine J.z (yl_assign rfl rfl) ?_
    refine J.nil (Ej.round (j + 1) ⟨by omega, take_eqR hall hx hy hxy⟩ (by omega) ⟨rfl, rfl, rfl, trivial⟩ rfl rfl)
  ·
   have hc2p := of_decide_eq_false hc2
   refine Cj.exit (Ej.seqExit (Ej.loopExit (Ej.blkExit (Ej.seq (Cj.seq (Cj.region (J.z (yl_assign rfl rfl) ?_)))))))
   refine J.nil (Ej.seq (Cj.ret (Ej.ret1 rfl rfl rfl ?_)))
   rw [List.take_of_length_le (by omega : a.length ≤ j), List.take_of_length_le (by omega : b.length ≤ j)] at hall
   rw [decide_eq_true hall]
   exact ⟨rfl, rfl⟩
set_option maxRecDepth 20000 in
theorem rLines_ok (a b : List (List UInt8 × Int)) (va vb : Value) (hal : a.length ≤ 100000000000000) (I : Heap) (ha : RowS lineC I a va) (hb : RowS lineC I b vb) : Pure Tryz.prog 25 [va, vb] I (.bool (decide (a = b))) := by
 refine Ctr.toPure ?_
 obtain ⟨p1, c1, rfl, hc1, hp1⟩ := ha
 obtain ⟨p2, c2, rfl, hc2, hp2⟩ := hb
 refine Ctr.of_body Tryz.func25 rfl (by decide) (Nat.le_of_ble_eq_true rfl) ?_
 intro w0 hw0
 refine Cj.seq (Cj.region (J.z (yl_assign rfl rfl) ?_))
 refine J.nil (Ej.seq (Cj.seq (Cj.seq (Cj.region (J.z (yl_move rfl rfl) ?_)))))
 refine J.z (yl_lenSlice rfl rfl Tryz.underlying47) ?_
 refine J.z (yl_move rfl rfl) ?_
 refine J.z (yl_lenSlice rfl rfl Tryz.underlying47) ?_
 refine J.z (yl_neq rfl rfl rfl) ?_
 refine J.nil (Ej.seq (Cj.cond rfl (fun hc1 => ?_) (fun hc1 => ?_)))
 ·
  have hc1p := bne_iff_ne.1 hc1
  have hln : a.length ≠ b.length := by have h := bne_iff_ne.1 hc1; omega
  refine Cj.seq (Cj.region (J.z (yl_assign rfl rfl) ?_))
  refine J.nil (Ej.seq (Cj.ret (Ej.seqRet (Ej.ret1 rfl rfl rfl ?_))))
  rw [decide_eq_false (fun e => hln (by rw [e]))]
  exact ⟨rfl, rfl⟩
 ·
  have hc1p := bne_f hc1
  have hlen : a.length = b.length := by have h := bne_f hc1; omega
  refine Cj.skip (Ej.seq (Cj.seq (Cj.seq (Cj.region (J.z (yl_assign rfl rfl) ?_)))))
  refine J.nil (Ej.seq (Cj.block (Cj.loop (ι := Nat) (fun j => j ≤ a.length ∧ a.take j = b.take j) (fun j => a.length - j) (fun j => [(0, .slice p1 a.length c1), (1, .slice p2 b.length c2), (5, i64 (j : Int))]) (fun j => _) (fun j => []) 0 ⟨Nat.zero_le _, rfl⟩ ⟨rfl, rfl, rfl, trivial⟩ rfl rfl ?_)))
  rintro j ⟨hj, hall⟩
  refine Cj.seq (Cj.seq (Cj.region (J.z (yl_move rfl rfl) ?_)))
  refine J.z (yl_move rfl rfl) ?_
  refine J.z (yl_lenSlice rfl rfl Tryz.underlying47) ?_
  refine J.z (yl_lss rfl rfl rfl) ?_
  refine J.nil (Ej.seq (Cj.cond rfl (fun hc2 => ?_) (fun hc2 => ?_)))
  ·
   have hc2p := of_decide_eq_true hc2
   have hlt : j < a.length := by omega
   obtain ⟨x, hx⟩ : ∃ x, a[j]? = some x := ⟨_, List.getElem?_eq_getElem hlt⟩
   obtain ⟨y, hy⟩ : ∃ y, b[j]? = some y := ⟨_, List.getElem?_eq_getElem (by omega)⟩
   obtain ⟨fa, oa, acs, aty, afr, asp, rfl, hfa, had⟩ := hp1 (ne_nil_of hlt)
   obtain ⟨fb, ob, bcs, bty, bfr, bsp, rfl, hfb, hbd⟩ := hp2 (ne_nil_of (by omega : j < b.length))
   refine Cj.skip (Ej.seq (Cj.seq (Cj.block (Cj.seq (Cj.drawSel [] [] 9 (by kernel_rfl) ?_)))))
   refine JA.fix ⟨HSub.n, CSub.n, (Le.refl _)⟩ (fun fx3 => ?_)
   refine JA.tk 0 rfl fx3 (yl_move rfl rfl) ?_
   refine JA.tk 1 rfl fx3 (yl_move rfl rfl) ?_
   refine JA.tk 2 rfl fx3 (yl_indexAddr (off' := oa + j * 2) rfl rfl rfl Tryz.underlying47 Tryz.sizeOf57 (by omega) (by omega) (by simp)) ?_
   refine JA.tk 3 rfl fx3 (yl_loadAgg rfl rfl Tryz.isAgg57 Tryz.sizeOf57 (Blk.immC hfa) (row_from lineC_len had hx) rfl) ?_
   refine JA.tk 4 rfl fx3 (yl_move rfl rfl) ?_
   refine JA.tk 5 rfl fx3 (yl_move rfl rfl) ?_
   refine JA.tk 6 rfl fx3 (yl_indexAddr (off' := ob + j * 2) rfl rfl rfl Tryz.underlying47 Tryz.sizeOf57 (by omega) (by omega) (by simp)) ?_
   refine JA.tk 7 rfl fx3 (yl_loadAgg rfl rfl Tryz.isAgg57 Tryz.sizeOf57 (Blk.immC hfb) (row_from lineC_len hbd hy) rfl) ?_
   refine JA.tk 8 rfl fx3 (yl_neqK (kv := lineA) (a := x) (b := y) rfl rfl rfl rfl rfl eqLine (by kernel_rfl)) ?_
   refine JA.done (by kernel_rfl) ?_
   refine Ej.seq (Cj.cond rfl (fun hc4 => ?_) (fun hc4 => ?_))
   ·
    have hc4p := bne_iff_ne.1 hc4
    have hxy : x ≠ y := bne_iff_ne.1 hc4
    refine Cj.seq (Cj.region (J.z (yl_assign rfl rfl) ?_))
    refine J.nil (Ej.seq (Cj.ret (Ej.blkRet (Ej.seqRet (Ej.loopRet (Ej.blkRet (Ej.seqRet (Ej.ret1 rfl rfl rfl ?_))))))))
    rw [decide_eq_false (fun e => hxy (by rw [e, hy] at hx; exact (Option.some.inj hx).symm))]
    exact ⟨rfl, rfl⟩
   ·
    have hc4p := bne_f hc4
    have hxy : x = y := bne_f hc4
    refine Cj.skip (Ej.blkNormal (Ej.seq (Cj.region (J.z (yl_move rfl rfl) ?_))))
    refine J.z (yl_add rfl rfl rfl (w64 (by omega))) ?_
    refine J.z (yl_assign rfl rfl) ?_
    refine J.nil (Ej.round (j + 1) ⟨by omega, take_eqR hall hx hy hxy⟩ (by omega) ⟨rfl, rfl, rfl, trivial⟩ rfl rfl)
  ·
   have hc2p := of_decide_eq_false hc2
   refine Cj.exit (Ej.seqExit (Ej.loopExit (Ej.blkExit (Ej.seq (Cj.seq (Cj.region (J.z (yl_assign rfl rfl) ?_)))))))
   refine J.nil (Ej.seq (Cj.ret (Ej.ret1 rfl rfl rfl ?_)))
   rw [List.take_of_length_le (by omega : a.length ≤ j), List.take_of_length_le (by omega : b.length ≤ j)] at hall
   rw [decide_eq_true hall]
   exact ⟨rfl, rfl⟩
end Go.Proofs.YtjcdfnbomkoheaaGreatDoor
end
section
namespace Go.Proofs.YtjcdfnbomkoheaaGreatDoor
open Go Go.Sx
/-- The reference's index, put by: its cell and its entries. -/
def RxS (I : Heap) (rb : Nat) (es : List Ent) (p : Option Addr) (c : Nat) : Prop := I rb = some (cel 73 [.slice p es.length c]) ∧ EntsS I es (.slice p es.length c)
theorem RxS.mono {I I' : Heap} {rb : Nat} {es : List Ent} {p : Option Addr} {c : Nat} (h : RxS I rb es p c) (hle : Le I I') : RxS I' rb es p c := ⟨hle _ _ h.1, h.2.mono hle⟩
structure RxP (I : Heap) (rb : Nat) (es : List Ent) : Prop where
  ex : ∃ p c, RxS I rb es p c
  len : es.length ≤ 1000
  eok : ∀ e ∈ es, EOK e.fs
  srt : Ix.Srt (es.map entL)
theorem RxP.mono {I I' : Heap} {rb : Nat} {es : List Ent} (h : RxP I rb es) (hle : Le I I') : RxP I' rb es := ⟨let ⟨p, c, g⟩ := h.ex; ⟨p, c, g.mono hle⟩, h.len, h.eok, h.srt⟩
theorem RxP.of {I : Heap} {rb : Nat} {es : List Ent} {w : Value} (h1 : I rb = some (cel 73 [w])) (h2 : EntsS I es w) (hl : es.length ≤ 1000) (he : ∀ e ∈ es, EOK e.fs) (hs : Ix.Srt (es.map entL)) : RxP I rb es := by
  obtain ⟨p, c, rfl, -⟩ := h2.len
  exact ⟨⟨p, c, h1, h2⟩, hl, he, hs⟩
def selT (P : Ent → Bool) (es : List Ent) : List Ix.Rec := (es.filter P).map (·.t)
theorem selT_len (P : Ent → Bool) (es : List Ent) : (selT P es).length ≤ es.length := by
  unfold selT; rw [List.length_map]; exact List.length_filter_le _ _
def kIn (k : List UInt8) (x : List UInt8 × Nat) : Bool := decide (Ke.sortKey x.1 x.2 = k)
def hasKN (n k : List UInt8) (e : Ent) : Bool := (Ix.valsN e.fs n).any (kIn k)
theorem hasKN_eq (n k : List UInt8) (e : Ent) : Ix.hasK n k (Ix.vals e.fs) = hasKN n k e := by
  unfold hasKN Ix.hasK
  rw [← Ix.valsN_eq, List.any_map, List.any_filter]
  rfl
theorem sel_eq (f : List Ix.V → Bool) (P : Ent → Bool) (h : ∀ e, f (Ix.vals e.fs) = P e) (es : List Ent) : ((es.map entL).filter fun e => f e.2).map (·.1) = selT P es := by
  unfold selT
  rw [List.filter_map, List.map_map]
  have : (fun e : Ix.Rec × List Ix.V => f e.2) ∘ entL = P := funext fun e => h e
  rw [this]; rfl
def keyN (n k : List UInt8) (e : Ent) : Bool := hasKN n k e && decide (k ≠ [])
theorem with_eq (es : List Ent) (n k : List UInt8) : selT (keyN n k) es = Ix.withK (es.map entL) n k := by
  unfold Ix.withK
  by_cases hk : k = []
  · rw [if_pos hk]
    unfold selT keyN
    rw [List.filter_eq_nil_iff.2 fun e _ => by simp [hk]]; rfl
  · rw [if_neg hk]
    exact (sel_eq _ (keyN n k) (fun e => by unfold keyN; rw [hasKN_eq, decide_eq_true hk, Bool.and_true]) es).symm
theorem RowS.len {α : Type} {f : α → List Value} {I : Heap} {l : List α} {v : Value} (h : RowS f I l v) : ∃ p c, v = .slice p l.length c := let ⟨p, c, h1, _⟩ := h; ⟨p, c, h1⟩
end Go.Proofs.YtjcdfnbomkoheaaGreatDoor
end
section
namespace Go.Proofs.YtjcdfnbomkoheaaGreatDoor
open Go Go.Sx
theorem flat_next {α β : Type} (f : α → List β) {l : List α} {k : Nat} {x : α} (h : l[k]? = some x) : (l.take (k + 1)).flatMap f = (l.take k).flatMap f ++ f x := by
  obtain ⟨hlt, h⟩ := List.getElem?_eq_some_iff.1 h
  rw [List.take_succ_eq_append_getElem hlt, h, List.flatMap_append]; simp
theorem withK_len (es : List Ent) (n k : List UInt8) : (Ix.withK (es.map entL) n k).length ≤ es.length := by
  rw [← with_eq]; exact selT_len _ _
end Go.Proofs.YtjcdfnbomkoheaaGreatDoor
end
section
namespace Ke
/-! ### Fields without the value that stands for their subfields -/
def nrm1 (f : Fld) : Fld := { f with sv := .slice none 0 0 }
def nrm (fs : List Fld) : List Fld := fs.map nrm1
/-! ### Records out of numbers -/
/-! ### Capital letters and signs -/
end Ke
end
section
namespace Go.Sx
open Go
theorem Ready.dom {I : Heap} {H : HL} {w : World} (h : Ready I H w) {b : Nat} (hb : w.heap.size ≤ b) : I b = none := by
  cases hI : I b with
  | none => rfl
  | some o =>
    have := h.1 b o hI
    rw [Array.getElem?_eq_none hb] at this; cases this
theorem St.thaw {w0 w : World} {D : List Nat} {I0 I : Heap} {H : HL} (h : St w0 D I0 I H w) (B : HL) (hn : (B.map (·.1)).Nodup) (hB : ∀ p ∈ B, I p.1 = some p.2) (hs : ∀ p ∈ B, w0.heap.size ≤ p.1) (h0 : ∀ p ∈ B, I0 p.1 = none) : St w0 D I0 (hless B I) (B ++ H) w := by
  refine ⟨h.os, h.tape, h.output, h.size, h.frm, fun b o hb => ?_, fun p hp => ?_, ?_, fun p hp => ?_, fun p hp => ?_, fun b hb => ?_, fun b o hb => ?_⟩
  · unfold hless at hb
    split at hb
    · cases hb
    · exact h.sub b o hb
  · rcases List.mem_append.1 hp with g | g
    · exact h.sub _ _ (hB p g)
    · exact h.own p g
  · rw [List.map_append, List.nodup_append]
    refine ⟨hn, h.nodup, fun x hx y hy he => ?_⟩
    obtain ⟨p, hp, rfl⟩ := List.mem_map.1 hx
    obtain ⟨q, hq, rfl⟩ := List.mem_map.1 hy
    have := h.dis q hq
    rw [← he, hB p hp] at this; cases this
  · unfold hless
    split
    · rfl
    · rename_i hm
      rcases List.mem_append.1 hp with g | g
      · exact absurd (List.mem_map_of_mem g) hm
      · exact h.dis p g
  · rcases List.mem_append.1 hp with g | g
    · exact .inr (hs p g)
    · exact h.new p g
  · have hm : b ∉ B.map (·.1) := fun hm => by
      obtain ⟨p, hp, rfl⟩ := List.mem_map.1 hm
      exact absurd hb (Nat.not_lt.2 (hs p hp))
    rw [hless_off hm]; exact h.ifr b hb
  · have hm : b ∉ B.map (·.1) := fun hm => by
      obtain ⟨p, hp, rfl⟩ := List.mem_map.1 hm
      rw [h0 p hp] at hb; cases hb
    rw [hless_off hm]; exact h.le b o hb
section
variable {cx : Cx} {Q : Qt} {e : Env} {I : Heap} {H : HL}
theorem Cj.thaw {c : Code} (B : HL) (hn : (B.map (·.1)).Nodup) (hB : ∀ p ∈ B, I p.1 = some p.2) (hs : ∀ p ∈ B, cx.w0.heap.size ≤ p.1) (h0 : ∀ p ∈ B, cx.I0 p.1 = none) (k : Cj cx Q c e (hless B I) (B ++ H)) : Cj cx Q c e I H :=
  fun a w ha hst => k a w ha (hst.thaw B hn hB hs h0)
end
/-! ### Blocks that stand for a while -/
theorem le_hless {B : HL} {I J : Heap} (hd : ∀ p ∈ B, I p.1 = none) (h : Le I J) : Le I (hless B J) := fun b o hb => by
  have hm : b ∉ B.map (·.1) := fun hm => by
    obtain ⟨p, hp, rfl⟩ := List.mem_map.1 hm
    rw [hd p hp] at hb; cases hb
  rw [hless_off hm]; exact h b o hb
section
variable {cx : Cx} {Q : Qt} {e : Env} {I : Heap} {H : HL}
/-- The heap that stands gets a name; what is owned is not in it. -/
theorem Cj.known {c : Code} (k : ∀ I9, I9 = I → (∀ p ∈ H, I9 p.1 = none) → (H.map (·.1)).Nodup → (∀ p ∈ H, p.1 ∈ cx.D ∨ cx.w0.heap.size ≤ p.1) → Cj cx Q c e I9 H) : Cj cx Q c e I H :=
  fun a w ha hs => k I rfl hs.dis hs.nodup hs.new a w ha hs
end
/-! ### Rows whose block is new -/
def RowN {α : Type} (N : Nat → Prop) (T : TypeId) (f : α → List Value) (I : Heap) (l : List α) (v : Value) : Prop :=
  ∃ p c, v = .slice p l.length c ∧ l.length ≤ c ∧ (l ≠ [] → ∃ b sp, p = some ⟨b, 0, none⟩ ∧ N b ∧ I b = some (cel T (l.flatMap f ++ sp)))
section
variable {α : Type} {N M : Nat → Prop} {T : TypeId} {f : α → List Value} {I I' : Heap} {l : List α} {v : Value}
theorem RowN.mono (h : RowN N T f I l v) (hle : Le I I') : RowN N T f I' l v :=
  let ⟨p, c, h1, h2, h3⟩ := h; ⟨p, c, h1, h2, fun hn => let ⟨b, sp, h4, h5, h6⟩ := h3 hn; ⟨b, sp, h4, h5, hle _ _ h6⟩⟩
theorem RowN.imp (h : RowN N T f I l v) (hm : ∀ b, N b → M b) : RowN M T f I l v :=
  let ⟨p, c, h1, h2, h3⟩ := h; ⟨p, c, h1, h2, fun hn => let ⟨b, sp, h4, h5, h6⟩ := h3 hn; ⟨b, sp, h4, hm b h5, h6⟩⟩
theorem RowN.rowT (h : RowN N T f I l v) : RowT T f I l v :=
  let ⟨p, c, h1, h2, h3⟩ := h; ⟨p, c, h1, h2, fun hn => let ⟨b, sp, h4, _, h6⟩ := h3 hn; ⟨b, sp, h4, h6⟩⟩
theorem RowN.row (h : RowN N T f I l v) : RowS f I l v := h.rowT.row
theorem RowN.nil : RowN N T f I ([] : List α) (.slice none 0 0) := ⟨none, 0, rfl, Nat.le_refl _, fun h => absurd rfl h⟩
end
section
variable {cx : Cx} {Q : Qt} {e : Env} {I : Heap} {R : HL} {T : TypeId} {α : Type} {l : List α} {f : α → List Value} {sz n base : Nat} {g : Gs}
theorem gN_cases {X : Heap → HL → Prop} (hf : ∀ x, (f x).length = sz) (hpos : 0 < sz) (hg : gOk base sz n (l.flatMap f) g) (hn : n = l.length) (hp : ∀ b o, base ≤ b → (∀ I', Le I I' → I' b = some o → X I' R) → X I ((b, o) :: R)) (k : ∀ I', Le I I' → RowN (base ≤ ·) T f I' l (gV n g) → X I' R) : X I (gH T (l.flatMap f) g ++ R) := by
  subst hn
  cases g with
  | none =>
    obtain ⟨h1, h2⟩ := hg
    have : l = [] := List.length_eq_zero_iff.1 h1
    subst this
    exact k I (Le.refl _) RowN.nil
  | some q =>
    obtain ⟨b, c, sp⟩ := q
    obtain ⟨h1, h2, h3⟩ := hg
    have hc : l.length ≤ c := by
      rw [flat_len hf] at h3
      exact Nat.le_of_mul_le_mul_right (by omega : l.length * sz ≤ c * sz) hpos
    exact hp b _ h1 fun I' hle hb => k I' hle ⟨_, c, rfl, hc, fun _ => ⟨b, sp, rfl, h1, hb⟩⟩
theorem Cj.keepN {c : Code} (hf : ∀ x, (f x).length = sz) (hpos : 0 < sz) (hg : gOk cx.w0.heap.size sz n (l.flatMap f) g) (hn : n = l.length) (k : ∀ I', Le I I' → RowN (cx.w0.heap.size ≤ ·) T f I' l (gV n g) → Cj cx Q c e I' R) : Cj cx Q c e I (gH T (l.flatMap f) g ++ R) :=
  gN_cases (X := fun I H => Cj cx Q c e I H) hf hpos hg hn (fun _ _ hb k => Cj.persist hb k) k
theorem Ej.keepN {x : Exit} (hf : ∀ x, (f x).length = sz) (hpos : 0 < sz) (hg : gOk cx.w0.heap.size sz n (l.flatMap f) g) (hn : n = l.length) (k : ∀ I', Le I I' → RowN (cx.w0.heap.size ≤ ·) T f I' l (gV n g) → Ej cx Q x e I' R) : Ej cx Q x e I (gH T (l.flatMap f) g ++ R) :=
  gN_cases (X := fun I H => Ej cx Q x e I H) hf hpos hg hn (fun _ _ hb k => Ej.persist hb k) k
end
theorem Cj.named {cx : Cx} {Q : Qt} {e : Env} {I : Heap} {H : HL} {c : Code} (k : ∀ I9, I9 = I → Cj cx Q c e I9 H) : Cj cx Q c e I H := k I rfl
section
variable {cx : Cx} {Q : Qt} {e : Env} {I I1 : Heap} {H A : HL} {Z : CL} {z : Nat} {l : List Oper} {fuel : Nat} {listed : Array Bool}
theorem JA.keep {H' : HL} (hs : H'.Sublist H) (h : JA cx Q l I1 A Z z fuel listed e I H') : JA cx Q l I1 A Z z fuel listed e I H := fun a w ha h1 => h a w ha (h1.sublist hs)
/-- Whichever of several comes up; some may wait for a condition that is met. -/
def GuardOk (l : List Oper) (e : Env) (o : Oper) : Prop := o.guard = none ∨ ∃ j want dj, o.guard = some (j, want) ∧ (l.toArray[j]?).bind (·.dst) = some dj ∧ eg e dj = some (.bool want)
theorem JA.allG (rs : List Nat) (hr : Region.ready .any l.toArray listed = rs) (hne : rs ≠ [])
    (k : ∀ i ∈ rs, ∃ o, l.toArray[i]? = some o ∧ GuardOk l e o ∧ OpJ cx Q o e I H (fun e' I' H' => (Le I1 I' ∧ HSub A H' ∧ CSub Z H') ∧ JA cx Q l I1 A Z z fuel (listed.setIfInBounds i true) e' I' H')) : JA cx Q l I1 A Z z (fuel + 1) listed e I H := by
  intro a w ha hst
  refine wpAnyZ_all hr hne fun j hj => ?_
  obtain ⟨o, hi, hg, k⟩ := k j hj
  unfold wpOp
  simp only [hi]
  rw [if_pos (by
    rcases hg with hg | ⟨j, want, dj, hg, hdj, hv⟩
    · simp [Region.wanted, hg]
    · simp [Region.wanted, hg, yielded_of ha hdj hv])]
  refine .inl (k _ (fun e' I' H' ⟨⟨hle, hA, hZ⟩, hj⟩ a' w' ha' hs' => ⟨fun _ => ⟨⟨fun b o h => hs'.sub b o (hle b o h), fun p hp => hs'.own p (hA.mem p hp)⟩, hZ.cell hs'.own⟩, hj a' w' ha' hs'⟩) a w ha hst)
/-- What comes behind some operations of a drawn region, shown once for all orders of these. -/
theorem JA.join {ι : Type} (pre : ι → Prop) (env : ι → Env) (hp : ι → Heap) (own : ι → HL) (listedT : Array Bool) (fuelT : Nat) (k2 : ∀ y, pre y → JA cx Q l I1 A Z z fuelT listedT (env y) (hp y) (own y))
    (k1 : (∀ j lst fu e' I' H', pre j → listedT = lst → fuelT = fu → Sub (env j) e' → hp j = I' → own j = H' → JA cx Q l I1 A Z z fu lst e' I' H') → JA cx Q l I1 A Z z fuel listed e I H) : JA cx Q l I1 A Z z fuel listed e I H :=
  k1 fun j lst fu e' I' H' hj hl hf hs hI hH => by
    subst hl hf hI hH
    exact fun a w ha h1 => k2 j hj a w (ha.sub hs) h1
end
/-! ### Within a drawn region -/
section
variable {cx : Cx} {Q : Qt} {e : Env} {I I1 : Heap} {R H1 A : HL} {Z : CL} {z : Nat} {ops : List Oper} {fuel : Nat} {listed : Array Bool} {T : TypeId} {α : Type} {l : List α} {f : α → List Value} {v : Value} {sz n : Nat} {g : Gs}
theorem JA.keepO (h : OwnR T f l v H1) (hb : ∀ p ∈ H1, cx.w0.heap.size ≤ p.1) (k : ∀ I', Le I I' → RowT T f I' l v → JA cx Q ops I1 A Z z fuel listed e I' R) : JA cx Q ops I1 A Z z fuel listed e I (H1 ++ R) :=
  own_cases (X := fun I H => JA cx Q ops I1 A Z z fuel listed e I H) h hb (fun _ _ hb k => JA.persist hb k) k
theorem JA.keepN (hf : ∀ x, (f x).length = sz) (hpos : 0 < sz) (hg : gOk cx.w0.heap.size sz n (l.flatMap f) g) (hn : n = l.length) (k : ∀ I', Le I I' → RowN (cx.w0.heap.size ≤ ·) T f I' l (gV n g) → JA cx Q ops I1 A Z z fuel listed e I' R) : JA cx Q ops I1 A Z z fuel listed e I (gH T (l.flatMap f) g ++ R) :=
  gN_cases (X := fun I H => JA cx Q ops I1 A Z z fuel listed e I H) hf hpos hg hn (fun _ _ hb k => JA.persist hb k) k
theorem JA.persists (B : HL) (hb : ∀ p ∈ B, cx.w0.heap.size ≤ p.1) (k : ∀ I', Le I I' → (∀ p ∈ B, I' p.1 = some p.2) → JA cx Q ops I1 A Z z fuel listed e I' R) : JA cx Q ops I1 A Z z fuel listed e I (B ++ R) :=
  persists_any (X := fun I H => JA cx Q ops I1 A Z z fuel listed e I H) (fun _ _ _ _ hb k => JA.persist hb k) B I hb k
end
end Go.Sx
end
section
namespace Go.Proofs.YtjcdfnbomkoheaaGreatDoor
open Go Go.Sx
/-- A number that an int holds. -/
def In64 (a : Int) : Prop := -9223372036854775808 ≤ a ∧ a ≤ 9223372036854775807
theorem td_rng {a : Int} (h : In64 a) (m : Int) (hm : 2 ≤ m) : -4611686018427387904 ≤ a.tdiv m ∧ a.tdiv m ≤ 4611686018427387904 := by
  unfold In64 at h
  have h1 : (a.tdiv m).natAbs = a.natAbs / m.natAbs := Int.natAbs_tdiv a m
  have h2 : a.natAbs / m.natAbs ≤ a.natAbs / 2 := Nat.div_le_div_left (by omega) (by decide)
  omega
theorem mul_small {j : Nat} {m : Int} (hj : j ≤ 3) (h0 : 0 ≤ m) (h1 : m ≤ 2) : 0 ≤ (j : Int) * (1 + m) ∧ (j : Int) * (1 + m) ≤ 9 := by
  match j, hj with
  | 0, _ => simp
  | 1, _ => simp; omega
  | 2, _ => simp; omega
  | 3, _ => simp; omega
/-- Four numbers, as they lie. -/
abbrev fourC (q : Ix.Four) : List Value := [i64 q.x0, i64 q.x1, i64 q.x2, i64 q.x3]
theorem fourC_len (q : Ix.Four) : (fourC q).length = 4 := rfl
structure FourOk (q : Ix.Four) : Prop where
  h0 : In64 q.x0
  h1 : In64 q.x1
  h2 : In64 q.x2
  h3 : In64 q.x3
theorem get_str {l : List (List UInt8)} {n : Int} (h0 : 0 ≤ n) (h1 : n < (l.length : Int)) : (l.map str)[n.toNat]? = some (str (l.getD n.toNat [])) := by
  have h2 : n.toNat < l.length := by omega
  rw [List.getElem?_map, List.getElem?_eq_getElem h2, List.getD_eq_getElem?_getD, List.getElem?_eq_getElem h2]; rfl
theorem get_code {l : List UInt8} {n : Int} (h0 : 0 ≤ n) (h1 : n < (l.length : Int)) : l[n.toNat]? = some (l.getD n.toNat 0) := by
  have h2 : n.toNat < l.length := by omega
  rw [List.getElem?_eq_getElem h2, List.getD_eq_getElem?_getD, List.getElem?_eq_getElem h2]; rfl
theorem nrm_add (fs : List Ke.Fld) (f : Ke.Fld) : Ke.nrm (fs ++ [f]) = Ke.nrm fs ++ [Ke.nrm1 f] := by unfold Ke.nrm; rw [List.map_append]; rfl
theorem nrm_len (fs : List Ke.Fld) : (Ke.nrm fs).length = fs.length := List.length_map _
theorem vals_nrm (fs : List Ke.Fld) : Ix.vals (Ke.nrm fs) = Ix.vals fs := by
  unfold Ix.vals Ke.nrm
  rw [List.flatMap_map]; rfl
def subsN (q : Ix.Four) (n : Nat) : List Ke.Sub := (List.range n).map fun j => Ix.subN q j
theorem subsN_next (q : Ix.Four) (n : Nat) : subsN q (n + 1) = subsN q n ++ [Ix.subN q n] := by unfold subsN; rw [List.range_succ, List.map_append]; rfl
theorem subsN_len (q : Ix.Four) (n : Nat) : (subsN q n).length = n := by unfold subsN; rw [List.length_map, List.length_range]
theorem fld_c {q : Ix.Four} (h : Ix.isC (Ix.tagN q.x0)) : Ix.fldN q = ⟨Ix.tagN q.x0, [], Ix.textN q.x3, .slice none 0 0, []⟩ := if_pos h
theorem fld_d {q : Ix.Four} (h : ¬ Ix.isC (Ix.tagN q.x0)) : Ix.fldN q = ⟨Ix.tagN q.x0, Ix.indsL.getD (q.x1 % 8).toNat [], [], .slice none 0 0, subsN q (1 + (q.x2 % 3).toNat)⟩ := if_neg h
theorem tagN_len (n : Int) : (Ix.tagN n).length ≤ 3 := by
  unfold Ix.tagN
  generalize (n % 20).toNat = k
  rcases Nat.lt_or_ge k 20 with h | h
  · have : ∀ k, k < 20 → (Ix.tagsL.getD k []).length ≤ 3 := by decide
    exact this k h
  · rw [List.getD_eq_getElem?_getD, List.getElem?_eq_none (by simpa [Ix.tagsL] using h)]; simp
theorem indN_len (n : Nat) : (Ix.indsL.getD n []).length ≤ 2 := by
  rcases Nat.lt_or_ge n 8 with h | h
  · have : ∀ k, k < 8 → (Ix.indsL.getD k []).length ≤ 2 := by decide
    exact this n h
  · rw [List.getD_eq_getElem?_getD, List.getElem?_eq_none (by simpa [Ix.indsL] using h)]; simp
/-- Made records are small. -/
theorem fldN_small (q : Ix.Four) : (Ix.fldN q).subs.length ≤ 3 ∧ textsLen (Ix.fldN q).subs ≤ 51 ∧ (Ix.fldN q).ind.length ≤ 2 := by
  by_cases h : Ix.isC (Ix.tagN q.x0)
  · rw [fld_c h]; exact ⟨by simp, by simp [textsLen], by simp⟩
  · rw [fld_d h]
    refine ⟨by dsimp only; rw [subsN_len]; omega, ?_, indN_len _⟩
    dsimp only
    have hn : ∀ n, textsLen (subsN q n) ≤ n * 17 := by
      intro n
      induction n with
      | zero => simp [textsLen, subsN]
      | succ n ih =>
        rw [subsN_next]
        unfold textsLen at ih ⊢
        rw [List.map_append, List.sum_append]
        have h1 : (Ix.subN q n).text.length ≤ 17 := Ix.textN_len _
        simp only [List.map_cons, List.map_nil, List.sum_cons, List.sum_nil]; omega
    have := hn (1 + (q.x2 % 3).toNat)
    omega
theorem made_eok {l : List Ix.Four} {fs : List Ke.Fld} (h : Ke.nrm fs = Ix.madeR l) : EOK fs := by
  have hl : fs.length ≤ 20 := by
    rw [← nrm_len, h]
    unfold Ix.madeR
    rw [List.length_map, List.length_take]; omega
  refine ⟨by omega, fun f hf => ?_⟩
  have h1 : Ke.nrm1 f ∈ Ix.madeR l := by rw [← h]; exact List.mem_map_of_mem hf
  obtain ⟨q, _, he⟩ := List.mem_map.1 h1
  have h2 := fldN_small q
  rw [he] at h2
  exact ⟨by have : f.subs.length ≤ 3 := h2.1; omega, by have : textsLen f.subs ≤ 51 := h2.2.1; omega, by have : f.ind.length ≤ 2 := h2.2.2; omega⟩
theorem perm_front {α : Type} (A S Z : List α) : (S ++ (A ++ Z)).Perm (A ++ (S ++ Z)) := by
  rw [← List.append_assoc, ← List.append_assoc]
  exact List.Perm.append_right Z List.perm_append_comm
/-- A record whose blocks are new. -/
def RecN (N : Nat → Prop) (I : Heap) (fs : List Ke.Fld) (v : Value) : Prop := RowN N 31 fldC I fs v ∧ ∀ f ∈ fs, RowN N 65 subC I f.subs f.sv
theorem RecN.mono {N : Nat → Prop} {I I' : Heap} {fs : List Ke.Fld} {v : Value} (h : RecN N I fs v) (hle : Le I I') : RecN N I' fs v := ⟨h.1.mono hle, fun f hf => (h.2 f hf).mono hle⟩
theorem RecN.imp {N M : Nat → Prop} {I : Heap} {fs : List Ke.Fld} {v : Value} (h : RecN N I fs v) (hm : ∀ b, N b → M b) : RecN M I fs v := ⟨h.1.imp hm, fun f hf => (h.2 f hf).imp hm⟩
theorem RecN.rec {N : Nat → Prop} {I : Heap} {fs : List Ke.Fld} {v : Value} (h : RecN N I fs v) : RecS I fs v := ⟨h.1.row, fun f hf => (h.2 f hf).row⟩
def SubsN (N : Nat → Prop) (I : Heap) (fs : List Ke.Fld) : Prop := ∀ f ∈ fs, RowN N 65 subC I f.subs f.sv
theorem SubsN.mono {N : Nat → Prop} {I I' : Heap} {fs : List Ke.Fld} (h : SubsN N I fs) (hle : Le I I') : SubsN N I' fs := fun f hf => (h f hf).mono hle
theorem SubsN.nil {N : Nat → Prop} {I : Heap} : SubsN N I [] := fun _ h => by cases h
theorem SubsN.add {N : Nat → Prop} {I : Heap} {fs : List Ke.Fld} {f : Ke.Fld} (h : SubsN N I fs) (h1 : RowN N 65 subC I f.subs f.sv) : SubsN N I (fs ++ [f]) := fun x hx => by
  rcases List.mem_append.1 hx with g | g
  · exact h x g
  · rw [List.mem_singleton.1 g]; exact h1
set_option maxRecDepth 20000 in
theorem nMod_ok (n : Int) (m : Int) (hm : 0 < m) (hm2 : m ≤ 1000000000) (I : Heap) : Pure Tryz.prog 67 [i64 n, i64 m] I (i64 (n % m)) := by
 have h1 := Int.tmod_lt_of_pos n hm
 have h2 := Int.lt_tmod_of_pos n hm
 refine Ctr.of_body Tryz.func67 rfl (by decide) (Nat.le_of_ble_eq_true rfl) ?_
 intro w0 hw0
 refine Cj.seq (Cj.region (J.z (yl_assign rfl rfl) ?_))
 refine J.nil (Ej.seq (Cj.seq (Cj.region (J.z (yl_move rfl rfl) ?_))))
 refine J.z (yl_move rfl rfl) ?_
 refine J.z (yl_rem rfl rfl rfl (by omega)) ?_
 refine J.z (yl_move rfl rfl) ?_
 refine J.z (yl_add rfl rfl rfl (w64 (by omega))) ?_
 refine J.z (yl_move rfl rfl) ?_
 refine J.z (yl_rem rfl rfl rfl (by omega)) ?_
 refine J.eqv 11 rfl (show _ = i64 (n % m) from (congrArg i64 (mod_eq n hm))) ?_
 refine J.z (yl_assign rfl rfl) ?_
 refine J.nil (Ej.seq (Cj.ret (Ej.ret1 rfl rfl rfl ?_)))
 exact ⟨rfl, rfl, rfl⟩
set_option maxRecDepth 20000 in
theorem nTag_ok (n : Int) (I : Heap) : Pure Tryz.prog 100 [i64 n] I (str (Ix.tagN n)) := by
 refine Ctr.toPure ?_
 refine Ctr.of_body Tryz.func100 rfl (by decide) (Nat.le_of_ble_eq_true rfl) ?_
 intro w0 hw0
 refine Cj.seq (Cj.region (J.z (yl_assign rfl rfl) ?_))
 refine J.nil (Ej.seq (Cj.seq (Cj.region (J.op rfl (op_buildSlice rfl rfl rfl Tryz.underlying28 Tryz.sizeOf9 Tryz.zeroValue9 rfl rfl rfl rfl (LCat.one rfl (LCat.one rfl (LCat.one rfl (LCat.one rfl (LCat.one rfl (LCat.one rfl (LCat.one rfl (LCat.one rfl (LCat.one rfl (LCat.one rfl (LCat.one rfl (LCat.one rfl (LCat.one rfl (LCat.one rfl (LCat.one rfl (LCat.one rfl (LCat.one rfl (LCat.one rfl (LCat.one rfl (LCat.one rfl LCat.none)))))))))))))))))))) ?_)))))
 intro b1 hb1
 refine J.z (yl_assign rfl rfl) ?_
 refine J.nil (Ej.seq (Cj.seq (Cj.region (J.z (yl_move rfl rfl) ?_))))
 refine J.z (yl_move rfl rfl) ?_
 refine J.z (yl_move rfl rfl) ?_
 refine J.z (yl_lenSlice rfl rfl Tryz.underlying28) ?_
 refine J.op rfl (op_pure rfl rfl rfl rfl rfl (nMod_ok n 20 (by decide) (by decide) _) ?_)
 refine J.z (yl_indexAddr (off' := (n % 20).toNat) rfl rfl rfl Tryz.underlying28 Tryz.sizeOf9 (by omega) (by omega) (by omega)) ?_
 refine J.z (yl_load rfl rfl Tryz.isAgg9 (Blk.at 0 rfl) (get_str (l := Ix.tagsL) (by omega) (by simp [Ix.tagsL]; omega))) ?_
 refine J.z (yl_assign rfl rfl) ?_
 refine J.nil (Ej.seq (Cj.ret (Ej.bare ?_)))
 refine Ej.ret1 rfl rfl rfl ?_
 exact ⟨rfl, rfl⟩
set_option maxRecDepth 20000 in
theorem nText_ok (n : Int) (I : Heap) : Pure Tryz.prog 34 [i64 n] I (str (Ix.textN n)) := by
 refine Ctr.toPure ?_
 refine Ctr.of_body Tryz.func34 rfl (by decide) (Nat.le_of_ble_eq_true rfl) ?_
 intro w0 hw0
 refine Cj.seq (Cj.region (J.z (yl_assign rfl rfl) ?_))
 refine J.nil (Ej.seq (Cj.seq (Cj.region (J.op rfl (op_buildSlice rfl rfl rfl Tryz.underlying28 Tryz.sizeOf9 Tryz.zeroValue9 rfl rfl rfl rfl (LCat.one rfl (LCat.one rfl (LCat.one rfl (LCat.one rfl (LCat.one rfl (LCat.one rfl (LCat.one rfl (LCat.one rfl (LCat.one rfl (LCat.one rfl (LCat.one rfl (LCat.one rfl (LCat.one rfl (LCat.one rfl (LCat.one rfl (LCat.one rfl (LCat.one rfl (LCat.one rfl (LCat.one rfl (LCat.one rfl LCat.none)))))))))))))))))))) ?_)))))
 intro b1 hb1
 refine J.z (yl_assign rfl rfl) ?_
 refine J.nil (Ej.seq (Cj.seq (Cj.region (J.z (yl_move rfl rfl) ?_))))
 refine J.z (yl_move rfl rfl) ?_
 refine J.z (yl_move rfl rfl) ?_
 refine J.z (yl_lenSlice rfl rfl Tryz.underlying28) ?_
 refine J.op rfl (op_pure rfl rfl rfl rfl rfl (nMod_ok n 20 (by decide) (by decide) _) ?_)
 refine J.z (yl_indexAddr (off' := (n % 20).toNat) rfl rfl rfl Tryz.underlying28 Tryz.sizeOf9 (by omega) (by omega) (by omega)) ?_
 refine J.z (yl_load rfl rfl Tryz.isAgg9 (Blk.at 0 rfl) (get_str (l := Ix.textsL) (by omega) (by simp [Ix.textsL]; omega))) ?_
 refine J.z (yl_assign rfl rfl) ?_
 refine J.nil (Ej.seq (Cj.ret (Ej.bare ?_)))
 refine Ej.ret1 rfl rfl rfl ?_
 exact ⟨rfl, rfl⟩
theorem made_take {α : Type} {l : List α} {k : Nat} (hk : k ≤ l.length) (h : k ≤ 20 ∧ (l.length ≤ k ∨ 20 ≤ k)) : l.take k = l.take 20 := by
  rcases h.2 with g | g
  · rw [List.take_of_length_le g, List.take_of_length_le (by omega)]
  · rw [show k = 20 by omega]
set_option maxRecDepth 20000 in
set_option maxHeartbeats 2000000 in
theorem nMadeN_ok (l : List Ix.Four) (v : Value) (hok : ∀ q ∈ l, FourOk q) (I : Heap) (hv0 : RowS fourC I l v) : Ctr Tryz.prog 71 [v] I [] (fun e I' H' => ∃ fs w, e = .returned (recV 97 109 w) ∧ RecN (I · = none) I' fs w ∧ Ke.nrm fs = Ix.madeR l ∧ H' = []) := by
 obtain ⟨p, c, rfl, hc, -⟩ := id hv0
 refine Ctr.of_body Tryz.func71 rfl (by decide) (Nat.le_of_ble_eq_true rfl) ?_
 intro w0 hw0
 refine Cj.seq (Cj.region (J.op rfl (op_alloc rfl rfl rfl Tryz.zeroValue35 rfl ?_)))
 intro b1 hb1
 refine J.nil (Ej.seq (Cj.seq (Cj.region (J.z (yl_buildS (pl := #[(0, 1), (1, 1), (2, 1)]) rfl rfl Tryz.zeroValue35 rfl Tryz.underlying35 (fun w => by simp [Tryz.sizeOf33, Tryz.sizeOf5]) (LBld.part rfl rfl rfl (LSpl.c LSpl.z) (LBld.part rfl rfl rfl (LSpl.s (LSpl.c LSpl.z)) LBld.none))) ?_))))
 refine J.op rfl (op_alloc rfl rfl rfl Tryz.zeroValue35 rfl ?_)
 intro b2 hb2
 refine J.op rfl (op_store 0 rfl rfl rfl rfl rfl rfl Tryz.sizeOf35 rfl rfl (LSpl.c (LSpl.c (LSpl.c LSpl.z))) LSet.z ?_)
 refine J.nil (Ej.seq (Cj.seq (Cj.seq (Cj.region (J.z (yl_assign rfl rfl) ?_)))))
 refine J.nil (Ej.seq (Cj.block (Cj.loop (ι := Nat × Heap × List Ke.Fld × Gs) (fun y => y.1 ≤ l.length ∧ y.1 ≤ 20 ∧ Le I y.2.1 ∧ SubsN (w0.heap.size ≤ ·) y.2.1 y.2.2.1 ∧ Ke.nrm y.2.2.1 = (l.take y.1).map Ix.fldN ∧ y.2.2.1.length = y.1 ∧ gOk w0.heap.size 4 y.2.2.1.length (y.2.2.1.flatMap fldC) y.2.2.2) (fun y => 20 - y.1) (fun y => [(0, .slice p l.length c), (2, ptr b1 0), (3, ptr b2 0), (4, i64 (y.1 : Int))]) (fun y => y.2.1) (fun y => (b2, cel 35 [u8 97, u8 109, gV y.2.2.1.length y.2.2.2]) :: (b1, cel 35 [u8 0, u8 0, .slice none 0 0]) :: gH 31 (y.2.2.1.flatMap fldC) y.2.2.2) (0, _, [], none) ⟨Nat.zero_le _, Nat.zero_le _, Le.refl _, SubsN.nil, rfl, rfl, rfl, rfl⟩ ⟨rfl, rfl, rfl, rfl, trivial⟩ rfl rfl ?_)))
 rintro ⟨k, Jh, fs, g⟩ ⟨hk, hk20, hIJ, hS, hN, hfl, hg⟩
 dsimp only at hk hk20 hIJ hS hN hfl hg ⊢
 have hv := hv0.mono hIJ
 refine Cj.seq (Cj.seq (Cj.region (J.z (yl_move rfl rfl) ?_)))
 refine J.z (yl_move rfl rfl) ?_
 refine J.z (yl_lenSlice rfl rfl Tryz.underlying78) ?_
 refine J.z (yl_lss rfl rfl rfl) ?_
 refine J.z (yl_move rfl rfl) ?_
 refine J.split 14 rfl (fun hg3 => ?_) (fun hg3 => ?_)
 ·
  have hg3p := of_decide_eq_true hg3
  refine J.opG 4 14 true _ rfl rfl rfl hg3 (op_yld (yl_move rfl rfl) rfl rfl ?_)
  refine J.opG 4 14 true _ rfl rfl rfl hg3 (op_yld (yl_lss rfl rfl rfl) rfl rfl ?_)
  refine J.z (yl_pick1 rfl rfl hg3 rfl) ?_
  refine J.nil (Ej.seq (Cj.cond rfl (fun hc4 => ?_) (fun hc4 => ?_)))
  ·
   have hc4p := of_decide_eq_true hc4
   refine Cj.skip (Ej.seq (Cj.seq (Cj.block (Cj.seq ?_))))
   have hlt : k < l.length := by omega
   have hlt2 : k < 20 := by omega
   obtain ⟨q, hget⟩ : ∃ x, l[k]? = some x := ⟨_, List.getElem?_eq_getElem hlt⟩
   have hq := hok q (List.mem_of_getElem? hget)
   obtain ⟨p1, c1, hpe, hc1, hp⟩ := id hv
   cases hpe
   obtain ⟨lb, lo, lcs, lty, lfr, sp, rfl, hlb, hld⟩ := hp (ne_nil_of hlt)
   have htl := tagN_len q.x0
   refine Cj.region (J.z (yl_move rfl rfl) ?_)
   refine J.z (yl_move rfl rfl) ?_
   refine J.z (yl_indexAddr (off' := lo + k * 4) rfl rfl rfl Tryz.underlying78 Tryz.sizeOf143 (by omega) (by omega) (by simp)) ?_
   refine J.z (yl_loadAgg rfl rfl Tryz.isAgg143 Tryz.sizeOf143 (Blk.imm hlb) (row_from fourC_len hld hget) rfl) ?_
   refine J.op rfl (op_alloc rfl rfl rfl Tryz.zeroValue143 rfl ?_)
   intro b5 hb5
   refine J.op rfl (op_store 0 rfl rfl rfl rfl rfl rfl Tryz.sizeOf143 rfl rfl (LSpl.c (LSpl.c (LSpl.c (LSpl.c LSpl.z)))) LSet.z ?_)
   refine J.nil (Ej.seq (Cj.seq (Cj.region (J.z (yl_indexArr (off' := 0) rfl rfl rfl Tryz.underlying143 Tryz.sizeOf3 (by decide) (by decide) (by decide)) ?_))))
   refine J.z (yl_load rfl rfl Tryz.isAgg3 (Blk.at 0 rfl) rfl) ?_
   refine J.op rfl (op_pure rfl rfl rfl rfl rfl (nTag_ok q.x0 _) ?_)
   refine J.z (yl_buildS (pl := #[(0, 1), (1, 1), (2, 1), (3, 1)]) rfl rfl Tryz.zeroValue31 rfl Tryz.underlying31 (fun w => by simp [Tryz.sizeOf29, Tryz.sizeOf9]) (LBld.part rfl rfl rfl (LSpl.c LSpl.z) LBld.none)) ?_
   refine J.op rfl (op_alloc rfl rfl rfl Tryz.zeroValue31 rfl ?_)
   intro b6 hb6
   refine J.op rfl (op_store 0 rfl rfl rfl rfl rfl rfl Tryz.sizeOf31 rfl rfl (LSpl.c (LSpl.c (LSpl.c (LSpl.c LSpl.z)))) LSet.z ?_)
   refine J.nil (Ej.seq (Cj.seq (Cj.seq (Cj.region (J.z (yl_fieldAddr (off' := 0) rfl rfl Tryz.underlying31 rfl Tryz.sizeOf9 rfl) ?_)))))
   refine J.z (yl_load rfl rfl Tryz.isAgg9 (Blk.at 0 rfl) rfl) ?_
   refine J.z (yl_lenStr rfl rfl Tryz.underlying9) ?_
   refine J.z (yl_gtr rfl rfl rfl) ?_
   refine J.z (yl_move rfl rfl) ?_
   refine J.split 32 rfl (fun hg7 => ?_) (fun hg7 => ?_)
   ·
    have hg7p := of_decide_eq_true hg7
    refine J.opG 4 32 true _ rfl rfl rfl hg7 (op_yld (yl_fieldAddr (off' := 0) rfl rfl Tryz.underlying31 rfl Tryz.sizeOf9 rfl) rfl rfl ?_)
    refine J.opG 4 32 true _ rfl rfl rfl hg7 (op_yld (yl_load rfl rfl Tryz.isAgg9 (Blk.at 0 rfl) rfl) rfl rfl ?_)
    refine J.opG 4 32 true _ rfl rfl rfl hg7 (op_yld (yl_sliceStr (p := 0) (q := 2) rfl rfl Tryz.underlying9 rfl ⟨_, rfl⟩ (by omega) (by omega)) rfl rfl ?_)
    refine J.opG 4 32 true _ rfl rfl rfl hg7 (op_yld (yl_eqlStr rfl rfl rfl) rfl rfl ?_)
    refine J.z (yl_pick1 rfl rfl hg7 rfl) ?_
    refine J.nil (Ej.seq (Cj.cond rfl (fun hc8 => ?_) (fun hc8 => ?_)))
    ·
     have hc8p := eq_of_beq hc8
     have hC : Ix.isC (Ix.tagN q.x0) := ⟨by omega, by have h := eq_of_beq hc8; rw [List.drop_zero] at h; exact h⟩
     refine Cj.seq (Cj.region (J.z (yl_indexArr (off' := 3) rfl rfl rfl Tryz.underlying143 Tryz.sizeOf3 (by decide) (by decide) (by decide)) ?_))
     refine J.z (yl_load rfl rfl Tryz.isAgg3 (Blk.at 1 rfl) rfl) ?_
     refine J.op rfl (op_pure rfl rfl rfl rfl rfl (nText_ok q.x3 _) ?_)
     refine J.z (yl_fieldAddr (off' := 2) rfl rfl Tryz.underlying31 rfl Tryz.sizeOf9 rfl) ?_
     refine J.op rfl (op_store 0 rfl rfl rfl rfl rfl rfl Tryz.sizeOf9 rfl rfl (LSpl.s (LSpl.s (LSpl.c LSpl.z))) LSet.z ?_)
     refine J.nil (Ej.seq (Cj.seq (Cj.region (J.z (yl_fieldAddr (off' := 2) rfl rfl Tryz.underlying35 rfl Tryz.sizeOf33 rfl) ?_))))
     refine J.z (yl_load rfl rfl Tryz.isAgg33 (Blk.at 2 rfl) rfl) ?_
     refine J.z (yl_loadAgg rfl rfl Tryz.isAgg31 Tryz.sizeOf31 (Blk.at 0 rfl) rfl rfl) ?_
     refine J.op rfl (op_buildSlice rfl rfl rfl Tryz.underlying33 Tryz.sizeOf31 Tryz.zeroValue31 rfl rfl rfl rfl (LCat.agg rfl LCat.none) ?_)
     intro b9 hb9
     refine J.op rfl (op_append (by' := 71) [_, _, _, _, _] rfl rfl rfl rfl rfl Tryz.underlying33 (.inr ⟨_, Tryz.underlying33⟩) (by kernel_rfl) Tryz.sizeOf31 Tryz.zeroValue31 rfl hg rfl (Src.slice (Blk.at 0 rfl) rfl rfl rfl) (by omega) ?_)
     intro g10 hg10
     refine J.z (yl_fieldAddr (off' := 2) rfl rfl Tryz.underlying35 rfl Tryz.sizeOf33 rfl) ?_
     refine J.op rfl (op_store 3 rfl rfl rfl rfl (gV_cells _ _) (gV_one _ _) Tryz.sizeOf33 rfl rfl (LSpl.s (LSpl.s (LSpl.c LSpl.z))) (LSet.s (LSet.s (LSet.s LSet.z))) ?_)
     refine J.nil (Ej.seq (Cj.exit (Ej.seqExit (Ej.blkExit (Ej.seq (Cj.region (J.z (yl_move rfl rfl) ?_)))))))
     refine J.z (yl_add rfl rfl rfl (w64 (by omega))) ?_
     refine J.z (yl_assign rfl rfl) ?_
     refine J.nil (Ej.keep (Keeps.d (Keeps.d (Keeps.d (Keeps.k (Keeps.k Keeps.r))))) ?_)
     refine Ej.round (k + 1, _, fs ++ [⟨Ix.tagN q.x0, [], Ix.textN q.x3, .slice none 0 0, []⟩], g10) ⟨by dsimp only; omega, by dsimp only; omega, hIJ, SubsN.add hS RowN.nil, by dsimp only; rw [nrm_add, map_next _ hget, hN, fld_c hC]; rfl, by dsimp only; rw [List.length_append, hfl]; rfl, by dsimp only; rw [flat_one, List.length_append]; exact hg10⟩ (by dsimp only; omega) ⟨rfl, rfl, rfl, rfl, trivial⟩ rfl (by dsimp only; rw [flat_one, List.length_append]; rfl)
    ·
     have hc8p := ne_of_beq_false hc8
     have hC : ¬ Ix.isC (Ix.tagN q.x0) := fun g => ne_of_beq_false hc8 (by rw [List.drop_zero]; exact g.2)
     refine Cj.skip (Ej.seq (Cj.seq (Cj.region (J.op rfl (op_buildSlice rfl rfl rfl Tryz.underlying28 Tryz.sizeOf9 Tryz.zeroValue9 rfl rfl rfl rfl (LCat.one rfl (LCat.one rfl (LCat.one rfl (LCat.one rfl (LCat.one rfl (LCat.one rfl (LCat.one rfl (LCat.one rfl LCat.none)))))))) ?_)))))
     intro b11 hb11
     refine J.z (yl_indexArr (off' := 1) rfl rfl rfl Tryz.underlying143 Tryz.sizeOf3 (by decide) (by decide) (by decide)) ?_
     refine J.z (yl_load rfl rfl Tryz.isAgg3 (Blk.at 2 rfl) rfl) ?_
     refine J.op rfl (op_pure rfl rfl rfl rfl rfl (nMod_ok q.x1 8 (by decide) (by decide) _) ?_)
     refine J.z (yl_indexAddr (off' := (q.x1 % 8).toNat) rfl rfl rfl Tryz.underlying28 Tryz.sizeOf9 (by omega) (by omega) (by omega)) ?_
     refine J.z (yl_load rfl rfl Tryz.isAgg9 (Blk.at 0 rfl) (get_str (l := Ix.indsL) (by omega) (by simp [Ix.indsL]; omega))) ?_
     refine J.z (yl_fieldAddr (off' := 1) rfl rfl Tryz.underlying31 rfl Tryz.sizeOf9 rfl) ?_
     refine J.op rfl (op_store 1 rfl rfl rfl rfl rfl rfl Tryz.sizeOf9 rfl rfl (LSpl.s (LSpl.c LSpl.z)) (LSet.s LSet.z) ?_)
     refine J.nil (Ej.seq (Cj.seq ?_))
     obtain ⟨nn, hnn⟩ : ∃ nn : Nat, nn = 1 + (q.x2 % 3).toNat := ⟨_, rfl⟩
     have hn3 : nn ≤ 3 := by omega
     refine Cj.region (J.z (yl_indexArr (off' := 2) rfl rfl rfl Tryz.underlying143 Tryz.sizeOf3 (by decide) (by decide) (by decide)) ?_)
     refine J.z (yl_load rfl rfl Tryz.isAgg3 (Blk.at 2 rfl) rfl) ?_
     refine J.op rfl (op_pure rfl rfl rfl rfl rfl (nMod_ok q.x2 3 (by decide) (by decide) _) ?_)
     refine J.z (yl_add rfl rfl rfl (w64 (by omega))) ?_
     refine J.eqv 58 rfl (show _ = i64 (nn : Int) from (congrArg i64 (by omega))) ?_
     refine J.z (yl_assign rfl rfl) ?_
     refine J.nil (Ej.seq (Cj.seq (Cj.seq (Cj.keep (Keeps.d Keeps.r) ?_))))
     refine Cj.region (J.z (yl_assign rfl rfl) ?_)
     refine J.nil (Ej.seq (Cj.block (Cj.keep (Keeps.k (Keeps.k (Keeps.k (Keeps.k Keeps.r)))) ?_)))
     refine Cj.loop (ι := Nat × Gs) (fun y => y.1 ≤ nn ∧ gOk w0.heap.size 2 (subsN q y.1).length ((subsN q y.1).flatMap subC) y.2) (fun y => nn - y.1) (fun y => [(0, .slice (some ⟨lb, lo, none⟩) l.length c), (2, ptr b1 0), (3, ptr b2 0), (4, i64 (k : Int)), (5, ptr b5 0), (6, ptr b6 0), (7, i64 (nn : Int)), (8, i64 (y.1 : Int))]) (fun y => _) (fun y => (b6, cel 31 [str (Ix.tagN q.x0), str (Ix.indsL.getD (q.x1 % 8).toNat []), str [], gV (subsN q y.1).length y.2]) :: (b5, cel 143 (fourC q)) :: (b2, cel 35 [u8 97, u8 109, gV fs.length g]) :: (b1, cel 35 [u8 0, u8 0, .slice none 0 0]) :: (gH 65 ((subsN q y.1).flatMap subC) y.2 ++ gH 31 (fs.flatMap fldC) g)) (0, none) ⟨Nat.zero_le _, rfl, rfl⟩ ⟨rfl, rfl, rfl, rfl, rfl, rfl, rfl, rfl, trivial⟩ rfl rfl ?_
     rintro ⟨j, g2⟩ ⟨hj, hgs⟩
     dsimp only at hj hgs ⊢
     have hsl := subsN_len q j
     refine Cj.seq (Cj.seq (Cj.region (J.z (yl_move rfl rfl) ?_)))
     refine J.z (yl_move rfl rfl) ?_
     refine J.z (yl_lss rfl rfl rfl) ?_
     refine J.nil (Ej.seq (Cj.cond rfl (fun hc12 => ?_) (fun hc12 => ?_)))
     ·
      have hc12p := of_decide_eq_true hc12
      refine Cj.skip (Ej.seq (Cj.seq (Cj.block (Cj.drawSel [0, 1, 2, 3] [] 24 (by kernel_rfl) ?_))))
      have hlb_15 := hlb
      refine JA.fix ⟨(HSub.c 0 rfl (HSub.c 1 rfl (HSub.c 2 rfl (HSub.c 3 rfl HSub.n)))), CSub.n, (Le.refl _)⟩ (fun fx13 => ?_)
      refine JA.tk 0 rfl fx13 (yl_fieldAddr (off' := 3) rfl rfl Tryz.underlying31 rfl Tryz.sizeOf29 rfl) ?_
      refine JA.tk 1 rfl fx13 (yl_load rfl rfl Tryz.isAgg29 (Blk.atC 0 rfl) rfl) ?_
      refine JA.tk 2 rfl fx13 (yl_indexArr (off' := 2) rfl rfl rfl Tryz.underlying143 Tryz.sizeOf3 (by decide) (by decide) (by decide)) ?_
      refine JA.tk 3 rfl fx13 (yl_load rfl rfl Tryz.isAgg3 (Blk.atC 1 rfl) rfl) ?_
      refine JA.tk 4 rfl fx13 (yl_quo rfl rfl rfl (by decide) (w64 (by have h := td_rng hq.h2 3 (by decide); omega))) ?_
      refine JA.tk 5 rfl fx13 (yl_move rfl rfl) ?_
      refine JA.tk 6 rfl fx13 (yl_indexArr (off' := 1) rfl rfl rfl Tryz.underlying143 Tryz.sizeOf3 (by decide) (by decide) (by decide)) ?_
      refine JA.tk 7 rfl fx13 (yl_load rfl rfl Tryz.isAgg3 (Blk.atC 1 rfl) rfl) ?_
      refine JA.tk 14 rfl fx13 (yl_indexArr (off' := 3) rfl rfl rfl Tryz.underlying143 Tryz.sizeOf3 (by decide) (by decide) (by decide)) ?_
      refine JA.tk 15 rfl fx13 (yl_load rfl rfl Tryz.isAgg3 (Blk.atC 1 rfl) rfl) ?_
      refine JA.tk 16 rfl fx13 (yl_move rfl rfl) ?_
      refine JA.tk 17 rfl fx13 (yl_mul rfl rfl rfl (w64 (by omega))) ?_
      refine JA.tk 18 rfl fx13 (yl_addW rfl rfl rfl) ?_
      refine JA.step 8 (by kernel_rfl) rfl rfl (op_pure rfl rfl rfl rfl rfl (nMod_ok q.x1 3 (by decide) (by decide) _) ?_)
      refine ⟨⟨(Le.refl _), (HSub.c 0 rfl (HSub.c 1 rfl (HSub.c 2 rfl (HSub.c 3 rfl HSub.n)))), CSub.n⟩, ?_⟩
      refine JA.fix ⟨(HSub.c 0 rfl (HSub.c 1 rfl (HSub.c 2 rfl (HSub.c 3 rfl HSub.n)))), CSub.n, (Le.refl _)⟩ (fun fx14 => ?_)
      refine JA.tk 9 rfl fx14 (yl_add rfl rfl rfl (w64 (by omega))) ?_
      refine JA.tk 10 rfl fx14 (yl_mul rfl rfl rfl (w64 (by have h := mul_small (j := j) (m := q.x1 % 3) (by omega) (by omega) (by omega); omega))) ?_
      refine JA.tk 11 rfl fx14 (yl_add rfl rfl rfl (w64 (by have h := td_rng hq.h2 3 (by decide); have h2 := mul_small (j := j) (m := q.x1 % 3) (by omega) (by omega) (by omega); omega))) ?_
      refine JA.step 12 (by kernel_rfl) rfl rfl (op_pure rfl rfl rfl rfl rfl (nMod_ok (q.x2.tdiv 3 + (j : Int) * (1 + q.x1 % 3)) 8 (by decide) (by decide) _) ?_)
      refine ⟨⟨(Le.refl _), (HSub.c 0 rfl (HSub.c 1 rfl (HSub.c 2 rfl (HSub.c 3 rfl HSub.n)))), CSub.n⟩, ?_⟩
      refine JA.fix ⟨(HSub.c 0 rfl (HSub.c 1 rfl (HSub.c 2 rfl (HSub.c 3 rfl HSub.n)))), CSub.n, (Le.refl _)⟩ (fun fx15 => ?_)
      refine JA.tk 13 rfl fx15 (yl_index rfl rfl rfl Tryz.underlying9 (by omega) (get_code (l := Ix.codesL) (by omega) (by simp [Ix.codesL]; omega))) ?_
      refine JA.step 19 (by kernel_rfl) rfl rfl (op_pure rfl rfl rfl rfl rfl (nText_ok _ _) ?_)
      refine ⟨⟨(Le.refl _), (HSub.c 0 rfl (HSub.c 1 rfl (HSub.c 2 rfl (HSub.c 3 rfl HSub.n)))), CSub.n⟩, ?_⟩
      refine JA.fix ⟨(HSub.c 0 rfl (HSub.c 1 rfl (HSub.c 2 rfl (HSub.c 3 rfl HSub.n)))), CSub.n, (Le.refl _)⟩ (fun fx16 => ?_)
      refine JA.tk 20 rfl fx16 (yl_buildS (pl := #[(0, 1), (1, 1)]) rfl rfl Tryz.zeroValue65 rfl Tryz.underlying65 (fun w => by simp [Tryz.sizeOf5, Tryz.sizeOf9]) (LBld.part rfl rfl rfl (LSpl.c LSpl.z) (LBld.part rfl rfl rfl (LSpl.s (LSpl.c LSpl.z)) LBld.none))) ?_
      refine JA.step 21 (by kernel_rfl) rfl rfl (op_buildSlice rfl rfl rfl Tryz.underlying29 Tryz.sizeOf65 Tryz.zeroValue65 rfl rfl rfl rfl (LCat.agg rfl LCat.none) ?_)
      intro b17 hb17
      refine ⟨⟨(Le.refl _), (HSub.c 1 rfl (HSub.c 2 rfl (HSub.c 3 rfl (HSub.c 4 rfl HSub.n)))), CSub.n⟩, ?_⟩
      refine JA.perm (H' := [_, _, _, _, _] ++ (gH _ _ _ ++ gH _ _ _)) (perm_swap [_, _, _, _, _] _ _) ?_
      refine JA.step 22 (by kernel_rfl) rfl rfl (op_append (by' := 23) ([_, _, _, _, _] ++ gH _ _ _) rfl rfl rfl rfl rfl Tryz.underlying29 (.inr ⟨_, Tryz.underlying29⟩) (by kernel_rfl) Tryz.sizeOf65 Tryz.zeroValue65 rfl hgs rfl (Src.slice (Blk.at 0 rfl) rfl rfl rfl) (by omega) ?_)
      intro g18 hg18
      refine ⟨⟨(Le.refl _), (HSub.c 1 rfl (HSub.c 2 rfl (HSub.c 3 rfl (HSub.c 4 rfl HSub.n)))), CSub.n⟩, ?_⟩
      refine JA.fix ⟨(HSub.c 1 rfl (HSub.c 2 rfl (HSub.c 3 rfl (HSub.c 4 rfl HSub.n)))), CSub.n, (Le.refl _)⟩ (fun fx19 => ?_)
      refine JA.tk 23 rfl fx19 (yl_fieldAddr (off' := 3) rfl rfl Tryz.underlying31 rfl Tryz.sizeOf29 rfl) ?_
      refine JA.last 24 (by kernel_rfl) rfl rfl rfl (op_store 1 rfl rfl rfl rfl (gV_cells _ _) (gV_one _ _) Tryz.sizeOf29 rfl rfl (LSpl.s (LSpl.s (LSpl.s (LSpl.c LSpl.z)))) (LSet.s LSet.z) ?_)
      refine JA.done (by kernel_rfl) ?_
      refine Ej.blkNormal (Ej.seq (Cj.region (J.z (yl_move rfl rfl) ?_)))
      refine J.z (yl_add rfl rfl rfl (w64 (by omega))) ?_
      refine J.z (yl_assign rfl rfl) ?_
      refine J.nil (Ej.perm (perm_swap [_, _, _, _, _] (gH _ _ _) (gH _ _ _)) ?_)
      refine Ej.keep (Keeps.d (Keeps.k (Keeps.k (Keeps.k (Keeps.k Keeps.r))))) ?_
      refine Ej.round (j + 1, g18) ⟨by dsimp only; omega, by dsimp only; rw [subsN_next, List.length_append, List.flatMap_append]; exact hg18⟩ (by dsimp only; omega) ⟨rfl, rfl, rfl, rfl, rfl, rfl, rfl, rfl, trivial⟩ rfl (by dsimp only; rw [subsN_next, List.length_append, List.flatMap_append]; rfl)
     ·
      have hc12p := of_decide_eq_false hc12
      refine Cj.exit (Ej.seqExit (Ej.loopExit (Ej.blkExit (Ej.seq ?_))))
      have hjn : j = nn := by omega
      subst hjn
      refine Cj.perm (perm_front [_, _, _, _] (gH _ _ _) (gH _ _ _)) ?_
      refine Cj.keepN subC_len (by decide) hgs rfl (fun I8 hle8 hss => ?_)
      have hIJ := hIJ.mono hle8
      have hS := hS.mono hle8
      have hv := hv.mono hle8
      have hlb := hle8 _ _ hlb
      refine Cj.region (J.z (yl_fieldAddr (off' := 2) rfl rfl Tryz.underlying35 rfl Tryz.sizeOf33 rfl) ?_)
      refine J.z (yl_load rfl rfl Tryz.isAgg33 (Blk.at 2 rfl) rfl) ?_
      refine J.z (yl_loadAgg rfl rfl Tryz.isAgg31 Tryz.sizeOf31 (Blk.at 0 rfl) rfl rfl) ?_
      refine J.op rfl (op_buildSlice rfl rfl rfl Tryz.underlying33 Tryz.sizeOf31 Tryz.zeroValue31 rfl rfl rfl rfl (LCat.agg rfl LCat.none) ?_)
      intro b20 hb20
      refine J.op rfl (op_append (by' := 71) [_, _, _, _, _] rfl rfl rfl rfl rfl Tryz.underlying33 (.inr ⟨_, Tryz.underlying33⟩) (by kernel_rfl) Tryz.sizeOf31 Tryz.zeroValue31 rfl hg rfl (Src.slice (Blk.at 0 rfl) rfl rfl (by show [str (Ix.tagN q.x0), str (Ix.indsL.getD (q.x1 % 8).toNat []), str [], gV _ _].all Value.oneCell' = true; simp only [List.all_cons, List.all_nil, gV_one', Bool.and_true]; rfl)) (by omega) ?_)
      intro g21 hg21
      refine J.z (yl_fieldAddr (off' := 2) rfl rfl Tryz.underlying35 rfl Tryz.sizeOf33 rfl) ?_
      refine J.op rfl (op_store 3 rfl rfl rfl rfl (gV_cells _ _) (gV_one _ _) Tryz.sizeOf33 rfl rfl (LSpl.s (LSpl.s (LSpl.c LSpl.z))) (LSet.s (LSet.s (LSet.s LSet.z))) ?_)
      refine J.nil (Ej.blkNormal (Ej.seq (Cj.region (J.z (yl_move rfl rfl) ?_))))
      refine J.z (yl_add rfl rfl rfl (w64 (by omega))) ?_
      refine J.z (yl_assign rfl rfl) ?_
      refine J.nil (Ej.keep (Keeps.d (Keeps.d (Keeps.d (Keeps.k (Keeps.k Keeps.r))))) ?_)
      refine Ej.round (k + 1, _, fs ++ [⟨Ix.tagN q.x0, Ix.indsL.getD (q.x1 % 8).toNat [], [], gV (subsN q j).length g2, subsN q j⟩], g21) ⟨by dsimp only; omega, by dsimp only; omega, hIJ, SubsN.add hS hss, by dsimp only; rw [nrm_add, map_next _ hget, hN, fld_d hC, ← hnn]; rfl, by dsimp only; rw [List.length_append, hfl]; rfl, by dsimp only; rw [flat_one, List.length_append]; exact hg21⟩ (by dsimp only; omega) ⟨rfl, rfl, rfl, rfl, trivial⟩ rfl (by dsimp only; rw [flat_one, List.length_append]; rfl)
   ·
    have hg7p := of_decide_eq_false hg7
    have hC : ¬ Ix.isC (Ix.tagN q.x0) := fun g => by have h := of_decide_eq_false hg7; have := g.1; omega
    refine J.skip 4 32 33 true _ rfl rfl rfl hg7 rfl rfl ?_
    refine J.skip 4 32 34 true _ rfl rfl rfl hg7 rfl rfl ?_
    refine J.skip 4 32 35 true _ rfl rfl rfl hg7 rfl rfl ?_
    refine J.skip 4 32 36 true _ rfl rfl rfl hg7 rfl rfl ?_
    refine J.z (yl_pick0 rfl rfl hg7 rfl) ?_
    refine J.nil (Ej.seq (Cj.cond rfl (fun hc22 => Bool.noConfusion (Eq.trans (Eq.symm rfl) hc22)) (fun hc22 => ?_)))
    refine Cj.skip (Ej.seq (Cj.seq (Cj.region (J.op rfl (op_buildSlice rfl rfl rfl Tryz.underlying28 Tryz.sizeOf9 Tryz.zeroValue9 rfl rfl rfl rfl (LCat.one rfl (LCat.one rfl (LCat.one rfl (LCat.one rfl (LCat.one rfl (LCat.one rfl (LCat.one rfl (LCat.one rfl LCat.none)))))))) ?_)))))
    intro b23 hb23
    refine J.z (yl_indexArr (off' := 1) rfl rfl rfl Tryz.underlying143 Tryz.sizeOf3 (by decide) (by decide) (by decide)) ?_
    refine J.z (yl_load rfl rfl Tryz.isAgg3 (Blk.at 2 rfl) rfl) ?_
    refine J.op rfl (op_pure rfl rfl rfl rfl rfl (nMod_ok q.x1 8 (by decide) (by decide) _) ?_)
    refine J.z (yl_indexAddr (off' := (q.x1 % 8).toNat) rfl rfl rfl Tryz.underlying28 Tryz.sizeOf9 (by omega) (by omega) (by omega)) ?_
    refine J.z (yl_load rfl rfl Tryz.isAgg9 (Blk.at 0 rfl) (get_str (l := Ix.indsL) (by omega) (by simp [Ix.indsL]; omega))) ?_
    refine J.z (yl_fieldAddr (off' := 1) rfl rfl Tryz.underlying31 rfl Tryz.sizeOf9 rfl) ?_
    refine J.op rfl (op_store 1 rfl rfl rfl rfl rfl rfl Tryz.sizeOf9 rfl rfl (LSpl.s (LSpl.c LSpl.z)) (LSet.s LSet.z) ?_)
    refine J.nil (Ej.seq (Cj.seq ?_))
    obtain ⟨nn, hnn⟩ : ∃ nn : Nat, nn = 1 + (q.x2 % 3).toNat := ⟨_, rfl⟩
    have hn3 : nn ≤ 3 := by omega
    refine Cj.region (J.z (yl_indexArr (off' := 2) rfl rfl rfl Tryz.underlying143 Tryz.sizeOf3 (by decide) (by decide) (by decide)) ?_)
    refine J.z (yl_load rfl rfl Tryz.isAgg3 (Blk.at 2 rfl) rfl) ?_
    refine J.op rfl (op_pure rfl rfl rfl rfl rfl (nMod_ok q.x2 3 (by decide) (by decide) _) ?_)
    refine J.z (yl_add rfl rfl rfl (w64 (by omega))) ?_
    refine J.eqv 58 rfl (show _ = i64 (nn : Int) from (congrArg i64 (by omega))) ?_
    refine J.z (yl_assign rfl rfl) ?_
    refine J.nil (Ej.seq (Cj.seq (Cj.seq (Cj.keep (Keeps.d Keeps.r) ?_))))
    refine Cj.region (J.z (yl_assign rfl rfl) ?_)
    refine J.nil (Ej.seq (Cj.block (Cj.keep (Keeps.k (Keeps.k (Keeps.k (Keeps.k Keeps.r)))) ?_)))
    refine Cj.loop (ι := Nat × Gs) (fun y => y.1 ≤ nn ∧ gOk w0.heap.size 2 (subsN q y.1).length ((subsN q y.1).flatMap subC) y.2) (fun y => nn - y.1) (fun y => [(0, .slice (some ⟨lb, lo, none⟩) l.length c), (2, ptr b1 0), (3, ptr b2 0), (4, i64 (k : Int)), (5, ptr b5 0), (6, ptr b6 0), (7, i64 (nn : Int)), (8, i64 (y.1 : Int))]) (fun y => _) (fun y => (b6, cel 31 [str (Ix.tagN q.x0), str (Ix.indsL.getD (q.x1 % 8).toNat []), str [], gV (subsN q y.1).length y.2]) :: (b5, cel 143 (fourC q)) :: (b2, cel 35 [u8 97, u8 109, gV fs.length g]) :: (b1, cel 35 [u8 0, u8 0, .slice none 0 0]) :: (gH 65 ((subsN q y.1).flatMap subC) y.2 ++ gH 31 (fs.flatMap fldC) g)) (0, none) ⟨Nat.zero_le _, rfl, rfl⟩ ⟨rfl, rfl, rfl, rfl, rfl, rfl, rfl, rfl, trivial⟩ rfl rfl ?_
    rintro ⟨j, g2⟩ ⟨hj, hgs⟩
    dsimp only at hj hgs ⊢
    have hsl := subsN_len q j
    refine Cj.seq (Cj.seq (Cj.region (J.z (yl_move rfl rfl) ?_)))
    refine J.z (yl_move rfl rfl) ?_
    refine J.z (yl_lss rfl rfl rfl) ?_
    refine J.nil (Ej.seq (Cj.cond rfl (fun hc24 => ?_) (fun hc24 => ?_)))
    ·
     have hc24p := of_decide_eq_true hc24
     refine Cj.skip (Ej.seq (Cj.seq (Cj.block (Cj.drawSel [0, 1, 2, 3] [] 24 (by kernel_rfl) ?_))))
     have hlb_15 := hlb
     refine JA.fix ⟨(HSub.c 0 rfl (HSub.c 1 rfl (HSub.c 2 rfl (HSub.c 3 rfl HSub.n)))), CSub.n, (Le.refl _)⟩ (fun fx25 => ?_)
     refine JA.tk 0 rfl fx25 (yl_fieldAddr (off' := 3) rfl rfl Tryz.underlying31 rfl Tryz.sizeOf29 rfl) ?_
     refine JA.tk 1 rfl fx25 (yl_load rfl rfl Tryz.isAgg29 (Blk.atC 0 rfl) rfl) ?_
     refine JA.tk 2 rfl fx25 (yl_indexArr (off' := 2) rfl rfl rfl Tryz.underlying143 Tryz.sizeOf3 (by decide) (by decide) (by decide)) ?_
     refine JA.tk 3 rfl fx25 (yl_load rfl rfl Tryz.isAgg3 (Blk.atC 1 rfl) rfl) ?_
     refine JA.tk 4 rfl fx25 (yl_quo rfl rfl rfl (by decide) (w64 (by have h := td_rng hq.h2 3 (by decide); omega))) ?_
     refine JA.tk 5 rfl fx25 (yl_move rfl rfl) ?_
     refine JA.tk 6 rfl fx25 (yl_indexArr (off' := 1) rfl rfl rfl Tryz.underlying143 Tryz.sizeOf3 (by decide) (by decide) (by decide)) ?_
     refine JA.tk 7 rfl fx25 (yl_load rfl rfl Tryz.isAgg3 (Blk.atC 1 rfl) rfl) ?_
     refine JA.tk 14 rfl fx25 (yl_indexArr (off' := 3) rfl rfl rfl Tryz.underlying143 Tryz.sizeOf3 (by decide) (by decide) (by decide)) ?_
     refine JA.tk 15 rfl fx25 (yl_load rfl rfl Tryz.isAgg3 (Blk.atC 1 rfl) rfl) ?_
     refine JA.tk 16 rfl fx25 (yl_move rfl rfl) ?_
     refine JA.tk 17 rfl fx25 (yl_mul rfl rfl rfl (w64 (by omega))) ?_
     refine JA.tk 18 rfl fx25 (yl_addW rfl rfl rfl) ?_
     refine JA.step 8 (by kernel_rfl) rfl rfl (op_pure rfl rfl rfl rfl rfl (nMod_ok q.x1 3 (by decide) (by decide) _) ?_)
     refine ⟨⟨(Le.refl _), (HSub.c 0 rfl (HSub.c 1 rfl (HSub.c 2 rfl (HSub.c 3 rfl HSub.n)))), CSub.n⟩, ?_⟩
     refine JA.fix ⟨(HSub.c 0 rfl (HSub.c 1 rfl (HSub.c 2 rfl (HSub.c 3 rfl HSub.n)))), CSub.n, (Le.refl _)⟩ (fun fx26 => ?_)
     refine JA.tk 9 rfl fx26 (yl_add rfl rfl rfl (w64 (by omega))) ?_
     refine JA.tk 10 rfl fx26 (yl_mul rfl rfl rfl (w64 (by have h := mul_small (j := j) (m := q.x1 % 3) (by omega) (by omega) (by omega); omega))) ?_
     refine JA.tk 11 rfl fx26 (yl_add rfl rfl rfl (w64 (by have h := td_rng hq.h2 3 (by decide); have h2 := mul_small (j := j) (m := q.x1 % 3) (by omega) (by omega) (by omega); omega))) ?_
     refine JA.step 12 (by kernel_rfl) rfl rfl (op_pure rfl rfl rfl rfl rfl (nMod_ok (q.x2.tdiv 3 + (j : Int) * (1 + q.x1 % 3)) 8 (by decide) (by decide) _) ?_)
     refine ⟨⟨(Le.refl _), (HSub.c 0 rfl (HSub.c 1 rfl (HSub.c 2 rfl (HSub.c 3 rfl HSub.n)))), CSub.n⟩, ?_⟩
     refine JA.fix ⟨(HSub.c 0 rfl (HSub.c 1 rfl (HSub.c 2 rfl (HSub.c 3 rfl HSub.n)))), CSub.n, (Le.refl _)⟩ (fun fx27 => ?_)
     refine JA.tk 13 rfl fx27 (yl_index rfl rfl rfl Tryz.underlying9 (by omega) (get_code (l := Ix.codesL) (by omega) (by simp [Ix.codesL]; omega))) ?_
     refine JA.step 19 (by kernel_rfl) rfl rfl (op_pure rfl rfl rfl rfl rfl (nText_ok _ _) ?_)
     refine ⟨⟨(Le.refl _), (HSub.c 0 rfl (HSub.c 1 rfl (HSub.c 2 rfl (HSub.c 3 rfl HSub.n)))), CSub.n⟩, ?_⟩
     refine JA.fix ⟨(HSub.c 0 rfl (HSub.c 1 rfl (HSub.c 2 rfl (HSub.c 3 rfl HSub.n)))), CSub.n, (Le.refl _)⟩ (fun fx28 => ?_)
     refine JA.tk 20 rfl fx28 (yl_buildS (pl := #[(0, 1), (1, 1)]) rfl rfl Tryz.zeroValue65 rfl Tryz.underlying65 (fun w => by simp [Tryz.sizeOf5, Tryz.sizeOf9]) (LBld.part rfl rfl rfl (LSpl.c LSpl.z) (LBld.part rfl rfl rfl (LSpl.s (LSpl.c LSpl.z)) LBld.none))) ?_
     refine JA.step 21 (by kernel_rfl) rfl rfl (op_buildSlice rfl rfl rfl Tryz.underlying29 Tryz.sizeOf65 Tryz.zeroValue65 rfl rfl rfl rfl (LCat.agg rfl LCat.none) ?_)
     intro b29 hb29
     refine ⟨⟨(Le.refl _), (HSub.c 1 rfl (HSub.c 2 rfl (HSub.c 3 rfl (HSub.c 4 rfl HSub.n)))), CSub.n⟩, ?_⟩
     refine JA.perm (H' := [_, _, _, _, _] ++ (gH _ _ _ ++ gH _ _ _)) (perm_swap [_, _, _, _, _] _ _) ?_
     refine JA.step 22 (by kernel_rfl) rfl rfl (op_append (by' := 23) ([_, _, _, _, _] ++ gH _ _ _) rfl rfl rfl rfl rfl Tryz.underlying29 (.inr ⟨_, Tryz.underlying29⟩) (by kernel_rfl) Tryz.sizeOf65 Tryz.zeroValue65 rfl hgs rfl (Src.slice (Blk.at 0 rfl) rfl rfl rfl) (by omega) ?_)
     intro g30 hg30
     refine ⟨⟨(Le.refl _), (HSub.c 1 rfl (HSub.c 2 rfl (HSub.c 3 rfl (HSub.c 4 rfl HSub.n)))), CSub.n⟩, ?_⟩
     refine JA.fix ⟨(HSub.c 1 rfl (HSub.c 2 rfl (HSub.c 3 rfl (HSub.c 4 rfl HSub.n)))), CSub.n, (Le.refl _)⟩ (fun fx31 => ?_)
     refine JA.tk 23 rfl fx31 (yl_fieldAddr (off' := 3) rfl rfl Tryz.underlying31 rfl Tryz.sizeOf29 rfl) ?_
     refine JA.last 24 (by kernel_rfl) rfl rfl rfl (op_store 1 rfl rfl rfl rfl (gV_cells _ _) (gV_one _ _) Tryz.sizeOf29 rfl rfl (LSpl.s (LSpl.s (LSpl.s (LSpl.c LSpl.z)))) (LSet.s LSet.z) ?_)
     refine JA.done (by kernel_rfl) ?_
     refine Ej.blkNormal (Ej.seq (Cj.region (J.z (yl_move rfl rfl) ?_)))
     refine J.z (yl_add rfl rfl rfl (w64 (by omega))) ?_
     refine J.z (yl_assign rfl rfl) ?_
     refine J.nil (Ej.perm (perm_swap [_, _, _, _, _] (gH _ _ _) (gH _ _ _)) ?_)
     refine Ej.keep (Keeps.d (Keeps.k (Keeps.k (Keeps.k (Keeps.k Keeps.r))))) ?_
     refine Ej.round (j + 1, g30) ⟨by dsimp only; omega, by dsimp only; rw [subsN_next, List.length_append, List.flatMap_append]; exact hg30⟩ (by dsimp only; omega) ⟨rfl, rfl, rfl, rfl, rfl, rfl, rfl, rfl, trivial⟩ rfl (by dsimp only; rw [subsN_next, List.length_append, List.flatMap_append]; rfl)
    ·
     have hc24p := of_decide_eq_false hc24
     refine Cj.exit (Ej.seqExit (Ej.loopExit (Ej.blkExit (Ej.seq ?_))))
     have hjn : j = nn := by omega
     subst hjn
     refine Cj.perm (perm_front [_, _, _, _] (gH _ _ _) (gH _ _ _)) ?_
     refine Cj.keepN subC_len (by decide) hgs rfl (fun I8 hle8 hss => ?_)
     have hIJ := hIJ.mono hle8
     have hS := hS.mono hle8
     have hv := hv.mono hle8
     have hlb := hle8 _ _ hlb
     refine Cj.region (J.z (yl_fieldAddr (off' := 2) rfl rfl Tryz.underlying35 rfl Tryz.sizeOf33 rfl) ?_)
     refine J.z (yl_load rfl rfl Tryz.isAgg33 (Blk.at 2 rfl) rfl) ?_
     refine J.z (yl_loadAgg rfl rfl Tryz.isAgg31 Tryz.sizeOf31 (Blk.at 0 rfl) rfl rfl) ?_
     refine J.op rfl (op_buildSlice rfl rfl rfl Tryz.underlying33 Tryz.sizeOf31 Tryz.zeroValue31 rfl rfl rfl rfl (LCat.agg rfl LCat.none) ?_)
     intro b32 hb32
     refine J.op rfl (op_append (by' := 71) [_, _, _, _, _] rfl rfl rfl rfl rfl Tryz.underlying33 (.inr ⟨_, Tryz.underlying33⟩) (by kernel_rfl) Tryz.sizeOf31 Tryz.zeroValue31 rfl hg rfl (Src.slice (Blk.at 0 rfl) rfl rfl (by show [str (Ix.tagN q.x0), str (Ix.indsL.getD (q.x1 % 8).toNat []), str [], gV _ _].all Value.oneCell' = true; simp only [List.all_cons, List.all_nil, gV_one', Bool.and_true]; rfl)) (by omega) ?_)
     intro g33 hg33
     refine J.z (yl_fieldAddr (off' := 2) rfl rfl Tryz.underlying35 rfl Tryz.sizeOf33 rfl) ?_
     refine J.op rfl (op_store 3 rfl rfl rfl rfl (gV_cells _ _) (gV_one _ _) Tryz.sizeOf33 rfl rfl (LSpl.s (LSpl.s (LSpl.c LSpl.z))) (LSet.s (LSet.s (LSet.s LSet.z))) ?_)
     refine J.nil (Ej.blkNormal (Ej.seq (Cj.region (J.z (yl_move rfl rfl) ?_))))
     refine J.z (yl_add rfl rfl rfl (w64 (by omega))) ?_
     refine J.z (yl_assign rfl rfl) ?_
     refine J.nil (Ej.keep (Keeps.d (Keeps.d (Keeps.d (Keeps.k (Keeps.k Keeps.r))))) ?_)
     refine Ej.round (k + 1, _, fs ++ [⟨Ix.tagN q.x0, Ix.indsL.getD (q.x1 % 8).toNat [], [], gV (subsN q j).length g2, subsN q j⟩], g33) ⟨by dsimp only; omega, by dsimp only; omega, hIJ, SubsN.add hS hss, by dsimp only; rw [nrm_add, map_next _ hget, hN, fld_d hC, ← hnn]; rfl, by dsimp only; rw [List.length_append, hfl]; rfl, by dsimp only; rw [flat_one, List.length_append]; exact hg33⟩ (by dsimp only; omega) ⟨rfl, rfl, rfl, rfl, trivial⟩ rfl (by dsimp only; rw [flat_one, List.length_append]; rfl)
  ·
   have hc4p := of_decide_eq_false hc4
   refine Cj.exit (Ej.seqExit (Ej.loopExit (Ej.blkExit (Ej.seq (Cj.seq (Cj.region (J.z (yl_loadAgg rfl rfl Tryz.isAgg35 Tryz.sizeOf35 (Blk.at 0 rfl) rfl rfl) ?_)))))))
   refine J.op rfl (op_store 1 rfl rfl rfl rfl rfl (by show [u8 97, u8 109, gV _ _].all Value.oneCell' = true; simp only [List.all_cons, List.all_nil, gV_one', Bool.and_true]; rfl) Tryz.sizeOf35 rfl rfl (LSpl.c (LSpl.c (LSpl.c LSpl.z))) (LSet.s LSet.z) ?_)
   refine J.nil (Ej.seq (Cj.ret ?_))
   have hmade : Ke.nrm fs = Ix.madeR l := by rw [hN]; unfold Ix.madeR; rw [made_take hk (by omega)]
   refine Ej.perm (H' := gH _ _ _ ++ [_, _]) List.perm_append_comm ?_
   refine Ej.keepN fldC_len (by decide) hg rfl (fun I9 hle9 hfs => ?_)
   refine Ej.retC (Keeps.d (Keeps.d Keeps.n)) rfl rfl rfl (Blk.at 1 rfl) Tryz.isAgg35 Tryz.sizeOf35 rfl ?_
   exact ⟨fs, _, rfl, RecN.imp ⟨hfs, fun f hf => ((hS f hf).mono hle9)⟩ (fun b hb => hw0.dom hb), hmade, rfl⟩
 ·
  have hg3p := of_decide_eq_false hg3
  refine J.skip 4 14 15 true _ rfl rfl rfl hg3 rfl rfl ?_
  refine J.skip 4 14 16 true _ rfl rfl rfl hg3 rfl rfl ?_
  refine J.z (yl_pick0 rfl rfl hg3 rfl) ?_
  refine J.nil (Ej.seq (Cj.cond rfl (fun hc34 => Bool.noConfusion (Eq.trans (Eq.symm rfl) hc34)) (fun hc34 => ?_)))
  refine Cj.exit (Ej.seqExit (Ej.loopExit (Ej.blkExit (Ej.seq (Cj.seq (Cj.region (J.z (yl_loadAgg rfl rfl Tryz.isAgg35 Tryz.sizeOf35 (Blk.at 0 rfl) rfl rfl) ?_)))))))
  refine J.op rfl (op_store 1 rfl rfl rfl rfl rfl (by show [u8 97, u8 109, gV _ _].all Value.oneCell' = true; simp only [List.all_cons, List.all_nil, gV_one', Bool.and_true]; rfl) Tryz.sizeOf35 rfl rfl (LSpl.c (LSpl.c (LSpl.c LSpl.z))) (LSet.s LSet.z) ?_)
  refine J.nil (Ej.seq (Cj.ret ?_))
  have hmade : Ke.nrm fs = Ix.madeR l := by rw [hN]; unfold Ix.madeR; rw [made_take hk (by omega)]
  refine Ej.perm (H' := gH _ _ _ ++ [_, _]) List.perm_append_comm ?_
  refine Ej.keepN fldC_len (by decide) hg rfl (fun I9 hle9 hfs => ?_)
  refine Ej.retC (Keeps.d (Keeps.d Keeps.n)) rfl rfl rfl (Blk.at 1 rfl) Tryz.isAgg35 Tryz.sizeOf35 rfl ?_
  exact ⟨fs, _, rfl, RecN.imp ⟨hfs, fun f hf => ((hS f hf).mono hle9)⟩ (fun b hb => hw0.dom hb), hmade, rfl⟩
end Go.Proofs.YtjcdfnbomkoheaaGreatDoor
end
section
namespace Go.Proofs.YtjcdfnbomkoheaaGreatDoor
open Go Go.Sx
/-- An act, with its fours as they lie. -/
structure Act where
  a : Ix.ActL
  v : Value
def actC (x : Act) : List Value := [.bool x.a.drop, i64 x.a.src, i64 x.a.num, x.v]
theorem actC_len (x : Act) : (actC x).length = 4 := rfl
def ActsS (I : Heap) (xs : List Act) (v : Value) : Prop := RowS actC I xs v ∧ ∀ x ∈ xs, RowS fourC I x.a.fs x.v
theorem ActsS.mono {I I' : Heap} {xs : List Act} {v : Value} (h : ActsS I xs v) (hle : Le I I') : ActsS I' xs v := ⟨h.1.mono hle, fun x hx => (h.2 x hx).mono hle⟩
def ActsOk (xs : List Act) : Prop := ∀ x ∈ xs, ∀ q ∈ x.a.fs, FourOk q
abbrev acts (xs : List Act) : List Ix.ActL := xs.map (·.a)
theorem take_min {α : Type} (l : List α) : l.take (min l.length 8) = l.take 8 := by
  rcases Nat.le_total l.length 8 with h | h
  · rw [Nat.min_eq_left h, List.take_of_length_le h, List.take_of_length_le (Nat.le_refl _)]
  · rw [Nat.min_eq_right h]
/-- What an act's entry is. -/
structure IsEnt (I : Heap) (a : Ix.ActL) (e : Ent) : Prop where
  t : e.t = a.title
  r : RecS I e.fs e.v
  n : Ke.nrm e.fs = a.record
theorem IsEnt.mono {I I' : Heap} {a : Ix.ActL} {e : Ent} (h : IsEnt I a e) (hle : Le I I') : IsEnt I' a e := ⟨h.t, h.r.mono hle, h.n⟩
/-- An entry whose blocks are new. -/
structure IsEntN (N : Nat → Prop) (I : Heap) (a : Ix.ActL) (e : Ent) : Prop where
  t : e.t = a.title
  r : RecN N I e.fs e.v
  n : Ke.nrm e.fs = a.record
theorem IsEntN.ent {N : Nat → Prop} {I : Heap} {a : Ix.ActL} {e : Ent} (h : IsEntN N I a e) : IsEnt I a e := ⟨h.t, h.r.rec, h.n⟩
theorem IsEnt.vals {I : Heap} {a : Ix.ActL} {e : Ent} (h : IsEnt I a e) : Ix.vals e.fs = a.vs := by rw [← vals_nrm, h.n]; rfl
theorem IsEnt.l {I : Heap} {a : Ix.ActL} {e : Ent} (h : IsEnt I a e) : entL e = (a.title, a.vs) := Prod.ext h.t h.vals
theorem IsEnt.eok {I : Heap} {a : Ix.ActL} {e : Ent} (h : IsEnt I a e) : EOK e.fs := made_eok h.n
theorem IsEnt.one {I : Heap} {a : Ix.ActL} {e : Ent} (h : IsEnt I a e) : (entC e).all Value.oneCell' = true := by
  obtain ⟨p, c, he⟩ := RowS.len h.r.1
  exact ent_one he
set_option maxRecDepth 20000 in
theorem EntryN_ok (x : Act) (hok : ∀ q ∈ x.a.fs, FourOk q) (I : Heap) (hv : RowS fourC I x.a.fs x.v) : Ctr Tryz.prog 41 [.agg (actC x).toArray] I [] (fun ev I' H' => ∃ e, ev = .returned (.agg (entC e).toArray) ∧ IsEntN (I · = none) I' x.a e ∧ H' = []) := by
 obtain ⟨p, c, hxv⟩ := RowS.len hv
 have hcap : x.a.fs.length ≤ c := by obtain ⟨p1, c1, h1, h2, _⟩ := hv; rw [hxv] at h1; cases h1; exact h2
 have hrow : RowS fourC I (x.a.fs.take 8) (.slice p (min x.a.fs.length 8) c) := by rw [← take_min]; rw [hxv] at hv; exact hv.take (Nat.min_le_left _ _)
 refine Ctr.of_body Tryz.func41 rfl (by decide) (Nat.le_of_ble_eq_true rfl) ?_
 intro w0 hw0
 refine Cj.seq (Cj.region (J.op rfl (op_box rfl rfl rfl rfl rfl ?_)))
 intro b1 hb1
 refine J.op rfl (op_alloc rfl rfl rfl Tryz.zeroValue37 rfl ?_)
 intro b2 hb2
 refine J.nil (Ej.seq (Cj.seq (Cj.drawSel [0, 1] [] 14 (by kernel_rfl) ?_)))
 refine JA.fix ⟨(HSub.c 0 rfl (HSub.c 1 rfl HSub.n)), CSub.n, (Le.refl _)⟩ (fun fx3 => ?_)
 refine JA.tk 0 rfl fx3 (yl_fieldAddr (off' := 1) rfl rfl Tryz.underlying80 rfl Tryz.sizeOf3 rfl) ?_
 refine JA.tk 1 rfl fx3 (yl_load rfl rfl Tryz.isAgg3 (Blk.atC 1 rfl) rfl) ?_
 refine JA.tk 2 rfl fx3 (yl_fieldAddr (off' := 2) rfl rfl Tryz.underlying80 rfl Tryz.sizeOf3 rfl) ?_
 refine JA.tk 3 rfl fx3 (yl_load rfl rfl Tryz.isAgg3 (Blk.atC 1 rfl) rfl) ?_
 refine JA.tk 4 rfl fx3 (yl_buildS (pl := #[(0, 1), (1, 1)]) rfl rfl Tryz.zeroValue26 rfl Tryz.underlying26 (fun w => by simp [Tryz.sizeOf3]) (LBld.part rfl rfl rfl (LSpl.c LSpl.z) (LBld.part rfl rfl rfl (LSpl.s (LSpl.c LSpl.z)) LBld.none))) ?_
 refine JA.tk 5 rfl fx3 (yl_fieldAddr (off' := 3) rfl rfl Tryz.underlying80 rfl Tryz.sizeOf78 rfl) ?_
 refine JA.tk 6 rfl fx3 (yl_load rfl rfl Tryz.isAgg78 (Blk.atC 1 rfl) rfl) ?_
 refine JA.eqv 9 rfl (show _ = .slice p x.a.fs.length c from hxv) ?_
 refine JA.tk 7 rfl fx3 (yl_fieldAddr (off' := 3) rfl rfl Tryz.underlying80 rfl Tryz.sizeOf78 rfl) ?_
 refine JA.tk 8 rfl fx3 (yl_load rfl rfl Tryz.isAgg78 (Blk.atC 1 rfl) rfl) ?_
 refine JA.eqv 11 rfl (show _ = .slice p x.a.fs.length c from hxv) ?_
 refine JA.tk 9 rfl fx3 (yl_lenSlice rfl rfl Tryz.underlying78) ?_
 refine JA.tk 10 rfl fx3 (yl_min2 rfl rfl rfl) ?_
 refine JA.tk 11 rfl fx3 (yl_slice0 (k := (min x.a.fs.length 8)) rfl rfl rfl Tryz.underlying78 Tryz.sizeOf143 (by split <;> omega) (by omega)) ?_
 refine JA.step 12 (by kernel_rfl) rfl rfl (op_call (H1 := []) rfl rfl rfl rfl rfl (nMadeN_ok (x.a.fs.take 8) _ (fun q hq => hok q (List.mem_of_mem_take hq)) _ hrow) ?_ (fun _ _ _ _ h => by obtain ⟨_, _, h, _⟩ := h; cases h) (fun _ _ h => by obtain ⟨_, _, h, _⟩ := h; cases h))
 intro v4 I5 H6 hle7 hp8
 have hrow := hrow.mono hle7
 obtain ⟨fs, w, h, hrec, hmade, rfl⟩ := hp8; cases h
 obtain ⟨wp, wc, rfl⟩ := RowS.len hrec.1.row
 refine ⟨⟨(Le.trans (Le.refl _) hle7), (HSub.c 0 rfl (HSub.c 1 rfl HSub.n)), CSub.n⟩, ?_⟩
 refine JA.fix ⟨(HSub.c 0 rfl (HSub.c 1 rfl HSub.n)), CSub.n, (Le.trans (Le.refl _) hle7)⟩ (fun fx9 => ?_)
 refine JA.tk 13 rfl fx9 (yl_buildS (pl := #[(0, 2), (2, 3)]) rfl rfl Tryz.zeroValue37 rfl Tryz.underlying37 (fun w => by simp [Tryz.sizeOf26, Tryz.sizeOf35]) (LBld.part rfl rfl rfl (LSpl.c (LSpl.c LSpl.z)) (LBld.part rfl rfl rfl (LSpl.s (LSpl.s (LSpl.c (LSpl.c (LSpl.c LSpl.z))))) LBld.none))) ?_
 refine JA.last 14 (by kernel_rfl) rfl rfl rfl (op_store 0 rfl rfl rfl rfl rfl rfl Tryz.sizeOf37 rfl rfl (LSpl.c (LSpl.c (LSpl.c (LSpl.c (LSpl.c LSpl.z))))) LSet.z ?_)
 refine JA.done (by kernel_rfl) ?_
 refine Ej.seq (Cj.ret (Ej.retC (Keeps.d (Keeps.d Keeps.n)) rfl rfl rfl (Blk.at 0 rfl) Tryz.isAgg37 Tryz.sizeOf37 rfl ?_))
 exact ⟨⟨x.a.title, 97, 109, _, fs⟩, rfl, ⟨rfl, hrec, hmade⟩, rfl⟩
theorem Entry_ok (x : Act) (hok : ∀ q ∈ x.a.fs, FourOk q) (I : Heap) (hv : RowS fourC I x.a.fs x.v) : Ctr Tryz.prog 41 [.agg (actC x).toArray] I [] (fun ev I' H' => ∃ e, ev = .returned (.agg (entC e).toArray) ∧ IsEnt I' x.a e ∧ H' = []) :=
  (EntryN_ok x hok I hv).mono fun _ _ _ _ ⟨e, h1, h2, h3⟩ => ⟨e, h1, h2.ent, h3⟩
theorem le_none {I J : Heap} (h : Le I J) {b : Nat} (hb : J b = none) : I b = none := by
  cases hI : I b with
  | none => rfl
  | some o => rw [h _ _ hI] at hb; cases hb
/-- Entries whose blocks are new. -/
def EntsN (N : Nat → Prop) (I : Heap) (es : List Ent) (v : Value) : Prop := RowN N 37 entC I es v ∧ ∀ e ∈ es, RecN N I e.fs e.v
theorem EntsN.ents {N : Nat → Prop} {I : Heap} {es : List Ent} {v : Value} (h : EntsN N I es v) : EntsS I es v := ⟨h.1.row, fun e he => (h.2 e he).rec⟩
def EntsM (N : Nat → Prop) (I : Heap) (al : List Ix.ActL) (es : List Ent) : Prop := es.map entL = al.map (fun a => (a.title, a.vs)) ∧ (∀ e ∈ es, RecN N I e.fs e.v) ∧ ∀ e ∈ es, EOK e.fs
theorem EntsM.mono {N : Nat → Prop} {I I' : Heap} {al : List Ix.ActL} {es : List Ent} (h : EntsM N I al es) (hle : Le I I') : EntsM N I' al es := ⟨h.1, fun e he => (h.2.1 e he).mono hle, h.2.2⟩
theorem EntsM.add {N : Nat → Prop} {I : Heap} {al : List Ix.ActL} {es : List Ent} {a : Ix.ActL} {e : Ent} (h : EntsM N I al es) (he : IsEntN N I a e) : EntsM N I (al ++ [a]) (es ++ [e]) := by
  refine ⟨by rw [List.map_append, List.map_append, h.1]; exact congrArg _ (congrArg (fun z => [z]) he.ent.l), fun x hx => ?_, fun x hx => ?_⟩
  · rcases List.mem_append.1 hx with g | g
    · exact h.2.1 x g
    · rw [List.mem_singleton.1 g]; exact he.r
  · rcases List.mem_append.1 hx with g | g
    · exact h.2.2 x g
    · rw [List.mem_singleton.1 g]; exact he.ent.eok
theorem EntsM.nil {N : Nat → Prop} {I : Heap} : EntsM N I [] [] := ⟨rfl, (fun _ h => by cases h), (fun _ h => by cases h)⟩
theorem EntsM.len {N : Nat → Prop} {I : Heap} {al : List Ix.ActL} {es : List Ent} (h : EntsM N I al es) : es.length = al.length := by have := congrArg List.length h.1; simpa using this
theorem acts_take (xs : List Act) (k : Nat) : acts (xs.take k) = (acts xs).take k := List.map_take
theorem ents_take {xs : List Act} {k : Nat} (hk : k ≤ xs.length) (h : k ≤ 20 ∧ (xs.length ≤ k ∨ 20 ≤ k)) : (acts (xs.take k)).map (fun a => (a.title, a.vs)) = Ix.ents (acts xs) := by
  rw [made_take hk h, acts_take]; rfl
set_option maxRecDepth 20000 in
theorem EntriesN_ok (xs : List Act) (v : Value) (hok : ActsOk xs) (I : Heap) (hA0 : ActsS I xs v) : Ctr Tryz.prog 33 [v] I [] (fun ev I' H' => ∃ es w, ev = .returned w ∧ EntsN (I · = none) I' es w ∧ es.map entL = Ix.ents (acts xs) ∧ (∀ e ∈ es, EOK e.fs) ∧ es.length ≤ 20 ∧ H' = []) := by
 obtain ⟨p, c, rfl⟩ := RowS.len hA0.1
 refine Ctr.of_body Tryz.func33 rfl (by decide) (Nat.le_of_ble_eq_true rfl) ?_
 intro w0 hw0
 refine Cj.seq (Cj.region (J.z (yl_assign rfl rfl) ?_))
 refine J.nil (Ej.seq (Cj.seq (Cj.region (J.z (yl_assign rfl rfl) ?_))))
 refine J.nil (Ej.seq (Cj.seq (Cj.seq (Cj.region (J.z (yl_assign rfl rfl) ?_)))))
 refine J.nil (Ej.seq (Cj.block (Cj.loop (ι := Nat × Heap × List Ent × Gs) (fun y => y.1 ≤ xs.length ∧ y.1 ≤ 20 ∧ Le I y.2.1 ∧ EntsM (I · = none) y.2.1 (acts (xs.take y.1)) y.2.2.1 ∧ gOk w0.heap.size 5 y.2.2.1.length (y.2.2.1.flatMap entC) y.2.2.2) (fun y => 20 - y.1) (fun y => [(0, .slice p xs.length c), (3, gV y.2.2.1.length y.2.2.2), (4, i64 (y.1 : Int))]) (fun y => y.2.1) (fun y => gH 37 (y.2.2.1.flatMap entC) y.2.2.2) (0, _, [], none) ⟨Nat.zero_le _, Nat.zero_le _, Le.refl _, EntsM.nil, rfl, rfl⟩ ⟨rfl, rfl, rfl, trivial⟩ rfl rfl ?_)))
 rintro ⟨k, Jh, es, g⟩ ⟨hk, hk20, hIJ, hM, hg⟩
 dsimp only at hk hk20 hIJ hM hg ⊢
 have hA := hA0.mono hIJ
 have hel := hM.len
 rw [List.length_map, List.length_take, Nat.min_eq_left hk] at hel
 refine Cj.seq (Cj.seq (Cj.region (J.z (yl_move rfl rfl) ?_)))
 refine J.z (yl_move rfl rfl) ?_
 refine J.z (yl_lenSlice rfl rfl Tryz.underlying51) ?_
 refine J.z (yl_lss rfl rfl rfl) ?_
 refine J.z (yl_move rfl rfl) ?_
 refine J.split 9 rfl (fun hg1 => ?_) (fun hg1 => ?_)
 ·
  have hg1p := of_decide_eq_true hg1
  refine J.opG 4 9 true _ rfl rfl rfl hg1 (op_yld (yl_move rfl rfl) rfl rfl ?_)
  refine J.opG 4 9 true _ rfl rfl rfl hg1 (op_yld (yl_lss rfl rfl rfl) rfl rfl ?_)
  refine J.z (yl_pick1 rfl rfl hg1 rfl) ?_
  refine J.nil (Ej.seq (Cj.cond rfl (fun hc2 => ?_) (fun hc2 => ?_)))
  ·
   have hc2p := of_decide_eq_true hc2
   refine Cj.skip (Ej.seq (Cj.seq (Cj.block ?_)))
   have hIJ9 := hIJ
   have hlt : k < xs.length := by omega
   have hlt2 : k < 20 := by omega
   obtain ⟨x, hget⟩ : ∃ x, xs[k]? = some x := ⟨_, List.getElem?_eq_getElem hlt⟩
   have hxm := List.mem_of_getElem? hget
   obtain ⟨p1, c1, hpe, hc1, hp⟩ := id hA.1
   cases hpe
   obtain ⟨ab, ao, acs, aty, afr, asp, rfl, hab, had⟩ := hp (ne_nil_of hlt)
   have hfv := hA.2 x hxm
   obtain ⟨vp, vc, hxv⟩ := RowS.len hfv
   have hnx : acts (xs.take (k + 1)) = acts (xs.take k) ++ [x.a] := map_next _ hget
   refine Cj.region (J.z (yl_move rfl rfl) ?_)
   refine J.z (yl_move rfl rfl) ?_
   refine J.z (yl_move rfl rfl) ?_
   refine J.z (yl_indexAddr (off' := ao + k * 4) rfl rfl rfl Tryz.underlying51 Tryz.sizeOf80 (by omega) (by omega) (by simp)) ?_
   refine J.z (yl_loadAgg rfl rfl Tryz.isAgg80 Tryz.sizeOf80 (Blk.imm hab) (row_from actC_len had hget) rfl) ?_
   refine J.op rfl (op_call (H1 := []) rfl rfl rfl rfl rfl (EntryN_ok x (hok x hxm) _ hfv) ?_ (fun _ _ _ _ h => by obtain ⟨_, h, _⟩ := h; cases h) (fun _ _ h => by obtain ⟨_, h, _⟩ := h; cases h))
   intro v3 I4 H5 hle6 hp7
   have hA := hA.mono hle6
   have hM := hM.mono hle6
   have hIJ := hIJ.mono hle6
   have hab := hle6 _ _ hab
   have hfv := hfv.mono hle6
   obtain ⟨e0, h, heN, rfl⟩ := hp7; cases h
   have he9 : IsEntN (I · = none) _ x.a e0 := ⟨heN.t, heN.r.imp (fun b hb => le_none hIJ9 hb), heN.n⟩
   have he0 := he9.ent
   refine J.op rfl (op_buildSlice rfl rfl rfl Tryz.underlying27 Tryz.sizeOf37 Tryz.zeroValue37 rfl rfl rfl rfl (LCat.agg rfl LCat.none) ?_)
   intro b8 hb8
   refine J.op rfl (op_append (by' := 47) [_] rfl rfl rfl rfl rfl Tryz.underlying27 (.inr ⟨_, Tryz.underlying27⟩) (by kernel_rfl) Tryz.sizeOf37 Tryz.zeroValue37 rfl hg rfl (Src.slice (Blk.at 0 rfl) rfl rfl he0.one) (by omega) ?_)
   intro g9 hg9
   refine J.z (yl_assign rfl rfl) ?_
   refine J.nil (Ej.blkNormal (Ej.seq (Cj.region (J.z (yl_move rfl rfl) ?_))))
   refine J.z (yl_add rfl rfl rfl (w64 (by omega))) ?_
   refine J.z (yl_assign rfl rfl) ?_
   refine J.nil (Ej.keep (Keeps.d Keeps.r) ?_)
   refine Ej.round (k + 1, _, es ++ [e0], g9) ⟨by dsimp only; omega, by dsimp only; omega, hIJ, by dsimp only; rw [hnx]; exact hM.add he9, by dsimp only; rw [flat_one, List.length_append]; exact hg9⟩ (by dsimp only; omega) ⟨rfl, by dsimp only; rw [List.length_append]; rfl, rfl, trivial⟩ rfl (by dsimp only; rw [flat_one]; rfl)
  ·
   have hc2p := of_decide_eq_false hc2
   refine Cj.exit (Ej.seqExit (Ej.loopExit (Ej.blkExit (Ej.seq (Cj.seq (Cj.region (J.z (yl_move rfl rfl) ?_)))))))
   refine J.z (yl_assign rfl rfl) ?_
   refine J.nil (Ej.seq (Cj.ret ?_))
   have htk := ents_take hk (by omega)
   have hM1 := hM.1.trans htk
   refine Ej.perm (H' := gH 37 (es.flatMap entC) g ++ []) (.of_eq (List.append_nil _)) ?_
   refine Ej.keepN entC_len (by decide) hg rfl (fun I8 hle8 hw8 => ?_)
   refine Ej.ret1 rfl rfl rfl ?_
   exact ⟨es, _, rfl, ⟨hw8.imp (fun b hb => hw0.dom hb), fun e he => (hM.2.1 e he).mono hle8⟩, hM1, hM.2.2, by omega, rfl⟩
 ·
  have hg1p := of_decide_eq_false hg1
  refine J.skip 4 9 10 true _ rfl rfl rfl hg1 rfl rfl ?_
  refine J.skip 4 9 11 true _ rfl rfl rfl hg1 rfl rfl ?_
  refine J.z (yl_pick0 rfl rfl hg1 rfl) ?_
  refine J.nil (Ej.seq (Cj.cond rfl (fun hc10 => Bool.noConfusion (Eq.trans (Eq.symm rfl) hc10)) (fun hc10 => ?_)))
  refine Cj.exit (Ej.seqExit (Ej.loopExit (Ej.blkExit (Ej.seq (Cj.seq (Cj.region (J.z (yl_move rfl rfl) ?_)))))))
  refine J.z (yl_assign rfl rfl) ?_
  refine J.nil (Ej.seq (Cj.ret ?_))
  have htk := ents_take hk (by omega)
  have hM1 := hM.1.trans htk
  refine Ej.perm (H' := gH 37 (es.flatMap entC) g ++ []) (.of_eq (List.append_nil _)) ?_
  refine Ej.keepN entC_len (by decide) hg rfl (fun I8 hle8 hw8 => ?_)
  refine Ej.ret1 rfl rfl rfl ?_
  exact ⟨es, _, rfl, ⟨hw8.imp (fun b hb => hw0.dom hb), fun e he => (hM.2.1 e he).mono hle8⟩, hM1, hM.2.2, by omega, rfl⟩
theorem Entries_ok (xs : List Act) (v : Value) (hok : ActsOk xs) (I : Heap) (hA0 : ActsS I xs v) : Ctr Tryz.prog 33 [v] I [] (fun ev I' H' => ∃ es w, ev = .returned w ∧ EntsS I' es w ∧ es.map entL = Ix.ents (acts xs) ∧ (∀ e ∈ es, EOK e.fs) ∧ es.length ≤ 20 ∧ H' = []) :=
  (EntriesN_ok xs v hok I hA0).mono fun _ _ _ _ ⟨es, w, h1, h2, h⟩ => ⟨es, w, h1, h2.ents, h⟩
set_option maxRecDepth 20000 in
theorem rPlay_ok (xs : List Act) (v : Value) (hok : ActsOk xs) (I : Heap) (hA0 : ActsS I xs v) : Ctr Tryz.prog 36 [v] I [] (fun ev I' H' => ∃ rb es w, ev = .returned (ptr rb 0) ∧ EntsS I' es w ∧ es.map entL = Ix.play (acts xs) ∧ (∀ e ∈ es, EOK e.fs) ∧ es.length ≤ 20 ∧ H' = [(rb, cel 73 [w])]) := by
 obtain ⟨p, c, rfl⟩ := RowS.len hA0.1
 refine Ctr.of_body Tryz.func36 rfl (by decide) (Nat.le_of_ble_eq_true rfl) ?_
 intro w0 hw0
 refine Cj.seq (Cj.region (J.z (yl_assign rfl rfl) ?_))
 refine J.nil (Ej.seq (Cj.seq (Cj.region (J.z (yl_buildS (pl := #[(0, 1)]) rfl rfl Tryz.zeroValue73 rfl Tryz.underlying73 (fun w => by simp [Tryz.sizeOf27]) LBld.none) ?_))))
 refine J.op rfl (op_box rfl rfl rfl rfl rfl ?_)
 intro b1 hb1
 refine J.z (yl_assign rfl rfl) ?_
 refine J.nil (Ej.seq (Cj.seq (Cj.seq (Cj.region (J.z (yl_assign rfl rfl) ?_)))))
 refine J.nil (Ej.seq (Cj.block (Cj.loop (ι := Nat × Heap × List Ent × Value) (fun y => y.1 ≤ xs.length ∧ y.1 ≤ 20 ∧ Le I y.2.1 ∧ EntsS y.2.1 y.2.2.1 y.2.2.2 ∧ y.2.2.1.map entL = (acts (xs.take y.1)).foldl Ix.act [] ∧ (∀ e ∈ y.2.2.1, EOK e.fs) ∧ y.2.2.1.length ≤ y.1) (fun y => 20 - y.1) (fun y => [(0, .slice p xs.length c), (3, ptr b1 0), (4, i64 (y.1 : Int))]) (fun y => y.2.1) (fun y => [(b1, cel 73 [y.2.2.2])]) (0, _, [], _) ⟨Nat.zero_le _, Nat.zero_le _, Le.refl _, EntsS.nil, rfl, fun e he => (by cases he), Nat.zero_le _⟩ ⟨rfl, rfl, rfl, trivial⟩ rfl rfl ?_)))
 rintro ⟨k, Jh, es, w⟩ ⟨hk, hk20, hIJ, hE, hL, hek, hel⟩
 dsimp only at hk hk20 hIJ hE hL hek hel ⊢
 have hA := hA0.mono hIJ
 refine Cj.seq (Cj.seq (Cj.region (J.z (yl_move rfl rfl) ?_)))
 refine J.z (yl_move rfl rfl) ?_
 refine J.z (yl_lenSlice rfl rfl Tryz.underlying51) ?_
 refine J.z (yl_lss rfl rfl rfl) ?_
 refine J.z (yl_move rfl rfl) ?_
 refine J.split 11 rfl (fun hg2 => ?_) (fun hg2 => ?_)
 ·
  have hg2p := of_decide_eq_true hg2
  refine J.opG 4 11 true _ rfl rfl rfl hg2 (op_yld (yl_move rfl rfl) rfl rfl ?_)
  refine J.opG 4 11 true _ rfl rfl rfl hg2 (op_yld (yl_lss rfl rfl rfl) rfl rfl ?_)
  refine J.z (yl_pick1 rfl rfl hg2 rfl) ?_
  refine J.nil (Ej.seq (Cj.cond rfl (fun hc3 => ?_) (fun hc3 => ?_)))
  ·
   have hc3p := of_decide_eq_true hc3
   refine Cj.skip (Ej.seq (Cj.seq (Cj.block (Cj.seq ?_))))
   have hIJ9 := hIJ
   have hlt : k < xs.length := by omega
   have hlt2 : k < 20 := by omega
   obtain ⟨x, hget⟩ : ∃ x, xs[k]? = some x := ⟨_, List.getElem?_eq_getElem hlt⟩
   have hxm := List.mem_of_getElem? hget
   obtain ⟨p1, c1, hpe, hc1, hp⟩ := id hA.1
   cases hpe
   obtain ⟨ab, ao, acs, aty, afr, asp, rfl, hab, had⟩ := hp (ne_nil_of hlt)
   have hfv := hA.2 x hxm
   obtain ⟨vp, vc, hxv⟩ := RowS.len hfv
   have hnx : acts (xs.take (k + 1)) = acts (xs.take k) ++ [x.a] := map_next _ hget
   refine Cj.region (J.z (yl_move rfl rfl) ?_)
   refine J.z (yl_move rfl rfl) ?_
   refine J.z (yl_indexAddr (off' := ao + k * 4) rfl rfl rfl Tryz.underlying51 Tryz.sizeOf80 (by omega) (by omega) (by simp)) ?_
   refine J.z (yl_fieldAddr rfl rfl Tryz.underlying80 rfl Tryz.sizeOf4 rfl) ?_
   refine J.z (yl_load rfl rfl Tryz.isAgg4 (Blk.imm hab) (row_fcell actC_len had hget 0 (by decide))) ?_
   refine J.nil (Ej.seq (Cj.cond rfl (fun hc4 => ?_) (fun hc4 => ?_)))
   ·
    have hdr : x.a.drop = true := hc4
    refine Cj.region (J.z (yl_move rfl rfl) ?_)
    refine J.z (yl_move rfl rfl) ?_
    refine J.z (yl_move rfl rfl) ?_
    refine J.z (yl_indexAddr (off' := ao + k * 4) rfl rfl rfl Tryz.underlying51 Tryz.sizeOf80 (by omega) (by omega) (by simp)) ?_
    refine J.z (yl_loadAgg rfl rfl Tryz.isAgg80 Tryz.sizeOf80 (Blk.imm hab) (row_from actC_len had hget) rfl) ?_
    refine J.op rfl (op_call (H1 := []) rfl rfl rfl rfl rfl (Entry_ok x (hok x hxm) _ hfv) ?_ (fun _ _ _ _ h => by obtain ⟨_, h, _⟩ := h; cases h) (fun _ _ h => by obtain ⟨_, h, _⟩ := h; cases h))
    intro v5 I6 H7 hle8 hp9
    have hIJ := hIJ.mono hle8
    have hA := hA.mono hle8
    have hE := hE.mono hle8
    have hab := hle8 _ _ hab
    have hfv := hfv.mono hle8
    obtain ⟨e0, h, he0, rfl⟩ := hp9; cases h
    refine J.z (yl_fieldR (v := kvR e0.t) rfl rfl (fun _ => by kernel_rfl)) ?_
    refine J.pull Pull.z ?_
    refine J.op rfl (op_call (H1 := [_]) rfl rfl rfl rfl rfl (rDrop_ok b1 w es e0.t (by omega) _ hE) ?_ (fun _ _ _ _ h => by obtain ⟨_, h, _⟩ := h; cases h) (fun _ _ h => by obtain ⟨_, h, _⟩ := h; cases h))
    intro v10 I11 H12 hle13 hp14
    have hIJ := hIJ.mono hle13
    have hA := hA.mono hle13
    have hE := hE.mono hle13
    have hab := hle13 _ _ hab
    have hfv := hfv.mono hle13
    have he0 := he0.mono hle13
    obtain ⟨w1, h, hE1, rfl⟩ := hp14; cases h
    refine J.nil (Ej.blkNormal (Ej.seq (Cj.region (J.z (yl_move rfl rfl) ?_))))
    refine J.z (yl_add rfl rfl rfl (w64 (by omega))) ?_
    refine J.z (yl_assign rfl rfl) ?_
    refine J.nil (Ej.round (k + 1, _, edrop es e0.t, _) ⟨by dsimp only; omega, by dsimp only; omega, hIJ, hE1, by dsimp only; rw [hnx, List.foldl_append, edrop_drop _ _ (hL ▸ Ix.acts_srt _ List.Pairwise.nil), hL, he0.t]; exact (if_pos (show x.a.drop = true from hdr)).symm, fun e he => hek e (edrop_mem he), by dsimp only; have := edrop_len es e0.t; omega⟩ (by dsimp only; omega) ⟨rfl, rfl, rfl, trivial⟩ rfl rfl)
   ·
    have hdr : x.a.drop = false := hc4
    refine Cj.region (J.z (yl_move rfl rfl) ?_)
    refine J.z (yl_move rfl rfl) ?_
    refine J.z (yl_move rfl rfl) ?_
    refine J.z (yl_indexAddr (off' := ao + k * 4) rfl rfl rfl Tryz.underlying51 Tryz.sizeOf80 (by omega) (by omega) (by simp)) ?_
    refine J.z (yl_loadAgg rfl rfl Tryz.isAgg80 Tryz.sizeOf80 (Blk.imm hab) (row_from actC_len had hget) rfl) ?_
    refine J.op rfl (op_call (H1 := []) rfl rfl rfl rfl rfl (Entry_ok x (hok x hxm) _ hfv) ?_ (fun _ _ _ _ h => by obtain ⟨_, h, _⟩ := h; cases h) (fun _ _ h => by obtain ⟨_, h, _⟩ := h; cases h))
    intro v15 I16 H17 hle18 hp19
    have hIJ := hIJ.mono hle18
    have hA := hA.mono hle18
    have hE := hE.mono hle18
    have hab := hle18 _ _ hab
    have hfv := hfv.mono hle18
    obtain ⟨e0, h, he0, rfl⟩ := hp19; cases h
    refine J.pull Pull.z ?_
    refine J.op rfl (op_call (H1 := [_]) rfl rfl rfl rfl rfl (rPut_ok b1 w es e0 (by omega) _ hE he0.r) ?_ (fun _ _ _ _ h => by obtain ⟨_, h, _⟩ := h; cases h) (fun _ _ h => by obtain ⟨_, h, _⟩ := h; cases h))
    intro v20 I21 H22 hle23 hp24
    have hIJ := hIJ.mono hle23
    have hA := hA.mono hle23
    have hE := hE.mono hle23
    have hab := hle23 _ _ hab
    have hfv := hfv.mono hle23
    have he0 := he0.mono hle23
    obtain ⟨w1, h, hE1, rfl⟩ := hp24; cases h
    refine J.nil (Ej.blkNormal (Ej.seq (Cj.region (J.z (yl_move rfl rfl) ?_))))
    refine J.z (yl_add rfl rfl rfl (w64 (by omega))) ?_
    refine J.z (yl_assign rfl rfl) ?_
    refine J.nil (Ej.round (k + 1, _, eput es e0, _) ⟨by dsimp only; omega, by dsimp only; omega, hIJ, hE1, by dsimp only; rw [hnx, List.foldl_append, eput_put e0 es, hL, he0.t, he0.vals]; exact (if_neg (fun g => Bool.noConfusion (g.symm.trans hdr))).symm, fun e he => (eput_mem he).elim (fun g => by rw [g]; exact he0.eok) (hek e), by dsimp only; have := eput_len es e0; omega⟩ (by dsimp only; omega) ⟨rfl, rfl, rfl, trivial⟩ rfl rfl)
  ·
   have hc3p := of_decide_eq_false hc3
   refine Cj.exit (Ej.seqExit (Ej.loopExit (Ej.blkExit (Ej.seq (Cj.seq (Cj.region (J.z (yl_move rfl rfl) ?_)))))))
   refine J.z (yl_assign rfl rfl) ?_
   refine J.nil (Ej.seq (Cj.ret ?_))
   have htk : (acts (xs.take k)).foldl Ix.act [] = Ix.play (acts xs) := by rw [made_take hk (by omega), acts_take]; rfl
   refine Ej.ret1 rfl rfl rfl ?_
   exact ⟨_, es, _, rfl, hE, hL.trans htk, hek, by omega, rfl⟩
 ·
  have hg2p := of_decide_eq_false hg2
  refine J.skip 4 11 12 true _ rfl rfl rfl hg2 rfl rfl ?_
  refine J.skip 4 11 13 true _ rfl rfl rfl hg2 rfl rfl ?_
  refine J.z (yl_pick0 rfl rfl hg2 rfl) ?_
  refine J.nil (Ej.seq (Cj.cond rfl (fun hc25 => Bool.noConfusion (Eq.trans (Eq.symm rfl) hc25)) (fun hc25 => ?_)))
  refine Cj.exit (Ej.seqExit (Ej.loopExit (Ej.blkExit (Ej.seq (Cj.seq (Cj.region (J.z (yl_move rfl rfl) ?_)))))))
  refine J.z (yl_assign rfl rfl) ?_
  refine J.nil (Ej.seq (Cj.ret ?_))
  have htk : (acts (xs.take k)).foldl Ix.act [] = Ix.play (acts xs) := by rw [made_take hk (by omega), acts_take]; rfl
  refine Ej.ret1 rfl rfl rfl ?_
  exact ⟨_, es, _, rfl, hE, hL.trans htk, hek, by omega, rfl⟩
end Go.Proofs.YtjcdfnbomkoheaaGreatDoor
end
section
namespace Go.Proofs.YtjcdfnbomkoheaaGreatDoor
open Go Go.Sx
/-- The names that laws ask for. -/
def nms : List (List UInt8) := Ix.names ++ [[120]]
def nameN (n : UInt8) : List UInt8 := nms.getD (n.toNat % 7) []
theorem nms_at (n : UInt8) (sp : List Value) : (Ix.names.map str ++ [str [120]] ++ sp)[n.toNat % 7]? = some (str (nameN n)) := by
  have h : n.toNat % 7 < 7 := Nat.mod_lt _ (by decide)
  rw [List.getElem?_append_left (by show n.toNat % 7 < 7; exact h)]
  have h2 : Ix.names.map str ++ [str [120]] = nms.map str := rfl
  rw [h2, List.getElem?_map]
  unfold nameN
  rw [List.getElem?_eq_getElem (by show n.toNat % 7 < 7; exact h), List.getD_eq_getElem?_getD, List.getElem?_eq_getElem (by show n.toNat % 7 < 7; exact h)]; rfl
set_option maxRecDepth 20000 in
theorem name_ok (n : UInt8) (I : Heap) : Pure Tryz.prog 31 [u8 n] I (str (nameN n)) := by
 refine Ctr.toPure ?_
 have hnl := n.toNat_lt
 refine Ctr.of_body Tryz.func31 rfl (by decide) (Nat.le_of_ble_eq_true rfl) ?_
 intro w0 hw0
 refine Cj.seq (Cj.region (J.z (yl_assign rfl rfl) ?_))
 refine J.nil (Ej.seq (Cj.seq (Cj.region (J.op rfl (op_callN rfl rfl rfl rfl rfl (Names_ok _) ?_ (fun _ _ _ _ h => by obtain ⟨_, h, _⟩ := h; cases h) (fun _ _ h => by obtain ⟨_, h, _⟩ := h; cases h))))))
 intro v2 I3 H4 hle5 hn1 hp6
 obtain ⟨nb, h, rfl⟩ := hp6; cases h
 have hnb := hn1 _ (.head _)
 refine J.op rfl (op_buildSlice rfl rfl rfl Tryz.underlying28 Tryz.sizeOf9 Tryz.zeroValue9 rfl rfl rfl rfl (LCat.one rfl LCat.none) ?_)
 intro b7 hb7
 refine J.op rfl (op_append (by' := 15) (n := 6) (g := some (nb, 6, [])) (xs := Ix.names.map str) [_] rfl rfl rfl rfl rfl Tryz.underlying28 (.inr ⟨_, Tryz.underlying28⟩) (by kernel_rfl) Tryz.sizeOf9 Tryz.zeroValue9 rfl ⟨hnb, rfl, rfl⟩ rfl (Src.slice (Blk.at 0 rfl) rfl rfl rfl) (by omega) ?_)
 intro g8 hg8
 refine J.z (yl_move rfl rfl) ?_
 refine J.z (yl_convInt rfl rfl Tryz.underlying5 Tryz.underlying3) ?_
 refine J.eqv 7 rfl (show _ = i64 ((n.toNat : Nat) : Int) from (congrArg i64 (w64 (by omega)))) ?_
 obtain ⟨bg9, cg10, sp11, rfl, hbg9⟩ := hg8.some (by decide)
 refine J.op rfl (op_callN rfl rfl rfl rfl rfl (Names_ok _) ?_ (fun _ _ _ _ h => by obtain ⟨_, h, _⟩ := h; cases h) (fun _ _ h => by obtain ⟨_, h, _⟩ := h; cases h))
 intro v13 I14 H15 hle16 hn12 hp17
 obtain ⟨nc, h, rfl⟩ := hp17; cases h
 have hnc := hn12 _ (.head _)
 refine J.z (yl_lenSlice rfl rfl Tryz.underlying28) ?_
 refine J.z (yl_add rfl rfl rfl (w64 (by omega))) ?_
 refine J.z (yl_rem rfl rfl rfl (by decide)) ?_
 refine J.eqv 11 rfl (show _ = i64 ((n.toNat % 7 : Nat) : Int) from (congrArg i64 (by rw [Int.tmod_eq_emod_of_nonneg (by omega)]; omega))) ?_
 refine J.z (yl_indexAddr (off' := n.toNat % 7) rfl rfl rfl Tryz.underlying28 Tryz.sizeOf9 (by omega) (by simp; omega) (by omega)) ?_
 refine J.z (yl_load rfl rfl Tryz.isAgg9 (Blk.at 2 rfl) (nms_at n _)) ?_
 refine J.z (yl_assign rfl rfl) ?_
 refine J.nil (Ej.seq (Cj.ret (Ej.bare ?_)))
 refine Ej.ret1 rfl rfl rfl ?_
 exact ⟨rfl, rfl⟩
theorem act_t {L : Ix.Ix} {a : Ix.ActL} (h : a.drop = true) : Ix.act L a = Ix.rdrop a.title L := if_pos h
theorem act_f {L : Ix.Ix} {a : Ix.ActL} (h : a.drop = false) : Ix.act L a = Ix.rput a.title a.vs L := if_neg (by rw [h]; decide)
theorem act_len (L : Ix.Ix) (a : Ix.ActL) : (Ix.act L a).length ≤ L.length + 1 := by
  unfold Ix.act
  split
  · exact Nat.le_succ_of_le (List.length_filter_le _ _)
  · exact rput_len _ _ _
theorem acts_lenF : ∀ (l : List Ix.ActL) (L : Ix.Ix), (l.foldl Ix.act L).length ≤ L.length + l.length
  | [], _ => Nat.le_refl _
  | a :: r, L => by
    have h1 := acts_lenF r (Ix.act L a)
    have h2 := act_len L a
    rw [List.foldl_cons, List.length_cons]; omega
theorem acts_len (xs : List Act) : ((acts xs).foldl Ix.act []).length ≤ xs.length := by
  have := acts_lenF (acts xs) []
  rw [List.length_map, List.length_nil] at this; omega
theorem play_eq {xs : List Act} {k : Nat} (hk : k ≤ xs.length) (h : k ≤ 20 ∧ (xs.length ≤ k ∨ 20 ≤ k)) : (acts (xs.take k)).foldl Ix.act [] = Ix.play (acts xs) := by
  rw [made_take hk h, acts_take]; rfl
set_option maxRecDepth 20000 in
theorem play_ok (xs : List Act) (v : Value) (hao : ActsOk xs) (I : Heap) (hA0 : ActsS I xs v) : Ctr Tryz.prog 30 [v] I [] (fun ev I' H' => ∃ ib o, ev = .returned (ptr ib 0) ∧ IxOk I' o (Ix.play (acts xs)) ∧ H' = ixH ib o) := by
 obtain ⟨p, c, rfl⟩ := RowS.len hA0.1
 refine Ctr.of_body Tryz.func30 rfl (by decide) (Nat.le_of_ble_eq_true rfl) ?_
 intro w0 hw0
 refine Cj.seq (Cj.region (J.z (yl_assign rfl rfl) ?_))
 refine J.nil (Ej.seq (Cj.seq (Cj.region (J.op rfl (op_callR (H1 := []) [] rfl rfl rfl rfl rfl rfl (Build_ok [] _ (by simp) (fun e h => (by cases h)) _ EntsS.nil) ?_ (fun _ _ _ _ h => by obtain ⟨_, _, h, _⟩ := h; cases h) (fun _ _ h => by obtain ⟨_, _, h, _⟩ := h; cases h))))))
 intro v1 I2 H3 hle4 hp5
 obtain ⟨ib, o0, h, hok0, rfl⟩ := hp5; cases h
 have hIJ0 := hle4
 refine J.z (yl_assign rfl rfl) ?_
 refine J.nil (Ej.seq (Cj.seq (Cj.seq (Cj.region (J.z (yl_assign rfl rfl) ?_)))))
 refine J.nil (Ej.seq (Cj.block (Cj.keep Keeps.r ?_)))
 refine Cj.loop (ι := Nat × Heap × Option Ist) (fun y => y.1 ≤ xs.length ∧ y.1 ≤ 20 ∧ Le I y.2.1 ∧ IxOk y.2.1 y.2.2 ((acts (xs.take y.1)).foldl Ix.act [])) (fun y => 20 - y.1) (fun y => [(0, .slice p xs.length c), (3, ptr ib 0), (4, i64 (y.1 : Int))]) (fun y => y.2.1) (fun y => ixH ib y.2.2) (0, _, o0) ⟨Nat.zero_le _, Nat.zero_le _, hIJ0, hok0⟩ ⟨rfl, rfl, rfl, trivial⟩ rfl rfl ?_
 rintro ⟨k, Jh, o⟩ ⟨hk, hk20, hIJ, hok⟩
 dsimp only at hk hk20 hIJ hok ⊢
 have hA := hA0.mono hIJ
 have hll := acts_len (xs.take k)
 rw [List.length_take, Nat.min_eq_left hk] at hll
 refine Cj.seq (Cj.seq (Cj.region (J.z (yl_move rfl rfl) ?_)))
 refine J.z (yl_move rfl rfl) ?_
 refine J.z (yl_lenSlice rfl rfl Tryz.underlying51) ?_
 refine J.z (yl_lss rfl rfl rfl) ?_
 refine J.z (yl_move rfl rfl) ?_
 refine J.split 10 rfl (fun hg6 => ?_) (fun hg6 => ?_)
 ·
  have hg6p := of_decide_eq_true hg6
  refine J.opG 4 10 true _ rfl rfl rfl hg6 (op_yld (yl_move rfl rfl) rfl rfl ?_)
  refine J.opG 4 10 true _ rfl rfl rfl hg6 (op_yld (yl_lss rfl rfl rfl) rfl rfl ?_)
  refine J.z (yl_pick1 rfl rfl hg6 rfl) ?_
  refine J.nil (Ej.seq (Cj.cond rfl (fun hc7 => ?_) (fun hc7 => ?_)))
  ·
   have hc7p := of_decide_eq_true hc7
   refine Cj.skip (Ej.seq (Cj.seq (Cj.block (Cj.seq ?_))))
   have hlt : k < xs.length := by omega
   have hlt2 : k < 20 := by omega
   obtain ⟨x, hget⟩ : ∃ x, xs[k]? = some x := ⟨_, List.getElem?_eq_getElem hlt⟩
   have hxm := List.mem_of_getElem? hget
   obtain ⟨p1, c1, hpe, hc1, hp⟩ := id hA.1
   cases hpe
   obtain ⟨ab, ao, acs, aty, afr, asp, rfl, hab, had⟩ := hp (ne_nil_of hlt)
   have hfv := hA.2 x hxm
   obtain ⟨vp, vc, hxv⟩ := RowS.len hfv
   have hnx : acts (xs.take (k + 1)) = acts (xs.take k) ++ [x.a] := map_next _ hget
   refine Cj.region (J.z (yl_move rfl rfl) ?_)
   refine J.z (yl_move rfl rfl) ?_
   refine J.z (yl_indexAddr (off' := ao + k * 4) rfl rfl rfl Tryz.underlying51 Tryz.sizeOf80 (by omega) (by omega) (by simp)) ?_
   refine J.z (yl_fieldAddr rfl rfl Tryz.underlying80 rfl Tryz.sizeOf4 rfl) ?_
   refine J.z (yl_load rfl rfl Tryz.isAgg4 (Blk.imm hab) (row_fcell actC_len had hget 0 (by decide))) ?_
   refine J.nil (Ej.seq (Cj.cond rfl (fun hc8 => ?_) (fun hc8 => ?_)))
   ·
    have hdr : x.a.drop = true := hc8
    refine Cj.region (J.z (yl_move rfl rfl) ?_)
    refine J.z (yl_move rfl rfl) ?_
    refine J.z (yl_move rfl rfl) ?_
    refine J.z (yl_indexAddr (off' := ao + k * 4) rfl rfl rfl Tryz.underlying51 Tryz.sizeOf80 (by omega) (by omega) (by simp)) ?_
    refine J.z (yl_loadAgg rfl rfl Tryz.isAgg80 Tryz.sizeOf80 (Blk.imm hab) (row_from actC_len had hget) rfl) ?_
    refine J.op rfl (op_call (H1 := []) rfl rfl rfl rfl rfl (Entry_ok x (hao x hxm) _ hfv) ?_ (fun _ _ _ _ h => by obtain ⟨_, h, _⟩ := h; cases h) (fun _ _ h => by obtain ⟨_, h, _⟩ := h; cases h))
    intro v9 I10 H11 hle12 hp13
    have hIJ := hIJ.mono hle12
    have hA := hA.mono hle12
    have hok := hok.mono hle12
    have hab := hle12 _ _ hab
    have hfv := hfv.mono hle12
    obtain ⟨e0, h, he0, rfl⟩ := hp13; cases h
    refine J.z (yl_fieldR (v := kvR e0.t) rfl rfl (fun _ => by kernel_rfl)) ?_
    refine J.op rfl (op_callR (H1 := ixH _ _) [] rfl rfl rfl rfl rfl rfl (Drop_ok ib o _ e0.t _ hok) ?_ (fun _ _ _ _ h => by obtain ⟨_, h, _⟩ := h; cases h) (fun _ _ h => by obtain ⟨_, h, _⟩ := h; cases h))
    intro v14 I15 H16 hle17 hp18
    have hIJ := hIJ.mono hle17
    have hA := hA.mono hle17
    have hok := hok.mono hle17
    have hab := hle17 _ _ hab
    have hfv := hfv.mono hle17
    have he0 := he0.mono hle17
    obtain ⟨o1, h, hok1, rfl⟩ := hp18; cases h
    refine J.nil (Ej.blkNormal (Ej.seq (Cj.region (J.z (yl_move rfl rfl) ?_))))
    refine J.z (yl_add rfl rfl rfl (w64 (by omega))) ?_
    refine J.z (yl_assign rfl rfl) ?_
    refine J.nil (Ej.round (k + 1, _, o1) ⟨by dsimp only; omega, by dsimp only; omega, hIJ, by dsimp only; rw [hnx, List.foldl_append]; rw [he0.t] at hok1; show IxOk _ _ (Ix.act _ x.a); rw [act_t hdr]; exact hok1⟩ (by dsimp only; omega) ⟨rfl, rfl, rfl, trivial⟩ rfl rfl)
   ·
    have hdr : x.a.drop = false := hc8
    refine Cj.region (J.z (yl_move rfl rfl) ?_)
    refine J.z (yl_move rfl rfl) ?_
    refine J.z (yl_move rfl rfl) ?_
    refine J.z (yl_indexAddr (off' := ao + k * 4) rfl rfl rfl Tryz.underlying51 Tryz.sizeOf80 (by omega) (by omega) (by simp)) ?_
    refine J.z (yl_loadAgg rfl rfl Tryz.isAgg80 Tryz.sizeOf80 (Blk.imm hab) (row_from actC_len had hget) rfl) ?_
    refine J.op rfl (op_call (H1 := []) rfl rfl rfl rfl rfl (Entry_ok x (hao x hxm) _ hfv) ?_ (fun _ _ _ _ h => by obtain ⟨_, h, _⟩ := h; cases h) (fun _ _ h => by obtain ⟨_, h, _⟩ := h; cases h))
    intro v19 I20 H21 hle22 hp23
    have hIJ := hIJ.mono hle22
    have hA := hA.mono hle22
    have hok := hok.mono hle22
    have hab := hle22 _ _ hab
    have hfv := hfv.mono hle22
    obtain ⟨e0, h, he0, rfl⟩ := hp23; cases h
    refine J.op rfl (op_callR (H1 := ixH _ _) [] rfl rfl rfl rfl rfl rfl (Put_ok ib o _ e0 _ hok (by omega) he0.eok he0.r) ?_ (fun _ _ _ _ h => by obtain ⟨_, h, _⟩ := h; cases h) (fun _ _ h => by obtain ⟨_, h, _⟩ := h; cases h))
    intro v24 I25 H26 hle27 hp28
    have hIJ := hIJ.mono hle27
    have hA := hA.mono hle27
    have hok := hok.mono hle27
    have hab := hle27 _ _ hab
    have hfv := hfv.mono hle27
    have he0 := he0.mono hle27
    obtain ⟨o1, h, hok1, rfl⟩ := hp28; cases h
    refine J.nil (Ej.blkNormal (Ej.seq (Cj.region (J.z (yl_move rfl rfl) ?_))))
    refine J.z (yl_add rfl rfl rfl (w64 (by omega))) ?_
    refine J.z (yl_assign rfl rfl) ?_
    refine J.nil (Ej.round (k + 1, _, o1) ⟨by dsimp only; omega, by dsimp only; omega, hIJ, by dsimp only; rw [hnx, List.foldl_append]; rw [he0.t, he0.vals] at hok1; show IxOk _ _ (Ix.act _ x.a); rw [act_f hdr]; exact hok1⟩ (by dsimp only; omega) ⟨rfl, rfl, rfl, trivial⟩ rfl rfl)
  ·
   have hc7p := of_decide_eq_false hc7
   refine Cj.exit (Ej.seqExit (Ej.loopExit (Ej.blkExit (Ej.seq (Cj.seq (Cj.region (J.z (yl_move rfl rfl) ?_)))))))
   refine J.z (yl_assign rfl rfl) ?_
   refine J.nil (Ej.seq (Cj.ret ?_))
   have hpl := play_eq hk (by omega)
   rw [hpl] at hok
   refine Ej.ret1 rfl rfl rfl ?_
   exact ⟨ib, o, rfl, hok, rfl⟩
 ·
  have hg6p := of_decide_eq_false hg6
  refine J.skip 4 10 11 true _ rfl rfl rfl hg6 rfl rfl ?_
  refine J.skip 4 10 12 true _ rfl rfl rfl hg6 rfl rfl ?_
  refine J.z (yl_pick0 rfl rfl hg6 rfl) ?_
  refine J.nil (Ej.seq (Cj.cond rfl (fun hc29 => Bool.noConfusion (Eq.trans (Eq.symm rfl) hc29)) (fun hc29 => ?_)))
  refine Cj.exit (Ej.seqExit (Ej.loopExit (Ej.blkExit (Ej.seq (Cj.seq (Cj.region (J.z (yl_move rfl rfl) ?_)))))))
  refine J.z (yl_assign rfl rfl) ?_
  refine J.nil (Ej.seq (Cj.ret ?_))
  have hpl := play_eq hk (by omega)
  rw [hpl] at hok
  refine Ej.ret1 rfl rfl rfl ?_
  exact ⟨ib, o, rfl, hok, rfl⟩
def prs (ps : List Ke.Sub) : List (List UInt8) := ps.flatMap fun s => [[s.code], s.text]
theorem prs_len (ps : List Ke.Sub) : (prs ps).length = 2 * ps.length := by
  unfold prs
  induction ps with
  | nil => rfl
  | cons a r ih => rw [List.flatMap_cons, List.length_append, ih, List.length_cons]; simp; omega
theorem prs_at : ∀ {ps : List Ke.Sub} {i : Nat} {s : Ke.Sub}, ps[i]? = some s → (prs ps)[2 * i]? = some [s.code] ∧ (prs ps)[2 * i + 1]? = some s.text
  | [], i, _, h => by simp at h
  | a :: r, 0, s, h => by cases h; exact ⟨rfl, rfl⟩
  | a :: r, i + 1, s, h => by
    have := prs_at (ps := r) (i := i) (s := s) h
    have e : prs (a :: r) = [a.code] :: a.text :: prs r := rfl
    rw [e, show 2 * (i + 1) = 2 * i + 1 + 1 by omega, List.getElem?_cons_succ, List.getElem?_cons_succ, List.getElem?_cons_succ, List.getElem?_cons_succ]
    exact this
set_option maxRecDepth 20000 in
theorem field_ok (tag ind : List UInt8) (ps : List Ke.Sub) (v : Value) (hps : ps.length ≤ 1000) (I : Heap) (hv : StrP I (prs ps) v) : Ctr Tryz.prog 14 [str tag, str ind, v] I [] (fun e I' H' => ∃ w, e = .returned (.agg (fldC ⟨tag, ind, [], w, ps⟩).toArray) ∧ RowS subC I' ps w ∧ H' = []) := by
 obtain ⟨p, c, rfl, hc, hp⟩ := hv
 have hpl := prs_len ps
 refine Ctr.of_body Tryz.func14 rfl (by decide) (Nat.le_of_ble_eq_true rfl) ?_
 intro w0 hw0
 refine Cj.seq (Cj.region (J.op rfl (op_alloc rfl rfl rfl Tryz.zeroValue31 rfl ?_)))
 intro b1 hb1
 refine J.nil (Ej.seq (Cj.seq (Cj.region (J.z (yl_move rfl rfl) ?_))))
 refine J.z (yl_move rfl rfl) ?_
 refine J.z (yl_buildS (pl := #[(0, 1), (1, 1), (2, 1), (3, 1)]) rfl rfl Tryz.zeroValue31 rfl Tryz.underlying31 (fun w => by simp [Tryz.sizeOf29, Tryz.sizeOf9]) (LBld.part rfl rfl rfl (LSpl.c LSpl.z) (LBld.part rfl rfl rfl (LSpl.s (LSpl.c LSpl.z)) LBld.none))) ?_
 refine J.op rfl (op_alloc rfl rfl rfl Tryz.zeroValue31 rfl ?_)
 intro b2 hb2
 refine J.op rfl (op_store 0 rfl rfl rfl rfl rfl rfl Tryz.sizeOf31 rfl rfl (LSpl.c (LSpl.c (LSpl.c (LSpl.c LSpl.z)))) LSet.z ?_)
 refine J.nil (Ej.seq (Cj.seq (Cj.seq (Cj.region (J.z (yl_assign rfl rfl) ?_)))))
 refine J.nil (Ej.seq (Cj.block (Cj.loop (ι := Nat × Gs) (fun y => y.1 ≤ ps.length ∧ gOk w0.heap.size 2 (ps.take y.1).length ((ps.take y.1).flatMap subC) y.2) (fun y => ps.length - y.1) (fun y => [(0, str tag), (2, .slice p (prs ps).length c), (6, ptr b1 0), (7, ptr b2 0), (8, i64 ((2 * y.1 + 1 : Nat) : Int))]) (fun y => _) (fun y => (b2, cel 31 [str tag, str ind, str [], gV (ps.take y.1).length y.2]) :: (b1, cel 31 [str [], str [], str [], .slice none 0 0]) :: gH 65 ((ps.take y.1).flatMap subC) y.2) (0, none) ⟨Nat.zero_le _, rfl, rfl⟩ ⟨rfl, rfl, rfl, rfl, rfl, trivial⟩ rfl rfl ?_)))
 rintro ⟨i, g⟩ ⟨hi, hg⟩
 dsimp only at hi hg ⊢
 have hsl : (ps.take i).length = i := by rw [List.length_take]; omega
 refine Cj.seq (Cj.seq (Cj.region (J.z (yl_move rfl rfl) ?_)))
 refine J.z (yl_move rfl rfl) ?_
 refine J.z (yl_lenSlice rfl rfl Tryz.underlying28) ?_
 refine J.z (yl_lss rfl rfl rfl) ?_
 refine J.nil (Ej.seq (Cj.cond rfl (fun hc3 => ?_) (fun hc3 => ?_)))
 ·
  have hc3p := of_decide_eq_true hc3
  refine Cj.skip (Ej.seq (Cj.seq (Cj.block ?_)))
  have hlt : i < ps.length := by omega
  obtain ⟨x, hsget⟩ : ∃ x, ps[i]? = some x := ⟨_, List.getElem?_eq_getElem hlt⟩
  have hsl1 : (ps.take (i + 1)).length = (ps.take i).length + 1 := by rw [List.length_take, List.length_take]; omega
  obtain ⟨hg1, hg2⟩ := prs_at hsget
  obtain ⟨lb, lo, lcs, lty, lfr, sp, rfl, hlb, hld⟩ := hp (ne_nil_of (k := 2 * i) (by omega))
  refine Cj.drawSel [0, 1] [] 16 (by kernel_rfl) ?_
  refine JA.fix ⟨(HSub.c 0 rfl (HSub.c 1 rfl HSub.n)), CSub.n, (Le.refl _)⟩ (fun fx4 => ?_)
  refine JA.tk 0 rfl fx4 (yl_fieldAddr (off' := 3) rfl rfl Tryz.underlying31 rfl Tryz.sizeOf29 rfl) ?_
  refine JA.tk 1 rfl fx4 (yl_load rfl rfl Tryz.isAgg29 (Blk.atC 0 rfl) rfl) ?_
  refine JA.tk 2 rfl fx4 (yl_move rfl rfl) ?_
  refine JA.tk 3 rfl fx4 (yl_move rfl rfl) ?_
  refine JA.tk 4 rfl fx4 (yl_sub rfl rfl rfl (w64 (by omega))) ?_
  refine JA.eqv 22 rfl (show _ = i64 ((2 * i : Nat) : Int) from (congrArg i64 (by omega))) ?_
  refine JA.tk 5 rfl fx4 (yl_indexAddr (off' := lo + 2 * i) rfl rfl rfl Tryz.underlying28 Tryz.sizeOf9 (by omega) (by omega) (by omega)) ?_
  refine JA.tk 6 rfl fx4 (yl_load rfl rfl Tryz.isAgg9 (Blk.immC hlb) (str_from hld hg1)) ?_
  refine JA.tk 7 rfl fx4 (yl_index rfl rfl rfl Tryz.underlying9 (by decide) rfl) ?_
  refine JA.tk 8 rfl fx4 (yl_move rfl rfl) ?_
  refine JA.tk 9 rfl fx4 (yl_move rfl rfl) ?_
  refine JA.tk 10 rfl fx4 (yl_indexAddr (off' := lo + (2 * i + 1)) rfl rfl rfl Tryz.underlying28 Tryz.sizeOf9 (by omega) (by omega) (by omega)) ?_
  refine JA.tk 11 rfl fx4 (yl_load rfl rfl Tryz.isAgg9 (Blk.immC hlb) (str_from hld hg2)) ?_
  refine JA.tk 12 rfl fx4 (yl_buildS (pl := #[(0, 1), (1, 1)]) rfl rfl Tryz.zeroValue65 rfl Tryz.underlying65 (fun w => by simp [Tryz.sizeOf5, Tryz.sizeOf9]) (LBld.part rfl rfl rfl (LSpl.c LSpl.z) (LBld.part rfl rfl rfl (LSpl.s (LSpl.c LSpl.z)) LBld.none))) ?_
  refine JA.step 13 (by kernel_rfl) rfl rfl (op_buildSlice rfl rfl rfl Tryz.underlying29 Tryz.sizeOf65 Tryz.zeroValue65 rfl rfl rfl rfl (LCat.agg rfl LCat.none) ?_)
  intro b5 hb5
  refine ⟨⟨(Le.refl _), (HSub.c 1 rfl (HSub.c 2 rfl HSub.n)), CSub.n⟩, ?_⟩
  refine JA.step 14 (by kernel_rfl) rfl rfl (op_append (by' := 23) [_, _, _] rfl rfl rfl rfl rfl Tryz.underlying29 (.inr ⟨_, Tryz.underlying29⟩) (by kernel_rfl) Tryz.sizeOf65 Tryz.zeroValue65 rfl hg rfl (Src.slice (Blk.at 0 rfl) rfl rfl rfl) (by omega) ?_)
  intro g6 hg6
  refine ⟨⟨(Le.refl _), (HSub.c 1 rfl (HSub.c 2 rfl HSub.n)), CSub.n⟩, ?_⟩
  refine JA.fix ⟨(HSub.c 1 rfl (HSub.c 2 rfl HSub.n)), CSub.n, (Le.refl _)⟩ (fun fx7 => ?_)
  refine JA.tk 15 rfl fx7 (yl_fieldAddr (off' := 3) rfl rfl Tryz.underlying31 rfl Tryz.sizeOf29 rfl) ?_
  refine JA.last 16 (by kernel_rfl) rfl rfl rfl (op_store 1 rfl rfl rfl rfl (gV_cells _ _) (gV_one _ _) Tryz.sizeOf29 rfl rfl (LSpl.s (LSpl.s (LSpl.s (LSpl.c LSpl.z)))) (LSet.s LSet.z) ?_)
  refine JA.done (by kernel_rfl) ?_
  refine Ej.blkNormal (Ej.seq (Cj.region (J.z (yl_move rfl rfl) ?_)))
  refine J.z (yl_add rfl rfl rfl (w64 (by omega))) ?_
  refine J.eqv 17 rfl (show _ = i64 ((2 * (i + 1) + 1 : Nat) : Int) from (congrArg i64 (by omega))) ?_
  refine J.z (yl_assign rfl rfl) ?_
  refine J.nil (Ej.keep (Keeps.d (Keeps.k (Keeps.k Keeps.r))) ?_)
  refine Ej.round (i + 1, g6) ⟨by dsimp only; omega, by dsimp only; rw [hsl1, flat_next subC hsget]; exact hg6⟩ (by dsimp only; omega) ⟨rfl, rfl, rfl, rfl, rfl, trivial⟩ rfl (by dsimp only; rw [hsl1, flat_next subC hsget]; rfl)
 ·
  have hc3p := of_decide_eq_false hc3
  refine Cj.exit (Ej.seqExit (Ej.loopExit (Ej.blkExit (Ej.seq (Cj.seq (Cj.region (J.z (yl_loadAgg rfl rfl Tryz.isAgg31 Tryz.sizeOf31 (Blk.at 0 rfl) rfl rfl) ?_)))))))
  refine J.op rfl (op_store 1 rfl rfl rfl rfl rfl (by show [str tag, str ind, str [], gV _ _].all Value.oneCell' = true; simp only [List.all_cons, List.all_nil, gV_one', Bool.and_true]; rfl) Tryz.sizeOf31 rfl rfl (LSpl.c (LSpl.c (LSpl.c (LSpl.c LSpl.z)))) (LSet.s LSet.z) ?_)
  refine J.nil (Ej.seq (Cj.ret ?_))
  have hfull : ps.take i = ps := List.take_of_length_le (by omega)
  rw [hfull] at hg ⊢
  refine Ej.perm (H' := gH _ _ _ ++ [_, _]) List.perm_append_comm ?_
  refine Ej.keepR subC_len (by decide) hg rfl (fun I9 hle9 hfs => ?_)
  refine Ej.retC (Keeps.d (Keeps.d Keeps.n)) rfl rfl rfl (Blk.at 1 rfl) Tryz.isAgg31 Tryz.sizeOf31 rfl ?_
  exact ⟨_, rfl, hfs, rfl⟩
end Go.Proofs.YtjcdfnbomkoheaaGreatDoor
end
section
namespace Go.Proofs.YtjcdfnbomkoheaaGreatDoor
open Go Go.Sx
theorem phrase_small (es : List Ent) (n : List UInt8) (w : Ke.Row) : (Ix.phrase (es.map entL) n w).length ≤ es.length := by
  unfold Ix.phrase
  split
  · simp
  · rw [List.length_map]
    exact Nat.le_trans (List.length_filter_le _ _) (by rw [List.length_map]; exact Nat.le_refl _)
theorem word_small (es : List Ent) (n s : List UInt8) : (Ix.word (es.map entL) n s).length ≤ es.length := by
  unfold Ix.word
  split
  · exact phrase_small es n _
  · simp
theorem scan_small (L : Ix.Ix) (n s : List UInt8) (most : Int) : ((Ix.scan L n s most).map lineI).length ≤ most.toNat := by
  unfold Ix.scan
  rw [List.length_map, List.length_map, List.length_take]; omega
end Go.Proofs.YtjcdfnbomkoheaaGreatDoor
end
