/-
  Arguments of the laws on records: pieces, and any record. Own text. Conditions: none.
-/
import Derived.Test.YtnogdccoekfnoaaGreatDoorKArg
import Derived.Test.YtnogdccoekfnoaaGreatDoorLr
namespace Go.Proofs.YtnogdccoekfnoaaGreatDoor
open Go.ChangeShapes Go.WideShapes Go.ChangeAt Go.RowKit Go.Sx Go.Lib Go.ChangeMaps Go.WideMaps
section
variable {H : Type} {enc : TypeId × Value → H} {W : World} {base : Nat}
theorem Arg.field {fs : Array Field} {cs : List Value} {ms : List Nat} (h : ∀ (i : Nat) f m', fs[i]? = some f → ms[i]? = some m' → Arg enc W f.type ((cs.drop f.offset).take (Tryz.prog.cellsOf f.type)) m') (i : Nat) {f : Field} {m t o k : Nat}
    (hf : fs[i]? = some f) (hm : ms[i]? = some m) (ht : f.type = t) (ho : f.offset = o) (hc : Tryz.prog.cellsOf t = k) : Arg enc W t ((cs.drop o).take k) m := by
  subst ht ho hc
  exact h i f m hf hm
theorem Arg.byte {t : TypeId} {cs : List Value} {m : Nat} (ht : Tryz.prog.underlying t = some (.int .u8)) (h : Arg enc W t cs m) : ∃ c : UInt8, cs = [u8 c] ∧ m = 1 := by
  obtain ⟨z, rfl, hw, rfl⟩ := h.int ht
  obtain ⟨c, rfl⟩ := u8_of hw
  exact ⟨c, rfl, rfl⟩
theorem list2 {α : Type} {l : List α} (h : l.length = 2) : ∃ a b, l = [a, b] := by
  match l, h with
  | [a, b], _ => exact ⟨a, b, rfl⟩
theorem list3 {α : Type} {l : List α} (h : l.length = 3) : ∃ a b c, l = [a, b, c] := by
  match l, h with
  | [a, b, c], _ => exact ⟨a, b, c, rfl⟩
theorem list4 {α : Type} {l : List α} (h : l.length = 4) : ∃ a b c d, l = [a, b, c, d] := by
  match l, h with
  | [a, b, c, d], _ => exact ⟨a, b, c, d, rfl⟩
set_option maxRecDepth 100000 in
theorem Arg.sub {cs : List Value} {m : Nat} (h : Arg enc W 60 cs m) : ∃ s : Ke.Sub, cs = subC s ∧ s.text.length + 3 ≤ m := by
  obtain ⟨hl, ms, hml, hms, hf⟩ := h.struct Tryz.underlying60
  rw [show Tryz.prog.cellsOf 60 = 2 by kernel_rfl] at hl
  obtain ⟨a, b, rfl⟩ := list2 hl
  obtain ⟨m0, m1, rfl⟩ := list2 hml
  obtain ⟨c, hc, rfl⟩ := (Arg.field hf (o := 0) 0 rfl rfl rfl rfl (show Tryz.prog.cellsOf 5 = 1 by kernel_rfl)).byte Tryz.underlying5
  obtain ⟨s, hs, rfl⟩ := (Arg.field hf (o := 1) 1 rfl rfl rfl rfl (show Tryz.prog.cellsOf 9 = 1 by kernel_rfl)).str Tryz.underlying9
  simp only [List.drop_zero, List.drop_succ_cons, List.take_succ_cons, List.take_zero, List.cons.injEq, and_true] at hc hs
  subst hc hs
  simp only [List.sum_cons, List.sum_nil] at hms
  exact ⟨⟨c, s⟩, rfl, by dsimp only; omega⟩
theorem texts_sum (ss : List Ke.Sub) : (ss.map fun s => s.text.length + 3).sum = textsLen ss + 3 * ss.length := by
  induction ss with
  | nil => rfl
  | cons a r ih => unfold textsLen at ih ⊢; simp only [List.map_cons, List.sum_cons, List.length_cons, ih]; omega
set_option maxRecDepth 100000 in
theorem Arg.fld {cs : List Value} {m : Nat} (h : Arg enc W 58 cs m) : ∃ f : Ke.Fld, cs = fldC f ∧ textsLen f.subs + 3 * f.subs.length + f.ind.length + f.tag.length + f.data.length + 1 ≤ m ∧ RowS subC (HW W) f.subs f.sv := by
  obtain ⟨hl, ms, hml, hms, hf⟩ := h.struct Tryz.underlying58
  rw [show Tryz.prog.cellsOf 58 = 4 by kernel_rfl] at hl
  obtain ⟨a, b, c, d, rfl⟩ := list4 hl
  obtain ⟨m0, m1, m2, m3, rfl⟩ := list4 hml
  have cS : Tryz.prog.cellsOf 9 = 1 := by kernel_rfl
  obtain ⟨s0, h0, rfl⟩ := (Arg.field hf (o := 0) 0 rfl rfl rfl rfl cS).str Tryz.underlying9
  obtain ⟨s1, h1, rfl⟩ := (Arg.field hf (o := 1) 1 rfl rfl rfl rfl cS).str Tryz.underlying9
  obtain ⟨s2, h2, rfl⟩ := (Arg.field hf (o := 2) 2 rfl rfl rfl rfl cS).str Tryz.underlying9
  obtain ⟨l, v, h3, hr, hs, _, _⟩ := (Arg.field hf (o := 3) 3 rfl rfl rfl rfl (show Tryz.prog.cellsOf 56 = 1 by kernel_rfl)).row (f := subC) (size := fun s => s.text.length + 3) Tryz.underlying56 (show Tryz.prog.cellsOf 60 = 2 by kernel_rfl) (by decide) (fun _ => True) fun cs m' _ h => by
    obtain ⟨s, h1, h2⟩ := h.sub
    exact ⟨s, h1, h2, trivial⟩
  simp only [List.drop_zero, List.drop_succ_cons, List.take_succ_cons, List.take_zero, List.cons.injEq, and_true] at h0 h1 h2 h3
  subst h0 h1 h2 h3
  simp only [List.sum_cons, List.sum_nil] at hms
  rw [texts_sum] at hs
  exact ⟨⟨s0, s1, s2, d, l⟩, rfl, by dsimp only; omega, hr⟩
def fldSize (f : Ke.Fld) : Nat := textsLen f.subs + 3 * f.subs.length + f.ind.length + f.tag.length + f.data.length + 1
theorem fok_of {fs : List Ke.Fld} (h : (fs.map fldSize).sum ≤ 2000000) : FOK fs := by
  have h1 := sum_ones (f := fldSize) (l := fs) fun f => by unfold fldSize; omega
  refine ⟨by omega, fun f hf => ?_⟩
  have h2 := sum_mem (f := fldSize) hf
  unfold fldSize at h2 h
  exact ⟨by omega, by omega, by omega⟩
/-- A slice of fields. -/
theorem Arg.flds {cs : List Value} {m : Nat} (h : Arg enc W 49 cs m) : ∃ fs v, cs = [v] ∧ RecS (HW W) fs v ∧ (fs.map fldSize).sum + 1 ≤ m := by
  obtain ⟨fs, v, h1, h2, h3, _, h4⟩ := h.row (f := fldC) (size := fldSize) Tryz.underlying49 (show Tryz.prog.cellsOf 58 = 4 by kernel_rfl) (by decide) (fun f => RowS subC (HW W) f.subs f.sv) fun cs m' _ h => by
    obtain ⟨f, h1, h2, h3⟩ := h.fld
    exact ⟨f, h1, h2, h3⟩
  exact ⟨fs, v, h1, ⟨h2, h4⟩, h3⟩
set_option maxRecDepth 100000 in
theorem arg_record {v : Value} {d : DataW H} {p : List MemPlace} (hval : Value.okWide Tryz.prog W .any base 51 v) (h : DataW.Trod enc Tryz.prog W 0 (fun _ => true) true 51 v d p) (hlt : ∀ x ∈ p, x.block < W.heap.size) :
    ∃ rk rl fs w, v = recV rk rl w ∧ RecS (HW W) fs w ∧ (Rows.uptoBulk d ≤ 2000000 → FOK fs) ∧ Again enc W 51 v d p := by
  have hag := again (by kernel_rfl) (of_decide_eq_true (by kernel_rfl)) h hlt
  obtain ⟨xs, rfl, hx⟩ := okWide_struct Tryz.underlying51 hval
  obtain ⟨hl, ms, hml, hms, hf⟩ := (Arg.of h).struct Tryz.underlying51
  have hxl : xs.toList.length = 3 := by rw [show Tryz.prog.cellsOf 51 = 3 by kernel_rfl] at hx; simpa using hx
  obtain ⟨a, b, c, hxs⟩ := list3 hxl
  obtain rfl : xs = #[a, b, c] := by rw [← Array.toArray_toList (xs := xs), hxs]
  obtain ⟨m0, m1, m2, rfl⟩ := list3 hml
  obtain ⟨rk, h0, rfl⟩ := (Arg.field hf (o := 0) 0 rfl rfl rfl rfl (show Tryz.prog.cellsOf 5 = 1 by kernel_rfl)).byte Tryz.underlying5
  obtain ⟨rl, h1, rfl⟩ := (Arg.field hf (o := 1) 1 rfl rfl rfl rfl (show Tryz.prog.cellsOf 5 = 1 by kernel_rfl)).byte Tryz.underlying5
  obtain ⟨fs, w, h2, h3, h4⟩ := (Arg.field hf (o := 2) 2 rfl rfl rfl rfl (show Tryz.prog.cellsOf 49 = 1 by kernel_rfl)).flds
  simp only [Value.cells, List.drop_zero, List.drop_succ_cons, List.take_succ_cons, List.take_zero, List.cons.injEq, and_true] at h0 h1 h2
  subst h0 h1 h2
  simp only [List.sum_cons, List.sum_nil] at hms
  exact ⟨rk, rl, fs, c, rfl, h3, fun hm => fok_of (by omega), hag⟩
set_option maxRecDepth 100000 in
theorem Arg.piece {cs : List Value} {m : Nat} (h : Arg enc W 78 cs m) : ∃ q : Pc, cs = pcC q ∧ 1 ≤ m ∧ RowS xsC (HW W) q.subs q.sv ∧ ∀ x ∈ q.subs, IntP (HW W) x.l x.v := by
  obtain ⟨hl, ms, hml, hms, hf⟩ := h.struct Tryz.underlying78
  rw [show Tryz.prog.cellsOf 78 = 4 by kernel_rfl] at hl
  obtain ⟨a, b, c, d, rfl⟩ := list4 hl
  obtain ⟨m0, m1, m2, rfl⟩ := list3 hml
  obtain ⟨c0, h0, rfl⟩ := (Arg.field hf (o := 0) 0 rfl rfl rfl rfl (show Tryz.prog.cellsOf 5 = 1 by kernel_rfl)).byte Tryz.underlying5
  obtain ⟨_, ns, hnl, _, ha⟩ := (Arg.field hf (o := 1) 1 rfl rfl rfl rfl (show Tryz.prog.cellsOf 37 = 2 by kernel_rfl)).array Tryz.underlying37
  obtain ⟨n0, n1, rfl⟩ := list2 hnl
  rw [show Tryz.prog.cellsOf 5 = 1 by kernel_rfl] at ha
  obtain ⟨c1, h1, _⟩ := (ha 0 n0 rfl).byte Tryz.underlying5
  obtain ⟨c2, h2, _⟩ := (ha 1 n1 rfl).byte Tryz.underlying5
  obtain ⟨l, v, h3, hr, _, _, hq⟩ := (Arg.field hf (o := 3) 2 rfl rfl rfl rfl (show Tryz.prog.cellsOf 76 = 1 by kernel_rfl)).row (f := xsC) (size := fun _ => 0) Tryz.underlying76 (show Tryz.prog.cellsOf 22 = 1 by kernel_rfl) (by decide) (fun x => IntP (HW W) x.l x.v) fun cs m' _ h => by
    obtain ⟨l, v, h1, h2, _⟩ := h.ints Tryz.underlying22 Tryz.underlying3 (by kernel_rfl)
    exact ⟨⟨l, v⟩, h1, Nat.zero_le _, h2⟩
  simp only [Nat.zero_mul, Nat.one_mul, List.drop_zero, List.drop_succ_cons, List.take_succ_cons, List.take_zero, List.cons.injEq, and_true] at h0 h1 h2 h3
  subst h0 h1 h2 h3
  exact ⟨⟨c0, c1, c2, d, l⟩, rfl, by omega, hr, hq⟩
set_option maxRecDepth 100000 in
theorem arg_pieces {v : Value} {d : DataW H} {p : List MemPlace} (hval : Value.okWide Tryz.prog W .any base 48 v) (h : DataW.Trod enc Tryz.prog W 0 (fun _ => true) true 48 v d p) (hlt : ∀ x ∈ p, x.block < W.heap.size) :
    ∃ ps, PcS (HW W) ps v ∧ Again enc W 48 v d p := by
  have hag := again (by kernel_rfl) (of_decide_eq_true (by kernel_rfl)) h hlt
  obtain ⟨a, len, cap, rfl⟩ := okWide_slice Tryz.underlying48 hval
  obtain ⟨ps, v', h1, h2, _, _, h4⟩ := (Arg.of h).row (f := pcC) (size := fun _ => 1) Tryz.underlying48 (show Tryz.prog.cellsOf 78 = 4 by kernel_rfl) (by decide) (fun q => RowS xsC (HW W) q.subs q.sv ∧ ∀ x ∈ q.subs, IntP (HW W) x.l x.v) fun cs m' _ h => by
    obtain ⟨q, h1, h2, h3⟩ := h.piece
    exact ⟨q, h1, h2, h3⟩
  obtain rfl : Value.slice a len cap = v' := by simpa [Value.cells] using h1
  exact ⟨ps, ⟨h2, h4⟩, hag⟩
end
end Go.Proofs.YtnogdccoekfnoaaGreatDoor
