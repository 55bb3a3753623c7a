/-
  From the rows' own reading to this logic, and back: what a law's walk is handed, and what its row asks. Own text. Conditions: none.
-/
import Derived.Test.YtlfpehljahgbkaaGreatDoorCards
import Derived.Test.YtlfpehljahgbkaaGreatDoorTie
import Derived.WalkKit
import Derived.ProofKit
import Derived.OpenShut
import Derived.Deep.DeepHandedRow
import Derived.Lib.LaidTab
import Derived.Lib.LaidU8T
import Derived.Test.YtlfpehljahgbkaaGreatDoorCqV
namespace Go.Proofs.YtlfpehljahgbkaaGreatDoor
open Go.ChangeShapes Go.WideShapes Go.ChangeAt Go.RowKit Go.Sx Go.Lib Go.ChangeMaps
theorem own : ownKnob Tryz.prog.godebug = none := by kernel_rfl
/-- The whole memory, as what stays. -/
def HW (W : World) : Heap := fun b => W.heap[b]?
theorem HW.ready (W : World) : Ready (HW W) [] W := ⟨fun _ _ h => h, by simp, by simp, by simp⟩
theorem HW.below {W w' : World} {I' : Heap} {H' : HL} (h : St W [] (HW W) I' H' w') : Below W.heap.size W w' := ⟨h.os, h.tape, h.output, h.size, fun b hb => h.frm b hb (by simp)⟩
theorem HW.calls {f : FuncId} {args : List Value} {W : World} {v : Value} (h : Sx.Pure Tryz.prog f args (HW W) v) : Calls Tryz.prog f args.toArray W fun e w' => e = .returned v ∧ Below W.heap.size W w' :=
  (h.2 W (HW.ready W)).mono fun _e _w' ⟨_I', _H', hs, h1, _, _⟩ => ⟨h1, HW.below hs⟩
/-- A post out of a growth: nothing that was there has turned; what is new may be frozen. -/
theorem post_grow {H : Type} {enc : TypeId × Value → H} {P : Program} {f : Func} {s : ChangeSpec} {apart fresh handsOn again : Bool} {W W' : World} {args : Array Value} {v : Value} {ds gs : List (DataW H)} {before pa pv : List MemPlace}
    (hB : Below W.heap.size W W') (hW : DataW.Whole enc P f.params.toList s.vars apart W args.toList ds gs before) (hps : before = pa ++ pv)
    (hres : ∀ (b : Nat) (sp : Nat → Bool) (hd : Bool), DataW.TrodAll enc P W' b sp hd f.resultTypes.toList (v.resultList f.resultTypes.size) (s.fn H (ds ++ gs)).results [])
    (hargs : ∀ sp : Nat → Bool, (∀ p ∈ before, sp p.block = true) → DataW.TrodAll enc P W' 0 sp true f.params.toList args.toList (s.fn H (ds ++ gs)).args pa)
    (hvars : ∀ sp : Nat → Bool, (∀ p ∈ before, sp p.block = true) → DataW.TrodVars enc P W' sp s.vars (s.fn H (ds ++ gs)).vars pv)
    (hok : ∀ (j : Nat) (t : TypeId) (r : Value), f.resultTypes[j]? = some t → (v.resultList f.resultTypes.size)[j]? = some r → Value.okWide P W' .any 0 t r) : s.post enc P f apart fresh handsOn again W args v W' := by
  have old : ∀ p ∈ before, p.block < W.heap.size := hW.lt
  have mem : ∀ p, p ∈ before ↔ p ∈ pa ∨ p ∈ pv := fun p => by rw [hps]; exact List.mem_append
  have both : ([] ++ pa) ++ pv = before := by rw [hps]; rfl
  refine ⟨ds, gs, before, [], pa, pv, hW, hres _ _ _, hargs _ fun p hp => decide_eq_true (old p hp), hvars _ fun p hp => decide_eq_true (old p hp), World.keptBut_mono (fun p hp => ⟨hp, .inr ((mem p).1 hp)⟩) (hB.frame (· ∈ before)), fun _ => ?_⟩
  have hrd := hargs (fun _ => true) fun _ _ => rfl
  obtain ⟨_, _, _, _, _, hfrz, hnd⟩ := hW
  refine ⟨hok, _, _, ([] ++ pa) ++ pv, ⟨[] ++ pa, pv, trodAll_append hrd (hres _ _ _), hvars _ fun _ _ => rfl, rfl, fun b off hp => ?_, fun ha => ?_⟩, fun p hp _ => ?_⟩
  · have hin : MemPlace.cell b off ∈ before := both ▸ hp
    have hlt : b < W.heap.size := old _ hin
    have hf := hfrz b off hin
    unfold World.frozen? at hf ⊢
    rw [hB.block b hlt]
    exact hf
  · exact both ▸ hnd ha
  · exact both ▸ hp
theorem laid_tabs {W : World} (h3 : VarReads Tryz.prog W "unicode/utf8.first" Rows.laid_unicode_utf8_first) (h4 : VarReads Tryz.prog W "unicode/utf8.acceptRanges" Rows.laid_unicode_utf8_acceptRanges) : Tabs (HW W) := by
  have e3 : Rows.laid_unicode_utf8_first = firstData := by kernel_rfl
  have e4 : (Rows.laid_unicode_utf8_acceptRanges : DataW Unit) = acceptData := by kernel_rfl
  have hU : Lib.Utf8Tabs 1 2 W := utf8Tabs_of_readsT (ρ := Tryz.lays260_ren) (U8Types.of260 Tryz.lays260) ⟨by kernel_rfl, by kernel_rfl, by kernel_rfl, by kernel_rfl, by kernel_rfl, by kernel_rfl, by kernel_rfl⟩ (e3 ▸ h3) (e4 ▸ h4)
  intro w hw
  have key : ∀ (a : Addr) (v : Value), W.cell? a = some v → w.cell? a = some v := fun a v h => by
    have h0 := h
    unfold World.cell? at h
    cases hb : W.heap[a.block]? with
    | none => rw [hb] at h; cases h
    | some o =>
      have := World.cell?_of_block (w := w) (w' := W) (a := a) (by rw [hw _ _ hb, hb])
      rw [← this]; exact h0
  exact ⟨fun c hc => key _ _ (hU.1 c hc), fun i hi => ⟨key _ _ (hU.2 i hi).1, key _ _ (hU.2 i hi).2⟩⟩
theorem ints_sl {W : World} {a : Addr} {len cap : Nat} {zs : List Int} (hcell : ∀ i, i < zs.length → W.cell? (a.add i) = some (.int .i64 (zs.getD i 0))) (hz : zs.length = cap) (hl : len ≤ cap) (hb : len ≤ 9223372036854775807) : IntSl (HW W) (zs.take len) (.slice (some a) len cap) := by
  have hlen : (zs.take len).length = len := by simp; omega
  refine ⟨by rw [hlen]; exact hb, some a, cap, by rw [hlen], fun hne => ?_⟩
  have h0 : 0 < zs.length := by
    cases zs with
    | nil => simp at hne
    | cons _ _ => simp
  obtain ⟨blk, off, spot⟩ := a
  have h := hcell 0 h0
  cases spot with
  | some sp =>
    obtain ⟨_, _, _, _, hs⟩ := World.shape?_of_cell? h
    simp [Addr.add] at hs
  | none =>
    have hc : ∀ i, i < zs.length → W.cell? ⟨blk, off + i, none⟩ = some (.int .i64 (zs.getD i 0)) := fun i hi => by rw [← hcell i hi, Addr.add_lit]
    have h' := hc 0 h0
    unfold World.cell? at h'
    cases hb : W.heap[blk]? with
    | none => simp only [hb] at h'; cases h'
    | some o =>
      cases o with
      | cells cs t fr =>
        refine ⟨blk, off, cs.toList, t, fr, rfl, by show W.heap[blk]? = _; rw [hb], fun k x hk => ?_⟩
        have hkl : k < zs.length := by
          have := (List.getElem?_eq_some_iff.1 hk).1
          simp at this; omega
        have hx : zs.getD k 0 = x := by
          rw [List.getElem?_take] at hk
          split at hk
          · rw [List.getD, hk]; rfl
          · cases hk
        have h2 := hc k hkl
        unfold World.cell? at h2
        rw [hx] at h2
        simp only [hb] at h2
        simpa using h2
      | _ => simp only [hb] at h'; cases h'
/-- A reading that is the same wherever the old memory stands. -/
def Again {H : Type} (enc : TypeId × Value → H) (W : World) (t : TypeId) (v : Value) (d : DataW H) (p : List MemPlace) : Prop :=
  ∀ W', Below W.heap.size W W' → ∀ sp : Nat → Bool, (∀ q ∈ p, sp q.block = true) → DataW.Trod enc Tryz.prog W' 0 sp true t v d p
theorem lt_of_cell {W : World} {a : Addr} {v : Value} (h : W.cell? a = some v) : a.block < W.heap.size := by
  unfold World.cell? at h
  rcases Nat.lt_or_ge a.block W.heap.size with h' | h'
  · exact h'
  · rw [Array.getElem?_eq_none h'] at h; cases h
theorem row_block {a : Addr} {n : Nat} (h : 0 < n) : ∃ q ∈ MemPlace.row a n, q.block = a.block :=
  ⟨.cell a.block (a.off + 0), List.mem_map.2 ⟨0, List.mem_range.2 h, rfl⟩, rfl⟩
section
variable {H : Type} {enc : TypeId × Value → H} {W : World} {base : Nat}
set_option maxRecDepth 100000 in
theorem arg_string {t : TypeId} {v : Value} {d : DataW H} {p : List MemPlace} (ht : Tryz.prog.underlying t = some .string) (hval : Value.okWide Tryz.prog W .any base t v) (h : DataW.Trod enc Tryz.prog W 0 (fun _ => true) true t v d p) :
    ∃ s : List UInt8, v = str s ∧ d = .lit (.string s) ∧ p = [] ∧ Again enc W t v d p := by
  obtain ⟨s, rfl, rfl, rfl, ws⟩ := open_string ht hval h
  exact ⟨s.data.toList, by cases s; simp [str], rfl, rfl, fun W' _ sp _ => shut_string ht ws⟩
set_option maxRecDepth 100000 in
theorem arg_ints {t e : TypeId} {v : Value} {d : DataW H} {p : List MemPlace} (ht : Tryz.prog.underlying t = some (.slice e)) (he : Tryz.prog.underlying e = some (.int .i64)) (hc : Tryz.prog.cellsOf e = 1) (hval : Value.okWide Tryz.prog W .any base t v) (h : DataW.Trod enc Tryz.prog W 0 (fun _ => true) true t v d p) :
    ∃ l : List Int, IntSl (HW W) l v ∧ Again enc W t v d p := by
  obtain ⟨ad, len0, cap0, rfl⟩ := okWide_slice ht hval
  obtain ⟨fu, hf⟩ := h
  rcases open_ints ht he hc hf with ⟨h1, h2⟩ | ⟨a, len, cap, zs, h1, hb, hl, hm, hz, hx, hcell, hwf⟩
  · have h3 : Value.slice ad len0 cap0 = .slice none 0 0 := by simpa [Value.cells] using h1
    rw [h3]
    cases h2
    exact ⟨[], ⟨Nat.zero_le _, none, 0, rfl, fun h => absurd rfl h⟩, fun W' _ sp _ => shut_slice_nil ht⟩
  · have h3 : Value.slice ad len0 cap0 = .slice (some a) len cap := by simpa [Value.cells] using h1
    rw [h3]
    simp only [Prod.mk.injEq] at hx
    obtain ⟨rfl, rfl⟩ := hx
    simp only [if_true] at hz
    have hm' : cap ≤ 9223372036854775807 := by unfold maxLen at hm; omega
    refine ⟨zs.take len, ints_sl hcell hz hl (by omega), fun W' hB sp hsp => ⟨2, ?_⟩⟩
    have hcell' : ∀ i, i < zs.length → W'.cell? (a.add i) = some (.int .i64 (zs.getD i 0)) := fun i hi => by
      rw [← hcell i hi]
      exact hB.cell (lt_of_cell (hcell i hi))
    have hz' : zs.length = if sp a.block then cap else len := by
      rcases Nat.eq_zero_or_pos zs.length with h0 | h0
      · split <;> omega
      · have hin : ∃ q ∈ MemPlace.row a zs.length, q.block = a.block := row_block h0
        obtain ⟨q, hq, he⟩ := hin
        rw [if_pos (by rw [← he]; exact hsp q hq)]; exact hz
    simpa [Value.cells] using shut_ints 0 ht he hc (Nat.zero_le _) hl hm hz' hcell' hwf
end
/-- A world for the witnesses: the settled one, the two tables holding what their initialisers lay. -/
noncomputable def laidWorld (os : Os) : World :=
  let w0 := World.holding Tryz.prog os ⟨#[], #[], []⟩
  let put (h : Array Obj) (g : Nat) (cs : Array Value) : Array Obj := h.modify g fun
    | .cells _ t frozen => .cells cs t frozen
    | o => o
  { w0 with heap := put (put w0.heap 1 (Lib.firstTab.map fun z => Value.int .u8 z).toArray) 2 ((List.range 16).flatMap fun i => [Value.int .u8 (Lib.accLo i), Value.int .u8 (Lib.accHi i)]).toArray }
theorem laid_met (os : Os) (args : Array Value) : laidMet Tryz.prog Rows.cqlParsesRow.laid ((laidWorld os).forCall (fun _ _ => 0) ⟨#[], args, []⟩).memory :=
  laidMet_of_run' 8 (by kernel_rfl) (by kernel_rfl)
end Go.Proofs.YtlfpehljahgbkaaGreatDoor
