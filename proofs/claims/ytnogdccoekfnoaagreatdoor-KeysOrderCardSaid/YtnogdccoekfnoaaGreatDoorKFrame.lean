/-
  From the rows' own reading to this logic, and back, for the seat of Keys. Own text. Conditions: none.
-/
import Derived.Test.YtnogdccoekfnoaaGreatDoorCards
import Derived.Test.YtnogdccoekfnoaaGreatDoorTie
import Derived.WalkKit
import Derived.ProofKit
import Derived.OpenShut
import Derived.Lay
import Derived.Deep.DeepHandedRow
import Derived.WideKeyArr2
import Derived.Test.YtnogdccoekfnoaaGreatDoorSxLib
namespace Go.Proofs.YtnogdccoekfnoaaGreatDoor
open Go.ChangeShapes Go.WideShapes Go.ChangeAt Go.RowKit Go.Sx Go.Lib Go.ChangeMaps Go.WideMaps
theorem own : ownKnob Tryz.prog.godebug = none := by kernel_rfl
/-- The whole memory, as what stays. -/
def HW (W : World) : Heap := fun b => W.heap[b]?
theorem HW.ready (W : World) : Ready (HW W) [] W := ⟨fun _ _ h => h, by simp, by simp, by simp⟩
theorem HW.below {W w' : World} {I' : Heap} {H' : HL} (h : St W [] (HW W) I' H' w') : Below W.heap.size W w' := ⟨h.os, h.tape, h.output, h.size, fun b hb => h.frm b hb (by simp)⟩
theorem HW.calls {f : FuncId} {args : List Value} {W : World} {v : Value} (h : Sx.Pure Tryz.prog f args (HW W) v) : Calls Tryz.prog f args.toArray W fun e w' => e = .returned v ∧ Below W.heap.size W w' :=
  (h.2 W (HW.ready W)).mono fun _e _w' ⟨_I', _H', hs, h1, _, _⟩ => ⟨h1, HW.below hs⟩
/-- A post out of a growth: nothing that was there has turned; what is new may be frozen. -/
theorem post_grow {H : Type} {enc : TypeId × Value → H} {P : Program} {f : Func} {s : ChangeSpec} {apart fresh handsOn again : Bool} {W W' : World} {args : Array Value} {v : Value} {ds gs : List (DataW H)} {before pa pv : List MemPlace}
    (hB : Below W.heap.size W W') (hW : DataW.Whole enc P f.params.toList s.vars apart W args.toList ds gs before) (hps : before = pa ++ pv)
    (hres : ∀ (b : Nat) (sp : Nat → Bool) (hd : Bool), DataW.TrodAll enc P W' b sp hd f.resultTypes.toList (v.resultList f.resultTypes.size) (s.fn H (ds ++ gs)).results [])
    (hargs : ∀ sp : Nat → Bool, (∀ p ∈ before, sp p.block = true) → DataW.TrodAll enc P W' 0 sp true f.params.toList args.toList (s.fn H (ds ++ gs)).args pa)
    (hvars : ∀ sp : Nat → Bool, (∀ p ∈ before, sp p.block = true) → DataW.TrodVars enc P W' sp s.vars (s.fn H (ds ++ gs)).vars pv)
    (hok : ∀ (j : Nat) (t : TypeId) (r : Value), f.resultTypes[j]? = some t → (v.resultList f.resultTypes.size)[j]? = some r → Value.okWide P W' .any 0 t r) : s.post enc P f apart fresh handsOn again W args v W' := by
  have old : ∀ p ∈ before, p.block < W.heap.size := hW.lt
  have mem : ∀ p, p ∈ before ↔ p ∈ pa ∨ p ∈ pv := fun p => by rw [hps]; exact List.mem_append
  have both : ([] ++ pa) ++ pv = before := by rw [hps]; rfl
  refine ⟨ds, gs, before, [], pa, pv, hW, hres _ _ _, hargs _ fun p hp => decide_eq_true (old p hp), hvars _ fun p hp => decide_eq_true (old p hp), World.keptBut_mono (fun p hp => ⟨hp, .inr ((mem p).1 hp)⟩) (hB.frame (· ∈ before)), fun _ => ?_⟩
  have hrd := hargs (fun _ => true) fun _ _ => rfl
  obtain ⟨_, _, _, _, _, hfrz, hnd⟩ := hW
  refine ⟨hok, _, _, ([] ++ pa) ++ pv, ⟨[] ++ pa, pv, trodAll_append hrd (hres _ _ _), hvars _ fun _ _ => rfl, rfl, fun b off hp => ?_, fun ha => ?_⟩, fun p hp _ => ?_⟩
  · have hin : MemPlace.cell b off ∈ before := both ▸ hp
    have hlt : b < W.heap.size := old _ hin
    have hf := hfrz b off hin
    unfold World.frozen? at hf ⊢
    rw [hB.block b hlt]
    exact hf
  · exact both ▸ hnd ha
  · exact both ▸ hp
def Again {H : Type} (enc : TypeId × Value → H) (W : World) (t : TypeId) (v : Value) (d : DataW H) (p : List MemPlace) : Prop :=
  ∀ W', Below W.heap.size W W' → ∀ sp : Nat → Bool, (∀ q ∈ p, sp q.block = true) → DataW.Trod enc Tryz.prog W' 0 sp true t v d p
theorem lt_of_cell {W : World} {a : Addr} {v : Value} (h : W.cell? a = some v) : a.block < W.heap.size := by
  unfold World.cell? at h
  rcases Nat.lt_or_ge a.block W.heap.size with h' | h'
  · exact h'
  · rw [Array.getElem?_eq_none h'] at h; cases h
theorem row_block {a : Addr} {n : Nat} (h : 0 < n) : ∃ q ∈ MemPlace.row a n, q.block = a.block :=
  ⟨.cell a.block (a.off + 0), List.mem_map.2 ⟨0, List.mem_range.2 h, rfl⟩, rfl⟩
section
variable {H : Type} {enc : TypeId × Value → H} {W : World} {base : Nat}
set_option maxRecDepth 100000 in
theorem arg_string {t : TypeId} {v : Value} {d : DataW H} {p : List MemPlace} (ht : Tryz.prog.underlying t = some .string) (hval : Value.okWide Tryz.prog W .any base t v) (h : DataW.Trod enc Tryz.prog W 0 (fun _ => true) true t v d p) :
    ∃ s : List UInt8, v = str s ∧ d = .lit (.string s) ∧ p = [] ∧ Again enc W t v d p := by
  obtain ⟨s, rfl, rfl, rfl, ws⟩ := open_string ht hval h
  exact ⟨s.data.toList, by cases s; simp [str], rfl, rfl, fun W' _ sp _ => shut_string ht ws⟩
theorem u8_of {n : Int} (h : (Lit.int .u8 n).wf = true) : ∃ c : UInt8, n = (c.toNat : Int) := by
  simp [Lit.wf, IntKind.min, IntKind.max, IntKind.signed, IntKind.bits] at h
  refine ⟨UInt8.ofNatLT n.toNat (by show n.toNat < 256; omega), ?_⟩
  rw [UInt8.toNat_ofNatLT]
  omega
set_option maxRecDepth 100000 in
theorem arg_u8 {t : TypeId} {v : Value} {d : DataW H} {p : List MemPlace} (ht : Tryz.prog.underlying t = some (.int .u8)) (hval : Value.okWide Tryz.prog W .any base t v) (h : DataW.Trod enc Tryz.prog W 0 (fun _ => true) true t v d p) :
    ∃ c : UInt8, v = u8 c ∧ d = .lit (.int .u8 (c.toNat : Int)) ∧ p = [] ∧ Again enc W t v d p := by
  obtain ⟨n, rfl, rfl, rfl, hw⟩ := open_int ht hval h
  obtain ⟨c, rfl⟩ := u8_of hw
  exact ⟨c, rfl, rfl, rfl, fun W' _ sp _ => shut_int ht hw⟩
set_option maxRecDepth 100000 in
theorem arg_bool {t : TypeId} {v : Value} {d : DataW H} {p : List MemPlace} (ht : Tryz.prog.underlying t = some .bool) (hval : Value.okWide Tryz.prog W .any base t v) (h : DataW.Trod enc Tryz.prog W 0 (fun _ => true) true t v d p) :
    ∃ b : Bool, v = .bool b ∧ d = .lit (.bool b) ∧ p = [] ∧ Again enc W t v d p := by
  obtain ⟨b, rfl, rfl, rfl⟩ := open_bool ht hval h
  exact ⟨b, rfl, rfl, rfl, fun W' _ sp _ => shut_bool ht b⟩
theorem wf_u8 (c : UInt8) : (Lit.int .u8 (c.toNat : Int)).wf = true := by
  have := c.toNat_lt
  simp [Lit.wf, IntKind.min, IntKind.max, IntKind.signed, IntKind.bits]; omega
abbrev litB (c : UInt8) : DataW H × List MemPlace := (.lit (.int .u8 (c.toNat : Int)), [])
theorem mapM_bytes {e : TypeId} (he : Tryz.prog.underlying e = some (.int .u8)) {m : Nat} (F : Nat → List Value) : ∀ (L : List Nat) (ys : List (DataW H × List MemPlace)), (L.mapM fun i => DataW.trod enc Tryz.prog W 0 (fun _ => true) true m e (F i)) = some ys →
    ∃ cs : List UInt8, L.map F = cs.map (fun c => [u8 c]) ∧ ys = cs.map litB
  | [], ys, h => by simp at h; exact ⟨[], rfl, h.symm ▸ rfl⟩
  | i :: L, ys, h => by
    rw [List.mapM_cons] at h
    simp only [Option.bind_eq_bind, Option.bind_eq_some_iff, Option.pure_def, Option.some.injEq] at h
    obtain ⟨y, hy, zs, hz, rfl⟩ := h
    obtain ⟨cs, h1, rfl⟩ := mapM_bytes he F L zs hz
    obtain ⟨a, ha, rfl, hw⟩ := DataW.trod_int he hy
    obtain ⟨c, rfl⟩ := u8_of hw
    exact ⟨c :: cs, by rw [List.map_cons, List.map_cons, h1, ha], rfl⟩
theorem mapM_back {e : TypeId} (he : Tryz.prog.underlying e = some (.int .u8)) (W' : World) {sp : Nat → Bool} (F : Nat → List Value) : ∀ (L : List Nat) (cs : List UInt8), L.map F = cs.map (fun c => [u8 c]) →
    (L.mapM fun i => DataW.trod enc Tryz.prog W' 0 sp true 1 e (F i)) = some (cs.map litB)
  | [], [], _ => rfl
  | i :: L, c :: cs, h => by
    rw [List.map_cons, List.map_cons, List.cons.injEq] at h
    rw [List.mapM_cons, mapM_back he W' F L cs h.2, h.1]
    simp [DataW.trod, he, wf_u8]
  | [], _ :: _, h => by cases h
  | _ :: _, [], h => by cases h
set_option maxRecDepth 100000 in
theorem arg_bytesN {n : Nat} {t e : TypeId} {v : Value} {d : DataW H} {p : List MemPlace} (ht : Tryz.prog.underlying t = some (.array n e)) (he : Tryz.prog.underlying e = some (.int .u8)) (hce : Tryz.prog.cellsOf e = 1) (hct : Tryz.prog.cellsOf t = n)
    (hpl : Tryz.prog.plainKey e = true) (hval : Value.okWide Tryz.prog W .any base t v) (h : DataW.Trod enc Tryz.prog W 0 (fun _ => true) true t v d p) :
    ∃ l : List UInt8, v = .agg (bcs l).toArray ∧ l.length = n ∧ p = [] ∧ Again enc W t v d p := by
  obtain ⟨xs, rfl, hx⟩ := okWide_arr ⟨ht, hpl, hce, hct⟩ hval
  obtain ⟨fu, hf⟩ := h
  cases fu with
  | zero => simp [DataW.trod] at hf
  | succ m =>
    rw [DataW.trod_step] at hf
    unfold DataW.trodStep at hf
    simp only [ht, Value.cells] at hf
    rw [if_pos (by rw [hct]; simpa using hx)] at hf
    rw [hce] at hf
    simp only [Nat.mul_one, Option.map_eq_some_iff] at hf
    obtain ⟨ys, hy, e1⟩ := hf
    obtain ⟨cs, h1, rfl⟩ := mapM_bytes he (fun i => List.take 1 (List.drop i xs.toList)) (List.range n) ys hy
    have hlen : cs.length = n := by have := congrArg List.length h1; simpa using this.symm
    have hxl : xs.toList.length = n := by simpa using hx
    have hxs0 : xs.toList = bcs cs := by
      apply List.ext_getElem?
      intro i
      rcases Nat.lt_or_ge i n with hi | hi
      · have h2 := congrArg (fun l => l[i]?) h1
        simp only [List.getElem?_map, List.getElem?_range hi, Option.map_some] at h2
        rw [List.getElem?_eq_getElem (by omega : i < cs.length), Option.map_some, Option.some.injEq] at h2
        have h3 := congrArg (fun l => l[0]?) h2
        simp only [List.getElem?_take, List.getElem?_drop] at h3
        rw [bcs, List.getElem?_map, List.getElem?_eq_getElem (by omega : i < cs.length)]
        simpa using h3
      · rw [List.getElem?_eq_none (by omega), List.getElem?_eq_none (by rw [bcs_len]; omega)]
    have hxs : xs = (bcs cs).toArray := by rw [← hxs0]
    subst hxs
    simp only [Prod.mk.injEq] at e1
    obtain ⟨rfl, rfl⟩ := e1
    refine ⟨cs, rfl, hlen, by simp [List.flatMap_eq_nil_iff], fun W' _ sp _ => ⟨2, ?_⟩⟩
    rw [DataW.trod_step]
    unfold DataW.trodStep
    simp only [ht, Value.cells]
    rw [if_pos (by rw [hct]; simpa using hx), hce]
    simp only [Nat.mul_one]
    rw [mapM_back he W' (fun i => List.take 1 (List.drop i (bcs cs).toArray.toList)) (List.range n) cs h1]
    rfl
end
theorem two_of {l : List UInt8} (h : l.length = 2) : ∃ a b, l = [a, b] := by
  match l, h with
  | [a, b], _ => exact ⟨a, b, rfl⟩
theorem four_of {l : List UInt8} (h : l.length = 4) : ∃ a b c d, l = [a, b, c, d] := by
  match l, h with
  | [a, b, c, d], _ => exact ⟨a, b, c, d, rfl⟩
/-- The witness: the settled world in which the listed tables are laid. -/
theorem witness_laid {H : Type} {enc : TypeId × Value → H} (os : Os) {f : FuncId} {fn : Func} {s : OpenSpec} {conds : List PathCond} {apart : Bool} {laid : List (String × DataW Unit)} (args : Array Value)
    (hv : ((World.laidAll Tryz.prog os laid).forCall (fun _ _ => 0) ⟨#[], args, []⟩).variablesZipB Tryz.prog = true)
    (hr : (((World.laidAll Tryz.prog os laid).forCall (fun _ _ => 0) ⟨#[], args, []⟩).heap.toList.drop Tryz.prog.globals.size).take ((begin Tryz.prog (fun _ _ => 0) default).world.heap.size - Tryz.prog.globals.size) = (begin Tryz.prog (fun _ _ => 0) default).world.heap.toList.drop Tryz.prog.globals.size)
    (hok : Input.okWideB Tryz.prog ((World.laidAll Tryz.prog os laid).forCall (fun _ _ => 0) ⟨#[], args, []⟩) f ⟨#[], args, []⟩ = true)
    (hrow : s.preRow enc Tryz.prog fn conds apart laid ((World.laidAll Tryz.prog os laid).forCall (fun _ _ => 0) ⟨#[], args, []⟩).memory args) :
    ∃ (w : World) (tape : Tape) (i : Input), w.os = os ∧ (w.forCall tape i).Shaped Tryz.prog ∧ i.vars = [] ∧ Input.okWide Tryz.prog (w.forCall tape i) .any w.heap.size f i ∧
      s.preRow enc Tryz.prog fn conds apart laid (w.forCall tape i).memory i.args ∧ ({} : Assume).holds Tryz.prog (lone (Frame.enter Tryz.prog f i.args .normal) [] (w.forCall tape i)) :=
  ⟨World.laidAll Tryz.prog os laid, fun _ _ => 0, ⟨#[], args, []⟩, World.laidAll_os _ _ _, World.shaped_of_ZipB hv hr, (Input.okWide_of_okWideB (base := 0) hok).1, (Input.okWide_of_okWideB hok).2, hrow, by
    simp only [Assume.holds]
    exact ⟨by simp, by simp, by simp, by simp, by simp⟩⟩
end Go.Proofs.YtnogdccoekfnoaaGreatDoor
