/-
  Maps whose keys are integers or texts. Own text. Conditions: none.
-/
import Derived.Test.YtnogdccoekfnoaaGreatDoorSxRange
namespace Go.Sx
open Go
/-- Keys of one kind, told apart at once. -/
def KeyK (P : Program) (K : TypeId) {α : Type} [BEq α] (kv : α → Value) : Prop :=
  ∃ d, P.underlying K = some d ∧ (∀ a b, Instr.sameNow d (kv a) (kv b) = some (a == b)) ∧ (∀ b a w, (Instr.checkKey b 10000 K (kv a)).run P w = .ok () w) ∧ ∀ a, Instr.sameBits 10000 (kv a) (kv a) = true
theorem KeyK.int {P : Program} {K : TypeId} {k : IntKind} (hu : P.underlying K = some (.int k)) : KeyK P K (fun a : Int => Value.int k a) := by
  refine ⟨_, hu, fun a b => by simp [Instr.sameNow], fun b a w => ?_, fun a => ?_⟩
  · have h : ∀ n, (Instr.checkKey b (n + 1) K (.int k a)).run P w = .ok () w := fun n => by simp [Instr.checkKey, run_underlying hu]
    exact h 9999
  · have h : ∀ n, Instr.sameBits (n + 1) (.int k a) (.int k a) = true := fun n => by simp [Instr.sameBits]
    exact h 9999
theorem KeyK.text {P : Program} {K : TypeId} (hu : P.underlying K = some .string) : KeyK P K (fun a : List UInt8 => str a) := by
  refine ⟨_, hu, fun a b => ?_, fun b a w => run_checkKey hu b a w, fun a => ?_⟩
  · simp only [Instr.sameNow, str, Option.some.injEq]
    show (a.toArray == b.toArray) = (a == b)
    simp
  · have h : ∀ n, Instr.sameBits (n + 1) (str a) (str a) = true := fun n => by
      simp only [Instr.sameBits, str]
      show (a.toArray == a.toArray) = true
      simp
    exact h 9999
theorem run_findKey {P : Program} {K : TypeId} {w : World} {d : TypeDesc} (hu : P.underlying K = some d) {k : Value} {es : List MapEntry} {r : Option (Nat × Value)} (h : Instr.findNow d k es 0 = some r) : (Instr.findKey K k es).run P w = .ok r w := by
  simp [Instr.findKey, run_underlying hu, h]
section
variable {α : Type} [BEq α] [LawfulBEq α]
/-- A map's entries: key, value, and when it was put. -/
abbrev ML (α : Type) := List (α × Value × Nat)
def mobj (kv : α → Value) (l : ML α) (c : Nat) : Obj := .map (l.map fun p => ({ key := kv p.1, val := p.2.1, born := p.2.2 } : MapEntry)).toArray c
def mget (l : ML α) (a : α) : Option Value := match l with
  | [] => none
  | (b, v, _) :: r => if a == b then some v else mget r a
def mset (l : ML α) (a : α) (v : Value) (c : Nat) : ML α := match l with
  | [] => [(a, v, c)]
  | (b, u, n) :: r => if a == b then (b, v, n) :: r else (b, u, n) :: mset r a v c
def mclk (l : ML α) (a : α) (c : Nat) : Nat := if (mget l a).isSome then c else c + 1
theorem findNow_none {kv : α → Value} {d : TypeDesc} (hs : ∀ a b, Instr.sameNow d (kv a) (kv b) = some (a == b)) {a : α} : ∀ (l : ML α) (i : Nat), mget l a = none → Instr.findNow d (kv a) (l.map fun p => ({ key := kv p.1, val := p.2.1, born := p.2.2 } : MapEntry)) i = some none ∧ ∀ v c, mset l a v c = l ++ [(a, v, c)]
  | [], _, _ => ⟨rfl, fun _ _ => rfl⟩
  | (b, u, n) :: r, i, h => by
    unfold mget at h
    split at h
    · cases h
    · rename_i hne
      obtain ⟨h1, h2⟩ := findNow_none hs r (i + 1) h
      have hb : (a == b) = false := by simpa using hne
      refine ⟨?_, fun v c => ?_⟩
      · simp only [List.map_cons, Instr.findNow, hs, hb]; exact h1
      · simp only [mset, hb, Bool.false_eq_true, if_false, h2, List.cons_append]
theorem findNow_some {kv : α → Value} {d : TypeDesc} (hs : ∀ a b, Instr.sameNow d (kv a) (kv b) = some (a == b)) {a : α} {v : Value} : ∀ (l : ML α) (i : Nat), mget l a = some v →
    ∃ j u n, Instr.findNow d (kv a) (l.map fun p => ({ key := kv p.1, val := p.2.1, born := p.2.2 } : MapEntry)) i = some (some (i + j, v)) ∧ l[j]? = some (a, u, n) ∧ ∀ x c, mset l a x c = l.set j (a, x, n)
  | [], _, h => by cases h
  | (b, u, n) :: r, i, h => by
    unfold mget at h
    split at h
    · rename_i he
      have he' := eq_of_beq he
      subst he'
      cases h
      exact ⟨0, v, n, by simp [Instr.findNow, hs], rfl, fun x c => by simp [mset]⟩
    · rename_i hne
      have hb : (a == b) = false := by simpa using hne
      obtain ⟨j, u', n', h1, h2, h3⟩ := findNow_some hs r (i + 1) h
      refine ⟨j + 1, u', n', ?_, by simpa using h2, fun x c => by simp [mset, hb, h3]⟩
      simp only [List.map_cons, Instr.findNow, hs, hb]
      rw [h1, Nat.add_assoc, Nat.add_comm 1 j]
variable {cx : Cx} {Q : Qt} {e : Env} {I : Heap} {H : HL} {o : Oper} {C : Ct} {S : World → Prop}
theorem run_mapUpdate {P : Program} {T K E b c : Nat} {kv : α → Value} {l : ML α} {a : α} {v : Value} {w : World} (hT : P.underlying T = some (.map K E)) (hk : KeyK P K kv) (hb : w.heap[b]? = some (mobj kv l c)) :
    (Instr.mapUpdate T (.map (some b)) (kv a) v).run P w = .ok () (World.block w b (mobj kv (mset l a v c) (mclk l a c))) := by
  obtain ⟨d, hu, hs, hc, hbits⟩ := hk
  have hg : (getObj b).run P w = .ok (mobj kv l c) w := by simp [getObj, Sem.run, hb, mobj]
  have hset : ∀ o', (setObj b o').run P w = .ok () (World.block w b o') := fun o' => by simp [setObj, Sem.run, hb, World.block, mobj]
  cases hm : mget l a with
  | none =>
    obtain ⟨h1, h2⟩ := findNow_none hs l 0 hm
    have h3 : (Instr.findKey K (kv a) (l.map fun p => ({ key := kv p.1, val := p.2.1, born := p.2.2 } : MapEntry))).run P w = .ok none w := run_findKey hu h1
    simp only [Instr.mapUpdate, Sem.run_bind, run_underlying hT, Result.andThen_ok, hg, mobj, hc, h3, hset, h2, mclk, hm]
    simp
  | some u =>
    obtain ⟨j, u', n, h1, h2, h3⟩ := findNow_some hs l 0 hm
    rw [Nat.zero_add] at h1
    have h4 : (Instr.findKey K (kv a) (l.map fun p => ({ key := kv p.1, val := p.2.1, born := p.2.2 } : MapEntry))).run P w = .ok (some (j, u)) w := run_findKey hu h1
    have hj : (l.map fun p => ({ key := kv p.1, val := p.2.1, born := p.2.2 } : MapEntry)).toArray[j]? = some { key := kv a, val := u', born := n } := by simp [h2]
    have hkeep : ∀ w, (Instr.keyThatStays (kv a) (kv a)).run P w = .ok (kv a) w := fun w => by simp [Instr.keyThatStays, hbits]
    simp only [Instr.mapUpdate, Sem.run_bind, run_underlying hT, Result.andThen_ok, hg, mobj, hc, h4, hj, Option.map_some, Option.getD_some, hkeep, hset, h3, mclk, hm]
    simp only [Option.isSome_some, if_true]
    refine congrArg (fun A => Result.ok () (World.block w b (Obj.map A c))) ?_
    apply Array.ext_getElem?
    intro i
    rw [Array.getElem?_modify]
    simp only [List.getElem?_toArray, List.getElem?_map, List.getElem?_set]
    by_cases hi : j = i
    · subst hi
      have hlt : j < l.length := by
        rcases Nat.lt_or_ge j l.length with h' | h'
        · exact h'
        · simp [List.getElem?_eq_none h'] at h2
      have h5 : l[j] = (a, u', n) := by
        have := List.getElem?_eq_getElem hlt
        rw [h2] at this; exact (Option.some.inj this).symm
      simp [hlt, h5]
    · simp [hi]
theorem op_insert {T K E b c : Nat} {m x y : Operand} {kv : α → Value} {l : ML α} {a : α} {kx v : Value} {H' : HL} (i : Nat) (ho : o.op = .insert T m x y ∨ o.op = .mapUpdate T m x y) (hd : o.dst = none) (hm : ev e m = some (.map (some b))) (hx : ev e x = some kx) (hkx : kx = kv a) (hy : ev e y = some v) (hT : cx.P.underlying T = some (.map K E)) (hK : KeyK cx.P K kv)
    (hH : H[i]? = some (b, mobj kv l c)) (hH' : LSet H i (b, mobj kv (mset l a v c) (mclk l a c)) H') (kk : C e I H') : OpJ cx Q o e I H C := by
  intro Kk hKk w0 w ha hs
  unfold Oper.wp
  subst hkx
  have hb := hs.own _ (List.mem_of_getElem? hH)
  have hr := run_mapUpdate (a := a) (v := v) hT hK hb
  have : (execOp w0.eval o).run cx.P w = .ok .skip (World.block w b (mobj kv (mset l a v c) (mclk l a c))) := by
    rcases ho with ho | ho <;> simp [execOp, ho, ha.eval hm, ha.eval hx, ha.eval hy, hr]
  rw [this]
  simp only [Oper.upon, hd]
  exact hKk _ _ _ kk _ _ ha.putNone (hs.block hH hH')
theorem run_lookup {P : Program} {T K E b c : Nat} {kv : α → Value} {l : ML α} {a : α} {z : Value} {w : World} {ok : Bool} (hT : P.underlying T = some (.map K E)) (hk : KeyK P K kv) (hz : ∀ w, (zeroValue E).run P w = .ok z w) (hb : w.heap[b]? = some (mobj kv l c)) :
    (Instr.lookup T (.map (some b)) (kv a) ok).run P w = .ok (if ok then .tuple #[(mget l a).getD z, .bool (mget l a).isSome] else (mget l a).getD z) w := by
  obtain ⟨d, hu, hs, hc, hbits⟩ := hk
  have hg : (getObj b).run P w = .ok (mobj kv l c) w := by simp [getObj, Sem.run, hb, mobj]
  cases hm : mget l a with
  | none =>
    have h3 : (Instr.findKey K (kv a) (l.map fun p => ({ key := kv p.1, val := p.2.1, born := p.2.2 } : MapEntry))).run P w = .ok none w := run_findKey hu (findNow_none hs l 0 hm).1
    simp only [Instr.lookup, Sem.run_bind, run_underlying hT, Result.andThen_ok, hg, mobj, Sem.run_pure, hc, h3, hz]
    simp
  | some u =>
    obtain ⟨j, u', n, h1, h2, h3⟩ := findNow_some hs l 0 hm
    have h4 : (Instr.findKey K (kv a) (l.map fun p => ({ key := kv p.1, val := p.2.1, born := p.2.2 } : MapEntry))).run P w = .ok (some (0 + j, u)) w := run_findKey hu h1
    simp only [Instr.lookup, Sem.run_bind, run_underlying hT, Result.andThen_ok, hg, mobj, Sem.run_pure, hc, h4]
    simp
theorem yl_lookup2 {T K E b c : Nat} {m x : Operand} {kv : α → Value} {l : ML α} {a : α} {kx z : Value} (ho : o.op = .lookup T m x true) (hm : ev e m = some (.map (some b))) (hx : ev e x = some kx) (hkx : kx = kv a) (hT : cx.P.underlying T = some (.map K E)) (hK : KeyK cx.P K kv) (hz : ∀ w, (zeroValue E).run cx.P w = .ok z w)
    (hb : Blk S b (mobj kv l c)) : Yld cx o e S (.tuple #[(mget l a).getD z, .bool (mget l a).isSome]) := by
  intro w0 w ha hs
  subst hkx
  have hr := run_lookup (a := a) (ok := true) hT hK hz (hb w hs)
  simp only [execOp, ho, Sem.run_bind, ha.eval hm, ha.eval hx, hr, Result.andThen_ok, Sem.run_pure, if_true]
theorem yl_lookup1 {T K E b c : Nat} {m x : Operand} {kv : α → Value} {l : ML α} {a : α} {kx z : Value} (ho : o.op = .lookup T m x false) (hm : ev e m = some (.map (some b))) (hx : ev e x = some kx) (hkx : kx = kv a) (hT : cx.P.underlying T = some (.map K E)) (hK : KeyK cx.P K kv) (hz : ∀ w, (zeroValue E).run cx.P w = .ok z w)
    (hb : Blk S b (mobj kv l c)) : Yld cx o e S ((mget l a).getD z) := by
  intro w0 w ha hs
  subst hkx
  have hr := run_lookup (a := a) (ok := false) hT hK hz (hb w hs)
  simp only [execOp, ho, Sem.run_bind, ha.eval hm, ha.eval hx, hr, Result.andThen_ok, Sem.run_pure, if_false, Bool.false_eq_true]
end
end Go.Sx
