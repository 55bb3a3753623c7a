/-
  Own texts on the laws of match, joined: the logic, and contracts of functions. Conditions: none.
-/
import Derived.Test.YtadnofaleepkmaaGreatDoorPB7
import Derived.Maps.RangeRun
import Derived.Laws.StructEq
section
namespace Go.Sx
open Go
section
variable {cx : Cx} {Q : Qt} {o : Oper} {e : Env} {I : Heap} {H : HL} {C : Ct} {S : World → Prop} {α : Type} [BEq α] [LawfulBEq α]
/-- An iterator that has handed out some entries. -/
def mit (m since : Nat) (vis : ML α) (last : Nat) : Obj := .mapIter (some m) since (vis.map (·.2.2)).toArray last
omit [BEq α] [LawfulBEq α] in
theorem op_rangeMap {T K E d m c : Nat} {x : Operand} {kv : α → Value} {l : ML α} (ho : o.op = .range T x) (hd : o.dst = some d) (hn : Nat.blt d cx.n = true) (hx : ev e x = some (.map (some m))) (hu : cx.P.underlying T = some (.map K E)) (hb : Blk (SS I H) m (mobj kv l c))
    (k : ∀ b, cx.w0.heap.size ≤ b → C ((d, ptr b 0) :: e) I ((b, mit m c ([] : ML α) c) :: H)) : OpJ cx Q o e I H C := by
  intro Kk hK a w ha hs
  unfold Oper.wp
  have : (execOp a.eval o).run cx.P w = .ok (.value (ptr w.heap.size 0)) { w with heap := w.heap.push (mit m c ([] : ML α) c) } := by
    have hr := run_range_map (P := cx.P) w T K E m _ c hu (hb w hs.ss)
    simp only [execOp, ho, ha.eval hx, Sem.run_bind, hr, Result.andThen_ok, Sem.run_pure]
    rfl
  rw [this]
  simp only [Oper.upon, hd]
  exact hK _ _ _ (k _ hs.size) _ _ (ha.put hn) (hs.alloc _)
omit [BEq α] [LawfulBEq α] in
/-- The next entry, whichever it is; or the end. -/
theorem op_nextMap {d b m since last c : Nat} {x : Operand} {kv : α → Value} {l vis rest : ML α} (i : Nat) (ho : o.op = .next x false) (hd : o.dst = some d) (hn : Nat.blt d cx.n = true) (hx : ev e x = some (ptr b 0)) (hH : H[i]? = some (b, mit m since vis last)) (hm : Blk (SS I H) m (mobj kv l c))
    (hold : ∀ p ∈ l, p.2.2 < since) (hsc : since ≤ last) (hnd : (l.map (·.2.2)).Nodup) (hp : (vis ++ rest).Perm l)
    (k1 : ∀ (p : α × Value × Nat) (r : ML α) (H' : HL), rest.Perm (p :: r) → (vis ++ [p] ++ r).Perm l → LSet H i (b, mit m since (vis ++ [p]) c) H' → C ((d, .tuple #[.bool true, kv p.1, p.2.1]) :: e) I H')
    (k0 : rest = [] → C ((d, .tuple #[.bool false]) :: e) I H) : OpJ cx Q o e I H C := by
  intro Kk hK a w ha hs
  unfold Oper.wp
  have hb := hs.own _ (List.mem_of_getElem? hH)
  have hmw := hm w hs.ss
  have hrun := run_next_at (P := cx.P) w o.type b m since last _ _ c hb hmw (by
    intro y hy
    simp only [List.mem_map] at hy
    obtain ⟨p, hp, rfl⟩ := hy
    exact hold p hp) hsc
  have hnd2 : ((vis ++ rest).map (·.2.2)).Nodup := (hp.map _).nodup_iff.2 hnd
  have hexec : (execOp a.eval o).run cx.P w = ((Instr.next (.pointer (some ⟨b, 0, none⟩)) false o.type).run cx.P w).andThen fun v w' => .ok (.value v) w' := by
    simp only [execOp, ho, ha.eval hx, Sem.run_bind]
    rfl
  have hin : ∀ p : α × Value × Nat, p ∈ l → ((vis.map (·.2.2)).toArray.contains p.2.2 = true ↔ p ∈ vis) := fun p hpl => by
    have hpm : p ∈ vis ++ rest := hp.mem_iff.2 hpl
    rw [Array.contains_iff_mem]
    simp only [List.mem_toArray, List.mem_map]
    constructor
    · rintro ⟨q, hq, he⟩
      rcases List.mem_append.1 hpm with h | h
      · exact h
      · rw [List.map_append, List.nodup_append] at hnd2
        exact absurd he (hnd2.2.2 _ (List.mem_map_of_mem hq) _ (List.mem_map_of_mem h))
    · exact fun h => ⟨p, h, rfl⟩
  rcases hrun with ⟨h0, hr⟩ | ⟨en, hen, w1, hw1, hr⟩
  · rw [hexec, hr]
    simp only [Result.andThen_ok, Oper.upon, hd]
    refine hK _ _ _ (k0 ?_) _ _ (ha.put hn) hs
    rcases rest with _ | ⟨p, r⟩
    · rfl
    · exfalso
      have hpl : p ∈ l := hp.mem_iff.1 (List.mem_append_right _ (.head _))
      have hpv : p ∉ vis := fun h => by
        rw [List.map_append, List.nodup_append] at hnd2
        exact hnd2.2.2 _ (List.mem_map_of_mem h) _ (List.mem_map_of_mem (.head _)) rfl
      have : ment kv p ∈ leftOf (l.map (ment kv)).toArray (vis.map (·.2.2)).toArray := by
        unfold leftOf
        rw [Array.mem_filter]
        refine ⟨by simp only [List.mem_toArray]; exact List.mem_map_of_mem hpl, ?_⟩
        have := (not_congr (hin p hpl)).2 hpv
        simp only [Bool.not_eq_true] at this
        show (!Array.contains _ p.2.2) = true
        rw [this]; rfl
      have h1 := Array.eq_empty_of_size_eq_zero h0
      rw [h1] at this
      simp at this
  · rw [hexec, hr]
    simp only [Result.andThen_ok, Oper.upon, hd]
    have hen2 : en ∈ leftOf (l.map (ment kv)).toArray (vis.map (·.2.2)).toArray := by simpa using hen
    unfold leftOf at hen2
    rw [Array.mem_filter] at hen2
    obtain ⟨hel, hns⟩ := hen2
    simp only [List.mem_toArray, List.mem_map] at hel
    obtain ⟨p, hpl, rfl⟩ := hel
    have hpv : p ∉ vis := fun h => by
      have := (hin p hpl).2 h
      change (!Array.contains _ p.2.2) = true at hns
      rw [this] at hns; cases hns
    have hpr : p ∈ rest := (List.mem_append.1 (hp.mem_iff.2 hpl)).resolve_left hpv
    obtain ⟨r1, r2, hrr⟩ := List.append_of_mem hpr
    have hperm : rest.Perm (p :: (r1 ++ r2)) := by rw [hrr]; exact List.perm_middle
    have hperm2 : (vis ++ [p] ++ (r1 ++ r2)).Perm l := by
      refine List.Perm.trans ?_ hp
      rw [List.append_assoc]
      exact List.Perm.append_left _ hperm.symm
    have hset : LSet H i (b, mit m since (vis ++ [p]) c) (H.set i (b, mit m since (vis ++ [p]) c)) := ⟨(List.getElem?_eq_some_iff.1 hH).1, rfl⟩
    have hk := k1 p (r1 ++ r2) _ hperm hperm2 hset
    have hst : St cx.w0 cx.D cx.I0 I (H.set i (b, mit m since (vis ++ [p]) c)) (ChangeMaps.setBlock w1 b (.mapIter (some m) since ((vis.map (·.2.2)).toArray.push p.2.2) c)) := by
      have he : (.mapIter (some m) since ((vis.map (·.2.2)).toArray.push p.2.2) c : Obj) = mit m since (vis ++ [p]) c := by simp [mit]
      rw [show (ment kv p).born = p.2.2 from rfl] at *
      rw [he]
      rcases hw1 with rfl | rfl
      · exact hs.block hH hset
      · exact (hs.drewN (w.drawn + 1)).block hH hset
    exact hK _ _ _ hk _ _ (ha.put hn) hst
omit [BEq α] [LawfulBEq α] in
/-- The number of a map's entries. -/
theorem yl_lenMap {x : Operand} {T K E b c : Nat} {kv : α → Value} {l : ML α} (ho : o.op = .call ⟨.builtin .len, #[x], #[T]⟩) (hx : ev e x = some (.map (some b))) (hu : cx.P.underlying T = some (.map K E)) (hb : Blk S b (mobj kv l c)) : Yld cx o e S (i64 (l.length : Int)) := by
  intro a w ha hs
  have h := hb w hs
  simp [execOp, ho, resolve, invoke, builtin, Builtin.len_, ha.eval hx, run_underlying hu, goInt, getObj, Sem.run, h, mobj]
end
end Go.Sx
namespace Go.Sx
open Go
section
variable {P : Program} {K i : TypeId} {f0 f1 : Field}
theorem run_part0 {xs : Array Value} {t off : Nat} {v : Value} {w : World} (ha : ∀ w, (isAgg t).run P w = .ok false w) (hv : xs[off]? = some v) : (part t xs off).run P w = .ok v w := by
  simp [part, ha, hv]
theorem stru_equal2 (hu : P.underlying K = some (.struct #[f0, f1])) (hp : P.stoodInHeld K = false) (n0 : f0.name ≠ "_") (n1 : f1.name ≠ "_") (o0 : f0.offset = 0) (o1 : f1.offset = 1) (a0 : ∀ w, (isAgg f0.type).run P w = .ok false w) (a1 : ∀ w, (isAgg f1.type).run P w = .ok false w)
    {x0 x1 y0 y1 : Value} {b0 b1 : Bool} (w : World) (e0 : ∀ d w, (Op.equalIn (d + 1) f0.type x0 y0).run P w = .ok b0 w) (e1 : ∀ d w, (Op.equalIn (d + 1) f1.type x1 y1).run P w = .ok b1 w) : ∀ d, (Op.equalIn (d + 2) K (.agg #[x0, x1]) (.agg #[y0, y1])).run P w = .ok (b0 && b1) w := by
  intro d
  have hf : P.fieldsOf K = #[f0, f1] := by simp [Program.fieldsOf, hu]
  rw [run_equalIn_struct w (d + 1) K _ _ (by rw [hf]; exact hu) hp, hf]
  have p0 : ∀ (a b : Value) w, (part f0.type #[a, b] f0.offset).run P w = .ok a w := fun a b w => run_part0 a0 (by rw [o0]; rfl)
  have p1 : ∀ (a b : Value) w, (part f1.type #[a, b] f1.offset).run P w = .ok b w := fun a b w => run_part0 a1 (by rw [o1]; rfl)
  simp only [Op.eqFields, n0, n1, ne_eq, not_false_eq_true, if_true, Sem.run_bind, p0, e0, Result.andThen_ok]
  cases b0
  · simp
  · cases b1 <;> simp [Sem.run_bind, p1, e1]
theorem stru_check2 (hu : P.underlying K = some (.struct #[f0, f1])) (n0 : f0.name ≠ "_") (n1 : f1.name ≠ "_") (o0 : f0.offset = 0) (o1 : f1.offset = 1) (a0 : ∀ w, (isAgg f0.type).run P w = .ok false w) (a1 : ∀ w, (isAgg f1.type).run P w = .ok false w)
    {x0 x1 : Value} (b : Bool) (w : World) (e0 : ∀ d w, (Instr.checkKey b (d + 1) f0.type x0).run P w = .ok () w) (e1 : ∀ d w, (Instr.checkKey b (d + 1) f1.type x1).run P w = .ok () w) : ∀ d, (Instr.checkKey b (d + 2) K (.agg #[x0, x1])).run P w = .ok () w := by
  intro d
  have p0 : ∀ w, (part f0.type #[x0, x1] f0.offset).run P w = .ok x0 w := fun w => run_part0 a0 (by rw [o0]; rfl)
  have p1 : ∀ w, (part f1.type #[x0, x1] f1.offset).run P w = .ok x1 w := fun w => run_part0 a1 (by rw [o1]; rfl)
  have e0' := e0 d
  have e1' := e1 d
  generalize hc : Instr.checkKey b (d + 1) = ck at e0' e1'
  rw [show d + 2 = (d + 1) + 1 from rfl, Instr.checkKey]
  rw [hc]
  simp [Sem.run_bind, run_underlying hu, n0, n1, p0, p1, e0', e1']
theorem check_int {b : Bool} {t : TypeId} {k : IntKind} (hu : P.underlying t = some (.int k)) (a : Int) (d : Nat) (w : World) : (Instr.checkKey b (d + 1) t (.int k a)).run P w = .ok () w := by simp [Instr.checkKey, run_underlying hu]
/-- A struct of two integers as a key. -/
theorem KeyK.ints2 (hu : P.underlying K = some (.struct #[f0, f1])) (hp : P.stoodInHeld K = false) (n0 : f0.name ≠ "_") (n1 : f1.name ≠ "_") (o0 : f0.offset = 0) (o1 : f1.offset = 1) (t0 : f0.type = i) (t1 : f1.type = i) (hi : P.underlying i = some (.int .i64)) (ha : ∀ w, (isAgg i).run P w = .ok false w) :
    KeyK P K (fun a : Int × Int => .agg #[i64 a.1, i64 a.2]) := by
  subst t0
  refine KeyK.equal hu (fun a b => rfl) (fun a b w => ?_) (fun b a w => ?_) (fun a => ?_)
  · have h := stru_equal2 hu hp n0 n1 o0 o1 ha (t1 ▸ ha) (x0 := i64 a.1) (x1 := i64 a.2) (y0 := i64 b.1) (y1 := i64 b.2) w (fun d w => run_equalIn_int w d _ .i64 .i64 a.1 b.1 hi) (fun d w => run_equalIn_int w d _ .i64 .i64 a.2 b.2 (t1 ▸ hi)) 9998
    exact h
  · exact stru_check2 hu n0 n1 o0 o1 ha (t1 ▸ ha) b w (fun d w => check_int hi _ d w) (fun d w => check_int (t1 ▸ hi) _ d w) 9998
  · show Instr.sameBits (9999 + 1) _ _ = true
    simp [Instr.sameBits]
end
end Go.Sx
end
section
namespace Go.Sx
open Go
section
variable {α : Type} [BEq α] [LawfulBEq α]
/-- The keys stand once each; the stamps too, below the clock. -/
def MS (l : ML α) (c : Nat) : Prop := (l.map (·.1)).Nodup ∧ (l.map (·.2.2)).Nodup ∧ ∀ p ∈ l, p.2.2 < c
omit [BEq α] [LawfulBEq α] in
theorem MS.nil : MS ([] : ML α) 0 := ⟨.nil, .nil, fun _ h => by simp at h⟩
theorem mget_iff {l : ML α} {a : α} (h : (l.map (·.1)).Nodup) {v : Value} : mget l a = some v ↔ ∃ n, (a, v, n) ∈ l := by
  induction l with
  | nil => simp [mget]
  | cons p r ih =>
    obtain ⟨b, u, n⟩ := p
    rw [List.map_cons, List.nodup_cons] at h
    unfold mget
    by_cases hab : a = b
    · subst hab
      simp only [BEq.rfl, if_true, Option.some.injEq]
      constructor
      · rintro rfl; exact ⟨n, .head _⟩
      · rintro ⟨k, hk⟩
        rcases List.mem_cons.1 hk with e | e
        · exact (congrArg (fun x => x.2.1) e).symm
        · exact absurd (List.mem_map_of_mem (f := (·.1)) e) h.1
    · rw [if_neg (by simpa using hab), ih h.2]
      constructor
      · rintro ⟨k, hk⟩; exact ⟨k, .tail _ hk⟩
      · rintro ⟨k, hk⟩
        rcases List.mem_cons.1 hk with e | e
        · exact absurd (congrArg (·.1) e) hab
        · exact ⟨k, e⟩
theorem mget_none {l : ML α} {a : α} : mget l a = none ↔ a ∉ l.map (·.1) := by
  induction l with
  | nil => simp [mget]
  | cons p r ih =>
    obtain ⟨b, u, n⟩ := p
    unfold mget
    by_cases hab : a = b
    · subst hab; simp
    · rw [if_neg (by simpa using hab), ih]; simp [hab]
theorem mset_keys {l : ML α} {a : α} {v : Value} {c : Nat} : (mset l a v c).map (·.1) = if a ∈ l.map (·.1) then l.map (·.1) else l.map (·.1) ++ [a] := by
  induction l with
  | nil => simp [mset]
  | cons p r ih =>
    obtain ⟨d, u, n⟩ := p
    unfold mset
    by_cases had : a = d
    · subst had; simp
    · rw [if_neg (by simpa using had), List.map_cons, ih]
      by_cases h : a ∈ r.map (·.1)
      · simp [h]
      · rw [if_neg h, if_neg (by simp only [List.map_cons, List.mem_cons, not_or]; exact ⟨had, h⟩)]; rfl
theorem mset_mem {l : ML α} {a x : α} {v : Value} {c : Nat} : x ∈ (mset l a v c).map (·.1) ↔ x ∈ l.map (·.1) ∨ x = a := by
  rw [mset_keys]
  split
  · rename_i h
    exact ⟨.inl, fun g => g.elim id (fun e => e ▸ h)⟩
  · simp
theorem MS.set {l : ML α} {c : Nat} (h : MS l c) (a : α) (v : Value) : MS (mset l a v c) (mclk l a c) := by
  obtain ⟨h1, h2, h3⟩ := h
  cases hm : mget l a with
  | none =>
    obtain ⟨-, hs⟩ := midx_none l 0 hm
    have ha := mget_none.1 hm
    rw [hs, mclk, hm]
    refine ⟨?_, ?_, ?_⟩
    · rw [List.map_append, List.nodup_append]
      refine ⟨h1, by simp, fun x hx y hy e => ?_⟩
      rw [List.map_cons, List.map_nil, List.mem_singleton] at hy
      exact ha (by have : x = a := e.trans hy; exact this ▸ hx)
    · rw [List.map_append, List.nodup_append]
      refine ⟨h2, by simp, fun x hx y hy e => ?_⟩
      rw [List.map_cons, List.map_nil, List.mem_singleton] at hy
      obtain ⟨p, hp, rfl⟩ := List.mem_map.1 hx
      have := h3 p hp
      dsimp only at hy e
      omega
    · intro p hp
      simp only [Option.isSome_none, Bool.false_eq_true, if_false]
      rcases List.mem_append.1 hp with g | g
      · exact Nat.lt_succ_of_lt (h3 p g)
      · rw [List.mem_singleton] at g; subst g; exact Nat.lt_succ_self _
  | some u =>
    obtain ⟨j, u', n, -, hj, hs⟩ := midx_some l 0 hm
    have he : ∀ f : α × Value × Nat → Nat ⊕ α, f (a, v, n) = f (a, u', n) → (l.set j (a, v, n)).map f = l.map f := fun f hf => by
      apply List.ext_getElem?
      intro i
      rw [List.getElem?_map, List.getElem?_map, List.getElem?_set]
      by_cases hi : j = i
      · subst hi
        rw [if_pos rfl, hj, if_pos (List.getElem?_eq_some_iff.1 hj).1]
        simp [hf]
      · rw [if_neg hi]
    have e1 : (l.set j (a, v, n)).map (·.1) = l.map (·.1) := by
      have := congrArg (List.map (fun s : Nat ⊕ α => match s with | .inr x => x | .inl _ => a)) (he (fun p => .inr p.1) rfl)
      simpa [List.map_map, Function.comp_def] using this
    have e2 : (l.set j (a, v, n)).map (·.2.2) = l.map (·.2.2) := by
      have := congrArg (List.map (fun s : Nat ⊕ α => match s with | .inl x => x | .inr _ => 0)) (he (fun p => .inl p.2.2) rfl)
      simpa [List.map_map, Function.comp_def] using this
    rw [hs, mclk, hm]
    refine ⟨by rw [e1]; exact h1, by rw [e2]; exact h2, fun p hp => ?_⟩
    have : p.2.2 ∈ l.map (·.2.2) := e2 ▸ List.mem_map_of_mem hp
    obtain ⟨q, hq, e⟩ := List.mem_map.1 this
    exact e ▸ h3 q hq
omit [LawfulBEq α] in
theorem mset_vals {Q : Value → Prop} {l : ML α} (h : ∀ p ∈ l, Q p.2.1) {a : α} {v : Value} (hv : Q v) (c : Nat) : ∀ p ∈ mset l a v c, Q p.2.1 := by
  induction l with
  | nil => intro p hp; unfold mset at hp; rw [List.mem_singleton] at hp; subst hp; exact hv
  | cons q r ih =>
    obtain ⟨d, u, n⟩ := q
    intro p hp
    unfold mset at hp
    split at hp
    · rcases List.mem_cons.1 hp with e | e
      · subst e; exact hv
      · exact h p (.tail _ e)
    · rcases List.mem_cons.1 hp with e | e
      · subst e; exact h _ (.head _)
      · exact ih (fun x hx => h x (.tail _ hx)) p e
/-! ### A map of texts, or others, to true: a set -/
/-- The map's keys are what stands in xs. -/
def SetS (l : ML α) (c : Nat) (xs : List α) : Prop := MS l c ∧ (∀ p ∈ l, p.2.1 = .bool true) ∧ ∀ x, x ∈ l.map (·.1) ↔ x ∈ xs
omit [BEq α] [LawfulBEq α] in
theorem SetS.nil : SetS ([] : ML α) 0 [] := ⟨MS.nil, fun _ h => by simp at h, fun _ => by simp⟩
theorem SetS.put {l : ML α} {c : Nat} {xs : List α} (h : SetS l c xs) (a : α) : SetS (mset l a (.bool true) c) (mclk l a c) (xs ++ [a]) :=
  ⟨h.1.set a _, mset_vals (Q := (· = .bool true)) h.2.1 rfl c, fun x => by rw [mset_mem, h.2.2, List.mem_append, List.mem_singleton]⟩
theorem SetS.get {l : ML α} {c : Nat} {xs : List α} (h : SetS l c xs) (a : α) : (mget l a).getD (.bool false) = .bool (decide (a ∈ xs)) := by
  by_cases ha : a ∈ xs
  · obtain ⟨⟨b, v, n⟩, hp, rfl⟩ := List.mem_map.1 ((h.2.2 a).2 ha)
    have := (mget_iff h.1.1).2 ⟨n, hp⟩
    have hv := h.2.1 _ hp
    dsimp only at *
    rw [this, hv, decide_eq_true ha]; rfl
  · rw [mget_none.2 (fun g => ha ((h.2.2 a).1 g)), decide_eq_false ha]; rfl
omit [BEq α] [LawfulBEq α] in
theorem SetS.len {l : ML α} {c : Nat} {xs : List α} (h : SetS l c xs) : l.length = 0 ↔ xs = [] := by
  constructor
  · intro g
    rw [List.eq_nil_iff_forall_not_mem]
    intro x hx
    have := (h.2.2 x).2 hx
    rw [List.eq_nil_of_length_eq_zero g] at this
    simp at this
  · rintro rfl
    rcases l with _ | ⟨p, r⟩
    · rfl
    · have := (h.2.2 p.1).1 (List.mem_map_of_mem (.head _))
      simp at this
end
section
variable {cx : Cx} {Q : Qt} {o : Oper} {e : Env} {S : World → Prop} {α : Type} [BEq α] [LawfulBEq α]
omit [BEq α] [LawfulBEq α] in
/-- The entry that was handed out last. -/
theorem yl_entry {b m since c : Nat} {x : Operand} {kv : α → Value} {l vis : ML α} {p : α × Value × Nat} (ho : o.op = .entry x) (hx : ev e x = some (ptr b 0)) (hb : Blk S b (mit m since (vis ++ [p]) c)) (hm : Blk S m (mobj kv l c)) (hp : p ∈ l) (hn : (l.map (·.2.2)).Nodup) : Yld cx o e S (.tuple #[kv p.1, p.2.1]) := by
  intro w0 w ha hs
  have h1 := hb w hs
  have h2 := hm w hs
  have h3 : w.heap[b]? = some (.mapIter (some m) since ((vis.map (·.2.2)).toArray.push (ment kv p).born) c) := by
    rw [h1]; simp [mit]
  have hr := run_entry_at (P := cx.P) w b m since _ _ c (ment kv p) h3 h2 (by simp only [List.mem_map]; exact ⟨p, hp, rfl⟩) (by
    rw [List.map_map]
    exact hn)
  have : (execOp w0.eval o).run cx.P w = .ok (.value (.tuple #[kv p.1, p.2.1])) w := by
    simp only [execOp, ho, ha.eval hx, Sem.run_bind, hr, Result.andThen_ok, Sem.run_pure]
  exact this
end
end Go.Sx
end
section
namespace Go.Sx
open Go
section
variable {α β : Type}
/-- The blocks of a family of grown rows: what each holds, and its group. -/
def famH (T : TypeId) (f : β → List Value) (F : List (α × List β × Gs)) : HL := F.flatMap fun e => gH T (e.2.1.flatMap f) e.2.2
theorem famH_app (T : TypeId) (f : β → List Value) (F G : List (α × List β × Gs)) : famH T f (F ++ G) = famH T f F ++ famH T f G := by unfold famH; rw [List.flatMap_append]
theorem famH_one (T : TypeId) (f : β → List Value) (e : α × List β × Gs) : famH T f [e] = gH T (e.2.1.flatMap f) e.2.2 := by unfold famH; simp
/-- One row of a family stands last. -/
theorem famH_out (T : TypeId) (f : β → List Value) (R : HL) (F G : List (α × List β × Gs)) (e : α × List β × Gs) : (R ++ famH T f (F ++ G) ++ gH T (e.2.1.flatMap f) e.2.2).Perm (R ++ famH T f (F ++ e :: G)) := by
  rw [List.append_assoc]
  refine List.Perm.append_left _ ?_
  rw [famH_app, show e :: G = [e] ++ G from rfl, famH_app, famH_app, famH_one, List.append_assoc]
  exact List.Perm.append_left _ List.perm_append_comm
variable {cx : Cx} {Q : Qt} {en : Env} {f : β → List Value} {sz : Nat} {T : TypeId} {R : HL} {c : Code}
/-- All rows of a family are put by for good. -/
theorem Cj.keepFam (hf : ∀ x, (f x).length = sz) (hpos : 0 < sz) : ∀ (F : List (α × List β × Gs)) (I : Heap), (∀ e ∈ F, gOk cx.w0.heap.size sz e.2.1.length (e.2.1.flatMap f) e.2.2) →
    (∀ I', Le I I' → (∀ e ∈ F, RowS f I' e.2.1 (gV e.2.1.length e.2.2)) → Cj cx Q c en I' R) → Cj cx Q c en I (famH T f F ++ R)
  | [], I, _, k => k I (Le.refl _) (fun _ h => by cases h)
  | e :: F, I, hg, k => by
    rw [show famH T f (e :: F) ++ R = gH T (e.2.1.flatMap f) e.2.2 ++ (famH T f F ++ R) from by rw [show e :: F = [e] ++ F from rfl, famH_app, famH_one, List.append_assoc]]
    refine Cj.keepR hf hpos (hg e (.head _)) rfl fun I1 h1 hr => ?_
    refine Cj.keepFam hf hpos F I1 (fun x hx => hg x (.tail _ hx)) fun I2 h2 hall => ?_
    refine k I2 (h1.trans h2) fun x hx => ?_
    rcases List.mem_cons.1 hx with rfl | hx
    · exact hr.mono h2
    · exact hall x hx
end
end Go.Sx
end
section
namespace Go.Sx
open Go
section
variable {α β : Type} [BEq α] [LawfulBEq α]
abbrev Fam (α β : Type) := List (α × List β × Gs)
def fget (F : Fam α β) (a : α) : List β := match F with
  | [] => []
  | (b, xs, _) :: r => if a == b then xs else fget r a
abbrev kvp (p : α × Value × Nat) : α × Value := (p.1, p.2.1)
abbrev fvp (e : α × List β × Gs) : α × Value := (e.1, gV e.2.1.length e.2.2)
def pget (l : List (α × Value)) (a : α) : Option Value := match l with
  | [] => none
  | (b, v) :: r => if a == b then some v else pget r a
def pset (l : List (α × Value)) (a : α) (v : Value) : List (α × Value) := match l with
  | [] => [(a, v)]
  | (b, u) :: r => if a == b then (b, v) :: r else (b, u) :: pset r a v
omit [LawfulBEq α] in
theorem mget_kvp (a : α) : ∀ l : ML α, mget l a = pget (l.map kvp) a
  | [] => rfl
  | (b, v, n) :: r => by simp only [mget, List.map_cons, pget, mget_kvp a r]
omit [LawfulBEq α] in
theorem mset_kvp (a : α) (v : Value) (c : Nat) : ∀ l : ML α, (mset l a v c).map kvp = pset (l.map kvp) a v
  | [] => rfl
  | (b, u, n) :: r => by
    simp only [mset, List.map_cons, pset]
    split
    · rfl
    · rw [List.map_cons, mset_kvp a v c r]
theorem pset_at {a : α} {u v : Value} {B : List (α × Value)} : ∀ {A : List (α × Value)}, a ∉ A.map (·.1) → pset (A ++ (a, u) :: B) a v = A ++ (a, v) :: B ∧ pget (A ++ (a, u) :: B) a = some u
  | [], _ => by simp [pset, pget]
  | (b, w) :: A, h => by
    rw [List.map_cons, List.mem_cons, not_or] at h
    obtain ⟨h1, h2⟩ := pset_at (u := u) (v := v) (B := B) h.2
    have hb : (a == b) = false := by simpa using h.1
    simp only [List.cons_append, pset, pget, hb, Bool.false_eq_true, if_false, h1, h2, and_self]
theorem pset_new {a : α} {v : Value} : ∀ {A : List (α × Value)}, a ∉ A.map (·.1) → pset A a v = A ++ [(a, v)] ∧ pget A a = none
  | [], _ => ⟨rfl, rfl⟩
  | (b, w) :: A, h => by
    rw [List.map_cons, List.mem_cons, not_or] at h
    obtain ⟨h1, h2⟩ := pset_new (v := v) h.2
    have hb : (a == b) = false := by simpa using h.1
    simp only [List.cons_append, pset, pget, hb, Bool.false_eq_true, if_false, h1, h2, and_self]
theorem fget_at {a : α} {xs : List β} {g : Gs} {B : Fam α β} : ∀ {A : Fam α β}, a ∉ A.map (·.1) → ∀ b, fget (A ++ (a, xs, g) :: B) b = if b == a then xs else fget (A ++ B) b
  | [], _, b => rfl
  | (c, ys, k) :: A, h, b => by
    rw [List.map_cons, List.mem_cons, not_or] at h
    simp only [List.cons_append, fget, fget_at h.2]
    by_cases hbc : b = c
    · subst hbc
      have : (b == a) = false := by simpa using Ne.symm h.1
      simp [this]
    · have : (b == c) = false := by simpa using hbc
      simp [this]
theorem fget_none {a : α} : ∀ {A : Fam α β}, a ∉ A.map (·.1) → fget A a = []
  | [], _ => rfl
  | (b, xs, g) :: A, h => by
    rw [List.map_cons, List.mem_cons, not_or] at h
    have hb : (a == b) = false := by simpa using h.1
    simp only [fget, hb, Bool.false_eq_true, if_false, fget_none h.2]
/-- The map's values are the rows of a family. -/
structure FamS (base sz : Nat) (f : β → List Value) (l : ML α) (F : Fam α β) : Prop where
  ok : ∀ e ∈ F, gOk base sz e.2.1.length (e.2.1.flatMap f) e.2.2
  vals : l.map kvp = F.map fvp
  nodup : (F.map (·.1)).Nodup
omit [BEq α] [LawfulBEq α] in
theorem FamS.nil {base sz : Nat} {f : β → List Value} : FamS base sz f ([] : ML α) ([] : Fam α β) := ⟨fun _ h => by (cases h), rfl, .nil⟩
omit [BEq α] [LawfulBEq α] in
theorem fam_find (F : Fam α β) (a : α) : a ∉ F.map (·.1) ∨ ∃ A xs g B, F = A ++ (a, xs, g) :: B := by
  by_cases h : a ∈ F.map (·.1)
  · obtain ⟨⟨b, xs, g⟩, he, rfl⟩ := List.mem_map.1 h
    obtain ⟨A, B, rfl⟩ := List.append_of_mem he
    exact .inr ⟨A, xs, g, B, rfl⟩
  · exact .inl h
omit [BEq α] [LawfulBEq α] in
theorem fvp_keys (F : Fam α β) : (F.map fvp).map (·.1) = F.map (·.1) := by rw [List.map_map]; rfl
/-- A key's row stands last; grown by one, it may be put back. -/
theorem FamS.out {base sz : Nat} {f : β → List Value} {l : ML α} {F : Fam α β} (T : TypeId) (h : FamS base sz f l F) (a : α) :
    ∃ (F1 F2 : Fam α β) (xs : List β) (g : Gs), (∀ R : HL, (R ++ famH T f (F1 ++ F2) ++ gH T (xs.flatMap f) g).Perm (R ++ famH T f F)) ∧ (mget l a).getD (.slice none 0 0) = gV xs.length g ∧ gOk base sz xs.length (xs.flatMap f) g ∧ fget F a = xs ∧
      ∀ x g' c, gOk base sz (xs.length + 1) (xs.flatMap f ++ f x) g' → ∃ F' : Fam α β, FamS base sz f (mset l a (gV (xs.length + 1) g') c) F' ∧ (∀ b, fget F' b = if b == a then xs ++ [x] else fget F b) ∧ ∀ R : HL, (R ++ famH T f F').Perm ((R ++ famH T f (F1 ++ F2)) ++ gH T (xs.flatMap f ++ f x) g') := by
  have key : ∀ {F1 F2 : Fam α β} {xs : List β} (_ : ∀ ys g' c, gOk base sz ys.length (ys.flatMap f) g' → FamS base sz f (mset l a (gV ys.length g') c) (F1 ++ (a, ys, g') :: F2) ∧ ∀ b, fget (F1 ++ (a, ys, g') :: F2) b = if b == a then ys else fget F b),
      ∀ x g' c, gOk base sz (xs.length + 1) (xs.flatMap f ++ f x) g' → ∃ F' : Fam α β, FamS base sz f (mset l a (gV (xs.length + 1) g') c) F' ∧ (∀ b, fget F' b = if b == a then xs ++ [x] else fget F b) ∧ ∀ R : HL, (R ++ famH T f F').Perm ((R ++ famH T f (F1 ++ F2)) ++ gH T (xs.flatMap f ++ f x) g') := by
    intro F1 F2 xs hk x g' c hg
    have hl : (xs ++ [x]).length = xs.length + 1 := by simp
    have hf : (xs ++ [x]).flatMap f = xs.flatMap f ++ f x := by simp
    obtain ⟨h1, h2⟩ := hk (xs ++ [x]) g' c (by rw [hl, hf]; exact hg)
    rw [hl] at h1
    refine ⟨_, h1, h2, fun R => ?_⟩
    have := (famH_out T f R F1 F2 (a, xs ++ [x], g')).symm
    dsimp only at this
    rw [hf] at this
    exact this
  rcases fam_find F a with hn | ⟨A, xs, g, B, rfl⟩
  · refine ⟨F, [], [], none, fun R => ?_, ?_, ⟨rfl, rfl⟩, fget_none hn, key fun ys g' c hg => ⟨⟨fun e he => ?_, ?_, ?_⟩, fun b => ?_⟩⟩
    · rw [List.append_nil]; simp [gH]
    · rw [mget_kvp, h.vals, (pset_new (v := .slice none 0 0) (by rw [fvp_keys]; exact hn)).2]; rfl
    · rcases List.mem_append.1 he with he | he
      · exact h.ok e he
      · rw [List.mem_singleton.1 he]; exact hg
    · rw [mset_kvp, h.vals, (pset_new (by rw [fvp_keys]; exact hn)).1, List.map_append]; rfl
    · rw [List.map_append, List.nodup_append]
      refine ⟨h.nodup, by simp, fun x hx y hy e => ?_⟩
      rw [List.map_cons, List.map_nil, List.mem_singleton] at hy
      have hxa : x = a := e.trans hy
      exact hn (hxa ▸ hx)
    · rw [fget_at hn, List.append_nil]
  · have hA : a ∉ A.map (·.1) := by
      have h1 := h.nodup
      rw [List.map_append, List.nodup_append] at h1
      exact fun hm => h1.2.2 a hm a (by rw [List.map_cons]; exact .head _) rfl
    have hA2 : a ∉ (A.map fvp).map (·.1) := by rw [fvp_keys]; exact hA
    have hv : l.map kvp = A.map fvp ++ (a, gV xs.length g) :: B.map fvp := by rw [h.vals, List.map_append]; rfl
    refine ⟨A, B, xs, g, fun R => famH_out T f R A B (a, xs, g), ?_, h.ok (a, xs, g) (by simp), ?_, key fun ys g' c hg => ⟨⟨fun e he => ?_, ?_, ?_⟩, fun b => ?_⟩⟩
    · rw [mget_kvp, hv, (pset_at (v := .slice none 0 0) hA2).2]; rfl
    · rw [fget_at hA, if_pos (by simp)]
    · rcases List.mem_append.1 he with he | he
      · exact h.ok e (List.mem_append_left _ he)
      · rcases List.mem_cons.1 he with rfl | he
        · exact hg
        · exact h.ok e (List.mem_append_right _ (.tail _ he))
    · rw [mset_kvp, hv, (pset_at hA2).1, List.map_append]; rfl
    · have h1 := h.nodup
      rw [List.map_append, List.map_cons] at h1 ⊢
      exact h1
    · rw [fget_at hA, fget_at hA]
      split <;> rfl
/-- Once the rows are put by, what stands at a key is its row. -/
theorem FamS.row {base sz : Nat} {f : β → List Value} {l : ML α} {F : Fam α β} {I : Heap} (h : FamS base sz f l F) (hr : ∀ e ∈ F, RowS f I e.2.1 (gV e.2.1.length e.2.2)) (a : α) : RowS f I (fget F a) ((mget l a).getD (.slice none 0 0)) := by
  rcases fam_find F a with hn | ⟨A, xs, g, B, rfl⟩
  · rw [fget_none hn, mget_kvp, h.vals, (pset_new (v := .slice none 0 0) (by rw [fvp_keys]; exact hn)).2]; exact RowS.nil
  · have hA : a ∉ A.map (·.1) := by
      have h1 := h.nodup
      rw [List.map_append, List.nodup_append] at h1
      exact fun hm => h1.2.2 a hm a (by rw [List.map_cons]; exact .head _) rfl
    have hv : l.map kvp = A.map fvp ++ (a, gV xs.length g) :: B.map fvp := by rw [h.vals, List.map_append]; rfl
    rw [fget_at hA, if_pos (by simp), mget_kvp, hv, (pset_at (v := .slice none 0 0) (by rw [fvp_keys]; exact hA)).2]
    exact hr (a, xs, g) (by simp)
variable {cx : Cx} {Q : Qt} {e : Env} {I : Heap} {H H' : HL}
theorem JA.perm {l : List Oper} {I1 : Heap} {A : HL} {Z : CL} {z fuel : Nat} {listed : Array Bool} (hs : H'.Perm H) (k : JA cx Q l I1 A Z z fuel listed e I H') : JA cx Q l I1 A Z z fuel listed e I H := fun a w ha h1 => k a w ha (h1.perm hs)
omit [BEq α] [LawfulBEq α] in
theorem Blk.mem {I : Heap} {H : HL} {b : Nat} {o : Obj} (h : (b, o) ∈ H) : Blk (SS I H) b o := fun _ hs => hs.2 _ h
end
end Go.Sx
end
section
namespace Go.Proofs.YtadnofaleepkmaaGreatDoor
open Go Go.Sx
/-- A slice of texts whose cells stand for good, or an empty one. -/
def StrP (I : Heap) (l : List (List UInt8)) (v : Value) : Prop := ∃ p c, v = .slice p l.length c ∧ l.length ≤ c ∧ (l ≠ [] → ∃ b o cs t fr sp, p = some ⟨b, o, none⟩ ∧ I b = some (.cells (List.toArray cs) t fr) ∧ cs.drop o = l.map str ++ sp)
theorem str_from {cs sp : List Value} {o : Nat} {l : List (List UInt8)} (h : cs.drop o = l.map str ++ sp) {k : Nat} {x : List UInt8} (hx : l[k]? = some x) : cs[o + k]? = some (str x) := by
  rw [← List.getElem?_drop, h]; exact str_get hx
theorem StrP.of {I : Heap} {l : List (List UInt8)} {v : Value} (h : StrS 9 I l v) : StrP I l v := by
  rcases h with ⟨rfl, rfl⟩ | ⟨b, c, sp, rfl, hc, hb⟩
  · exact ⟨none, 0, rfl, Nat.le_refl _, fun h => absurd rfl h⟩
  · exact ⟨_, c, rfl, hc, fun _ => ⟨b, 0, _, _, _, sp, rfl, hb, rfl⟩⟩
theorem StrP.mono {I I' : Heap} {l : List (List UInt8)} {v : Value} (h : StrP I l v) (hle : Le I I') : StrP I' l v :=
  let ⟨p, c, h1, h2, h3⟩ := h; ⟨p, c, h1, h2, fun hn => let ⟨b, o, cs, t, fr, sp, h4, h5, h6⟩ := h3 hn; ⟨b, o, cs, t, fr, sp, h4, hle _ _ h5, h6⟩⟩
theorem take_same {α : Type} {a b : List α} {k : Nat} {x : α} (h : a.take k = b.take k) (h1 : a[k]? = some x) (h2 : b[k]? = some x) : a.take (k + 1) = b.take (k + 1) := by
  obtain ⟨l1, g1⟩ := List.getElem?_eq_some_iff.1 h1
  obtain ⟨l2, g2⟩ := List.getElem?_eq_some_iff.1 h2
  rw [List.take_succ_eq_append_getElem l1, List.take_succ_eq_append_getElem l2, h, g1, g2]
theorem join_next {l : List (List UInt8)} {k : Nat} {x : List UInt8} (h : l[k]? = some x) : Ke.join (l.take (k + 1)) = (if 0 < k then Ke.join (l.take k) ++ [32] else Ke.join (l.take k)) ++ x := by
  have key : ∀ (a : List (List UInt8)) (x : List UInt8), Ke.join (a ++ [x]) = (if 0 < a.length then Ke.join a ++ [32] else Ke.join a) ++ x := by
    intro a x
    induction a with
    | nil => rfl
    | cons b r ih =>
      cases r with
      | nil => simp [Ke.join]
      | cons c t =>
        have h1 : Ke.join (b :: c :: t ++ [x]) = b ++ [32] ++ Ke.join (c :: t ++ [x]) := rfl
        rw [h1, ih, if_pos (by simp), if_pos (by simp)]
        simp [Ke.join]
  obtain ⟨hlt, hg⟩ := List.getElem?_eq_some_iff.1 h
  rw [List.take_succ_eq_append_getElem hlt, hg, key, List.length_take, Nat.min_eq_left (by omega)]
theorem join_part (l : List (List UInt8)) (k : Nat) : (Ke.join (l.take k)).length ≤ (Ke.join l).length := by
  have key : ∀ a b : List (List UInt8), (Ke.join a).length ≤ (Ke.join (a ++ b)).length := by
    intro a b
    induction a with
    | nil => exact Nat.zero_le _
    | cons x r ih =>
      cases r with
      | nil =>
        cases b with
        | nil => exact Nat.le_refl _
        | cons y t => simp only [Ke.join, List.cons_append, List.nil_append, List.length_append]; omega
      | cons y t =>
        simp only [Ke.join, List.cons_append, List.length_append] at ih ⊢; omega
  have := key (l.take k) (l.drop k)
  rwa [List.take_append_drop] at this
theorem all_at {s : List UInt8} {k : Nat} {c : UInt8} (h : (s.take k).all Ke.digit = true) (hg : s[k]? = some c) (hd : Ke.digit c = true) : (s.take (k + 1)).all Ke.digit = true := by
  obtain ⟨hlt, hg⟩ := List.getElem?_eq_some_iff.1 hg
  rw [List.take_succ_eq_append_getElem hlt, hg, List.all_append, h]; simp [hd]
theorem not_all {s : List UInt8} {k : Nat} {c : UInt8} (hg : s[k]? = some c) (hd : ¬ Ke.digit c = true) : Ke.digits s = false := by
  rcases h : Ke.digits s with _ | _
  · rfl
  · exact absurd (List.all_eq_true.1 h c (List.mem_of_getElem? hg)) hd
theorem has_next {s : List UInt8} {k : Nat} {c d : UInt8} (h : c ∉ s.take k) (hg : s[k]? = some d) (hd : d ≠ c) : c ∉ s.take (k + 1) := by
  obtain ⟨hlt, hg⟩ := List.getElem?_eq_some_iff.1 hg
  rw [List.take_succ_eq_append_getElem hlt, hg]
  simp only [List.mem_append, List.mem_singleton]
  rintro (e | e)
  · exact h e
  · exact hd e.symm
theorem strip_cons0 {r : List UInt8} (h : r ≠ []) : Ke.strip (48 :: r) = Ke.strip r := by
  cases r with
  | nil => exact absurd rfl h
  | cons a t =>
    unfold Ke.strip
    have h1 : (48 :: a :: t).length - 1 = (a :: t).length - 1 + 1 := rfl
    rw [h1, List.drop_succ_cons]
    rfl
theorem strip_done {x : List UInt8} (h : x.length ≤ 1 ∨ ∃ c r, x = c :: r ∧ c ≠ 48) : Ke.strip x = x := by
  rcases h with h | ⟨c, r, rfl, hc⟩
  · match x, h with
    | [], _ => rfl
    | [a], _ => rfl
  · cases r with
    | nil => rfl
    | cons a t =>
      have h1 : (c :: a :: t).dropLast = c :: (a :: t).dropLast := rfl
      have h2 : (c :: a :: t).length - 1 = (a :: t).length - 1 + 1 := rfl
      unfold Ke.strip
      rw [h1, List.dropWhile_cons_of_neg (by simpa using hc), h2, List.drop_succ_cons, List.cons_append]
      congr 1
      rw [List.dropLast_eq_take, List.take_append_drop]
theorem head_of0 {l : List UInt8} {x : UInt8} (h : l[0]? = some x) : l = x :: l.tail := by
  cases l with
  | nil => simp at h
  | cons a r => simp at h; subst h; rfl
set_option maxRecDepth 20000 in
theorem rJoin_ok (l : List (List UInt8)) (v : Value) (hl : l.length ≤ 100000000000000) (hs : (Ke.join l).length ≤ 1000000000000) (I : Heap) (hv : StrP I l v) : Pure Tryz.prog 49 [v] I (str (Ke.join l)) := by
 obtain ⟨p, c, rfl, hc, hp⟩ := hv
 refine Ctr.of_body Tryz.func49 rfl (by decide) (Nat.le_of_ble_eq_true rfl) ?_
 intro w0 hw0
 refine Cj.seq (Cj.region (J.z (yl_assign rfl rfl) ?_))
 refine J.nil (Ej.seq (Cj.seq (Cj.region (J.z (yl_assign rfl rfl) ?_))))
 refine J.nil (Ej.seq (Cj.seq (Cj.seq (Cj.region (J.z (yl_assign rfl rfl) ?_)))))
 refine J.nil (Ej.seq (Cj.block (Cj.loop (ι := Nat) (fun j => j ≤ l.length) (fun j => l.length - j) (fun j => [(0, .slice p l.length c), (3, str (Ke.join (l.take j))), (4, i64 (j : Int))]) (fun j => I) (fun j => []) 0 (Nat.zero_le _) ⟨rfl, rfl, rfl, trivial⟩ rfl rfl ?_)))
 intro j hj
 have hjp := join_part l j
 have hjp2 := join_part l (j + 1)
 refine Cj.seq (Cj.seq (Cj.region (J.z (yl_move rfl rfl) ?_)))
 refine J.z (yl_move rfl rfl) ?_
 refine J.z (yl_lenSlice rfl rfl Tryz.underlying31) ?_
 refine J.z (yl_lss rfl rfl rfl) ?_
 refine J.nil (Ej.seq (Cj.cond rfl (fun hc1 => ?_) (fun hc1 => ?_)))
 ·
  have hc1p := of_decide_eq_true hc1
  have hlt : j < l.length := by omega
  obtain ⟨x, hget⟩ : ∃ x, l[j]? = some x := ⟨_, List.getElem?_eq_getElem hlt⟩
  obtain ⟨lb, lo, lcs, lty, lfr, sp, rfl, hlb, hld⟩ := hp (ne_nil_of hlt)
  have hjn := congrArg List.length (join_next hget)
  rw [List.length_append] at hjn
  refine Cj.skip (Ej.seq (Cj.seq (Cj.block (Cj.seq (Cj.seq (Cj.region (J.z (yl_move rfl rfl) ?_)))))))
  refine J.z (yl_gtr rfl rfl rfl) ?_
  refine J.nil (Ej.seq (Cj.cond rfl (fun hc2 => ?_) (fun hc2 => ?_)))
  ·
   have hc2p := of_decide_eq_true hc2
   have hj0 : 0 < j := by have h := of_decide_eq_true hc2; omega
   refine Cj.region (J.z (yl_move rfl rfl) ?_)
   refine J.z (yl_cat rfl rfl rfl (by rw [if_pos hj0, List.length_append] at hjn; simp only [List.length_cons, List.length_nil] at hjn ⊢; omega)) ?_
   refine J.z (yl_assign rfl rfl) ?_
   refine J.nil (Ej.seq (Cj.region (J.z (yl_move rfl rfl) ?_)))
   refine J.z (yl_move rfl rfl) ?_
   refine J.z (yl_move rfl rfl) ?_
   refine J.z (yl_indexAddr (off' := lo + j) rfl rfl rfl Tryz.underlying31 Tryz.sizeOf9 (by omega) (by omega) (by simp)) ?_
   refine J.z (yl_load rfl rfl Tryz.isAgg9 (Blk.imm hlb) (str_from hld hget)) ?_
   refine J.z (yl_cat rfl rfl rfl (by first | (rw [if_pos hj0, List.length_append] at hjn; simp only [List.length_append, List.length_cons, List.length_nil] at hjn ⊢; omega) | (rw [if_neg hj0] at hjn; omega))) ?_
   refine J.z (yl_assign rfl rfl) ?_
   refine J.nil (Ej.blkNormal (Ej.seq (Cj.region (J.z (yl_move rfl rfl) ?_))))
   refine J.z (yl_add rfl rfl rfl (w64 (by omega))) ?_
   refine J.z (yl_assign rfl rfl) ?_
   refine J.nil (Ej.round (j + 1) (by omega) (by omega) ⟨rfl, by rw [join_next hget, if_pos hj0]; rfl, rfl, trivial⟩ rfl rfl)
  ·
   have hc2p := of_decide_eq_false hc2
   have hj0 : ¬ 0 < j := by have h := of_decide_eq_false hc2; omega
   refine Cj.skip (Ej.seq (Cj.region (J.z (yl_move rfl rfl) ?_)))
   refine J.z (yl_move rfl rfl) ?_
   refine J.z (yl_move rfl rfl) ?_
   refine J.z (yl_indexAddr (off' := lo + j) rfl rfl rfl Tryz.underlying31 Tryz.sizeOf9 (by omega) (by omega) (by simp)) ?_
   refine J.z (yl_load rfl rfl Tryz.isAgg9 (Blk.imm hlb) (str_from hld hget)) ?_
   refine J.z (yl_cat rfl rfl rfl (by first | (rw [if_pos hj0, List.length_append] at hjn; simp only [List.length_append, List.length_cons, List.length_nil] at hjn ⊢; omega) | (rw [if_neg hj0] at hjn; omega))) ?_
   refine J.z (yl_assign rfl rfl) ?_
   refine J.nil (Ej.blkNormal (Ej.seq (Cj.region (J.z (yl_move rfl rfl) ?_))))
   refine J.z (yl_add rfl rfl rfl (w64 (by omega))) ?_
   refine J.z (yl_assign rfl rfl) ?_
   refine J.nil (Ej.round (j + 1) (by omega) (by omega) ⟨rfl, by rw [join_next hget, if_neg hj0]; rfl, rfl, trivial⟩ rfl rfl)
 ·
  have hc1p := of_decide_eq_false hc1
  have hfull : l.take j = l := List.take_of_length_le (by omega)
  refine Cj.exit (Ej.seqExit (Ej.loopExit (Ej.blkExit (Ej.seq (Cj.seq (Cj.region (J.z (yl_move rfl rfl) ?_)))))))
  refine J.z (yl_assign rfl rfl) ?_
  refine J.nil (Ej.seq (Cj.ret (Ej.ret1 rfl rfl rfl ?_)))
  rw [hfull]
  exact ⟨rfl, rfl, rfl⟩
set_option maxRecDepth 20000 in
theorem rdigits_ok (s : List UInt8) (hs : s.length ≤ 1000000000000) (I : Heap) : Pure Tryz.prog 99 [str s] I (.bool (Ke.digits s)) := by
 refine Ctr.of_body Tryz.func99 rfl (by decide) (Nat.le_of_ble_eq_true rfl) ?_
 intro w0 hw0
 refine Cj.seq (Cj.region (J.z (yl_assign rfl rfl) ?_))
 refine J.nil (Ej.seq (Cj.seq (Cj.seq (Cj.region (J.z (yl_assign rfl rfl) ?_)))))
 refine J.nil (Ej.seq (Cj.block (Cj.loop (ι := Nat) (fun j => j ≤ s.length ∧ (s.take j).all Ke.digit = true) (fun j => s.length - j) (fun j => [(0, str s), (3, i64 (j : Int))]) (fun j => I) (fun j => []) 0 ⟨Nat.zero_le _, rfl⟩ ⟨rfl, rfl, trivial⟩ rfl rfl ?_)))
 rintro j ⟨hj, hall⟩
 refine Cj.seq (Cj.seq (Cj.region (J.z (yl_move rfl rfl) ?_)))
 refine J.z (yl_move rfl rfl) ?_
 refine J.z (yl_lenStr rfl rfl Tryz.underlying9) ?_
 refine J.z (yl_lss rfl rfl rfl) ?_
 refine J.nil (Ej.seq (Cj.cond rfl (fun hc1 => ?_) (fun hc1 => ?_)))
 ·
  have hc1p := of_decide_eq_true hc1
  have hlt : j < s.length := by omega
  obtain ⟨c, hget⟩ : ∃ c, s[j]? = some c := ⟨_, List.getElem?_eq_getElem hlt⟩
  refine Cj.skip (Ej.seq (Cj.seq (Cj.block (Cj.seq (Cj.region (J.z (yl_move rfl rfl) ?_))))))
  refine J.z (yl_move rfl rfl) ?_
  refine J.z (yl_index rfl rfl rfl Tryz.underlying9 (by omega) hget) ?_
  refine J.z (yl_lss rfl rfl rfl) ?_
  refine J.z (yl_move rfl rfl) ?_
  refine J.split 14 rfl (fun hg2 => ?_) (fun hg2 => ?_)
  ·
   have hnd : ¬ Ke.digit c = true := fun e => by have h1 := Ke.digit_iff.1 e; have h := of_decide_eq_true hg2; omega
   refine J.skip 4 14 15 false _ rfl rfl rfl hg2 rfl rfl ?_
   refine J.skip 4 14 16 false _ rfl rfl rfl hg2 rfl rfl ?_
   refine J.skip 4 14 17 false _ rfl rfl rfl hg2 rfl rfl ?_
   refine J.skip 4 14 18 false _ rfl rfl rfl hg2 rfl rfl ?_
   refine J.z (yl_pick1 rfl rfl hg2 rfl) ?_
   refine J.nil (Ej.seq (Cj.cond rfl (fun hc3 => ?_) (fun hc3 => Bool.noConfusion (Eq.trans (Eq.symm rfl) hc3))))
   refine Cj.seq (Cj.region (J.z (yl_assign rfl rfl) ?_))
   refine J.nil (Ej.seq (Cj.ret (Ej.blkRet (Ej.seqRet (Ej.loopRet (Ej.blkRet (Ej.seqRet (Ej.ret1 rfl rfl rfl ?_))))))))
   rw [not_all hget hnd]
   exact ⟨rfl, rfl, rfl⟩
  ·
   have hlo := of_decide_eq_false hg2
   refine J.opG 4 14 false _ rfl rfl rfl hg2 (op_yld (yl_move rfl rfl) rfl rfl ?_)
   refine J.opG 4 14 false _ rfl rfl rfl hg2 (op_yld (yl_move rfl rfl) rfl rfl ?_)
   refine J.opG 4 14 false _ rfl rfl rfl hg2 (op_yld (yl_index rfl rfl rfl Tryz.underlying9 (by omega) hget) rfl rfl ?_)
   refine J.opG 4 14 false _ rfl rfl rfl hg2 (op_yld (yl_gtr rfl rfl rfl) rfl rfl ?_)
   refine J.z (yl_pick0 rfl rfl hg2 rfl) ?_
   refine J.nil (Ej.seq (Cj.cond rfl (fun hc4 => ?_) (fun hc4 => ?_)))
   ·
    have hc4p := of_decide_eq_true hc4
    have hnd : ¬ Ke.digit c = true := fun e => by have h1 := Ke.digit_iff.1 e; have h := of_decide_eq_true hc4; omega
    refine Cj.seq (Cj.region (J.z (yl_assign rfl rfl) ?_))
    refine J.nil (Ej.seq (Cj.ret (Ej.blkRet (Ej.seqRet (Ej.loopRet (Ej.blkRet (Ej.seqRet (Ej.ret1 rfl rfl rfl ?_))))))))
    rw [not_all hget hnd]
    exact ⟨rfl, rfl, rfl⟩
   ·
    have hc4p := of_decide_eq_false hc4
    have hd : Ke.digit c = true := Ke.digit_iff.2 (by have h := of_decide_eq_false hc4; omega)
    refine Cj.skip (Ej.blkNormal (Ej.seq (Cj.region (J.z (yl_move rfl rfl) ?_))))
    refine J.z (yl_add rfl rfl rfl (w64 (by omega))) ?_
    refine J.z (yl_assign rfl rfl) ?_
    refine J.nil (Ej.round (j + 1) ⟨by omega, all_at hall hget hd⟩ (by omega) ⟨rfl, rfl, trivial⟩ rfl rfl)
 ·
  have hc1p := of_decide_eq_false hc1
  refine Cj.exit (Ej.seqExit (Ej.loopExit (Ej.blkExit (Ej.seq (Cj.seq (Cj.region (J.z (yl_assign rfl rfl) ?_)))))))
  refine J.nil (Ej.seq (Cj.ret (Ej.ret1 rfl rfl rfl ?_)))
  have he : Ke.digits s = true := by rw [List.take_of_length_le (by omega)] at hall; exact hall
  rw [he]
  exact ⟨rfl, rfl, rfl⟩
set_option maxRecDepth 20000 in
theorem has_ok (s : List UInt8) (d : UInt8) (hs : s.length ≤ 1000000000000) (I : Heap) : Pure Tryz.prog 48 [str s, u8 d] I (.bool (s.contains d)) := by
 refine Ctr.of_body Tryz.func48 rfl (by decide) (Nat.le_of_ble_eq_true rfl) ?_
 intro w0 hw0
 refine Cj.seq (Cj.region (J.z (yl_assign rfl rfl) ?_))
 refine J.nil (Ej.seq (Cj.seq (Cj.seq (Cj.region (J.z (yl_assign rfl rfl) ?_)))))
 refine J.nil (Ej.seq (Cj.block (Cj.loop (ι := Nat) (fun j => j ≤ s.length ∧ d ∉ s.take j) (fun j => s.length - j) (fun j => [(0, str s), (1, u8 d), (5, i64 (j : Int))]) (fun j => I) (fun j => []) 0 ⟨Nat.zero_le _, by simp⟩ ⟨rfl, rfl, rfl, trivial⟩ rfl rfl ?_)))
 rintro j ⟨hj, hno⟩
 refine Cj.seq (Cj.seq (Cj.region (J.z (yl_move rfl rfl) ?_)))
 refine J.z (yl_move rfl rfl) ?_
 refine J.z (yl_lenStr rfl rfl Tryz.underlying9) ?_
 refine J.z (yl_lss rfl rfl rfl) ?_
 refine J.nil (Ej.seq (Cj.cond rfl (fun hc1 => ?_) (fun hc1 => ?_)))
 ·
  have hc1p := of_decide_eq_true hc1
  have hlt : j < s.length := by omega
  obtain ⟨c, hget⟩ : ∃ c, s[j]? = some c := ⟨_, List.getElem?_eq_getElem hlt⟩
  refine Cj.skip (Ej.seq (Cj.seq (Cj.block (Cj.seq (Cj.region (J.z (yl_move rfl rfl) ?_))))))
  refine J.z (yl_move rfl rfl) ?_
  refine J.z (yl_index rfl rfl rfl Tryz.underlying9 (by omega) hget) ?_
  refine J.z (yl_move rfl rfl) ?_
  refine J.z (yl_eql rfl rfl rfl) ?_
  refine J.nil (Ej.seq (Cj.cond rfl (fun hc2 => ?_) (fun hc2 => ?_)))
  ·
   have hc2p := eq_of_beq hc2
   have he : c = d := UInt8.toNat_inj.1 (by have h := eq_of_beq hc2; omega)
   refine Cj.seq (Cj.region (J.z (yl_assign rfl rfl) ?_))
   refine J.nil (Ej.seq (Cj.ret (Ej.blkRet (Ej.seqRet (Ej.loopRet (Ej.blkRet (Ej.seqRet (Ej.ret1 rfl rfl rfl ?_))))))))
   have hx : s.contains d = true := by simpa using he ▸ List.mem_of_getElem? hget
   rw [hx]
   exact ⟨rfl, rfl, rfl⟩
  ·
   have hc2p := ne_of_beq_false hc2
   have hne : c ≠ d := fun e => ne_of_beq_false hc2 (by rw [e])
   refine Cj.skip (Ej.blkNormal (Ej.seq (Cj.region (J.z (yl_move rfl rfl) ?_))))
   refine J.z (yl_add rfl rfl rfl (w64 (by omega))) ?_
   refine J.z (yl_assign rfl rfl) ?_
   refine J.nil (Ej.round (j + 1) ⟨by omega, has_next hno hget hne⟩ (by omega) ⟨rfl, rfl, rfl, trivial⟩ rfl rfl)
 ·
  have hc1p := of_decide_eq_false hc1
  refine Cj.exit (Ej.seqExit (Ej.loopExit (Ej.blkExit (Ej.seq (Cj.seq (Cj.region (J.z (yl_assign rfl rfl) ?_)))))))
  refine J.nil (Ej.seq (Cj.ret (Ej.ret1 rfl rfl rfl ?_)))
  have hx : s.contains d = false := by rw [List.take_of_length_le (by omega)] at hno; simpa using hno
  rw [hx]
  exact ⟨rfl, rfl, rfl⟩
set_option maxRecDepth 20000 in
theorem number_ok (s : List UInt8) (hs : s.length ≤ 1000000000000) (I : Heap) : Pure Tryz.prog 100 [str s] I (str (Ke.number s)) := by
 refine Ctr.of_body Tryz.func100 rfl (by decide) (Nat.le_of_ble_eq_true rfl) ?_
 intro w0 hw0
 refine Cj.seq (Cj.region (J.z (yl_assign rfl rfl) ?_))
 refine J.nil (Ej.seq (Cj.seq (Cj.block (Cj.loop (ι := List UInt8) (fun x => Ke.strip x = Ke.strip s ∧ x.length ≤ s.length) (fun x => x.length) (fun x => [(0, str x)]) (fun x => I) (fun x => []) s ⟨rfl, Nat.le_refl _⟩ ⟨rfl, trivial⟩ rfl rfl ?_))))
 rintro x ⟨hx, hxl⟩
 refine Cj.seq (Cj.seq (Cj.region (J.z (yl_move rfl rfl) ?_)))
 refine J.z (yl_lenStr rfl rfl Tryz.underlying9) ?_
 refine J.z (yl_gtr rfl rfl rfl) ?_
 refine J.z (yl_move rfl rfl) ?_
 refine J.split 7 rfl (fun hg1 => ?_) (fun hg1 => ?_)
 ·
  have hl1 : 1 < x.length := by have h := of_decide_eq_true hg1; omega
  obtain ⟨c, hget⟩ : ∃ c, x[0]? = some c := ⟨_, List.getElem?_eq_getElem (by omega)⟩
  have hxc : x = c :: x.tail := head_of0 hget
  have htn : x.tail ≠ [] := fun e => by rw [hxc, e] at hl1; simp at hl1
  refine J.opG 3 7 true _ rfl rfl rfl hg1 (op_yld (yl_move rfl rfl) rfl rfl ?_)
  refine J.opG 3 7 true _ rfl rfl rfl hg1 (op_yld (yl_index rfl rfl rfl Tryz.underlying9 (by omega) hget) rfl rfl ?_)
  refine J.opG 3 7 true _ rfl rfl rfl hg1 (op_yld (yl_eql rfl rfl rfl) rfl rfl ?_)
  refine J.z (yl_pick1 rfl rfl hg1 rfl) ?_
  refine J.nil (Ej.seq (Cj.cond rfl (fun hc2 => ?_) (fun hc2 => ?_)))
  ·
   have hc2p := eq_of_beq hc2
   have hx0 : x = 48 :: x.tail := by have h := eq_of_beq hc2; rw [show c = 48 from UInt8.toNat_inj.1 (by rw [show (48 : UInt8).toNat = 48 from rfl]; omega)] at hxc; exact hxc
   refine Cj.skip (Ej.seq (Cj.block (Cj.region (J.z (yl_move rfl rfl) ?_))))
   refine J.z (yl_sliceStr (p := 1) (q := x.length) rfl rfl Tryz.underlying9 ⟨_, rfl⟩ rfl (by omega) (by omega)) ?_
   refine J.eqv 13 rfl (show _ = str x.tail from (by rw [List.take_length, List.drop_one])) ?_
   refine J.z (yl_assign rfl rfl) ?_
   refine J.nil (Ej.blkNormal (Ej.round x.tail ⟨by rw [← hx, hx0, strip_cons0 htn]; rfl, by rw [List.length_tail]; omega⟩ (by rw [List.length_tail]; omega) ⟨rfl, trivial⟩ rfl rfl))
  ·
   have hc2p := ne_of_beq_false hc2
   have hdone : x.length ≤ 1 ∨ ∃ c r, x = c :: r ∧ c ≠ 48 := .inr ⟨c, _, hxc, fun e => ne_of_beq_false hc2 (by rw [e]; rfl)⟩
   have hsl : (Ke.strip s).length = x.length := by rw [← hx, strip_done hdone]
   refine Cj.exit (Ej.seqExit (Ej.loopExit (Ej.blkExit (Ej.seq (Cj.seq (Cj.region (J.z (yl_move rfl rfl) ?_)))))))
   refine J.eqv 14 rfl (show _ = str (Ke.strip s) from (by rw [← hx, strip_done hdone])) ?_
   refine J.z (yl_lenStr rfl rfl Tryz.underlying9) ?_
   refine J.z (yl_min2 rfl rfl rfl) ?_
   refine J.eqv 16 rfl (show _ = i64 ((min (Ke.strip s).length 99 : Nat) : Int) from (congrArg i64 (by split <;> omega))) ?_
   refine J.z (yl_assign rfl rfl) ?_
   refine J.nil (Ej.seq (Cj.seq (Cj.region (J.z (yl_move rfl rfl) ?_))))
   refine J.z (yl_quo rfl rfl rfl (by decide) (w64 (by show _ ≤ ((min (Ke.strip s).length 99 / 10 : Nat) : Int) ∧ ((min (Ke.strip s).length 99 / 10 : Nat) : Int) ≤ _; omega))) ?_
   refine J.eqv 18 rfl (show _ = i64 ((min (Ke.strip s).length 99 / 10 : Nat) : Int) from rfl) ?_
   refine J.z (yl_add rfl rfl rfl (w64 (by omega))) ?_
   refine J.eqv 19 rfl (show _ = i64 ((48 + min (Ke.strip s).length 99 / 10 : Nat) : Int) from (congrArg i64 (by omega))) ?_
   refine J.z (yl_convInt rfl rfl Tryz.underlying3 Tryz.underlying5) ?_
   refine J.eqv 20 rfl (show _ = u8 (UInt8.ofNat (48 + min (Ke.strip s).length 99 / 10)) from (congrArg (Value.int .u8) (conv8 (by omega)))) ?_
   refine J.z (yl_move rfl rfl) ?_
   refine J.z (yl_rem rfl rfl rfl (by decide)) ?_
   refine J.eqv 22 rfl (show _ = i64 ((min (Ke.strip s).length 99 % 10 : Nat) : Int) from rfl) ?_
   refine J.z (yl_add rfl rfl rfl (w64 (by omega))) ?_
   refine J.eqv 23 rfl (show _ = i64 ((48 + min (Ke.strip s).length 99 % 10 : Nat) : Int) from (congrArg i64 (by omega))) ?_
   refine J.z (yl_convInt rfl rfl Tryz.underlying3 Tryz.underlying5) ?_
   refine J.eqv 24 rfl (show _ = u8 (UInt8.ofNat (48 + min (Ke.strip s).length 99 % 10)) from (congrArg (Value.int .u8) (conv8 (by omega)))) ?_
   refine J.op rfl (op_buildSlice rfl rfl rfl Tryz.underlying86 Tryz.sizeOf5 Tryz.zeroValue5 rfl rfl rfl rfl (LCat.one rfl (LCat.one rfl LCat.none)) ?_)
   intro b3 hb3
   refine J.z (yl_toStr [UInt8.ofNat (48 + min (Ke.strip s).length 99 / 10), UInt8.ofNat (48 + min (Ke.strip s).length 99 % 10)] rfl rfl rfl Tryz.underlying86 Tryz.underlying9 Tryz.underlying5 (Blk.at 0 rfl) rfl) ?_
   refine J.z (yl_move rfl rfl) ?_
   refine J.eqv 27 rfl (show _ = str (Ke.strip s) from (by rw [← hx, strip_done hdone])) ?_
   refine J.z (yl_cat rfl rfl rfl (by first | omega | (simp only [List.length_append]; omega) | (simp; omega))) ?_
   refine J.z (yl_assign rfl rfl) ?_
   refine J.nil (Ej.seq (Cj.ret (Ej.bare ?_)))
   refine Ej.ret1 rfl rfl rfl ?_
   exact ⟨rfl, rfl, rfl⟩
 ·
  have hdone : x.length ≤ 1 ∨ ∃ c r, x = c :: r ∧ c ≠ 48 := .inl (by have h := of_decide_eq_false hg1; omega)
  have hsl : (Ke.strip s).length = x.length := by rw [← hx, strip_done hdone]
  refine J.skip 3 7 8 true _ rfl rfl rfl hg1 rfl rfl ?_
  refine J.skip 3 7 9 true _ rfl rfl rfl hg1 rfl rfl ?_
  refine J.skip 3 7 10 true _ rfl rfl rfl hg1 rfl rfl ?_
  refine J.z (yl_pick0 rfl rfl hg1 rfl) ?_
  refine J.nil (Ej.seq (Cj.cond rfl (fun hc4 => Bool.noConfusion (Eq.trans (Eq.symm rfl) hc4)) (fun hc4 => ?_)))
  refine Cj.exit (Ej.seqExit (Ej.loopExit (Ej.blkExit (Ej.seq (Cj.seq (Cj.region (J.z (yl_move rfl rfl) ?_)))))))
  refine J.eqv 14 rfl (show _ = str (Ke.strip s) from (by rw [← hx, strip_done hdone])) ?_
  refine J.z (yl_lenStr rfl rfl Tryz.underlying9) ?_
  refine J.z (yl_min2 rfl rfl rfl) ?_
  refine J.eqv 16 rfl (show _ = i64 ((min (Ke.strip s).length 99 : Nat) : Int) from (congrArg i64 (by split <;> omega))) ?_
  refine J.z (yl_assign rfl rfl) ?_
  refine J.nil (Ej.seq (Cj.seq (Cj.region (J.z (yl_move rfl rfl) ?_))))
  refine J.z (yl_quo rfl rfl rfl (by decide) (w64 (by show _ ≤ ((min (Ke.strip s).length 99 / 10 : Nat) : Int) ∧ ((min (Ke.strip s).length 99 / 10 : Nat) : Int) ≤ _; omega))) ?_
  refine J.eqv 18 rfl (show _ = i64 ((min (Ke.strip s).length 99 / 10 : Nat) : Int) from rfl) ?_
  refine J.z (yl_add rfl rfl rfl (w64 (by omega))) ?_
  refine J.eqv 19 rfl (show _ = i64 ((48 + min (Ke.strip s).length 99 / 10 : Nat) : Int) from (congrArg i64 (by omega))) ?_
  refine J.z (yl_convInt rfl rfl Tryz.underlying3 Tryz.underlying5) ?_
  refine J.eqv 20 rfl (show _ = u8 (UInt8.ofNat (48 + min (Ke.strip s).length 99 / 10)) from (congrArg (Value.int .u8) (conv8 (by omega)))) ?_
  refine J.z (yl_move rfl rfl) ?_
  refine J.z (yl_rem rfl rfl rfl (by decide)) ?_
  refine J.eqv 22 rfl (show _ = i64 ((min (Ke.strip s).length 99 % 10 : Nat) : Int) from rfl) ?_
  refine J.z (yl_add rfl rfl rfl (w64 (by omega))) ?_
  refine J.eqv 23 rfl (show _ = i64 ((48 + min (Ke.strip s).length 99 % 10 : Nat) : Int) from (congrArg i64 (by omega))) ?_
  refine J.z (yl_convInt rfl rfl Tryz.underlying3 Tryz.underlying5) ?_
  refine J.eqv 24 rfl (show _ = u8 (UInt8.ofNat (48 + min (Ke.strip s).length 99 % 10)) from (congrArg (Value.int .u8) (conv8 (by omega)))) ?_
  refine J.op rfl (op_buildSlice rfl rfl rfl Tryz.underlying86 Tryz.sizeOf5 Tryz.zeroValue5 rfl rfl rfl rfl (LCat.one rfl (LCat.one rfl LCat.none)) ?_)
  intro b5 hb5
  refine J.z (yl_toStr [UInt8.ofNat (48 + min (Ke.strip s).length 99 / 10), UInt8.ofNat (48 + min (Ke.strip s).length 99 % 10)] rfl rfl rfl Tryz.underlying86 Tryz.underlying9 Tryz.underlying5 (Blk.at 0 rfl) rfl) ?_
  refine J.z (yl_move rfl rfl) ?_
  refine J.eqv 27 rfl (show _ = str (Ke.strip s) from (by rw [← hx, strip_done hdone])) ?_
  refine J.z (yl_cat rfl rfl rfl (by first | omega | (simp only [List.length_append]; omega) | (simp; omega))) ?_
  refine J.z (yl_assign rfl rfl) ?_
  refine J.nil (Ej.seq (Cj.ret (Ej.bare ?_)))
  refine Ej.ret1 rfl rfl rfl ?_
  exact ⟨rfl, rfl, rfl⟩
end Go.Proofs.YtadnofaleepkmaaGreatDoor
end
