/-
  Own texts on the laws of the seat, joined: the logic, and contracts of functions. Conditions: none.
-/
import Derived.Test.YtekmeaoblpfnpaaGreatDoorPG2
import Derived.Maps.RangeRun
import Derived.Laws.StructEq
import Derived.Test.YtekmeaoblpfnpaaGreatDoorProg
import Derived.Test.YtekmeaoblpfnpaaGreatDoorChecked
import Derived.Test.YtekmeaoblpfnpaaGreatDoorCards
import Derived.Test.YtekmeaoblpfnpaaGreatDoorTie
import Derived.ProofKit
import Derived.OpenShut
import Derived.Lay
import Derived.Deep.DeepHandedRow
import Derived.WideKeyArr2
import Derived.Carry
import Derived.Tactics
import Derived.Tactics2
import Derived.Laws.Pointers
import Derived.Laws.LoneSync
import Derived.RegionTactic
import Derived.RegionCalls
import Derived.ChangeAlike
set_option maxRecDepth 100000
set_option maxHeartbeats 40000000
section
namespace Go.Sx
open Go
section
variable {cx : Cx} {Q : Qt} {o : Oper} {e : Env} {I : Heap} {H : HL} {C : Ct} {S : World → Prop} {α : Type} [BEq α] [LawfulBEq α]
def mit (m since : Nat) (vis : ML α) (last : Nat) : Obj := .mapIter (some m) since (vis.map (·.2.2)).toArray last
omit [BEq α] [LawfulBEq α] in
theorem op_rangeMap {T K E d m c : Nat} {x : Operand} {kv : α → Value} {l : ML α} (ho : o.op = .range T x) (hd : o.dst = some d) (hn : Nat.blt d cx.n = true) (hx : ev e x = some (.map (some m))) (hu : cx.P.underlying T = some (.map K E)) (hb : Blk (SS I H) m (mobj kv l c))
    (k : ∀ b, cx.w0.heap.size ≤ b → C ((d, ptr b 0) :: e) I ((b, mit m c ([] : ML α) c) :: H)) : OpJ cx Q o e I H C := by
  intro Kk hK a w ha hs
  unfold Oper.wp
  have : (execOp a.eval o).run cx.P w = .ok (.value (ptr w.heap.size 0)) { w with heap := w.heap.push (mit m c ([] : ML α) c) } := by
    have hr := run_range_map (P := cx.P) w T K E m _ c hu (hb w hs.ss)
    simp only [execOp, ho, ha.eval hx, Sem.run_bind, hr, Result.andThen_ok, Sem.run_pure]
    rfl
  rw [this]
  simp only [Oper.upon, hd]
  exact hK _ _ _ (k _ hs.size) _ _ (ha.put hn) (hs.alloc _)
theorem op_rangeNil {T K E d : Nat} {x : Operand} (ho : o.op = .range T x) (hd : o.dst = some d) (hn : Nat.blt d cx.n = true) (hx : ev e x = some (.map none)) (hu : cx.P.underlying T = some (.map K E))
    (k : ∀ b, cx.w0.heap.size ≤ b → C ((d, ptr b 0) :: e) I ((b, .mapIter none 0 #[] 0) :: H)) : OpJ cx Q o e I H C := by
  intro Kk hK a w ha hs
  unfold Oper.wp
  have : (execOp a.eval o).run cx.P w = .ok (.value (ptr w.heap.size 0)) { w with heap := w.heap.push (.mapIter none 0 #[] 0) } := by
    have hr := run_range_nilMap (P := cx.P) w T K E hu
    simp only [execOp, ho, ha.eval hx, Sem.run_bind, hr, Result.andThen_ok, Sem.run_pure]
    rfl
  rw [this]
  simp only [Oper.upon, hd]
  exact hK _ _ _ (k _ hs.size) _ _ (ha.put hn) (hs.alloc _)
theorem op_nextNil {d b : Nat} {x : Operand} (i : Nat) (ho : o.op = .next x false) (hd : o.dst = some d) (hn : Nat.blt d cx.n = true) (hx : ev e x = some (ptr b 0)) (hH : H[i]? = some (b, .mapIter none 0 #[] 0))
    (k : C ((d, .tuple #[.bool false]) :: e) I H) : OpJ cx Q o e I H C := by
  intro Kk hK a w ha hs
  unfold Oper.wp
  have hb := hs.own _ (List.mem_of_getElem? hH)
  have : (execOp a.eval o).run cx.P w = .ok (.value (.tuple #[.bool false])) w := by
    simp only [execOp, ho, ha.eval hx, Instr.next, getObj, Sem.run_bind, Sem.run, hb, Result.andThen]
    rfl
  rw [this]
  simp only [Oper.upon, hd]
  exact hK _ _ _ k _ _ (ha.put hn) hs
omit [BEq α] [LawfulBEq α] in
theorem op_nextMap {d b m since last c : Nat} {x : Operand} {kv : α → Value} {l vis rest : ML α} (i : Nat) (ho : o.op = .next x false) (hd : o.dst = some d) (hn : Nat.blt d cx.n = true) (hx : ev e x = some (ptr b 0)) (hH : H[i]? = some (b, mit m since vis last)) (hm : Blk (SS I H) m (mobj kv l c))
    (hold : ∀ p ∈ l, p.2.2 < since) (hsc : since ≤ last) (hnd : (l.map (·.2.2)).Nodup) (hp : (vis ++ rest).Perm l)
    (k1 : ∀ (p : α × Value × Nat) (r : ML α) (H' : HL), rest.Perm (p :: r) → (vis ++ [p] ++ r).Perm l → LSet H i (b, mit m since (vis ++ [p]) c) H' → C ((d, .tuple #[.bool true, kv p.1, p.2.1]) :: e) I H')
    (k0 : rest = [] → C ((d, .tuple #[.bool false]) :: e) I H) : OpJ cx Q o e I H C := by
  intro Kk hK a w ha hs
  unfold Oper.wp
  have hb := hs.own _ (List.mem_of_getElem? hH)
  have hmw := hm w hs.ss
  have hrun := run_next_at (P := cx.P) w o.type b m since last _ _ c hb hmw (by
    intro y hy
    simp only [List.mem_map] at hy
    obtain ⟨p, hp, rfl⟩ := hy
    exact hold p hp) hsc
  have hnd2 : ((vis ++ rest).map (·.2.2)).Nodup := (hp.map _).nodup_iff.2 hnd
  have hexec : (execOp a.eval o).run cx.P w = ((Instr.next (.pointer (some ⟨b, 0, none⟩)) false o.type).run cx.P w).andThen fun v w' => .ok (.value v) w' := by
    simp only [execOp, ho, ha.eval hx, Sem.run_bind]
    rfl
  have hin : ∀ p : α × Value × Nat, p ∈ l → ((vis.map (·.2.2)).toArray.contains p.2.2 = true ↔ p ∈ vis) := fun p hpl => by
    have hpm : p ∈ vis ++ rest := hp.mem_iff.2 hpl
    rw [Array.contains_iff_mem]
    simp only [List.mem_toArray, List.mem_map]
    constructor
    · rintro ⟨q, hq, he⟩
      rcases List.mem_append.1 hpm with h | h
      · exact h
      rw [List.map_append, List.nodup_append] at hnd2
      exact absurd he (hnd2.2.2 _ (List.mem_map_of_mem hq) _ (List.mem_map_of_mem h))
    exact fun h => ⟨p, h, rfl⟩
  rcases hrun with ⟨h0, hr⟩ | ⟨en, hen, w1, hw1, hr⟩
  · rw [hexec, hr]
    simp only [Result.andThen_ok, Oper.upon, hd]
    refine hK _ _ _ (k0 ?_) _ _ (ha.put hn) hs
    rcases rest with _ | ⟨p, r⟩
    · rfl
    exfalso
    have hpl : p ∈ l := hp.mem_iff.1 (List.mem_append_right _ (.head _))
    have hpv : p ∉ vis := fun h => by
      rw [List.map_append, List.nodup_append] at hnd2
      exact hnd2.2.2 _ (List.mem_map_of_mem h) _ (List.mem_map_of_mem (.head _)) rfl
    have : ment kv p ∈ leftOf (l.map (ment kv)).toArray (vis.map (·.2.2)).toArray := by
      unfold leftOf
      rw [Array.mem_filter]
      refine ⟨by simp only [List.mem_toArray]; exact List.mem_map_of_mem hpl, ?_⟩
      have := (not_congr (hin p hpl)).2 hpv
      simp only [Bool.not_eq_true] at this
      show (!Array.contains _ p.2.2) = true
      rw [this]; rfl
    have h1 := Array.eq_empty_of_size_eq_zero h0
    rw [h1] at this
    simp at this
  rw [hexec, hr]
  simp only [Result.andThen_ok, Oper.upon, hd]
  have hen2 : en ∈ leftOf (l.map (ment kv)).toArray (vis.map (·.2.2)).toArray := by simpa using hen
  unfold leftOf at hen2
  rw [Array.mem_filter] at hen2
  obtain ⟨hel, hns⟩ := hen2
  simp only [List.mem_toArray, List.mem_map] at hel
  obtain ⟨p, hpl, rfl⟩ := hel
  have hpv : p ∉ vis := fun h => by
    have := (hin p hpl).2 h
    change (!Array.contains _ p.2.2) = true at hns
    rw [this] at hns; cases hns
  have hpr : p ∈ rest := (List.mem_append.1 (hp.mem_iff.2 hpl)).resolve_left hpv
  obtain ⟨r1, r2, hrr⟩ := List.append_of_mem hpr
  have hperm : rest.Perm (p :: (r1 ++ r2)) := by rw [hrr]; exact List.perm_middle
  have hperm2 : (vis ++ [p] ++ (r1 ++ r2)).Perm l := by
    refine List.Perm.trans ?_ hp
    rw [List.append_assoc]
    exact List.Perm.append_left _ hperm.symm
  have hset : LSet H i (b, mit m since (vis ++ [p]) c) (H.set i (b, mit m since (vis ++ [p]) c)) := ⟨(List.getElem?_eq_some_iff.1 hH).1, rfl⟩
  have hk := k1 p (r1 ++ r2) _ hperm hperm2 hset
  have hst : St cx.w0 cx.D cx.I0 I (H.set i (b, mit m since (vis ++ [p]) c)) (ChangeMaps.setBlock w1 b (.mapIter (some m) since ((vis.map (·.2.2)).toArray.push p.2.2) c)) := by
    have he : (.mapIter (some m) since ((vis.map (·.2.2)).toArray.push p.2.2) c : Obj) = mit m since (vis ++ [p]) c := by simp [mit]
    rw [show (ment kv p).born = p.2.2 from rfl] at *
    rw [he]
    rcases hw1 with rfl | rfl
    · exact hs.block hH hset
    exact (hs.drewN (w.drawn + 1)).block hH hset
  exact hK _ _ _ hk _ _ (ha.put hn) hst
omit [LawfulBEq α] in
theorem yl_lookupNil1 {T K E : Nat} {m x : Operand} {kv : α → Value} {a : α} {z : Value} {kx : Value} (ho : o.op = .lookup T m x false) (hm : ev e m = some (.map none)) (hx : ev e x = some kx) (hkx : kx = kv a) (hT : cx.P.underlying T = some (.map K E)) (hK : KeyK cx.P K kv) (hz : ∀ w, (zeroValue E).run cx.P w = .ok z w) : Yld cx o e S z := by
  intro w0 w ha _
  subst hkx
  have h1 := hK.1 a [] w
  have h2 : (Instr.findKey K (kv a) []).run cx.P w = .ok none w := h1
  simp [execOp, ho, ha.eval hm, ha.eval hx, Instr.lookup, run_underlying hT, hK.2.1, h2, hz]
omit [BEq α] [LawfulBEq α] in
theorem yl_lenMap {x : Operand} {T K E b c : Nat} {kv : α → Value} {l : ML α} (ho : o.op = .call ⟨.builtin .len, #[x], #[T]⟩) (hx : ev e x = some (.map (some b))) (hu : cx.P.underlying T = some (.map K E)) (hb : Blk S b (mobj kv l c)) : Yld cx o e S (i64 (l.length : Int)) := by
  intro a w ha hs
  have h := hb w hs
  simp [execOp, ho, resolve, invoke, builtin, Builtin.len_, ha.eval hx, run_underlying hu, goInt, getObj, Sem.run, h, mobj]
theorem yl_lenMapNil {x : Operand} {T K E : Nat} (ho : o.op = .call ⟨.builtin .len, #[x], #[T]⟩) (hx : ev e x = some (.map none)) (hu : cx.P.underlying T = some (.map K E)) : Yld cx o e S (i64 0) := by
  intro a w ha _
  simp [execOp, ho, resolve, invoke, builtin, Builtin.len_, ha.eval hx, run_underlying hu, goInt]
end
end Go.Sx
namespace Go.Sx
open Go
section
variable {P : Program} {K i : TypeId} {f0 f1 : Field}
theorem run_part0 {xs : Array Value} {t off : Nat} {v : Value} {w : World} (ha : ∀ w, (isAgg t).run P w = .ok false w) (hv : xs[off]? = some v) : (part t xs off).run P w = .ok v w := by
  simp [part, ha, hv]
theorem stru_equal2 (hu : P.underlying K = some (.struct #[f0, f1])) (hp : P.stoodInHeld K = false) (n0 : f0.name ≠ "_") (n1 : f1.name ≠ "_") (o0 : f0.offset = 0) (o1 : f1.offset = 1) (a0 : ∀ w, (isAgg f0.type).run P w = .ok false w) (a1 : ∀ w, (isAgg f1.type).run P w = .ok false w)
    {x0 x1 y0 y1 : Value} {b0 b1 : Bool} (w : World) (e0 : ∀ d w, (Op.equalIn (d + 1) f0.type x0 y0).run P w = .ok b0 w) (e1 : ∀ d w, (Op.equalIn (d + 1) f1.type x1 y1).run P w = .ok b1 w) : ∀ d, (Op.equalIn (d + 2) K (.agg #[x0, x1]) (.agg #[y0, y1])).run P w = .ok (b0 && b1) w := by
  intro d
  have hf : P.fieldsOf K = #[f0, f1] := by simp [Program.fieldsOf, hu]
  rw [run_equalIn_struct w (d + 1) K _ _ (by rw [hf]; exact hu) hp, hf]
  have p0 : ∀ (a b : Value) w, (part f0.type #[a, b] f0.offset).run P w = .ok a w := fun a b w => run_part0 a0 (by rw [o0]; rfl)
  have p1 : ∀ (a b : Value) w, (part f1.type #[a, b] f1.offset).run P w = .ok b w := fun a b w => run_part0 a1 (by rw [o1]; rfl)
  simp only [Op.eqFields, n0, n1, ne_eq, not_false_eq_true, if_true, Sem.run_bind, p0, e0, Result.andThen_ok]
  cases b0
  · simp
  cases b1 <;> simp [Sem.run_bind, p1, e1]
theorem stru_check2 (hu : P.underlying K = some (.struct #[f0, f1])) (n0 : f0.name ≠ "_") (n1 : f1.name ≠ "_") (o0 : f0.offset = 0) (o1 : f1.offset = 1) (a0 : ∀ w, (isAgg f0.type).run P w = .ok false w) (a1 : ∀ w, (isAgg f1.type).run P w = .ok false w)
    {x0 x1 : Value} (b : Bool) (w : World) (e0 : ∀ d w, (Instr.checkKey b (d + 1) f0.type x0).run P w = .ok () w) (e1 : ∀ d w, (Instr.checkKey b (d + 1) f1.type x1).run P w = .ok () w) : ∀ d, (Instr.checkKey b (d + 2) K (.agg #[x0, x1])).run P w = .ok () w := by
  intro d
  have p0 : ∀ w, (part f0.type #[x0, x1] f0.offset).run P w = .ok x0 w := fun w => run_part0 a0 (by rw [o0]; rfl)
  have p1 : ∀ w, (part f1.type #[x0, x1] f1.offset).run P w = .ok x1 w := fun w => run_part0 a1 (by rw [o1]; rfl)
  have e0' := e0 d
  have e1' := e1 d
  generalize hc : Instr.checkKey b (d + 1) = ck at e0' e1'
  rw [show d + 2 = (d + 1) + 1 from rfl, Instr.checkKey]
  rw [hc]
  simp [Sem.run_bind, run_underlying hu, n0, n1, p0, p1, e0', e1']
theorem check_int {b : Bool} {t : TypeId} {k : IntKind} (hu : P.underlying t = some (.int k)) (a : Int) (d : Nat) (w : World) : (Instr.checkKey b (d + 1) t (.int k a)).run P w = .ok () w := by simp [Instr.checkKey, run_underlying hu]
theorem KeyK.ints2 (hu : P.underlying K = some (.struct #[f0, f1])) (hp : P.stoodInHeld K = false) (n0 : f0.name ≠ "_") (n1 : f1.name ≠ "_") (o0 : f0.offset = 0) (o1 : f1.offset = 1) (t0 : f0.type = i) (t1 : f1.type = i) (hi : P.underlying i = some (.int .i64)) (ha : ∀ w, (isAgg i).run P w = .ok false w) :
    KeyK P K (fun a : Int × Int => .agg #[i64 a.1, i64 a.2]) := by
  subst t0
  refine KeyK.equal hu (fun a b => rfl) (fun a b w => ?_) (fun b a w => ?_) (fun a => ?_)
  · have h := stru_equal2 hu hp n0 n1 o0 o1 ha (t1 ▸ ha) (x0 := i64 a.1) (x1 := i64 a.2) (y0 := i64 b.1) (y1 := i64 b.2) w (fun d w => run_equalIn_int w d _ .i64 .i64 a.1 b.1 hi) (fun d w => run_equalIn_int w d _ .i64 .i64 a.2 b.2 (t1 ▸ hi)) 9998
    exact h
  · exact stru_check2 hu n0 n1 o0 o1 ha (t1 ▸ ha) b w (fun d w => check_int hi _ d w) (fun d w => check_int (t1 ▸ hi) _ d w) 9998
  show Instr.sameBits (9999 + 1) _ _ = true
  simp [Instr.sameBits]
end
end Go.Sx
end
section
namespace Go.Sx
open Go
section
variable {α : Type} [BEq α] [LawfulBEq α]
def MS (l : ML α) (c : Nat) : Prop := (l.map (·.1)).Nodup ∧ (l.map (·.2.2)).Nodup ∧ ∀ p ∈ l, p.2.2 < c
omit [BEq α] [LawfulBEq α] in
theorem MS.nil : MS ([] : ML α) 0 := ⟨.nil, .nil, fun _ h => by simp at h⟩
theorem mget_iff {l : ML α} {a : α} (h : (l.map (·.1)).Nodup) {v : Value} : mget l a = some v ↔ ∃ n, (a, v, n) ∈ l := by
  induction l with
  | nil => simp [mget]
  | cons p r ih =>
    obtain ⟨b, u, n⟩ := p
    rw [List.map_cons, List.nodup_cons] at h
    unfold mget
    by_cases hab : a = b
    · subst hab
      simp only [BEq.rfl, if_true, Option.some.injEq]
      constructor
      · rintro rfl; exact ⟨n, .head _⟩
      rintro ⟨k, hk⟩
      rcases List.mem_cons.1 hk with e | e
      · exact (congrArg (fun x => x.2.1) e).symm
      exact absurd (List.mem_map_of_mem (f := (·.1)) e) h.1
    rw [if_neg (by simpa using hab), ih h.2]
    constructor
    · rintro ⟨k, hk⟩; exact ⟨k, .tail _ hk⟩
    rintro ⟨k, hk⟩
    rcases List.mem_cons.1 hk with e | e
    · exact absurd (congrArg (·.1) e) hab
    exact ⟨k, e⟩
theorem mget_none {l : ML α} {a : α} : mget l a = none ↔ a ∉ l.map (·.1) := by
  induction l with
  | nil => simp [mget]
  | cons p r ih =>
    obtain ⟨b, u, n⟩ := p
    unfold mget
    by_cases hab : a = b
    · subst hab; simp
    rw [if_neg (by simpa using hab), ih]; simp [hab]
theorem mget_mset (l : ML α) (a b : α) (v : Value) (c : Nat) : mget (mset l a v c) b = if b == a then some v else mget l b := by
  induction l with
  | nil => unfold mset mget; by_cases h : b = a <;> simp [h, mget]
  | cons p r ih =>
    obtain ⟨d, u, n⟩ := p
    unfold mset
    by_cases had : a = d
    · subst had
      rw [if_pos (by simp)]
      by_cases h : b = a
      · subst h; simp [mget]
      have h' : (b == a) = false := by simpa using h
      simp [mget, h']
    rw [if_neg (by simpa using had)]
    by_cases hbd : b = d
    · subst hbd
      have h' : (b == a) = false := by simpa using fun e : b = a => had e.symm
      simp [mget, h']
    have h' : (b == d) = false := by simpa using hbd
    simp only [mget, h', Bool.false_eq_true, if_false, ih]
theorem mset_keys {l : ML α} {a : α} {v : Value} {c : Nat} : (mset l a v c).map (·.1) = if a ∈ l.map (·.1) then l.map (·.1) else l.map (·.1) ++ [a] := by
  induction l with
  | nil => simp [mset]
  | cons p r ih =>
    obtain ⟨d, u, n⟩ := p
    unfold mset
    by_cases had : a = d
    · subst had; simp
    rw [if_neg (by simpa using had), List.map_cons, ih]
    by_cases h : a ∈ r.map (·.1)
    · simp [h]
    rw [if_neg h, if_neg (by simp only [List.map_cons, List.mem_cons, not_or]; exact ⟨had, h⟩)]; rfl
theorem mset_mem {l : ML α} {a x : α} {v : Value} {c : Nat} : x ∈ (mset l a v c).map (·.1) ↔ x ∈ l.map (·.1) ∨ x = a := by
  rw [mset_keys]
  split
  · rename_i h
    exact ⟨.inl, fun g => g.elim id (fun e => e ▸ h)⟩
  simp
theorem MS.set {l : ML α} {c : Nat} (h : MS l c) (a : α) (v : Value) : MS (mset l a v c) (mclk l a c) := by
  obtain ⟨h1, h2, h3⟩ := h
  cases hm : mget l a with
  | none =>
    obtain ⟨-, hs⟩ := midx_none l 0 hm
    have ha := mget_none.1 hm
    rw [hs, mclk, hm]
    refine ⟨?_, ?_, ?_⟩
    · rw [List.map_append, List.nodup_append]
      refine ⟨h1, by simp, fun x hx y hy e => ?_⟩
      rw [List.map_cons, List.map_nil, List.mem_singleton] at hy
      exact ha (by have : x = a := e.trans hy; exact this ▸ hx)
    · rw [List.map_append, List.nodup_append]
      refine ⟨h2, by simp, fun x hx y hy e => ?_⟩
      rw [List.map_cons, List.map_nil, List.mem_singleton] at hy
      obtain ⟨p, hp, rfl⟩ := List.mem_map.1 hx
      have := h3 p hp
      dsimp only at hy e
      omega
    intro p hp
    simp only [Option.isSome_none, Bool.false_eq_true, if_false]
    rcases List.mem_append.1 hp with g | g
    · exact Nat.lt_succ_of_lt (h3 p g)
    rw [List.mem_singleton] at g; subst g; exact Nat.lt_succ_self _
  | some u =>
    obtain ⟨j, u', n, -, hj, hs⟩ := midx_some l 0 hm
    have he : ∀ f : α × Value × Nat → Nat ⊕ α, f (a, v, n) = f (a, u', n) → (l.set j (a, v, n)).map f = l.map f := fun f hf => by
      apply List.ext_getElem?
      intro i
      rw [List.getElem?_map, List.getElem?_map, List.getElem?_set]
      by_cases hi : j = i
      · subst hi
        rw [if_pos rfl, hj, if_pos (List.getElem?_eq_some_iff.1 hj).1]
        simp [hf]
      rw [if_neg hi]
    have e1 : (l.set j (a, v, n)).map (·.1) = l.map (·.1) := by
      have := congrArg (List.map (fun s : Nat ⊕ α => match s with | .inr x => x | .inl _ => a)) (he (fun p => .inr p.1) rfl)
      simpa [List.map_map, Function.comp_def] using this
    have e2 : (l.set j (a, v, n)).map (·.2.2) = l.map (·.2.2) := by
      have := congrArg (List.map (fun s : Nat ⊕ α => match s with | .inl x => x | .inr _ => 0)) (he (fun p => .inl p.2.2) rfl)
      simpa [List.map_map, Function.comp_def] using this
    rw [hs, mclk, hm]
    refine ⟨by rw [e1]; exact h1, by rw [e2]; exact h2, fun p hp => ?_⟩
    have : p.2.2 ∈ l.map (·.2.2) := e2 ▸ List.mem_map_of_mem hp
    obtain ⟨q, hq, e⟩ := List.mem_map.1 this
    exact e ▸ h3 q hq
end
section
variable {cx : Cx} {Q : Qt} {o : Oper} {e : Env} {S : World → Prop} {α : Type} [BEq α] [LawfulBEq α]
omit [BEq α] [LawfulBEq α] in
theorem yl_entry {b m since c : Nat} {x : Operand} {kv : α → Value} {l vis : ML α} {p : α × Value × Nat} (ho : o.op = .entry x) (hx : ev e x = some (ptr b 0)) (hb : Blk S b (mit m since (vis ++ [p]) c)) (hm : Blk S m (mobj kv l c)) (hp : p ∈ l) (hn : (l.map (·.2.2)).Nodup) : Yld cx o e S (.tuple #[kv p.1, p.2.1]) := by
  intro w0 w ha hs
  have h1 := hb w hs
  have h2 := hm w hs
  have h3 : w.heap[b]? = some (.mapIter (some m) since ((vis.map (·.2.2)).toArray.push (ment kv p).born) c) := by
    rw [h1]; simp [mit]
  have hr := run_entry_at (P := cx.P) w b m since _ _ c (ment kv p) h3 h2 (by simp only [List.mem_map]; exact ⟨p, hp, rfl⟩) (by
    rw [List.map_map]
    exact hn)
  have : (execOp w0.eval o).run cx.P w = .ok (.value (.tuple #[kv p.1, p.2.1])) w := by
    simp only [execOp, ho, ha.eval hx, Sem.run_bind, hr, Result.andThen_ok, Sem.run_pure]
  exact this
end
end Go.Sx
end
section
namespace Go.Sx
open Go
section
variable {α : Type} [BEq α] [LawfulBEq α]
def mdel (l : ML α) (a : α) : ML α := match l with
  | [] => []
  | (b, v, n) :: r => if a == b then r else (b, v, n) :: mdel r a
omit [LawfulBEq α] in
theorem midx_del {a : α} : ∀ (l : ML α) (i : Nat), (midx l a i = none ∧ mdel l a = l) ∨ ∃ j v, midx l a i = some (i + j, v) ∧ mdel l a = l.eraseIdx j ∧ j < l.length
  | [], _ => .inl ⟨rfl, rfl⟩
  | (b, v, n) :: r, i => by
    unfold midx mdel
    by_cases h : (a == b) = true
    · rw [if_pos h, if_pos h]; exact .inr ⟨0, v, rfl, rfl, by simp⟩
    rw [if_neg h, if_neg h]
    rcases midx_del (a := a) r (i + 1) with ⟨h1, h2⟩ | ⟨j, u, h1, h2, h3⟩
    · exact .inl ⟨h1, by rw [h2]⟩
    refine .inr ⟨j + 1, u, ?_, by rw [h2]; rfl, by simpa using h3⟩
    rw [h1, Nat.add_assoc, Nat.add_comm 1 j]
theorem mdel_filter {a : α} : ∀ {l : ML α}, (l.map (·.1)).Nodup → mdel l a = l.filter fun p => !(p.1 == a)
  | [], _ => rfl
  | (b, v, n) :: r, h => by
    rw [List.map_cons, List.nodup_cons] at h
    unfold mdel
    by_cases hb : (a == b) = true
    · have he := eq_of_beq hb
      subst he
      rw [if_pos hb, List.filter_cons_of_neg (by simp)]
      rw [List.filter_eq_self.2]
      intro p hp
      have : p.1 ≠ a := fun g => h.1 (List.mem_map.2 ⟨p, hp, g⟩)
      simpa using this
    have hne : (b == a) = false := by
      rw [Bool.eq_false_iff]; intro g; exact hb (by rw [eq_of_beq g]; simp)
    rw [if_neg hb, List.filter_cons_of_pos (by simp [hne]), mdel_filter h.2]
theorem MS.del {l : ML α} {c : Nat} (h : MS l c) (a : α) : MS (mdel l a) c := by
  rw [mdel_filter h.1]
  refine ⟨h.1.sublist (List.filter_sublist.map _), h.2.1.sublist (List.filter_sublist.map _), fun p hp => h.2.2 p (List.mem_filter.1 hp).1⟩
theorem mget_mdel {l : ML α} (h : (l.map (·.1)).Nodup) (a b : α) : mget (mdel l a) b = if b == a then none else mget l b := by
  by_cases hb : (b == a) = true
  · rw [if_pos hb, mget_none, mdel_filter h]
    have := eq_of_beq hb
    subst this
    simp
  rw [if_neg hb]
  cases hm : mget l b with
  | none =>
    rw [mget_none] at hm ⊢
    rw [mdel_filter h]
    exact fun g => hm ((List.filter_sublist.map _).subset g)
  | some v =>
    have h2 : ((mdel l a).map (·.1)).Nodup := by rw [mdel_filter h]; exact h.sublist (List.filter_sublist.map _)
    rw [mget_iff h] at hm
    obtain ⟨n, hn⟩ := hm
    rw [mget_iff h2, mdel_filter h]
    exact ⟨n, List.mem_filter.2 ⟨hn, by simpa using hb⟩⟩
variable {cx : Cx} {Q : Qt} {e : Env} {I : Heap} {H : HL} {o : Oper} {C : Ct} {S : World → Prop}
omit [LawfulBEq α] in
theorem run_delete {P : Program} {T U K E b c : Nat} {t : TypeId} {kv : α → Value} {l : ML α} {a : α} {w : World} (hT : P.underlying T = some (.map K E)) (hk : KeyK P K kv) (hb : w.heap[b]? = some (mobj kv l c)) :
    (Builtin.delete_ #[T, U] t #[.map (some b), kv a]).run P w = .ok (.tuple #[]) (World.block w b (mobj kv (mdel l a) c)) := by
  obtain ⟨hf, hc, _⟩ := hk
  have hg : (getObj b).run P w = .ok (mobj kv l c) w := by simp [getObj, Sem.run, hb, mobj]
  have hset : ∀ o', (setObj b o').run P w = .ok () (World.block w b o') := fun o' => by simp [setObj, Sem.run, hb, World.block, mobj]
  rcases midx_del (a := a) l 0 with ⟨h1, h2⟩ | ⟨j, v, h1, h2, h3⟩
  · have h4 : (Instr.findKey K (kv a) (l.map (ment kv))).run P w = .ok none w := by rw [hf, h1]
    simp [Builtin.delete_, run_underlying hT, hg, mobj, hc, h4, hset, h2]
  rw [Nat.zero_add] at h1
  have he : ∀ (q : ML α) (k : Nat), (q.map (ment kv)).eraseIdx k = (q.eraseIdx k).map (ment kv) := by
    intro q
    induction q with
    | nil => intro k; rfl
    | cons x r ih => intro k; cases k with
      | zero => rfl
      | succ k => simp [ih]
  have h4 : (Instr.findKey K (kv a) (l.map (ment kv))).run P w = .ok (some (j, v)) w := by rw [hf, h1]
  have h5 : (l.map (ment kv)).toArray.eraseIdxIfInBounds j = (((l.eraseIdx j).map (ment kv)).toArray : Array MapEntry) := by
    rw [Array.eraseIdxIfInBounds, dif_pos (by simpa using h3), List.eraseIdx_toArray, he]
  simp [Builtin.delete_, run_underlying hT, hg, mobj, hc, h4, hset, h2, he]
omit [LawfulBEq α] in
theorem op_delete0 {T U K E b c : Nat} {m x : Operand} {kv : α → Value} {l : ML α} {a : α} {kx : Value} {H' : HL} (i : Nat) (ho : o.op = .call ⟨.builtin .delete, #[m, x], #[T, U]⟩) (hd : o.dst = none) (hm : ev e m = some (.map (some b))) (hx : ev e x = some kx) (hkx : kx = kv a) (hT : cx.P.underlying T = some (.map K E)) (hK : KeyK cx.P K kv)
    (hH : H[i]? = some (b, mobj kv l c)) (hH' : LSet H i (b, mobj kv (mdel l a) c) H') (kk : C e I H') : OpJ cx Q o e I H C := by
  intro Kk hKk w0 w ha hs
  unfold Oper.wp
  subst hkx
  have hb := hs.own _ (List.mem_of_getElem? hH)
  have hr := run_delete (U := U) (t := o.type) (a := a) hT hK hb
  have : (execOp w0.eval o).run cx.P w = .ok (.value (.tuple #[])) (World.block w b (mobj kv (mdel l a) c)) := by
    simp [execOp, ho, resolve, invoke, builtin, ha.eval hm, ha.eval hx, hr]
  rw [this]
  simp only [Oper.upon, hd]
  exact hKk _ _ _ kk _ _ ha.putNone (hs.block hH hH')
end
section
variable {cx : Cx} {o : Oper} {e : Env} {S : World → Prop}
theorem run_mapNil {P : Program} {w : World} {T K E : Nat} (p : Option Nat) (hT : P.underlying T = some (.map K E)) : (binOp .neq T (.map p) (.map none)).run P w = .ok (.bool p.isSome) w ∧ (binOp .eql T (.map p) (.map none)).run P w = .ok (.bool p.isNone) w := by
  have h1 : ∀ d : Nat, (Op.equalIn (d + 1) T (.map p) (.map none)).run P w = .ok p.isNone w := fun d => by cases p <;> simp [Op.equalIn, run_underlying hT]
  simp only [binOp]
  cases p <;> simp [Op.equal, Op.maxDepth, h1 9999]
theorem yl_eqlMap {x y : Operand} {T U K E : Nat} (p : Option Nat) (ho : o.op = .binOp .eql T x y U) (hx : ev e x = some (.map p)) (hy : ev e y = some (.map none)) (hT : cx.P.underlying T = some (.map K E)) : Yld cx o e S (.bool p.isNone) := by
  intro a w ha _
  have hb := (run_mapNil (P := cx.P) (w := w) p hT).2
  have hg : eqGuard .eql T x y (.map p) (.map none) = pure () := rfl
  simp [execOp, ho, ha.eval hx, ha.eval hy, hb, hg]
end
end Go.Sx
end
section
namespace Go.Sx
open Go Go.Proofs
structure Wr (A : Prop) : Prop where
  w : A
set_option maxRecDepth 100000
structure Tb (α : Type) (P : Nat → α → Prop) where
  f : Nat → Option α
  h : ∀ n a, f n = some a → P n a
noncomputable def TL {α : Type} {P : Nat → α → Prop} (k : Nat) {a : α} (h : P k a) : Tb α P := ⟨fun n => bif Nat.beq n k then some a else none, fun n b e => by
  cases hk : Nat.beq n k with
  | true => rw [hk] at e; cases e; rw [Nat.eq_of_beq_eq_true hk]; exact h
  | false => rw [hk] at e; cases e⟩
noncomputable def TN {α : Type} {P : Nat → α → Prop} (k : Nat) (a b : Tb α P) : Tb α P := ⟨fun n => bif Nat.ble n k then a.f n else b.f n, fun n c e => by
  cases hk : Nat.ble n k with
  | true => rw [hk] at e; exact a.h n c e
  | false => rw [hk] at e; exact b.h n c e⟩
noncomputable def tbU : Tb TypeDesc (fun n a => Go.Proofs.Tryz.prog.underlying n = some a) := TN 192 (TN 76 (TN 30 (TN 20 (TN 4 (TN 0 (TL 0 Tryz.underlying0) (TN 3 (TL 3 Tryz.underlying3) (TL 4 Tryz.underlying4))) (TN 5 (TL 5 Tryz.underlying5) (TN 9 (TL 9 Tryz.underlying9) (TL 20 Tryz.underlying20)))) (TN 23 (TN 21 (TL 21 Tryz.underlying21) (TN 22 (TL 22 Tryz.underlying22) (TL 23 Tryz.underlying23))) (TN 26 (TN 24 (TL 24 Tryz.underlying24) (TL 26 Tryz.underlying26)) (TN 27 (TL 27 Tryz.underlying27) (TL 30 Tryz.underlying30))))) (TN 54 (TN 36 (TN 32 (TL 32 Tryz.underlying32) (TN 35 (TL 35 Tryz.underlying35) (TL 36 Tryz.underlying36))) (TN 50 (TN 48 (TL 48 Tryz.underlying48) (TL 50 Tryz.underlying50)) (TN 51 (TL 51 Tryz.underlying51) (TL 54 Tryz.underlying54)))) (TN 59 (TN 55 (TL 55 Tryz.underlying55) (TN 57 (TL 57 Tryz.underlying57) (TL 59 Tryz.underlying59))) (TN 68 (TN 62 (TL 62 Tryz.underlying62) (TL 68 Tryz.underlying68)) (TN 69 (TL 69 Tryz.underlying69) (TL 76 Tryz.underlying76)))))) (TN 123 (TN 106 (TN 87 (TN 80 (TL 80 Tryz.underlying80) (TN 82 (TL 82 Tryz.underlying82) (TL 87 Tryz.underlying87))) (TN 91 (TN 90 (TL 90 Tryz.underlying90) (TL 91 Tryz.underlying91)) (TN 93 (TL 93 Tryz.underlying93) (TL 106 Tryz.underlying106)))) (TN 112 (TN 108 (TL 108 Tryz.underlying108) (TN 110 (TL 110 Tryz.underlying110) (TL 112 Tryz.underlying112))) (TN 118 (TN 114 (TL 114 Tryz.underlying114) (TL 118 Tryz.underlying118)) (TN 120 (TL 120 Tryz.underlying120) (TL 123 Tryz.underlying123))))) (TN 161 (TN 142 (TN 128 (TL 128 Tryz.underlying128) (TN 140 (TL 140 Tryz.underlying140) (TL 142 Tryz.underlying142))) (TN 152 (TN 149 (TL 149 Tryz.underlying149) (TL 152 Tryz.underlying152)) (TN 159 (TL 159 Tryz.underlying159) (TL 161 Tryz.underlying161)))) (TN 176 (TN 163 (TL 163 Tryz.underlying163) (TN 168 (TL 168 Tryz.underlying168) (TL 176 Tryz.underlying176))) (TN 183 (TN 180 (TL 180 Tryz.underlying180) (TL 183 Tryz.underlying183)) (TN 188 (TL 188 Tryz.underlying188) (TL 192 Tryz.underlying192))))))) (TN 312 (TN 240 (TN 213 (TN 202 (TN 197 (TL 197 Tryz.underlying197) (TN 200 (TL 200 Tryz.underlying200) (TL 202 Tryz.underlying202))) (TN 207 (TN 204 (TL 204 Tryz.underlying204) (TL 207 Tryz.underlying207)) (TN 208 (TL 208 Tryz.underlying208) (TL 213 Tryz.underlying213)))) (TN 228 (TN 215 (TL 215 Tryz.underlying215) (TN 225 (TL 225 Tryz.underlying225) (TL 228 Tryz.underlying228))) (TN 232 (TN 231 (TL 231 Tryz.underlying231) (TL 232 Tryz.underlying232)) (TN 238 (TL 238 Tryz.underlying238) (TL 240 Tryz.underlying240))))) (TN 276 (TN 262 (TN 246 (TL 246 Tryz.underlying246) (TN 254 (TL 254 Tryz.underlying254) (TL 262 Tryz.underlying262))) (TN 270 (TN 268 (TL 268 Tryz.underlying268) (TL 270 Tryz.underlying270)) (TN 272 (TL 272 Tryz.underlying272) (TL 276 Tryz.underlying276)))) (TN 284 (TN 279 (TL 279 Tryz.underlying279) (TN 281 (TL 281 Tryz.underlying281) (TL 284 Tryz.underlying284))) (TN 304 (TN 293 (TL 293 Tryz.underlying293) (TL 304 Tryz.underlying304)) (TN 308 (TL 308 Tryz.underlying308) (TL 312 Tryz.underlying312)))))) (TN 367 (TN 340 (TN 324 (TN 313 (TL 313 Tryz.underlying313) (TN 316 (TL 316 Tryz.underlying316) (TL 324 Tryz.underlying324))) (TN 328 (TN 325 (TL 325 Tryz.underlying325) (TL 328 Tryz.underlying328)) (TN 338 (TL 338 Tryz.underlying338) (TL 340 Tryz.underlying340)))) (TN 351 (TN 341 (TL 341 Tryz.underlying341) (TN 349 (TL 349 Tryz.underlying349) (TL 351 Tryz.underlying351))) (TN 364 (TN 362 (TL 362 Tryz.underlying362) (TL 364 Tryz.underlying364)) (TN 365 (TL 365 Tryz.underlying365) (TL 367 Tryz.underlying367))))) (TN 394 (TN 373 (TN 371 (TL 371 Tryz.underlying371) (TN 372 (TL 372 Tryz.underlying372) (TL 373 Tryz.underlying373))) (TN 391 (TN 390 (TL 390 Tryz.underlying390) (TL 391 Tryz.underlying391)) (TN 393 (TL 393 Tryz.underlying393) (TL 394 Tryz.underlying394)))) (TN 402 (TN 396 (TL 396 Tryz.underlying396) (TN 399 (TL 399 Tryz.underlying399) (TL 402 Tryz.underlying402))) (TN 407 (TN 405 (TL 405 Tryz.underlying405) (TL 407 Tryz.underlying407)) (TN 417 (TL 417 Tryz.underlying417) (TL 418 Tryz.underlying418)))))))
noncomputable def tbS : Tb Nat (fun n a => ∀ w, (sizeOf n).run Go.Proofs.Tryz.prog w = .ok a w) := TN 208 (TN 91 (TN 32 (TN 9 (TN 3 (TN 0 (TL 0 Tryz.sizeOf0) (TL 3 Tryz.sizeOf3)) (TN 4 (TL 4 Tryz.sizeOf4) (TN 5 (TL 5 Tryz.sizeOf5) (TL 9 Tryz.sizeOf9)))) (TN 23 (TN 20 (TL 20 Tryz.sizeOf20) (TN 21 (TL 21 Tryz.sizeOf21) (TL 23 Tryz.sizeOf23))) (TN 24 (TL 24 Tryz.sizeOf24) (TN 30 (TL 30 Tryz.sizeOf30) (TL 32 Tryz.sizeOf32))))) (TN 57 (TN 48 (TN 35 (TL 35 Tryz.sizeOf35) (TN 36 (TL 36 Tryz.sizeOf36) (TL 48 Tryz.sizeOf48))) (TN 54 (TL 54 Tryz.sizeOf54) (TN 55 (TL 55 Tryz.sizeOf55) (TL 57 Tryz.sizeOf57)))) (TN 69 (TN 59 (TL 59 Tryz.sizeOf59) (TN 62 (TL 62 Tryz.sizeOf62) (TL 69 Tryz.sizeOf69))) (TN 80 (TL 80 Tryz.sizeOf80) (TN 90 (TL 90 Tryz.sizeOf90) (TL 91 Tryz.sizeOf91)))))) (TN 142 (TN 112 (TN 106 (TN 93 (TL 93 Tryz.sizeOf93) (TL 106 Tryz.sizeOf106)) (TN 108 (TL 108 Tryz.sizeOf108) (TN 110 (TL 110 Tryz.sizeOf110) (TL 112 Tryz.sizeOf112)))) (TN 121 (TN 118 (TL 118 Tryz.sizeOf118) (TN 120 (TL 120 Tryz.sizeOf120) (TL 121 Tryz.sizeOf121))) (TN 123 (TL 123 Tryz.sizeOf123) (TN 128 (TL 128 Tryz.sizeOf128) (TL 142 Tryz.sizeOf142))))) (TN 176 (TN 159 (TN 149 (TL 149 Tryz.sizeOf149) (TN 152 (TL 152 Tryz.sizeOf152) (TL 159 Tryz.sizeOf159))) (TN 163 (TL 163 Tryz.sizeOf163) (TN 168 (TL 168 Tryz.sizeOf168) (TL 176 Tryz.sizeOf176)))) (TN 202 (TN 188 (TL 188 Tryz.sizeOf188) (TN 192 (TL 192 Tryz.sizeOf192) (TL 202 Tryz.sizeOf202))) (TN 204 (TL 204 Tryz.sizeOf204) (TN 207 (TL 207 Tryz.sizeOf207) (TL 208 Tryz.sizeOf208))))))) (TN 324 (TN 272 (TN 238 (TN 228 (TN 215 (TL 215 Tryz.sizeOf215) (TL 228 Tryz.sizeOf228)) (TN 231 (TL 231 Tryz.sizeOf231) (TN 232 (TL 232 Tryz.sizeOf232) (TL 238 Tryz.sizeOf238)))) (TN 254 (TN 240 (TL 240 Tryz.sizeOf240) (TN 246 (TL 246 Tryz.sizeOf246) (TL 254 Tryz.sizeOf254))) (TN 268 (TL 268 Tryz.sizeOf268) (TN 270 (TL 270 Tryz.sizeOf270) (TL 272 Tryz.sizeOf272))))) (TN 302 (TN 284 (TN 276 (TL 276 Tryz.sizeOf276) (TN 281 (TL 281 Tryz.sizeOf281) (TL 284 Tryz.sizeOf284))) (TN 293 (TL 293 Tryz.sizeOf293) (TN 298 (TL 298 Tryz.sizeOf298) (TL 302 Tryz.sizeOf302)))) (TN 312 (TN 304 (TL 304 Tryz.sizeOf304) (TN 306 (TL 306 Tryz.sizeOf306) (TL 312 Tryz.sizeOf312))) (TN 313 (TL 313 Tryz.sizeOf313) (TN 316 (TL 316 Tryz.sizeOf316) (TL 324 Tryz.sizeOf324)))))) (TN 372 (TN 349 (TN 338 (TN 325 (TL 325 Tryz.sizeOf325) (TN 328 (TL 328 Tryz.sizeOf328) (TL 338 Tryz.sizeOf338))) (TN 340 (TL 340 Tryz.sizeOf340) (TN 341 (TL 341 Tryz.sizeOf341) (TL 349 Tryz.sizeOf349)))) (TN 364 (TN 351 (TL 351 Tryz.sizeOf351) (TN 362 (TL 362 Tryz.sizeOf362) (TL 364 Tryz.sizeOf364))) (TN 367 (TL 367 Tryz.sizeOf367) (TN 371 (TL 371 Tryz.sizeOf371) (TL 372 Tryz.sizeOf372))))) (TN 396 (TN 391 (TN 373 (TL 373 Tryz.sizeOf373) (TN 390 (TL 390 Tryz.sizeOf390) (TL 391 Tryz.sizeOf391))) (TN 393 (TL 393 Tryz.sizeOf393) (TN 394 (TL 394 Tryz.sizeOf394) (TL 396 Tryz.sizeOf396)))) (TN 405 (TN 399 (TL 399 Tryz.sizeOf399) (TN 402 (TL 402 Tryz.sizeOf402) (TL 405 Tryz.sizeOf405))) (TN 407 (TL 407 Tryz.sizeOf407) (TN 417 (TL 417 Tryz.sizeOf417) (TL 418 Tryz.sizeOf418)))))))
noncomputable def tbG : Tb Bool (fun n a => ∀ w, (isAgg n).run Go.Proofs.Tryz.prog w = .ok a w) := TN 204 (TN 90 (TN 26 (TN 9 (TN 3 (TN 0 (TL 0 Tryz.isAgg0) (TL 3 Tryz.isAgg3)) (TN 4 (TL 4 Tryz.isAgg4) (TN 5 (TL 5 Tryz.isAgg5) (TL 9 Tryz.isAgg9)))) (TN 21 (TN 20 (TL 20 Tryz.isAgg20) (TL 21 Tryz.isAgg21)) (TN 23 (TL 23 Tryz.isAgg23) (TN 24 (TL 24 Tryz.isAgg24) (TL 26 Tryz.isAgg26))))) (TN 54 (TN 32 (TN 30 (TL 30 Tryz.isAgg30) (TL 32 Tryz.isAgg32)) (TN 36 (TL 36 Tryz.isAgg36) (TN 48 (TL 48 Tryz.isAgg48) (TL 54 Tryz.isAgg54)))) (TN 59 (TN 55 (TL 55 Tryz.isAgg55) (TN 57 (TL 57 Tryz.isAgg57) (TL 59 Tryz.isAgg59))) (TN 69 (TL 69 Tryz.isAgg69) (TN 80 (TL 80 Tryz.isAgg80) (TL 90 Tryz.isAgg90)))))) (TN 123 (TN 110 (TN 93 (TN 91 (TL 91 Tryz.isAgg91) (TL 93 Tryz.isAgg93)) (TN 106 (TL 106 Tryz.isAgg106) (TN 108 (TL 108 Tryz.isAgg108) (TL 110 Tryz.isAgg110)))) (TN 118 (TN 112 (TL 112 Tryz.isAgg112) (TL 118 Tryz.isAgg118)) (TN 120 (TL 120 Tryz.isAgg120) (TN 121 (TL 121 Tryz.isAgg121) (TL 123 Tryz.isAgg123))))) (TN 159 (TN 142 (TN 128 (TL 128 Tryz.isAgg128) (TL 142 Tryz.isAgg142)) (TN 149 (TL 149 Tryz.isAgg149) (TN 152 (TL 152 Tryz.isAgg152) (TL 159 Tryz.isAgg159)))) (TN 188 (TN 168 (TL 168 Tryz.isAgg168) (TN 176 (TL 176 Tryz.isAgg176) (TL 188 Tryz.isAgg188))) (TN 192 (TL 192 Tryz.isAgg192) (TN 202 (TL 202 Tryz.isAgg202) (TL 204 Tryz.isAgg204))))))) (TN 324 (TN 254 (TN 231 (TN 208 (TN 207 (TL 207 Tryz.isAgg207) (TL 208 Tryz.isAgg208)) (TN 215 (TL 215 Tryz.isAgg215) (TN 228 (TL 228 Tryz.isAgg228) (TL 231 Tryz.isAgg231)))) (TN 238 (TN 232 (TL 232 Tryz.isAgg232) (TL 238 Tryz.isAgg238)) (TN 240 (TL 240 Tryz.isAgg240) (TN 246 (TL 246 Tryz.isAgg246) (TL 254 Tryz.isAgg254))))) (TN 284 (TN 270 (TN 268 (TL 268 Tryz.isAgg268) (TL 270 Tryz.isAgg270)) (TN 272 (TL 272 Tryz.isAgg272) (TN 276 (TL 276 Tryz.isAgg276) (TL 284 Tryz.isAgg284)))) (TN 312 (TN 293 (TL 293 Tryz.isAgg293) (TN 306 (TL 306 Tryz.isAgg306) (TL 312 Tryz.isAgg312))) (TN 313 (TL 313 Tryz.isAgg313) (TN 316 (TL 316 Tryz.isAgg316) (TL 324 Tryz.isAgg324)))))) (TN 373 (TN 341 (TN 328 (TN 325 (TL 325 Tryz.isAgg325) (TL 328 Tryz.isAgg328)) (TN 338 (TL 338 Tryz.isAgg338) (TN 340 (TL 340 Tryz.isAgg340) (TL 341 Tryz.isAgg341)))) (TN 367 (TN 349 (TL 349 Tryz.isAgg349) (TN 351 (TL 351 Tryz.isAgg351) (TL 367 Tryz.isAgg367))) (TN 371 (TL 371 Tryz.isAgg371) (TN 372 (TL 372 Tryz.isAgg372) (TL 373 Tryz.isAgg373))))) (TN 396 (TN 391 (TN 390 (TL 390 Tryz.isAgg390) (TL 391 Tryz.isAgg391)) (TN 393 (TL 393 Tryz.isAgg393) (TN 394 (TL 394 Tryz.isAgg394) (TL 396 Tryz.isAgg396)))) (TN 405 (TN 399 (TL 399 Tryz.isAgg399) (TN 402 (TL 402 Tryz.isAgg402) (TL 405 Tryz.isAgg405))) (TN 407 (TL 407 Tryz.isAgg407) (TN 417 (TL 417 Tryz.isAgg417) (TL 418 Tryz.isAgg418)))))))
noncomputable def tbZ : Tb Value (fun n a => ∀ w, (zeroValue n).run Go.Proofs.Tryz.prog w = .ok a w) := TN 208 (TN 108 (TN 32 (TN 9 (TN 3 (TN 0 (TL 0 Tryz.zeroValue0) (TL 3 Tryz.zeroValue3)) (TN 4 (TL 4 Tryz.zeroValue4) (TN 5 (TL 5 Tryz.zeroValue5) (TL 9 Tryz.zeroValue9)))) (TN 21 (TN 20 (TL 20 Tryz.zeroValue20) (TL 21 Tryz.zeroValue21)) (TN 24 (TL 24 Tryz.zeroValue24) (TN 30 (TL 30 Tryz.zeroValue30) (TL 32 Tryz.zeroValue32))))) (TN 57 (TN 36 (TN 35 (TL 35 Tryz.zeroValue35) (TL 36 Tryz.zeroValue36)) (TN 50 (TL 50 Tryz.zeroValue50) (TN 54 (TL 54 Tryz.zeroValue54) (TL 57 Tryz.zeroValue57)))) (TN 69 (TN 59 (TL 59 Tryz.zeroValue59) (TN 62 (TL 62 Tryz.zeroValue62) (TL 69 Tryz.zeroValue69))) (TN 82 (TL 82 Tryz.zeroValue82) (TN 90 (TL 90 Tryz.zeroValue90) (TL 108 Tryz.zeroValue108)))))) (TN 152 (TN 123 (TN 118 (TN 114 (TL 114 Tryz.zeroValue114) (TL 118 Tryz.zeroValue118)) (TN 120 (TL 120 Tryz.zeroValue120) (TN 121 (TL 121 Tryz.zeroValue121) (TL 123 Tryz.zeroValue123)))) (TN 140 (TN 128 (TL 128 Tryz.zeroValue128) (TL 140 Tryz.zeroValue140)) (TN 142 (TL 142 Tryz.zeroValue142) (TN 149 (TL 149 Tryz.zeroValue149) (TL 152 Tryz.zeroValue152))))) (TN 180 (TN 163 (TN 161 (TL 161 Tryz.zeroValue161) (TL 163 Tryz.zeroValue163)) (TN 168 (TL 168 Tryz.zeroValue168) (TN 176 (TL 176 Tryz.zeroValue176) (TL 180 Tryz.zeroValue180)))) (TN 202 (TN 188 (TL 188 Tryz.zeroValue188) (TN 192 (TL 192 Tryz.zeroValue192) (TL 202 Tryz.zeroValue202))) (TN 204 (TL 204 Tryz.zeroValue204) (TN 207 (TL 207 Tryz.zeroValue207) (TL 208 Tryz.zeroValue208))))))) (TN 325 (TN 268 (TN 232 (TN 215 (TN 213 (TL 213 Tryz.zeroValue213) (TL 215 Tryz.zeroValue215)) (TN 228 (TL 228 Tryz.zeroValue228) (TN 231 (TL 231 Tryz.zeroValue231) (TL 232 Tryz.zeroValue232)))) (TN 240 (TN 238 (TL 238 Tryz.zeroValue238) (TL 240 Tryz.zeroValue240)) (TN 246 (TL 246 Tryz.zeroValue246) (TN 254 (TL 254 Tryz.zeroValue254) (TL 268 Tryz.zeroValue268))))) (TN 284 (TN 272 (TN 270 (TL 270 Tryz.zeroValue270) (TL 272 Tryz.zeroValue272)) (TN 276 (TL 276 Tryz.zeroValue276) (TN 281 (TL 281 Tryz.zeroValue281) (TL 284 Tryz.zeroValue284)))) (TN 313 (TN 293 (TL 293 Tryz.zeroValue293) (TN 308 (TL 308 Tryz.zeroValue308) (TL 313 Tryz.zeroValue313))) (TN 316 (TL 316 Tryz.zeroValue316) (TN 324 (TL 324 Tryz.zeroValue324) (TL 325 Tryz.zeroValue325)))))) (TN 373 (TN 351 (TN 338 (TN 328 (TL 328 Tryz.zeroValue328) (TL 338 Tryz.zeroValue338)) (TN 340 (TL 340 Tryz.zeroValue340) (TN 349 (TL 349 Tryz.zeroValue349) (TL 351 Tryz.zeroValue351)))) (TN 367 (TN 364 (TL 364 Tryz.zeroValue364) (TL 367 Tryz.zeroValue367)) (TN 371 (TL 371 Tryz.zeroValue371) (TN 372 (TL 372 Tryz.zeroValue372) (TL 373 Tryz.zeroValue373))))) (TN 396 (TN 391 (TN 390 (TL 390 Tryz.zeroValue390) (TL 391 Tryz.zeroValue391)) (TN 393 (TL 393 Tryz.zeroValue393) (TN 394 (TL 394 Tryz.zeroValue394) (TL 396 Tryz.zeroValue396)))) (TN 405 (TN 399 (TL 399 Tryz.zeroValue399) (TN 402 (TL 402 Tryz.zeroValue402) (TL 405 Tryz.zeroValue405))) (TN 407 (TL 407 Tryz.zeroValue407) (TN 417 (TL 417 Tryz.zeroValue417) (TL 418 Tryz.zeroValue418)))))))
theorem uU {T : Nat} {d d' : TypeDesc} (h : tbU.f T = some d) (e : d = d') : Go.Proofs.Tryz.prog.underlying T = some d' := e ▸ tbU.h T d h
theorem uS {T n n' : Nat} (h : tbS.f T = some n) (e : n = n') : ∀ w, (sizeOf T).run Go.Proofs.Tryz.prog w = .ok n' w := e ▸ tbS.h T n h
theorem uG {T : Nat} {b b' : Bool} (h : tbG.f T = some b) (e : b = b') : ∀ w, (isAgg T).run Go.Proofs.Tryz.prog w = .ok b' w := e ▸ tbG.h T b h
theorem uZ {T : Nat} {v v' : Value} (h : tbZ.f T = some v) (e : v = v') : ∀ w, (zeroValue T).run Go.Proofs.Tryz.prog w = .ok v' w := e ▸ tbZ.h T v h
theorem bkA {S : World → Prop} {b : Nat} {o : Obj} (h : Blk S b o := by
  first
  | (with_reducible show Blk (SS _ _) _ _); first | exact Blk.atR atA | exact Blk.imm (by assumption) | exact Blk.at 0 rfl | exact Blk.at 1 rfl | exact Blk.at 2 rfl
  | (with_reducible show Blk (SC _ _ _) _ _); first | exact Blk.atCR atA | exact Blk.immC (by assumption) | exact Blk.atC 0 rfl | exact Blk.atC 1 rfl) : Blk S b o := h
structure Ch (H : HL) (b : Nat) (o o' : Obj) (H' : HL) : Prop where
  h : ∃ i, H[i]? = some (b, o) ∧ LSet H i (b, o') H'
theorem Ch.z {b : Nat} {x o o' : Obj} {r : HL} (h : x = o) : Ch ((b, x) :: r) b o o' ((b, o') :: r) := ⟨⟨0, h ▸ rfl, LSet.z⟩⟩
theorem Ch.s {b : Nat} {o o' : Obj} {q : Nat × Obj} {r r' : HL} (h : Ch r b o o' r') : Ch (q :: r) b o o' (q :: r') := let ⟨⟨i, h1, h2⟩⟩ := h; ⟨⟨i + 1, h1, LSet.s h2⟩⟩
theorem chA {H H' : HL} {b : Nat} {o o' : Obj} (h : Ch H b o o' H' := by first | (with_reducible refine Ch.z ?_; exact rfl) | (with_reducible apply Ch.s; exact chA) | (refine Ch.z ?_; exact rfl) | (apply Ch.s; exact chA)) : Ch H b o o' H' := h
theorem op_storeA {cx : Cx} {o : Oper} {e : Env} {I : Heap} {H : HL} {C : Ct} {Q : Qt} {x y : Operand} {T t b off : Nat} {cs cs' vs : List Value} {v : Value} {H' : HL} {n : Nat} (ho : o.op = .store T x y) (hd : o.dst = none) (hx : ev e x = some (ptr b off)) (hy : ev e y = some v)
    (hv : v.cells = vs.toArray) (h1 : vs.all Value.oneCell' = true) (hsz : ∀ w, (sizeOf T).run cx.P w = .ok n w) (hnn : vs.length = n) (hH : Ch H b (cel t cs) (cel t cs') H') (hcs : LSpl cs off vs cs')
    (k : C e I H') : OpJ cx Q o e I H C := let ⟨⟨i, h2, h3⟩⟩ := hH; op_store i ho hd hx hy hv h1 hsz hnn h2 hcs h3 k
theorem eqA {α : Type} {a b : α} (h : a = b := by first | exact rfl | assumption) : a = b := h
theorem eqB {a b : Bool} (h : a = b := by first | exact rfl | assumption | exact congrArg not (by assumption)) : a = b := h
theorem lcA {vs cs : List Value} {n : Nat} (h : LCat vs n cs := by
  first | with_reducible exact LCat.none | (with_reducible show LCat (Value.agg _ :: _) _ _; apply LCat.agg; exact rfl; exact lcA) | (apply LCat.one; exact rfl; exact lcA) | (apply LCat.agg; exact rfl; exact lcA)) : LCat vs n cs := h
theorem lsA {α : Type} {l xs l' : List α} {i : Nat} (h : LSpl l i xs l' := by
  first | with_reducible exact LSpl.z | (apply LSpl.c; exact lsA) | (apply LSpl.s; exact lsA)) : LSpl l i xs l' := h
theorem ceA {v : Value} {vs : List Value} (h : v.cells = vs.toArray := by first | with_reducible exact gV_cells _ _ | exact rfl) : v.cells = vs.toArray := h
theorem onA {vs : List Value} (h : vs.all Value.oneCell' = true := by first | with_reducible exact gV_one _ _ | exact rfl) : vs.all Value.oneCell' = true := h
theorem JFix.mk' {I1 I : Heap} {A H : HL} {Z : CL} (h1 : HSub A H) (h2 : CSub Z H) (h3 : Le I1 I) : JFix I1 A Z I H := ⟨h1, h2, h3⟩
theorem fxA {I1 I : Heap} {A H : HL} {Z : CL} (h : JFix I1 A Z I H := by first | assumption | exact JFix.mk' (by repeat first | exact HSub.n | refine HSub.c 0 rfl ?_ | refine HSub.c 1 rfl ?_ | refine HSub.c 2 rfl ?_ | refine HSub.c 3 rfl ?_ | refine HSub.c 4 rfl ?_ | refine HSub.c 5 rfl ?_) CSub.n (by repeat first | exact Le.refl _ | assumption | refine Le.trans ?_ (by assumption))) : JFix I1 A Z I H := h
def opk : Op → Nat
  | .move _ => 0
  | .assign _ => 1
  | .pick .. => 2
  | .alloc _ => 3
  | .box .. => 4
  | .build .. => 5
  | .buildSlice .. => 6
  | .load .. => 7
  | .store .. => 8
  | .nilCheck _ => 9
  | .unOp .. => 10
  | .convert .. => 11
  | .makeInterface .. => 12
  | .makeFunc .. => 13
  | .fieldAddr .. => 14
  | .indexAddr .. => 15
  | .extract .. => 16
  | .call c => match c.callee with
    | .builtin _ => 17
    | _ => 30
  | .binOp b .. => match b with
    | .add => 20
    | .sub => 21
    | .mul => 22
    | .rem => 23
    | .eql => 24
    | .neq => 25
    | .lss => 26
    | .leq => 27
    | .gtr => 28
    | .geq => 29
    | _ => 30
  | _ => 30
def opc (o : Oper) : Nat := match o.guard with
  | some _ => 1
  | none => match opk o.op with
    | 3 => 3
    | 4 => 3
    | 6 => 3
    | 8 => 3
    | 30 => 4
    | _ => 2
def jk : List Oper → Nat
  | [] => 0
  | o :: _ => opc o
theorem gdY (k : Nat) {cx : Cx} {o : Oper} {e : Env} {S : World → Prop} {v : Value} (_ : opk o.op = k) (h : Yld cx o e S v) : Yld cx o e S v := h
theorem gdJ (k : Nat) {cx : Cx} {Q : Qt} {ops : Array Oper} {l : List Oper} {e : Env} {I : Heap} {H : HL} (_ : jk l = k) (h : J cx Q ops l e I H) : J cx Q ops l e I H := h
theorem gdO (k : Nat) {cx : Cx} {Q : Qt} {o : Oper} {e : Env} {I : Heap} {H : HL} {C : Ct} (_ : opk o.op = k) (h : OpJ cx Q o e I H C) : OpJ cx Q o e I H C := h
theorem J.zy {cx : Cx} {Q : Qt} {ops : Array Oper} {l : List Oper} {e : Env} {I : Heap} {H : HL} {o : Oper} {d : Nat} {v : Value} (hg : o.guard = none) (hd : o.dst = some d) (hn : Nat.blt d cx.n = true) (hy : Yld cx o e (SS I H) v) (k : J cx Q ops l ((d, v) :: e) I H) : J cx Q ops (o :: l) e I H := J.z hy k hg hd hn
theorem yA {cx : Cx} {o : Oper} {e : Env} {S : World → Prop} {v : Value} (h : Yld cx o e S v := by first
    | (apply gdY 0; exact rfl; exact q2)
    | (apply gdY 7; exact rfl; first | exact yl_load rfl rfl (uG rfl rfl) (by first | exact bkA) (by first | exact rfl) | exact yl_loadAgg rfl rfl (uG rfl rfl) (uS rfl rfl) (by first | exact bkA) (by first | exact rfl) (by first | exact rfl))
    | (apply gdY 14; exact rfl; exact yl_fieldAddr rfl rfl (uU rfl rfl) (by first | exact rfl) (uS rfl rfl) (by first | exact rfl))
    | (apply gdY 17; exact rfl; first | exact yl_lenSlice rfl rfl (uU rfl rfl) | exact yl_lenStr rfl rfl (uU rfl rfl))
    | (apply gdY 1; exact rfl; exact yl_assign rfl rfl)
    | (apply gdY 26; exact rfl; exact yl_lss rfl rfl rfl)
    | (apply gdY 20; exact rfl; first | exact yl_add rfl rfl rfl (w64 (by omega)) | exact yl_add rfl rfl rfl (i32w (by omega)))
    | (apply gdY 16; exact rfl; exact yl_extract rfl rfl rfl)
    | (apply gdY 9; exact rfl; exact yl_nilCheck rfl rfl)
    | (apply gdY 2; exact rfl; first | exact yl_pick1 rfl rfl (by first | exact eqA) (by first | exact rfl) | exact yl_pick0 rfl rfl (by first | exact eqA) (by first | exact rfl))
    | (apply gdY 24; exact rfl; first | exact yl_eql rfl rfl rfl | exact yl_eqlStr rfl rfl rfl | exact yl_eqlNil _ rfl rfl rfl (uU rfl rfl) (by kernel_rfl) | exact yl_eqlBool rfl rfl rfl (uU rfl rfl) | exact yl_eqlSlice _ rfl rfl rfl (uU rfl rfl) | exact yl_eqlMap _ rfl rfl rfl (uU rfl rfl))
    | (apply gdY 25; exact rfl; first | exact yl_neq rfl rfl rfl | exact yl_neqStr rfl rfl rfl | exact yl_neqBool rfl rfl rfl (uU rfl rfl) | exact yl_neqSlice _ rfl rfl rfl (uU rfl rfl) | exact yl_neqMap _ rfl rfl rfl (uU rfl rfl))
    | (apply gdY 29; exact rfl; exact yl_geq rfl rfl rfl)
    | (apply gdY 27; exact rfl; exact yl_leq rfl rfl rfl)
    | (apply gdY 28; exact rfl; exact yl_gtr rfl rfl rfl)
    | (apply gdY 10; exact rfl; exact yl_not rfl rfl)
    | (apply gdY 15; exact rfl; exact yl_indexArr rfl rfl rfl (uU rfl rfl) (uS rfl rfl) (by decide) (by decide) (by first | exact rfl))
    | (apply gdY 5; exact rfl; first | exact yl_buildS rfl rfl (uZ rfl rfl) (by first | exact rfl) (uU rfl rfl) (plA (by first | exact plB)) (by first | exact lbA) | exact yl_buildA rfl rfl (uZ rfl rfl) (by first | exact rfl) (uU rfl rfl) (uS rfl rfl) (by first | exact rfl))
    | (apply gdY 11; exact rfl; first | exact yl_toStr1 _ rfl rfl (uU rfl rfl) (uU rfl rfl) (uU rfl rfl) (by first | exact bkA) (by first | exact rfl) | exact yl_convInt rfl rfl (uU rfl rfl) (uU rfl rfl) | exact yl_runeStr rfl rfl (uU rfl rfl) (uU rfl rfl))
    | (apply gdY 21; exact rfl; exact yl_sub rfl rfl rfl (w64 (by omega)))
    | (apply gdY 23; exact rfl; first | exact yl_rem rfl rfl rfl (by decide) | exact yl_rem rfl rfl rfl (by omega))
    | (apply gdY 22; exact rfl; exact yl_mul rfl rfl rfl (w64 (by omega)))
    | (apply gdY 13; exact rfl; exact yl_makeFunc rfl rfl rfl)
    | (apply gdY 12; exact rfl; exact yl_makeIface rfl rfl (uU rfl rfl) rfl)) : Yld cx o e S v := h
section
variable {cx : Cx} {Q : Qt} {e : Env} {I I1 : Heap} {H A : HL} {Z : CL} {z fuel : Nat} {listed : Array Bool} {ops : Array Oper} {l : List Oper} {o : Oper}
theorem J.spG {j d : Nat} {want b : Bool} (_hg : o.guard = some (j, want)) (_hd : (ops[j]?).bind (·.dst) = some d) (hv : eg e d = some (.bool b)) (h1 : b = true → J cx Q ops (o :: l) e I H) (h0 : b = false → J cx Q ops (o :: l) e I H) : J cx Q ops (o :: l) e I H := J.split d hv h1 h0
theorem Cj.cT {c : Operand} {x y : Code} {b : Bool} (hv : ev e c = some (.bool b)) (hb : b = true) (h1 : Cj cx Q x e I H) : Cj cx Q (.cond c x y) e I H := Cj.cond hv (fun _ => h1) (fun h => Bool.noConfusion (hb.symm.trans h))
theorem Cj.cF {c : Operand} {x y : Code} {b : Bool} (hv : ev e c = some (.bool b)) (hb : b = false) (h1 : Cj cx Q y e I H) : Cj cx Q (.cond c x y) e I H := Cj.cond hv (fun h => Bool.noConfusion (hb.symm.trans h)) (fun _ => h1)
def fstN : Nat → List Bool → Nat → Option Nat
  | _, [], _ => none
  | s, true :: r, n => fstN s r (n + 1)
  | 0, false :: _, n => some n
  | s + 1, false :: r, n => fstN s r (n + 1)
def odef (e : Env) : Op → Bool
  | .move x => (ev e x).isSome
  | .assign x => (ev e x).isSome
  | .pick x y z => (ev e x).isSome && ((ev e y).isSome && (ev e z).isSome)
  | .load _ x => (ev e x).isSome
  | .nilCheck x => (ev e x).isSome
  | .binOp _ _ x y _ => (ev e x).isSome && (ev e y).isSome
  | .unOp _ _ x => (ev e x).isSome
  | .convert _ _ x => (ev e x).isSome
  | .makeInterface _ x => (ev e x).isSome
  | .fieldAddr _ x _ => (ev e x).isSome
  | .indexAddr _ x y => (ev e x).isSome && (ev e y).isSome
  | .extract x _ => (ev e x).isSome
  | .build _ ps => ps.toList.all fun p => (ev e p.2).isSome
  | .call c => c.args.toList.all fun x => (ev e x).isSome
  | _ => true
def opd (e : Env) (o : Oper) : Nat := match opc o with
  | 2 => bif odef e o.op then 2 else 5
  | k => k
def ak (s : Nat) (l : List Oper) (listed : Array Bool) (e : Env) : Nat := match fstN s listed.toList 0 with
  | none => 0
  | some i => match l.toArray[i]? with
    | none => 9
    | some o => opd e o
def rdy (s : Nat) (l : List Oper) (listed : Array Bool) : Bool := match fstN s listed.toList 0 with
  | none => false
  | some i => (Region.ready .any l.toArray listed).contains i
theorem gdR (s : Nat) (_ : rdy s l listed = true) (h : JA cx Q l I1 A Z z fuel listed e I H) : JA cx Q l I1 A Z z fuel listed e I H := h
theorem gdA (s k : Nat) (_ : ak s l listed e = k) (h : JA cx Q l I1 A Z z fuel listed e I H) : JA cx Q l I1 A Z z fuel listed e I H := h
theorem JA.tn (s : Nat) {i d : Nat} {v : Value} (_hl : fstN s listed.toList 0 = some i) (hi : l.toArray[i]? = some o) (hx : JFix I1 A Z I H) (hy : Yld cx o e (SC I1 A Z) v) (k : JA cx Q l I1 A Z z fuel (listed.setIfInBounds i true) ((d, v) :: e) I H)
    (hd : o.dst = some d := by rfl) (hg : o.guard = none := by rfl) (hn : Nat.blt d cx.n = true := by rfl) (hz : zok l.toArray listed z i = true := by first | rfl | kernel_rfl) (hs : Region.noSelect l.toArray = true := by kernel_rfl) (hf : Region.free .any l.toArray listed i = true := by kernel_rfl)
    (hr : (Region.ready .any l.toArray listed).contains i = true := by kernel_rfl) (hq : ∀ c a w, Q (.panic c) (a.put (some d) v) w → Q (.panic c) a w := by exact fun _ _ _ h => h) : JA cx Q l I1 A Z z (fuel + 1) listed e I H := JA.tk i hi hx hy k hd hg hn hz hs hf hr hq
theorem JA.tnG (s : Nat) {i d j dj : Nat} {want b : Bool} {v : Value} (_hl : fstN s listed.toList 0 = some i) (hi : l.toArray[i]? = some o) (hx : JFix I1 A Z I H) (hg : o.guard = some (j, want)) (hdj : (l.toArray[j]?).bind (·.dst) = some dj) (hv : eg e dj = some (.bool b)) (hb : b = want) (hy : Yld cx o e (SC I1 A Z) v)
    (k : JA cx Q l I1 A Z z fuel (listed.setIfInBounds i true) ((d, v) :: e) I H) (hd : o.dst = some d := by rfl) (hn : Nat.blt d cx.n = true := by rfl) (hz : zok l.toArray listed z i = true := by first | rfl | kernel_rfl) (hs : Region.noSelect l.toArray = true := by kernel_rfl) (hf : Region.free .any l.toArray listed i = true := by kernel_rfl)
    (hr : (Region.ready .any l.toArray listed).contains i = true := by kernel_rfl) (hq : ∀ c a w, Q (.panic c) (a.put (some d) v) w → Q (.panic c) a w := by exact fun _ _ _ h => h) : JA cx Q l I1 A Z z (fuel + 1) listed e I H := JA.tkG i j dj want b hi hx hdj hv hb hy k hd hg hn hz hs hf hr hq
theorem JA.tnS (s : Nat) {i d j dj : Nat} {want : Bool} {u : Value} (_hl : fstN s listed.toList 0 = some i) (hi : l.toArray[i]? = some o) (hx : JFix I1 A Z I H) (hg : o.guard = some (j, want)) (hdj : (l.toArray[j]?).bind (·.dst) = some dj) (hv : eg e dj = some u) (hb : u = .bool (!want) ∨ u = undef)
    (k : JA cx Q l I1 A Z z fuel (listed.setIfInBounds i true) ((d, undef) :: e) I H) (hd : o.dst = some d := by rfl) (hn : Nat.blt d cx.n = true := by rfl) (hz : zok l.toArray listed z i = true := by first | rfl | kernel_rfl) (hs : Region.noSelect l.toArray = true := by kernel_rfl) (hf : Region.free .any l.toArray listed i = true := by kernel_rfl)
    (hr : (Region.ready .any l.toArray listed).contains i = true := by kernel_rfl) (hq : ∀ c a w, Q (.panic c) (a.put (some d) undef) w → Q (.panic c) a w := by exact fun _ _ _ h => h) : JA cx Q l I1 A Z z (fuel + 1) listed e I H := JA.tkS i j dj want u hi hx hdj hv hb k hd hg hn hz hs hf hr hq
theorem JA.dn (hl : fstN 0 listed.toList 0 = none) (hr : Region.ready .any l.toArray listed = []) (h : Ej cx Q .normal e I H) : JA cx Q l I1 A Z z fuel listed e I H := match hl with | _ => JA.done hr h
theorem JA.st1 {i : Nat} (_hl : fstN 0 listed.toList 0 = some i) (hi : l.toArray[i]? = some o) (hr : Region.ready .any l.toArray listed = [i]) (hg : o.guard = none) (k : OpJ cx Q o e I H (fun e' I' H' => (Le I1 I' ∧ HSub A H' ∧ CSub Z H') ∧ JA cx Q l I1 A Z z fuel (listed.setIfInBounds i true) e' I' H')) : JA cx Q l I1 A Z z (fuel + 1) listed e I H := JA.step i hr hi hg k
theorem JA.st2 {i j dj : Nat} {want b : Bool} (_hl : fstN 0 listed.toList 0 = some i) (hi : l.toArray[i]? = some o) (hr : Region.ready .any l.toArray listed = [i]) (hg : o.guard = some (j, want)) (hdj : (l.toArray[j]?).bind (·.dst) = some dj) (hv : eg e dj = some (.bool b)) (hb : b = want)
    (k : OpJ cx Q o e I H (fun e' I' H' => (Le I1 I' ∧ HSub A H' ∧ CSub Z H') ∧ JA cx Q l I1 A Z z fuel (listed.setIfInBounds i true) e' I' H')) : JA cx Q l I1 A Z z (fuel + 1) listed e I H := JA.stepG i j dj want b hr hi hg hdj hv hb k
end
theorem kpA {P : Prop} (h : P := by
  first | intro _ _ _ _ h | intro _ _ h
  first
  | (obtain ⟨h, _⟩ := h; cases h; done)
  | (obtain ⟨_, h, _⟩ := h; cases h; done)
  | (obtain ⟨_, _, h, _⟩ := h; cases h; done)
  | (obtain ⟨_, _, _, h, _⟩ := h; cases h; done)
  | (obtain ⟨_, _, _, _, h, _⟩ := h; cases h; done)
  | (obtain ⟨_, _, _, _, _, h, _⟩ := h; cases h; done)
  | (obtain ⟨⟨_, h, _⟩, _⟩ := h; cases h; done)
  | (obtain ⟨⟨_, _, h, _⟩, _⟩ := h; cases h; done)
  | (obtain ⟨⟨_, h⟩, _⟩ := h; cases h; done)
  | (cases h; done)) : P := h
structure Cnt (n : Nat) : Prop where
theorem Cnt.p {n : Nat} (_ : Cnt (n + 1)) : Cnt n := ⟨⟩
structure Row (R : HL) : Prop where
section
variable {cx : Cx} {Q : Qt} {o : Oper} {e : Env} {I : Heap} {H : HL} {C : Ct} {S : World → Prop}
theorem yl_ixS {x y : Operand} {T E b off n c sz off' : Nat} {k : IntKind} {i : Int} (_ : Cnt off') (ho : o.op = .indexAddr T x y) (hx : ev e x = some (.slice (some ⟨b, off, none⟩) n c)) (hy : ev e y = some (.int k i))
    (hu : cx.P.underlying T = some (.slice E)) (hsz : ∀ w, (sizeOf E).run cx.P w = .ok sz w) (h0 : 0 ≤ i) (h1 : i < n) (hoff : off + i.toNat * sz = off') : Yld cx o e S (ptr b off') := yl_indexAddr ho hx hy hu hsz h0 h1 hoff
theorem op_apW {T E d sz by' n m : Nat} {x y : Operand} {U : TypeId} {g : Gs} {xs ys : List Value} {yv z : Value} {R : HL} (_ : Cnt by') (_ : Row R) (ho : o.op = .call ⟨.builtin .append, #[x, y], #[T, U]⟩) (hd : o.dst = some d) (hn : Nat.blt d cx.n = true)
    (hx : ev e x = some (gV n g)) (hy : ev e y = some yv) (hu : cx.P.underlying T = some (.slice E)) (hU : cx.P.underlying U = some .string ∨ ∃ E', cx.P.underlying U = some (.slice E'))
    (hi0 : (cx.P.info? E).map (·.bytes) = some (by' + 1)) (hsz : ∀ w, (sizeOf E).run cx.P w = .ok sz w) (hz : ∀ w, (zeroValue E).run cx.P w = .ok z w) (hzs : z.cells.size = sz)
    (hg : gOk cx.w0.heap.size sz n xs g) (hH : H = R ++ gH E xs g) (hs : Src cx.P I H sz m yv ys) (hroom : (2 * (n + m) + 768) * (by' + 1) ≤ 281474976710656)
    (k : ∀ g', gOk cx.w0.heap.size sz (n + m) (xs ++ ys) g' → C ((d, gV (n + m) g') :: e) I (R ++ gH E (xs ++ ys) g')) : OpJ cx Q o e I H C := op_append R ho hd hn hx hy hu hU hi0 hsz hz hzs hg hH hs hroom k
theorem op_cW {H1 R : HL} {d f : Nat} {fo : Operand} {xs : List Operand} {ts : Array TypeId} {fst cap vs : List Value} {post : Ending → Heap → HL → Prop} (_ : Row H1) (ho : o.op = .call ⟨.value fo, xs.toArray, ts⟩) (hd : o.dst = some d) (hn : Nat.blt d cx.n = true) (hf : ev e fo = some (.func (.func f) fst.toArray cap.toArray)) (hx : evs e xs = some vs)
    (hs : Ctr cx.P f (fst ++ vs ++ cap) I H1 post) (hH : H = H1 ++ R) (k : ∀ v I' H1', Le I I' → post (.returned v) I' H1' → C ((d, v) :: e) I' (H1' ++ R)) (kp : ∀ ch I' H1', Le I I' → post (.panicked ch) I' H1' → Ej cx Q (.panic ch) e I' (H1' ++ R))
    (ko : ∀ I' H1', ¬ post .outgrown I' H1') : OpJ cx Q o e I H C := by subst hH; exact op_call ho hd hn hf hx hs k kp ko
theorem op_crW {H1 R : HL} {d f : Nat} {fo : Operand} {xs : List Operand} {ts : Array TypeId} {fst cap vs : List Value} {post : Ending → Heap → HL → Prop} (_ : Row R) (hH : H = R ++ H1)
    (ho : o.op = .call ⟨.value fo, xs.toArray, ts⟩) (hd : o.dst = some d) (hn : Nat.blt d cx.n = true) (hf : ev e fo = some (.func (.func f) fst.toArray cap.toArray)) (hx : evs e xs = some vs)
    (hs : Ctr cx.P f (fst ++ vs ++ cap) I H1 post)
    (k : ∀ v I' H1', Le I I' → post (.returned v) I' H1' → C ((d, v) :: e) I' (R ++ H1'))
    (kp : ∀ ch I' H1', Le I I' → post (.panicked ch) I' H1' → Ej cx Q (.panic ch) e I' (R ++ H1'))
    (ko : ∀ I' H1', ¬ post .outgrown I' H1') : OpJ cx Q o e I H C := op_callR R hH ho hd hn hf hx hs k kp ko
end
theorem ax1 {A B : Prop} (a : A) (h : Wr A → B := by
  intro a
  first
  | (with_reducible show J _ _ _ _ _ _ _)
    first
    | (refine gdJ 2 rfl ?_; refine J.zy rfl rfl rfl (by first | exact yA) ?_)
    | (refine gdJ 0 rfl ?_; refine J.nil ?_)
    | (refine gdJ 1 rfl ?_; first | refine J.skip _ _ _ _ _ rfl rfl rfl (by first | exact eqA) rfl rfl ?_ | refine J.skipU _ _ _ _ rfl rfl rfl rfl rfl ?_ | refine J.opG _ _ _ _ rfl rfl rfl (by first | exact eqA) (op_yld (by first | exact yA) rfl rfl ?_))
    | (refine gdJ 3 rfl ?_; refine J.op rfl ?_; first | (refine gdO 4 rfl ?_; refine op_box rfl rfl rfl rfl rfl ?_) | (refine gdO 3 rfl ?_; refine op_alloc rfl rfl rfl (uZ rfl rfl) rfl ?_) | (refine gdO 6 rfl ?_; refine op_buildSlice rfl rfl rfl (uU rfl rfl) (uS rfl rfl) (uZ rfl rfl) (by first | exact rfl) rfl (by first | exact rfl) (by first | exact rfl) (by first | exact lcA) ?_) | (refine gdO 8 rfl ?_; refine op_storeA rfl rfl rfl rfl (by first | exact ceA) (by first | exact onA) (uS rfl rfl) (by first | exact rfl) (by first | exact chA) (by first | exact lsA) ?_))
  | (with_reducible show JA _ _ _ _ _ _ _ _ _ _ _ _)
    first
    | (refine gdA 0 2 rfl ?_; refine gdR 0 (by decide +kernel) ?_; refine JA.tn 0 rfl rfl (by first | exact fxA) (by first | exact yA) ?_)
    | (refine gdA 0 1 rfl ?_; refine gdR 0 (by decide +kernel) ?_; first | refine JA.tnS 0 rfl rfl (by first | exact fxA) rfl rfl rfl (by first | exact .inl (congrArg Value.bool (by first | exact eqA)) | exact .inr rfl) ?_ | refine JA.tnG 0 rfl rfl (by first | exact fxA) rfl rfl rfl (by first | exact eqA) (by first | exact yA) ?_)
    | (refine gdA 1 2 rfl ?_; refine gdR 1 (by decide +kernel) ?_; refine JA.tn 1 rfl rfl (by first | exact fxA) (by first | exact yA) ?_)
    | (refine gdA 1 1 rfl ?_; refine gdR 1 (by decide +kernel) ?_; first | refine JA.tnS 1 rfl rfl (by first | exact fxA) rfl rfl rfl (by first | exact .inl (congrArg Value.bool (by first | exact eqA)) | exact .inr rfl) ?_ | refine JA.tnG 1 rfl rfl (by first | exact fxA) rfl rfl rfl (by first | exact eqA) (by first | exact yA) ?_)
    | (refine gdA 2 2 rfl ?_; refine gdR 2 (by decide +kernel) ?_; refine JA.tn 2 rfl rfl (by first | exact fxA) (by first | exact yA) ?_)
    | (refine gdA 2 1 rfl ?_; refine gdR 2 (by decide +kernel) ?_; first | refine JA.tnS 2 rfl rfl (by first | exact fxA) rfl rfl rfl (by first | exact .inl (congrArg Value.bool (by first | exact eqA)) | exact .inr rfl) ?_ | refine JA.tnG 2 rfl rfl (by first | exact fxA) rfl rfl rfl (by first | exact eqA) (by first | exact yA) ?_)
    | (refine gdA 3 2 rfl ?_; refine gdR 3 (by decide +kernel) ?_; refine JA.tn 3 rfl rfl (by first | exact fxA) (by first | exact yA) ?_)
    | (refine gdA 3 1 rfl ?_; refine gdR 3 (by decide +kernel) ?_; first | refine JA.tnS 3 rfl rfl (by first | exact fxA) rfl rfl rfl (by first | exact .inl (congrArg Value.bool (by first | exact eqA)) | exact .inr rfl) ?_ | refine JA.tnG 3 rfl rfl (by first | exact fxA) rfl rfl rfl (by first | exact eqA) (by first | exact yA) ?_)
    | (refine gdA 4 2 rfl ?_; refine gdR 4 (by decide +kernel) ?_; refine JA.tn 4 rfl rfl (by first | exact fxA) (by first | exact yA) ?_)
    | (refine gdA 4 1 rfl ?_; refine gdR 4 (by decide +kernel) ?_; first | refine JA.tnS 4 rfl rfl (by first | exact fxA) rfl rfl rfl (by first | exact .inl (congrArg Value.bool (by first | exact eqA)) | exact .inr rfl) ?_ | refine JA.tnG 4 rfl rfl (by first | exact fxA) rfl rfl rfl (by first | exact eqA) (by first | exact yA) ?_)
    | (refine gdA 5 2 rfl ?_; refine gdR 5 (by decide +kernel) ?_; refine JA.tn 5 rfl rfl (by first | exact fxA) (by first | exact yA) ?_)
    | (refine gdA 5 1 rfl ?_; refine gdR 5 (by decide +kernel) ?_; first | refine JA.tnS 5 rfl rfl (by first | exact fxA) rfl rfl rfl (by first | exact .inl (congrArg Value.bool (by first | exact eqA)) | exact .inr rfl) ?_ | refine JA.tnG 5 rfl rfl (by first | exact fxA) rfl rfl rfl (by first | exact eqA) (by first | exact yA) ?_)
    | (refine gdA 6 2 rfl ?_; refine gdR 6 (by decide +kernel) ?_; refine JA.tn 6 rfl rfl (by first | exact fxA) (by first | exact yA) ?_)
    | (refine gdA 6 1 rfl ?_; refine gdR 6 (by decide +kernel) ?_; first | refine JA.tnS 6 rfl rfl (by first | exact fxA) rfl rfl rfl (by first | exact .inl (congrArg Value.bool (by first | exact eqA)) | exact .inr rfl) ?_ | refine JA.tnG 6 rfl rfl (by first | exact fxA) rfl rfl rfl (by first | exact eqA) (by first | exact yA) ?_)
    | (refine gdA 0 0 rfl ?_; refine JA.dn rfl (by kernel_rfl) ?_)
    | (refine gdA 0 3 rfl ?_; refine JA.st1 rfl rfl (by kernel_rfl) rfl ?_; first | (refine gdO 4 rfl ?_; refine op_box rfl rfl rfl rfl rfl ?_) | (refine gdO 3 rfl ?_; refine op_alloc rfl rfl rfl (uZ rfl rfl) rfl ?_) | (refine gdO 6 rfl ?_; refine op_buildSlice rfl rfl rfl (uU rfl rfl) (uS rfl rfl) (uZ rfl rfl) (by first | exact rfl) rfl (by first | exact rfl) (by first | exact rfl) (by first | exact lcA) ?_) | (refine gdO 8 rfl ?_; refine op_storeA rfl rfl rfl rfl (by first | exact ceA) (by first | exact onA) (uS rfl rfl) (by first | exact rfl) (by first | exact chA) (by first | exact lsA) ?_))
  | (with_reducible show And (And (Le _ _) _) _)
    refine And.intro (And.intro (by repeat first | exact Le.refl _ | assumption | refine Le.trans ?_ (by assumption)) (And.intro (by repeat first | exact HSub.n | refine HSub.c 0 rfl ?_ | refine HSub.c 1 rfl ?_ | refine HSub.c 2 rfl ?_ | refine HSub.c 3 rfl ?_ | refine HSub.c 4 rfl ?_ | refine HSub.c 5 rfl ?_) CSub.n)) ?_
  | (with_reducible show Cj _ _ _ _ _ _)
    first
    | with_reducible refine Cj.seq ?_
    | with_reducible refine Cj.region ?_
    | with_reducible refine Cj.block ?_
    | with_reducible refine Cj.skip ?_
    | with_reducible refine Cj.exit ?_
    | with_reducible refine Cj.ret ?_
    | (with_reducible show Cj _ _ (Code.cond _ _ _) _ _ _); first | refine Cj.cT (by first | exact rfl) (by first | exact eqB) ?_ | refine Cj.cF (by first | exact rfl) (by first | exact eqB) ?_
    | refine Cj.seq ?_
    | refine Cj.region ?_
  | (with_reducible show Ej _ _ _ _ _ _)
    first
    | with_reducible refine Ej.seq ?_
    | with_reducible refine Ej.blkNormal ?_
    | with_reducible refine Ej.seqExit ?_
    | with_reducible refine Ej.loopExit ?_
    | with_reducible refine Ej.loopRet ?_
    | with_reducible refine Ej.blkExit ?_
    | with_reducible refine Ej.seqRet ?_
    | with_reducible refine Ej.blkRet ?_
  exact a.1) : B := h ⟨a⟩
theorem axn (n : Nat) {A B : Prop} (a : A) (h : Cnt n → Wr A → B := by
  intro s a
  repeat (replace s := Cnt.p s; refine ax1 ?_)
  exact a.1) : B := h ⟨⟩ ⟨a⟩
theorem tst {b : Bool} {p n : Prop} (h : (b = true → p) ∧ (b = false → n) := by first
  | exact ⟨of_decide_eq_true, of_decide_eq_false⟩
  | exact ⟨eq_of_beq, ne_of_beq_false⟩
  | exact ⟨bne_iff_ne.1, bne_f⟩
  | exact ⟨id, id⟩) : (b = true → p) ∧ (b = false → n) := h
theorem axc {b : Bool} {p n A1 A0 B : Prop} (g1 : b = true → p → A1) (g0 : b = false → n → A0) (h : Wr (b = true → A1) → Wr (b = false → A0) → B := by
  intro a1 a0
  repeat refine ax1 ?_
  exact Cj.cond rfl a1.1 a0.1) (k : (b = true → p) ∧ (b = false → n) := by exact tst) : B := h ⟨fun h => g1 h (k.1 h)⟩ ⟨fun h => g0 h (k.2 h)⟩
theorem ax0 {b : Bool} {A1 A0 B : Prop} (g1 : b = true → A1) (g0 : b = false → A0) (h : Wr (b = true → A1) → Wr (b = false → A0) → B := by
  intro a1 a0
  repeat refine ax1 ?_
  exact Cj.cond rfl a1.1 a0.1) : B := h ⟨g1⟩ ⟨g0⟩
theorem axg {b : Bool} {p n A1 A0 B : Prop} (g1 : b = true → p → A1) (g0 : b = false → n → A0) (h : Wr (b = true → A1) → Wr (b = false → A0) → B := by
  intro a1 a0
  repeat refine ax1 ?_
  exact J.spG rfl rfl rfl a1.1 a0.1) (k : (b = true → p) ∧ (b = false → n) := by exact tst) : B := h ⟨fun h => g1 h (k.1 h)⟩ ⟨fun h => g0 h (k.2 h)⟩
theorem axh {b : Bool} {A1 A0 B : Prop} (g1 : b = true → A1) (g0 : b = false → A0) (h : Wr (b = true → A1) → Wr (b = false → A0) → B := by
  intro a1 a0
  repeat refine ax1 ?_
  exact J.spG rfl rfl rfl a1.1 a0.1) : B := h ⟨g1⟩ ⟨g0⟩
theorem axr {A B : Prop} (a : A) (h : Wr A → B := by
  intro a
  repeat refine ax1 ?_
  first
  | exact Ej.bare (Ej.ret1 rfl rfl rfl a.1)
  | exact Ej.bare (Ej.ret2 rfl rfl rfl rfl a.1)
  | exact Ej.bare (Ej.end0 rfl rfl a.1)
  | exact Ej.bare (Ej.ret0 rfl rfl a.1)) : B := h ⟨a⟩
theorem axe {A B : Prop} (a : A) (h : Wr A → B := by
  intro a
  repeat refine ax1 ?_
  first
  | exact Ej.ret1 rfl rfl rfl a.1
  | exact Ej.ret2 rfl rfl rfl rfl a.1
  | exact Ej.end0 rfl rfl a.1
  | exact Ej.ret0 rfl rfl a.1) : B := h ⟨a⟩
theorem xpu {P : Program} {f : FuncId} {args : List Value} {I : Heap} {v : Value} {A B : Prop} (c : Pure P f args I v) (a : A) (h : Pure P f args I v → Wr A → B := by
  intro c a
  repeat refine ax1 ?_
  first
  | (with_reducible show J _ _ _ _ _ _ _)
    first
    | exact J.op rfl (op_pure rfl rfl rfl rfl rfl c a.1)
    | exact J.opG _ _ _ _ rfl rfl rfl (by first | exact eqA) (op_pure rfl rfl rfl rfl rfl c a.1)
  | (with_reducible show JA _ _ _ _ _ _ _ _ _ _ _ _)
    first
    | exact JA.st1 rfl rfl (by kernel_rfl) rfl (op_pure rfl rfl rfl rfl rfl c a.1)
    | exact JA.st2 rfl rfl (by kernel_rfl) rfl rfl rfl (by first | exact eqA) (op_pure rfl rfl rfl rfl rfl c a.1)
  | exact op_pure rfl rfl rfl rfl rfl c a.1) : B := h c ⟨a⟩
theorem xca {P : Program} {f : FuncId} {args : List Value} {I : Heap} {H1 : HL} {post : Ending → Heap → HL → Prop} {A B : Prop} (c : Ctr P f args I H1 post) (a : A) (h : Row H1 → Ctr P f args I H1 post → Wr A → B := by
  intro r c a
  repeat refine ax1 ?_
  first
  | (with_reducible show J _ _ _ _ _ _ _)
    first
    | exact J.op rfl (op_cW r rfl rfl rfl rfl rfl c rfl a.1 (by first | exact kpA) (by first | exact kpA))
    | exact J.opG _ _ _ _ rfl rfl rfl (by first | exact eqA) (op_cW r rfl rfl rfl rfl rfl c rfl a.1 (by first | exact kpA) (by first | exact kpA))
  | (with_reducible show JA _ _ _ _ _ _ _ _ _ _ _ _)
    first
    | exact JA.st1 rfl rfl (by kernel_rfl) rfl (op_cW r rfl rfl rfl rfl rfl c rfl a.1 (by first | exact kpA) (by first | exact kpA))
    | exact JA.st2 rfl rfl (by kernel_rfl) rfl rfl rfl (by first | exact eqA) (op_cW r rfl rfl rfl rfl rfl c rfl a.1 (by first | exact kpA) (by first | exact kpA))
  | exact op_cW r rfl rfl rfl rfl rfl c rfl a.1 (by first | exact kpA) (by first | exact kpA)) : B := h ⟨⟩ c ⟨a⟩
theorem xcn {P : Program} {f : FuncId} {args : List Value} {I : Heap} {post : Ending → Heap → HL → Prop} {A B : Prop} (c : Ctr P f args I [] post) (a : A) (h : Ctr P f args I [] post → Wr A → B := by
  intro c a
  repeat refine ax1 ?_
  first
  | (with_reducible show J _ _ _ _ _ _ _)
    first
    | exact J.op rfl (op_callN rfl rfl rfl rfl rfl c a.1 (by first | exact kpA) (by first | exact kpA))
    | exact J.opG _ _ _ _ rfl rfl rfl (by first | exact eqA) (op_callN rfl rfl rfl rfl rfl c a.1 (by first | exact kpA) (by first | exact kpA))
  | (with_reducible show JA _ _ _ _ _ _ _ _ _ _ _ _)
    first
    | exact JA.st1 rfl rfl (by kernel_rfl) rfl (op_callN rfl rfl rfl rfl rfl c a.1 (by first | exact kpA) (by first | exact kpA))
    | exact JA.st2 rfl rfl (by kernel_rfl) rfl rfl rfl (by first | exact eqA) (op_callN rfl rfl rfl rfl rfl c a.1 (by first | exact kpA) (by first | exact kpA))
  | exact op_callN rfl rfl rfl rfl rfl c a.1 (by first | exact kpA) (by first | exact kpA)) : B := h c ⟨a⟩
theorem xcr {P : Program} {f : FuncId} {args : List Value} {I : Heap} {H1 : HL} (R : HL) {post : Ending → Heap → HL → Prop} {A B : Prop} (c : Ctr P f args I H1 post) (a : A) (h : Row R → Ctr P f args I H1 post → Wr A → B := by
  intro r c a
  repeat refine ax1 ?_
  first
  | (with_reducible show J _ _ _ _ _ _ _)
    first
    | exact J.op rfl (op_crW r rfl rfl rfl rfl rfl rfl c a.1 (by first | exact kpA) (by first | exact kpA))
    | exact J.opG _ _ _ _ rfl rfl rfl (by first | exact eqA) (op_crW r rfl rfl rfl rfl rfl rfl c a.1 (by first | exact kpA) (by first | exact kpA))
  | (with_reducible show JA _ _ _ _ _ _ _ _ _ _ _ _)
    first
    | exact JA.st1 rfl rfl (by kernel_rfl) rfl (op_crW r rfl rfl rfl rfl rfl rfl c a.1 (by first | exact kpA) (by first | exact kpA))
    | exact JA.st2 rfl rfl (by kernel_rfl) rfl rfl rfl (by first | exact eqA) (op_crW r rfl rfl rfl rfl rfl rfl c a.1 (by first | exact kpA) (by first | exact kpA))
  | exact op_crW r rfl rfl rfl rfl rfl rfl c a.1 (by first | exact kpA) (by first | exact kpA)) : B := h ⟨⟩ c ⟨a⟩
section
variable {cx : Cx} {Q : Qt} {e : Env} {I I1 : Heap} {H A : HL} {Z : CL} {z fuel : Nat} {listed : Array Bool} {ops : Array Oper} {l : List Oper} {o : Oper}
theorem J.zg {j d d' : Nat} {want b : Bool} {v : Value} (hy : Yld cx o e (SS I H) v) (k : J cx Q ops l ((d', v) :: e) I H) (hg : o.guard = some (j, want) := by rfl) (hd : (ops[j]?).bind (·.dst) = some d := by rfl) (hv : eg e d = some (.bool b) := by rfl) (hb : b = want := by exact eqA) (ho : o.dst = some d' := by rfl) (hn : Nat.blt d' cx.n = true := by rfl) : J cx Q ops (o :: l) e I H := J.opG j d want b hg hd hv hb (op_yld hy ho hn k)
end
theorem xix (off : Nat) {A B : Prop} (a : A) (h : Cnt off → Wr A → B := by
  intro s a
  repeat refine ax1 ?_
  first
  | (with_reducible show J _ _ _ _ _ _ _); first | (refine gdJ 2 rfl ?_; first | exact J.z (yl_ixS s rfl rfl rfl (uU rfl rfl) (uS rfl rfl) (by first | decide | omega) (by first | decide | omega) (by first | decide | omega | (simp; done) | (simp; omega))) a.1 | exact J.z (yl_ixA s rfl rfl rfl (uU rfl rfl) (uS rfl rfl) (by first | decide | omega) (by first | decide | omega) (by first | decide | omega | (simp; done) | (simp; omega))) a.1) | (refine gdJ 1 rfl ?_; first | exact J.zg (yl_ixS s rfl rfl rfl (uU rfl rfl) (uS rfl rfl) (by first | decide | omega) (by first | decide | omega) (by first | decide | omega | (simp; done) | (simp; omega))) a.1 | exact J.zg (yl_ixA s rfl rfl rfl (uU rfl rfl) (uS rfl rfl) (by first | decide | omega) (by first | decide | omega) (by first | decide | omega | (simp; done) | (simp; omega))) a.1)
  | (refine gdA 0 2 rfl ?_; first | exact JA.tn 0 rfl rfl (by first | exact fxA) (yl_ixS s rfl rfl rfl (uU rfl rfl) (uS rfl rfl) (by first | decide | omega) (by first | decide | omega) (by first | decide | omega | (simp; done) | (simp; omega))) a.1 | exact JA.tn 0 rfl rfl (by first | exact fxA) (yl_ixA s rfl rfl rfl (uU rfl rfl) (uS rfl rfl) (by first | decide | omega) (by first | decide | omega) (by first | decide | omega | (simp; done) | (simp; omega))) a.1)
  | (refine gdA 0 1 rfl ?_; first | exact JA.tnG 0 rfl rfl (by first | exact fxA) rfl rfl rfl (by first | exact eqA) (yl_ixS s rfl rfl rfl (uU rfl rfl) (uS rfl rfl) (by first | decide | omega) (by first | decide | omega) (by first | decide | omega | (simp; done) | (simp; omega))) a.1 | exact JA.tnG 0 rfl rfl (by first | exact fxA) rfl rfl rfl (by first | exact eqA) (yl_ixA s rfl rfl rfl (uU rfl rfl) (uS rfl rfl) (by first | decide | omega) (by first | decide | omega) (by first | decide | omega | (simp; done) | (simp; omega))) a.1)) : B := h ⟨⟩ ⟨a⟩
theorem xap (m : Nat) (R : HL) {b0 sz n : Nat} {xs : List Value} {g : Gs} (c : gOk b0 sz n xs g) {A B : Prop} (a : A) (h : Cnt m → Row R → gOk b0 sz n xs g → Wr A → B := by
  intro s r c a
  repeat refine ax1 ?_
  first
  | (with_reducible show J _ _ _ _ _ _ _); exact J.op rfl (op_apW s r rfl rfl rfl rfl rfl (uU rfl rfl) (.inr ⟨_, (uU rfl rfl)⟩) (by kernel_rfl) (uS rfl rfl) (uZ rfl rfl) rfl c rfl (Src.slice (by first | exact bkA) rfl rfl rfl) (by omega) a.1)
  | exact JA.st1 rfl rfl (by kernel_rfl) rfl (op_apW s r rfl rfl rfl rfl rfl (uU rfl rfl) (.inr ⟨_, (uU rfl rfl)⟩) (by kernel_rfl) (uS rfl rfl) (uZ rfl rfl) rfl c rfl (Src.slice (by first | exact bkA) rfl rfl rfl) (by omega) a.1)) : B := h ⟨⟩ ⟨⟩ c ⟨a⟩
section
variable {cx : Cx} {Q : Qt} {e : Env} {I I1 : Heap} {H A : HL} {Z : CL} {z fuel : Nat} {listed : Array Bool} {ops : Array Oper} {l : List Oper} {o : Oper}
theorem J.ev (d : Nat) (v' : Value) {v : Value} (hv : eg e d = some v) (h : v = v') (k : J cx Q ops l ((d, v') :: e) I H) : J cx Q ops l e I H := J.eqv d hv h k
theorem JA.ev (d : Nat) (v' : Value) {v : Value} (hv : eg e d = some v) (h : v = v') (k : JA cx Q l I1 A Z z fuel listed ((d, v') :: e) I H) : JA cx Q l I1 A Z z fuel listed e I H := JA.eqv d hv h k
theorem Cj.ev {c : Code} (d : Nat) (v' : Value) {v : Value} (hv : eg e d = some v) (h : v = v') (k : Cj cx Q c ((d, v') :: e) I H) : Cj cx Q c e I H := Cj.eqv d hv h k
theorem JA.zt (i : Nat) {d : Nat} {v : Value} (hi : l.toArray[i]? = some o) (hy : Yld cx o e (SC I1 A Z) v) (k : JA cx Q l I1 A Z z fuel (listed.setIfInBounds i true) ((d, v) :: e) I H) (hx : JFix I1 A Z I H := by exact fxA)
    (hd : o.dst = some d := by rfl) (hg : o.guard = none := by rfl) (hn : Nat.blt d cx.n = true := by rfl) (hz : zok l.toArray listed z i = true := by first | rfl | kernel_rfl) (hs : Region.noSelect l.toArray = true := by kernel_rfl) (hf : Region.free .any l.toArray listed i = true := by kernel_rfl)
    (hr : (Region.ready .any l.toArray listed).contains i = true := by kernel_rfl) (hq : ∀ c a w, Q (.panic c) (a.put (some d) v) w → Q (.panic c) a w := by exact fun _ _ _ h => h) : JA cx Q l I1 A Z z (fuel + 1) listed e I H := JA.tk i hi hx hy k hd hg hn hz hs hf hr hq
end
theorem xob {P : Program} {f : FuncId} {fn : Func} {c : Code} {args : List Value} {I : Heap} {H : HL} {post : Ending → Heap → HL → Prop} (hf : P.funcs[f]? = some fn)
    (h : ∀ w0, Ready I H w0 → Cj ⟨P, fn.ntmps, w0, H.map (·.1), I, [], none⟩ (bodyPost P fn (RR w0 (H.map (·.1)) I post)) c (argsEnv 0 args) I H) (hb : fn.body = some c := by rfl) (hname : fn.name ≠ "runtime.NumGoroutine" := by decide)
    (hn : args.length ≤ fn.ntmps := by exact Nat.le_of_ble_eq_true rfl) : Ctr P f args I H post := Ctr.of_body hf hb hname hn h
end Go.Sx
end
section
set_option maxHeartbeats 40000000
namespace Go.Proofs.YtekmeaoblpfnpaaGreatDoor
open _root_.Go.Proofs.Tryz
open Go Go.Sx
def BldH (b : Nat) (l : List UInt8) (p : Bool) (g : Gs) : HL := (b, cel 204 [if p then ptr b 0 else .pointer none, gV l.length g]) :: gH 5 (bcs l) g
theorem copyCheck_fresh (b : Nat) (v : Value) (I : Heap) : Ctr Tryz.prog 184 [ptr b 0] I [(b, cel 204 [.pointer none, v])] (fun e _I' H' => e = .returned (.tuple #[]) ∧ H' = [(b, cel 204 [ptr b 0, v])]) := by
 refine xob func184 fun w0 hw0 => ?_
 refine axn 13 ?_
 refine J.z (yl_toUnsafe 1 rfl rfl underlying202 underlying284 (by kernel_rfl) (Blk.at 0 rfl) (by simp)) ?_
 refine J.z (yl_noEscape rfl rfl rfl func234 (by kernel_rfl) (by kernel_rfl) (by kernel_rfl) (by kernel_rfl)) ?_
 refine J.z (yl_fromUnsafe rfl rfl underlying284 underlying202 (by kernel_rfl) (Blk.at 0 rfl) (by kernel_rfl)) ?_
 refine axn 4 ?_
 refine Ej.end0 rfl rfl ?_
 exact ⟨rfl, rfl⟩
theorem copyCheck_used (b : Nat) (v : Value) (I : Heap) : Ctr Tryz.prog 184 [ptr b 0] I [(b, cel 204 [ptr b 0, v])] (fun e _I' H' => e = .returned (.tuple #[]) ∧ H' = [(b, cel 204 [ptr b 0, v])]) := by
 refine xob func184 fun w0 hw0 => ?_
 refine axn 17 ?_
 refine J.z (yl_neqSame rfl rfl rfl underlying202 (by kernel_rfl)) ?_
 refine axn 4 ?_
 refine Ej.end0 rfl rfl ?_
 exact ⟨rfl, rfl⟩
theorem copyCheck_ok (b : Nat) (p : Bool) (v : Value) (I : Heap) : Ctr Tryz.prog 184 [ptr b 0] I [(b, cel 204 [if p then ptr b 0 else .pointer none, v])] (fun e _I' H' => e = .returned (.tuple #[]) ∧ H' = [(b, cel 204 [ptr b 0, v])]) := by
  cases p
  · exact copyCheck_fresh b v I
  exact copyCheck_used b v I
theorem WriteString_ok (b : Nat) (l s : List UInt8) (p : Bool) (g : Gs) (hg : gOk 0 1 l.length (bcs l) g) (hl : l.length ≤ 1000000000000) (hs : s.length ≤ 1000000000000) (I : Heap) :
    Ctr Tryz.prog 130 [ptr b 0, str s] I (BldH b l p g) (fun e _I' H' => e = .returned (.tuple #[i64 s.length, .nilIface]) ∧ ∃ g', gOk 0 1 (l ++ s).length (bcs (l ++ s)) g' ∧ H' = BldH b (l ++ s) true g') := by
 refine xob func130 fun w0 hw0 => ?_
 refine axn 9 ?_
 refine J.pull Pull.z ?_
 refine xca (copyCheck_ok b p _ _) ?_
 intro v1 I2 H3 hle4 hp5
 obtain ⟨hv1, rfl⟩ := hp5; cases hv1
 refine axn 10 ?_
 refine J.op rfl (op_appendB 0 (Nat.zero_le _) (by' := 0) [_] rfl rfl rfl rfl rfl underlying192 (.inl underlying9) (by kernel_rfl) sizeOf5 zeroValue5 rfl hg rfl Src.str (by omega) ?_)
 intro g6 hg6
 refine axn 14 ?_
 refine Ej.keep (Keeps.k Keeps.r) ?_
 refine axe ?_
 exact ⟨rfl, g6, by simpa [bcs] using hg6, by simp [BldH, bcs]⟩
theorem String_nil (b : Nat) (x : Value) (I : Heap) : Ctr Tryz.prog 132 [ptr b 0] I [(b, cel 204 [x, .slice none 0 0])] (fun e _I' H' => e = .returned (str []) ∧ ∃ y z, H' = [(b, cel 204 [y, z])]) := by
 refine xob func132 fun w0 hw0 => ?_
 refine axn 6 ?_
 refine Cj.drawSel [0] [] 12 (by kernel_rfl) ?_
 refine axn 4 ?_
 refine JA.zt 4 rfl (yl_sliceDataNil rfl rfl) ?_
 refine axn 5 ?_
 refine q0 10 rfl (op_yld (yl_unsafeStringNone rfl rfl rfl) rfl rfl ?_)
 refine axn 5 ?_
 refine Ej.keep (Keeps.k Keeps.n) ?_
 refine axe ?_
 exact ⟨rfl, _, _, rfl⟩
theorem String_some (b gb c : Nat) (x : Value) (l : List UInt8) (sp : List Value) (h0 : l ≠ []) (hl : l.length ≤ 1000000000000) (hc : c ≠ 0) (I : Heap) : Ctr Tryz.prog 132 [ptr b 0] I [(b, cel 204 [x, .slice (some ⟨gb, 0, none⟩) l.length c]), (gb, cel 5 (bcs l ++ sp))] (fun e _I' H' => e = .returned (str l) ∧ ∃ y z, H' = [(b, cel 204 [y, z])]) := by
 refine xob func132 fun w0 hw0 => ?_
 refine axn 6 ?_
 refine Cj.drawSel [0] [] 12 (by kernel_rfl) ?_
 refine axn 4 ?_
 refine JA.zt 4 rfl (yl_sliceData rfl rfl hc) ?_
 refine axn 5 ?_
 refine q0 10 rfl (op_unsafeString 1 l rfl rfl rfl rfl rfl underlying246 (by kernel_rfl) rfl h0 (by omega) (LSet.s LSet.z) ?_)
 refine axn 5 ?_
 refine Ej.keep (Keeps.k (Keeps.d Keeps.n)) ?_
 refine axe ?_
 exact ⟨rfl, _, _, rfl⟩
theorem String_ok (b : Nat) (l : List UInt8) (p : Bool) (g : Gs) (hg : gOk 0 1 l.length (bcs l) g) (h0 : l = [] → g = none) (hl : l.length ≤ 1000000000000) (I : Heap) : Ctr Tryz.prog 132 [ptr b 0] I (BldH b l p g) (fun e _I' H' => e = .returned (str l) ∧ ∃ y z, H' = [(b, cel 204 [y, z])]) := by
  cases g with
  | none =>
    have : l = [] := List.length_eq_zero_iff.1 hg.1
    subst this
    exact String_nil b _ I
  | some q =>
    obtain ⟨gb, c, sp⟩ := q
    have hne : l ≠ [] := fun h => by cases h0 h
    have hlen := hg.2.1
    have hcap := hg.2.2
    have : 0 < l.length := List.length_pos_iff.2 hne
    exact String_some b gb c _ l sp hne hl (by rw [hlen] at hcap; omega) I
theorem Len_nil (b : Nat) (x : Value) (I : Heap) : Ctr Tryz.prog 131 [ptr b 0] I [(b, cel 204 [x, .slice none 0 0])] (fun e _I' H' => e = .returned (i64 0) ∧ H' = [(b, cel 204 [x, .slice none 0 0])]) := by
 refine xob func131 fun w0 hw0 => ?_
 refine axe ?_
 exact ⟨rfl, rfl⟩
theorem Len_some (b : Nat) (x : Value) (p : Option Addr) (n c : Nat) (I : Heap) : Ctr Tryz.prog 131 [ptr b 0] I [(b, cel 204 [x, .slice p n c])] (fun e _I' H' => e = .returned (i64 n) ∧ H' = [(b, cel 204 [x, .slice p n c])]) := by
 refine xob func131 fun w0 hw0 => ?_
 refine axe ?_
 exact ⟨rfl, rfl⟩
theorem Len_ok (b : Nat) (x : Value) (n : Nat) (g : Gs) {sz : Nat} {xs : List Value} (hg : gOk 0 sz n xs g) (I : Heap) : Ctr Tryz.prog 131 [ptr b 0] I [(b, cel 204 [x, gV n g])] (fun e _I' H' => e = .returned (i64 n) ∧ H' = [(b, cel 204 [x, gV n g])]) := by
  cases g with
  | none =>
    obtain rfl : n = 0 := hg.1
    exact Len_nil b x I
  | some q => exact Len_some b x _ n _ I
theorem Reset_ok (b : Nat) (x y : Value) (I : Heap) : Ctr Tryz.prog 133 [ptr b 0] I [(b, cel 204 [x, y])] (fun e _I' H' => e = .returned (.tuple #[]) ∧ H' = [(b, cel 204 [.pointer none, .slice none 0 0])]) := by
 refine xob func133 fun w0 hw0 => ?_
 refine axn 14 ?_
 refine Ej.end0 rfl rfl ?_
 exact ⟨rfl, rfl⟩
end Go.Proofs.YtekmeaoblpfnpaaGreatDoor
end
section
namespace Go.Proofs.YtekmeaoblpfnpaaGreatDoor
open Go.ChangeShapes Go.WideShapes Go.ChangeAt Go.RowKit Go.Sx Go.Lib Go.ChangeMaps Go.WideMaps
theorem own : ownKnob Tryz.prog.godebug = none := by kernel_rfl
def HW (W : World) : Heap := fun b => W.heap[b]?
theorem HW.ready (W : World) : Ready (HW W) [] W := ⟨fun _ _ h => h, by simp, by simp, by simp⟩
theorem HW.below {W w' : World} {I' : Heap} {H' : HL} (h : St W [] (HW W) I' H' w') : Below W.heap.size W w' := ⟨h.os, h.tape, h.output, h.size, fun b hb => h.frm b hb (by simp)⟩
theorem HW.calls {f : FuncId} {args : List Value} {W : World} {v : Value} (h : Sx.Pure Tryz.prog f args (HW W) v) : Calls Tryz.prog f args.toArray W fun e w' => e = .returned v ∧ Below W.heap.size W w' :=
  (h.2 W (HW.ready W)).mono fun _e _w' ⟨_I', _H', hs, h1, _, _⟩ => ⟨h1, HW.below hs⟩
theorem post_grow {H : Type} {enc : TypeId × Value → H} {P : Program} {f : Func} {s : ChangeSpec} {apart fresh handsOn again : Bool} {W W' : World} {args : Array Value} {v : Value} {ds gs : List (DataW H)} {before pa pv : List MemPlace}
    (hB : Below W.heap.size W W') (hW : DataW.Whole enc P f.params.toList s.vars apart W args.toList ds gs before) (hps : before = pa ++ pv)
    (hres : ∀ (b : Nat) (sp : Nat → Bool) (hd : Bool), DataW.TrodAll enc P W' b sp hd f.resultTypes.toList (v.resultList f.resultTypes.size) (s.fn H (ds ++ gs)).results [])
    (hargs : ∀ sp : Nat → Bool, (∀ p ∈ before, sp p.block = true) → DataW.TrodAll enc P W' 0 sp true f.params.toList args.toList (s.fn H (ds ++ gs)).args pa)
    (hvars : ∀ sp : Nat → Bool, (∀ p ∈ before, sp p.block = true) → DataW.TrodVars enc P W' sp s.vars (s.fn H (ds ++ gs)).vars pv)
    (hok : ∀ (j : Nat) (t : TypeId) (r : Value), f.resultTypes[j]? = some t → (v.resultList f.resultTypes.size)[j]? = some r → Value.okWide P W' .any 0 t r) : s.post enc P f apart fresh handsOn again W args v W' := by
  have old : ∀ p ∈ before, p.block < W.heap.size := hW.lt
  have mem : ∀ p, p ∈ before ↔ p ∈ pa ∨ p ∈ pv := fun p => by rw [hps]; exact List.mem_append
  have both : ([] ++ pa) ++ pv = before := by rw [hps]; rfl
  refine ⟨ds, gs, before, [], pa, pv, hW, hres _ _ _, hargs _ fun p hp => decide_eq_true (old p hp), hvars _ fun p hp => decide_eq_true (old p hp), World.keptBut_mono (fun p hp => ⟨hp, .inr ((mem p).1 hp)⟩) (hB.frame (· ∈ before)), fun _ => ?_⟩
  have hrd := hargs (fun _ => true) fun _ _ => rfl
  obtain ⟨_, _, _, _, _, hfrz, hnd⟩ := hW
  refine ⟨hok, _, _, ([] ++ pa) ++ pv, ⟨[] ++ pa, pv, trodAll_append hrd (hres _ _ _), hvars _ fun _ _ => rfl, rfl, fun b off hp => ?_, fun ha => ?_⟩, fun p hp _ => ?_⟩
  · have hin : MemPlace.cell b off ∈ before := both ▸ hp
    have hlt : b < W.heap.size := old _ hin
    have hf := hfrz b off hin
    unfold World.frozen? at hf ⊢
    rw [hB.block b hlt]
    exact hf
  · exact both ▸ hnd ha
  exact both ▸ hp
def Again {H : Type} (enc : TypeId × Value → H) (W : World) (t : TypeId) (v : Value) (d : DataW H) (p : List MemPlace) : Prop :=
  ∀ W', Below W.heap.size W W' → ∀ sp : Nat → Bool, (∀ q ∈ p, sp q.block = true) → DataW.Trod enc Tryz.prog W' 0 sp true t v d p
section
variable {H : Type} {enc : TypeId × Value → H} {W : World} {base : Nat}
theorem arg_string {t : TypeId} {v : Value} {d : DataW H} {p : List MemPlace} (ht : Tryz.prog.underlying t = some .string) (hval : Value.okWide Tryz.prog W .any base t v) (h : DataW.Trod enc Tryz.prog W 0 (fun _ => true) true t v d p) :
    ∃ s : List UInt8, v = str s ∧ d = .lit (.string s) ∧ p = [] ∧ Again enc W t v d p := by
  obtain ⟨s, rfl, rfl, rfl, ws⟩ := open_string ht hval h
  exact ⟨s.data.toList, by cases s; simp [str], rfl, rfl, fun W' _ sp _ => shut_string ht ws⟩
theorem u8_of {n : Int} (h : (Lit.int .u8 n).wf = true) : ∃ c : UInt8, n = (c.toNat : Int) := by
  simp [Lit.wf, IntKind.min, IntKind.max, IntKind.signed, IntKind.bits] at h
  refine ⟨UInt8.ofNatLT n.toNat (by show n.toNat < 256; omega), ?_⟩
  rw [UInt8.toNat_ofNatLT]
  omega
theorem arg_u8 {t : TypeId} {v : Value} {d : DataW H} {p : List MemPlace} (ht : Tryz.prog.underlying t = some (.int .u8)) (hval : Value.okWide Tryz.prog W .any base t v) (h : DataW.Trod enc Tryz.prog W 0 (fun _ => true) true t v d p) :
    ∃ c : UInt8, v = u8 c ∧ d = .lit (.int .u8 (c.toNat : Int)) ∧ p = [] ∧ Again enc W t v d p := by
  obtain ⟨n, rfl, rfl, rfl, hw⟩ := open_int ht hval h
  obtain ⟨c, rfl⟩ := u8_of hw
  exact ⟨c, rfl, rfl, rfl, fun W' _ sp _ => shut_int ht hw⟩
end
theorem witness_laid {H : Type} {enc : TypeId × Value → H} (os : Os) {f : FuncId} {fn : Func} {s : OpenSpec} {conds : List PathCond} {apart : Bool} {laid : List (String × DataW Unit)} (args : Array Value)
    (hv : ((World.laidAll Tryz.prog os laid).forCall (fun _ _ => 0) ⟨#[], args, []⟩).variablesZipB Tryz.prog = true)
    (hr : (((World.laidAll Tryz.prog os laid).forCall (fun _ _ => 0) ⟨#[], args, []⟩).heap.toList.drop Tryz.prog.globals.size).take ((begin Tryz.prog (fun _ _ => 0) default).world.heap.size - Tryz.prog.globals.size) = (begin Tryz.prog (fun _ _ => 0) default).world.heap.toList.drop Tryz.prog.globals.size)
    (hok : Input.okWideB Tryz.prog ((World.laidAll Tryz.prog os laid).forCall (fun _ _ => 0) ⟨#[], args, []⟩) f ⟨#[], args, []⟩ = true)
    (hrow : s.preRow enc Tryz.prog fn conds apart laid ((World.laidAll Tryz.prog os laid).forCall (fun _ _ => 0) ⟨#[], args, []⟩).memory args) :
    ∃ (w : World) (tape : Tape) (i : Input), w.os = os ∧ (w.forCall tape i).Shaped Tryz.prog ∧ i.vars = [] ∧ Input.okWide Tryz.prog (w.forCall tape i) .any w.heap.size f i ∧
      s.preRow enc Tryz.prog fn conds apart laid (w.forCall tape i).memory i.args ∧ ({} : Assume).holds Tryz.prog (lone (Frame.enter Tryz.prog f i.args .normal) [] (w.forCall tape i)) :=
  ⟨World.laidAll Tryz.prog os laid, fun _ _ => 0, ⟨#[], args, []⟩, World.laidAll_os _ _ _, World.shaped_of_ZipB hv hr, (Input.okWide_of_okWideB (base := 0) hok).1, (Input.okWide_of_okWideB hok).2, hrow, by
    simp only [Assume.holds]
    exact ⟨by simp, by simp, by simp, by simp, by simp⟩⟩
end Go.Proofs.YtekmeaoblpfnpaaGreatDoor
end
section
namespace Go.Proofs.YtekmeaoblpfnpaaGreatDoor
open Go.ChangeShapes Go.WideShapes Go.ChangeAt Go.RowKit Go.Sx Go.Lib Go.ChangeMaps Go.WideMaps
section
variable {H : Type} {enc : TypeId × Value → H} {W : World} {base : Nat}
def Arg (enc : TypeId × Value → H) (W : World) (t : TypeId) (cs : List Value) (m : Nat) : Prop := ∃ n x, DataW.trod enc Tryz.prog W 0 (fun _ => true) true n t cs = some x ∧ Rows.uptoBulk x.1 = m
theorem Arg.of {t : TypeId} {v : Value} {d : DataW H} {p : List MemPlace} (h : DataW.Trod enc Tryz.prog W 0 (fun _ => true) true t v d p) : Arg enc W t v.cells.toList (Rows.uptoBulk d) := by
  obtain ⟨n, hn⟩ := h
  exact ⟨n, _, hn, rfl⟩
theorem laidOut : laidOutB Tryz.prog = true := by kernel_rfl
theorem again {t : TypeId} {v : Value} {d : DataW H} {p : List MemPlace} (hr : Tryz.prog.readableRec t = true) (hrow : t < Tryz.prog.types.size) (h : DataW.Trod enc Tryz.prog W 0 (fun _ => true) true t v d p) (hlt : ∀ x ∈ p, x.block < W.heap.size) : Again enc W t v d p :=
  fun _ hB _ hsp => WideElems.Trod_stays laidOut hr hrow h (fun _ hx => hB.same (hlt _ hx)) hsp
theorem mapM_some {α β : Type} {g : α → Option β} : ∀ {l : List α} {ys : List β}, l.mapM g = some ys → ys.length = l.length ∧ ∀ (i : Nat) x, l[i]? = some x → ∃ y, ys[i]? = some y ∧ g x = some y
  | [], ys, h => by simp at h; subst h; exact ⟨rfl, fun i x hx => by simp at hx⟩
  | a :: l, ys, h => by
    rw [List.mapM_cons] at h
    cases ha : g a with
    | none => simp [ha] at h
    | some y =>
      cases hl : l.mapM g with
      | none => simp [ha, hl] at h
      | some zs =>
        simp [ha, hl] at h
        subst h
        obtain ⟨h1, h2⟩ := mapM_some hl
        refine ⟨by simp [h1], fun i x hx => ?_⟩
        cases i with
        | zero => simp at hx; subst hx; exact ⟨y, rfl, ha⟩
        | succ i => exact h2 i x (by simpa using hx)
theorem bulk_sum : ∀ (l : List (DataW H)), Rows.uptoBulkAll l = (l.map Rows.uptoBulk).sum
  | [] => rfl
  | d :: r => by simp only [Rows.uptoBulkAll, List.map_cons, List.sum_cons, bulk_sum r]
theorem Arg.step {t : TypeId} {cs : List Value} {m : Nat} (h : Arg enc W t cs m) : ∃ n x, DataW.trodStep enc Tryz.prog W 0 (fun _ => true) true (DataW.trod enc Tryz.prog W 0 (fun _ => true) true n) t cs = some x ∧ Rows.uptoBulk x.1 = m := by
  obtain ⟨n, x, h, hm⟩ := h
  cases n with
  | zero => simp [DataW.trod] at h
  | succ n => exact ⟨n, x, (DataW.trod_step enc Tryz.prog W 0 (fun _ => true) true n t cs).symm.trans h, hm⟩
theorem Arg.int {t : TypeId} {k : IntKind} {cs : List Value} {m : Nat} (ht : Tryz.prog.underlying t = some (.int k)) (h : Arg enc W t cs m) : ∃ z, cs = [.int k z] ∧ (Lit.int k z).wf = true ∧ m = 1 := by
  obtain ⟨n, x, h, hm⟩ := h
  obtain ⟨z, rfl, rfl, hw⟩ := DataW.trod_int ht h
  simp only [Rows.uptoBulk] at hm
  exact ⟨z, rfl, hw, hm.symm⟩
theorem Arg.bool {t : TypeId} {cs : List Value} {m : Nat} (ht : Tryz.prog.underlying t = some .bool) (h : Arg enc W t cs m) : ∃ b : Bool, cs = [.bool b] := by
  obtain ⟨n, x, h, hm⟩ := h.step
  unfold DataW.trodStep at h
  rw [ht] at h
  split at h <;> simp_all
theorem Arg.struct {t : TypeId} {fs : Array Field} {cs : List Value} {m : Nat} (ht : Tryz.prog.underlying t = some (.struct fs)) (h : Arg enc W t cs m) :
    cs.length = Tryz.prog.cellsOf t ∧ ∃ ms : List Nat, ms.length = fs.size ∧ ms.sum + 1 = m ∧ ∀ (i : Nat) f m', fs[i]? = some f → ms[i]? = some m' → Arg enc W f.type ((cs.drop f.offset).take (Tryz.prog.cellsOf f.type)) m' := by
  obtain ⟨n, x, h, hm⟩ := h.step
  unfold DataW.trodStep at h
  simp only [ht] at h
  split at h
  · rename_i hl
    refine ⟨hl, ?_⟩
    simp only [Option.map_eq_some_iff] at h
    obtain ⟨xs, hx, rfl⟩ := h
    obtain ⟨h1, h2⟩ := mapM_some hx
    refine ⟨xs.map fun y => Rows.uptoBulk y.1, by simp [h1], ?_, fun i f m' hf hm' => ?_⟩
    · rw [← hm]; simp only [Rows.uptoBulk, bulk_sum, List.map_map]; rfl
    obtain ⟨y, hy, hg⟩ := h2 i f (by simpa using hf)
    rw [List.getElem?_map, hy] at hm'
    simp only [Option.map_some, Option.some.injEq] at hm'
    exact ⟨n, y, hg, hm'⟩
  cases h
theorem Arg.array {t e k : Nat} {cs : List Value} {m : Nat} (ht : Tryz.prog.underlying t = some (.array k e)) (h : Arg enc W t cs m) :
    cs.length = Tryz.prog.cellsOf t ∧ ∃ ms : List Nat, ms.length = k ∧ ms.sum + 1 = m ∧ ∀ (i m' : Nat), ms[i]? = some m' → Arg enc W e ((cs.drop (i * Tryz.prog.cellsOf e)).take (Tryz.prog.cellsOf e)) m' := by
  obtain ⟨n, x, h, hm⟩ := h.step
  unfold DataW.trodStep at h
  simp only [ht] at h
  split at h
  · rename_i hl
    refine ⟨hl, ?_⟩
    simp only [Option.map_eq_some_iff] at h
    obtain ⟨xs, hx, rfl⟩ := h
    obtain ⟨h1, h2⟩ := mapM_some hx
    rw [List.length_range] at h1
    refine ⟨xs.map fun y => Rows.uptoBulk y.1, by simp [h1], ?_, fun i m' hm' => ?_⟩
    · rw [← hm]; simp only [Rows.uptoBulk, bulk_sum, List.map_map]; rfl
    have hi : i < k := by
      have := (List.getElem?_eq_some_iff.1 hm').1
      simpa [h1] using this
    obtain ⟨y, hy, hg⟩ := h2 i i (List.getElem?_range hi)
    rw [List.getElem?_map, hy] at hm'
    simp only [Option.map_some, Option.some.injEq] at hm'
    exact ⟨n, y, hg, hm'⟩
  cases h
theorem cells_at {a : Addr} {n : Nat} {cs : List Value} (h : W.cells? 0 a n = some cs) : cs.length = n ∧ ∀ i, i < n → W.cell? (a.add i) = cs[i]? := by
  unfold World.cells? at h
  rw [if_pos (Nat.zero_le _)] at h
  obtain ⟨h1, h2⟩ := mapM_some h
  rw [List.length_range] at h1
  refine ⟨h1, fun i hi => ?_⟩
  obtain ⟨y, hy, hg⟩ := h2 i i (List.getElem?_range hi)
  rw [hg, hy]
theorem Arg.slice {t e sz : Nat} {cs : List Value} {m : Nat} (ht : Tryz.prog.underlying t = some (.slice e)) (hsz : Tryz.prog.cellsOf e = sz) (hpos : 0 < sz) (h : Arg enc W t cs m) :
    ∃ (p : Option Addr) (len cap : Nat) (ms : List Nat), cs = [.slice p len cap] ∧ len ≤ cap ∧ cap ≤ maxLen ∧ ms.length = len ∧ ms.sum + 1 ≤ m ∧ (0 < len → ∃ b o cells T fr, p = some ⟨b, o, none⟩ ∧ HW W b = some (.cells (List.toArray cells) T fr) ∧
      ∀ (i m' : Nat), ms[i]? = some m' → ((cells.drop (o + i * sz)).take sz).length = sz ∧ Arg enc W e ((cells.drop (o + i * sz)).take sz) m') := by
  obtain ⟨n, x, g, hm⟩ := h.step
  clear h
  unfold DataW.trodStep at g
  simp only [ht] at g
  split at g <;> first | (exfalso; simp_all; done) | skip
  · simp only [Option.some.injEq] at g
    subst g
    exact ⟨none, 0, 0, [], rfl, Nat.le_refl _, Nat.zero_le _, rfl, by rw [← hm]; simp [Rows.uptoBulk], fun h => absurd h (by decide)⟩
  rename_i a len cap he
  cases he
  split at g
  · rename_i hl
    simp only [if_true, Option.bind_eq_some_iff, Option.map_eq_some_iff] at g
    obtain ⟨elems, hel, rest, hre, rfl⟩ := g
    obtain ⟨h1, h2⟩ := mapM_some hel
    rw [List.length_range] at h1
    refine ⟨some a, len, cap, elems.map fun y => Rows.uptoBulk y.1, rfl, hl.2.1, hl.2.2, by simp [h1], ?_, fun h0 => ?_⟩
    · rw [← hm]; simp only [Rows.uptoBulk, bulk_sum, List.map_map]; have : (elems.map fun y => Rows.uptoBulk y.1).sum = (elems.map (Rows.uptoBulk ∘ fun x => x.1)).sum := rfl
      omega
    have elem : ∀ i, i < len → ∃ (cs : List Value) (y : DataW H × List MemPlace), W.cells? 0 (a.add (i * sz)) sz = some cs ∧ elems[i]? = some y ∧ DataW.trod enc Tryz.prog W 0 (fun _ => true) true n e cs = some y := fun i hi => by
      obtain ⟨y, hy, hg⟩ := h2 i i (List.getElem?_range hi)
      simp only [Option.bind_eq_some_iff] at hg
      obtain ⟨cs, hc, hg⟩ := hg
      rw [hsz] at hc
      exact ⟨cs, y, hc, hy, hg⟩
    obtain ⟨cs0, y0, hc0, _, _⟩ := elem 0 h0
    obtain ⟨hl0, hc0⟩ := cells_at hc0
    have hcell0 := hc0 0 hpos
    rw [List.getElem?_eq_getElem (by omega)] at hcell0
    rw [Nat.zero_mul] at hcell0
    have ha : a.add 0 = a := by simp [Addr.add]
    rw [ha, ha] at hcell0
    obtain ⟨blk, off, spot⟩ := a
    cases spot with
    | some sp => obtain ⟨_, _, _, _, hs⟩ := World.shape?_of_cell? hcell0; cases hs
    | none =>
      have h' := hcell0
      unfold World.cell? at h'
      cases hb : W.heap[blk]? with
      | none => simp only [hb] at h'; cases h'
      | some o =>
        cases o with
        | cells cells T fr =>
          refine ⟨blk, off, cells.toList, T, fr, rfl, by show W.heap[blk]? = _; rw [hb], fun i m' hm' => ?_⟩
          have hi : i < len := by
            have := (List.getElem?_eq_some_iff.1 hm').1
            simpa [h1] using this
          obtain ⟨cs, y, hc, hy, hg⟩ := elem i hi
          obtain ⟨hl1, hc1⟩ := cells_at hc
          have hcs : (cells.toList.drop (off + i * sz)).take sz = cs := by
            apply List.ext_getElem?
            intro j
            rcases Nat.lt_or_ge j sz with hj | hj
            · have h3 := hc1 j hj
              rw [Addr.add_lit, Addr.add_lit] at h3
              unfold World.cell? at h3
              simp only [hb] at h3
              rw [List.getElem?_take, if_pos hj, List.getElem?_drop, ← h3]
              simp
            rw [List.getElem?_take, if_neg (by omega), List.getElem?_eq_none (by omega)]
          rw [hcs]
          rw [List.getElem?_map, hy] at hm'
          simp only [Option.map_some, Option.some.injEq] at hm'
          exact ⟨hl1, n, y, hg, hm'⟩
        | _ => simp only [hb] at h'; cases h'
  cases g
theorem Arg.row {α : Type} {f : α → List Value} {size : α → Nat} {t e sz : Nat} {cs : List Value} {m : Nat} (ht : Tryz.prog.underlying t = some (.slice e)) (hsz : Tryz.prog.cellsOf e = sz) (hpos : 0 < sz) (Q : α → Prop)
    (he : ∀ (cs : List Value) (m' : Nat), m' ≤ m → Arg enc W e cs m' → ∃ x : α, cs = f x ∧ size x ≤ m' ∧ Q x) (h : Arg enc W t cs m) :
    ∃ (l : List α) (v : Value), cs = [v] ∧ RowS f (HW W) l v ∧ (l.map size).sum + 1 ≤ m ∧ l.length ≤ maxLen ∧ ∀ x ∈ l, Q x := by
  obtain ⟨p, len, cap, ms, rfl, hlc, hcm, hml, hms, hb⟩ := h.slice ht hsz hpos
  rcases Nat.eq_zero_or_pos len with h0 | h0
  · subst h0
    exact ⟨[], _, rfl, ⟨p, cap, rfl, hlc, fun h => absurd rfl h⟩, by simp; omega, Nat.zero_le _, fun x hx => by cases hx⟩
  obtain ⟨b, o, cells, T, fr, rfl, hblk, hel⟩ := hb h0
  have key : ∀ (ms : List Nat) (o : Nat), ms.sum + 1 ≤ m → (∀ (i m' : Nat), ms[i]? = some m' → ((cells.drop (o + i * sz)).take sz).length = sz ∧ Arg enc W e ((cells.drop (o + i * sz)).take sz) m') →
      ∃ (l : List α) (sp : List Value), l.length = ms.length ∧ cells.drop o = l.flatMap f ++ sp ∧ (l.map size).sum ≤ ms.sum ∧ ∀ x ∈ l, Q x := by
    intro ms
    induction ms with
    | nil => exact fun o _ _ => ⟨[], cells.drop o, rfl, rfl, Nat.le_refl _, fun x hx => by cases hx⟩
    | cons a r ih =>
      intro o hs hel
      rw [List.sum_cons] at hs
      have h0 := hel 0 a rfl
      rw [Nat.zero_mul, Nat.add_zero] at h0
      obtain ⟨x, hx, hsx, hq⟩ := he _ a (by omega) h0.2
      obtain ⟨l, sp, h1, h2, h3, h4⟩ := ih (o + sz) (by omega) fun i m' hi => by
        have := hel (i + 1) m' (by simpa using hi)
        rw [show o + (i + 1) * sz = o + sz + i * sz by rw [Nat.add_mul]; omega] at this
        exact this
      refine ⟨x :: l, sp, by simp [h1], ?_, by simp only [List.map_cons, List.sum_cons]; omega, fun y hy => ?_⟩
      · rw [List.flatMap_cons, List.append_assoc, ← h2, ← hx, ← List.drop_drop]
        exact (List.take_append_drop sz (cells.drop o)).symm
      rcases List.mem_cons.1 hy with rfl | hy
      · exact hq
      exact h4 y hy
  obtain ⟨l, sp, h1, h2, h3, h4⟩ := key ms o hms hel
  have hll : l.length = len := h1.trans hml
  subst hll
  exact ⟨l, _, rfl, ⟨_, cap, rfl, hlc, fun _ => ⟨b, o, cells, T, fr, sp, rfl, hblk, h2⟩⟩, by omega, by omega, h4⟩
end
end Go.Proofs.YtekmeaoblpfnpaaGreatDoor
end
section
namespace Go.Proofs.YtekmeaoblpfnpaaGreatDoor.Sync
open _root_.Go.Proofs.Tryz
open Go Go.Sx
theorem disable (w : World) : (callFunc 331 #[]).run Tryz.prog w = .ok (.value (.tuple #[])) w := run_call_mark0 func331 (by kernel_rfl) (by kernel_rfl) (by kernel_rfl) .disable (by kernel_rfl) w
theorem enable (w : World) : (callFunc 333 #[]).run Tryz.prog w = .ok (.value (.tuple #[])) w := run_call_mark0 func333 (by kernel_rfl) (by kernel_rfl) (by kernel_rfl) .enable (by kernel_rfl) w
theorem acquire (a : Addr) (w : World) : (callFunc 334 #[.pointer (some a)]).run Tryz.prog w = .ok (.value (.tuple #[])) w := run_call_marked func334 (by kernel_rfl) (by kernel_rfl) (by kernel_rfl) .acquire (by kernel_rfl) a w
theorem releaseMerge (a : Addr) (w : World) : (callFunc 336 #[.pointer (some a)]).run Tryz.prog w = .ok (.value (.tuple #[])) w := run_call_marked func336 (by kernel_rfl) (by kernel_rfl) (by kernel_rfl) .releaseMerge (by kernel_rfl) a w
theorem store_deferred (a : Addr) (x : Value) (u : FrameMode) (w : World) (hc : w.cell? a = some x) (hz : w.frozen? a = false) :
    CallsD Tryz.prog 306 #[.pointer (some a), .bool true] u w fun e u' w' => u' = u ∧ (e = .returned (.tuple #[]) ∧ w' = w.drew.setCell a (.int .u32 1)) := by
  have hc' : w.drew.cell? a = some x := by go_simp
  have hz' : w.drew.frozen? a = false := by go_simp
  have hst := run_call_store (P := Tryz.prog) func321 (by kernel_rfl) (by kernel_rfl) (by kernel_rfl) (by kernel_rfl) (k := .u32) (y := 1) hc' hz'
  go_enter_d func306, Tryz.ntmps306
  go_wp2
  go_region_calls
  all_goals (go_end0; exact ⟨rfl, rfl⟩)
theorem unlock_deferred (a : Addr) (u : FrameMode) (w : World) (hc : w.cell? a = some (.int .i32 1)) (hz : w.frozen? a = false) :
    CallsD Tryz.prog 305 #[.pointer (some a)] u w fun e u' w' => u' = u ∧ (e = .returned (.tuple #[]) ∧ w' = w.setCell a (.int .i32 0)) := by
  have hd := disable
  have he := enable
  have hr := releaseMerge
  have hadd := run_call_add (P := Tryz.prog) func337 (by kernel_rfl) (by kernel_rfl) (by kernel_rfl) .i32 (by kernel_rfl) (y := -1) (s := 0) hc hz (by simp [go_sem]; rfl)
  have hcv := run_convert_to_unsafe (P := Tryz.prog) (src := 408) (dst := 284) underlying408 underlying284 (by kernel_rfl) hc
  go_enter_d func305, Tryz.ntmps305
  go_wp2
  go_end0
  go_wp2
  go_end0
  exact ⟨rfl, rfl⟩
theorem lock_free (a : Addr) (w : World) (hc : w.cell? a = some (.int .i32 0)) (hz : w.frozen? a = false) :
    Calls Tryz.prog 304 #[.pointer (some a)] w fun e w' => e = .returned (.tuple #[]) ∧ w' = w.setCell a (.int .i32 1) := by
  have hd := disable
  have he := enable
  have ha := acquire
  have hcas := run_call_cas_hit (P := Tryz.prog) func332 (by kernel_rfl) (by kernel_rfl) (by kernel_rfl) .i32 (by kernel_rfl) (y := 1) hc hz
  have hc' : (w.setCell a (.int .i32 1)).cell? a = some (.int .i32 1) := World.cell?_setCell_same w a _ hc
  have hcv := run_convert_to_unsafe (P := Tryz.prog) (src := 408) (dst := 284) underlying408 underlying284 (by kernel_rfl) hc'
  go_enter func304, Tryz.ntmps304
  go_wp2
  first | go_end0 | (simp only [Exit.inBlock, Exit.then]; refine bodyPost_ret (results_none rfl _ _ _) rfl ?_) | refine bodyPost_ret (results_none rfl _ _ _) rfl ?_
  go_wp2
  go_end0
  exact ⟨rfl, rfl⟩
theorem load_free (a : Addr) (x : Int) (w : World) (hc : w.cell? a = some (.int .u32 x)) :
    Calls Tryz.prog 277 #[.pointer (some a)] w fun e w' => e = .returned (.bool (x != 0)) ∧ w' = w := by
  have hl := run_call_load (P := Tryz.prog) func303 (by kernel_rfl) (by kernel_rfl) (by kernel_rfl) .u32 (by kernel_rfl) hc
  go_enter func277, Tryz.ntmps277
  go_wp2
  go_ret
  exact ⟨rfl, rfl⟩
end Go.Proofs.YtekmeaoblpfnpaaGreatDoor.Sync
end
