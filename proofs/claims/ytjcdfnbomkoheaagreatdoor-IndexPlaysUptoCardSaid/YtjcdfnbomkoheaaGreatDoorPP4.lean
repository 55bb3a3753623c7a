/-
  Own texts on the laws of the seat, joined: the logic, and contracts of functions. Conditions: none.
-/
import Derived.Test.YtjcdfnbomkoheaaGreatDoorNmP
import Derived.Test.YtjcdfnbomkoheaaGreatDoorPP3
import Derived.Deep.Draws
import Derived.Shelf.SlLaysF0
import Derived.Ground.SlsfProg
import Derived.Shelf.GgSortFunc.InsertionK
import Derived.Shelf.SlSortCmp.WholeK
import Derived.Shelf.SlSortCmp.NoneTotal
set_option maxRecDepth 100000
set_option maxHeartbeats 4000000
section
namespace Go.Sx
open Go
section
variable {α : Type} [BEq α] [LawfulBEq α]
def MS (l : ML α) (c : Nat) : Prop := (l.map (·.1)).Nodup ∧ (l.map (·.2.2)).Nodup ∧ ∀ p ∈ l, p.2.2 < c
omit [BEq α] [LawfulBEq α] in
theorem MS.nil : MS ([] : ML α) 0 := ⟨.nil, .nil, fun _ h => by simp at h⟩
theorem mget_iff {l : ML α} {a : α} (h : (l.map (·.1)).Nodup) {v : Value} : mget l a = some v ↔ ∃ n, (a, v, n) ∈ l := by
  induction l with
  | nil => simp [mget]
  | cons p r ih =>
    obtain ⟨b, u, n⟩ := p
    rw [List.map_cons, List.nodup_cons] at h
    unfold mget
    by_cases hab : a = b
    · subst hab
      simp only [BEq.rfl, if_true, Option.some.injEq]
      constructor
      · rintro rfl; exact ⟨n, .head _⟩
      rintro ⟨k, hk⟩
      rcases List.mem_cons.1 hk with e | e
      · exact (congrArg (fun x => x.2.1) e).symm
      exact absurd (List.mem_map_of_mem (f := (·.1)) e) h.1
    rw [if_neg (by simpa using hab), ih h.2]
    constructor
    · rintro ⟨k, hk⟩; exact ⟨k, .tail _ hk⟩
    rintro ⟨k, hk⟩
    rcases List.mem_cons.1 hk with e | e
    · exact absurd (congrArg (·.1) e) hab
    exact ⟨k, e⟩
theorem mget_none {l : ML α} {a : α} : mget l a = none ↔ a ∉ l.map (·.1) := by
  induction l with
  | nil => simp [mget]
  | cons p r ih =>
    obtain ⟨b, u, n⟩ := p
    unfold mget
    by_cases hab : a = b
    · subst hab; simp
    rw [if_neg (by simpa using hab), ih]; simp [hab]
theorem mget_mset (l : ML α) (a b : α) (v : Value) (c : Nat) : mget (mset l a v c) b = if b == a then some v else mget l b := by
  induction l with
  | nil => unfold mset mget; by_cases h : b = a <;> simp [h, mget]
  | cons p r ih =>
    obtain ⟨d, u, n⟩ := p
    unfold mset
    by_cases had : a = d
    · subst had
      rw [if_pos (by simp)]
      by_cases h : b = a
      · subst h; simp [mget]
      have h' : (b == a) = false := by simpa using h
      simp [mget, h']
    rw [if_neg (by simpa using had)]
    by_cases hbd : b = d
    · subst hbd
      have h' : (b == a) = false := by simpa using fun e : b = a => had e.symm
      simp [mget, h']
    have h' : (b == d) = false := by simpa using hbd
    simp only [mget, h', Bool.false_eq_true, if_false, ih]
theorem mset_keys {l : ML α} {a : α} {v : Value} {c : Nat} : (mset l a v c).map (·.1) = if a ∈ l.map (·.1) then l.map (·.1) else l.map (·.1) ++ [a] := by
  induction l with
  | nil => simp [mset]
  | cons p r ih =>
    obtain ⟨d, u, n⟩ := p
    unfold mset
    by_cases had : a = d
    · subst had; simp
    rw [if_neg (by simpa using had), List.map_cons, ih]
    by_cases h : a ∈ r.map (·.1)
    · simp [h]
    rw [if_neg h, if_neg (by simp only [List.map_cons, List.mem_cons, not_or]; exact ⟨had, h⟩)]; rfl
theorem mset_mem {l : ML α} {a x : α} {v : Value} {c : Nat} : x ∈ (mset l a v c).map (·.1) ↔ x ∈ l.map (·.1) ∨ x = a := by
  rw [mset_keys]
  split
  · rename_i h
    exact ⟨.inl, fun g => g.elim id (fun e => e ▸ h)⟩
  simp
theorem MS.set {l : ML α} {c : Nat} (h : MS l c) (a : α) (v : Value) : MS (mset l a v c) (mclk l a c) := by
  obtain ⟨h1, h2, h3⟩ := h
  cases hm : mget l a with
  | none =>
    obtain ⟨-, hs⟩ := midx_none l 0 hm
    have ha := mget_none.1 hm
    rw [hs, mclk, hm]
    refine ⟨?_, ?_, ?_⟩
    · rw [List.map_append, List.nodup_append]
      refine ⟨h1, by simp, fun x hx y hy e => ?_⟩
      rw [List.map_cons, List.map_nil, List.mem_singleton] at hy
      exact ha (by have : x = a := e.trans hy; exact this ▸ hx)
    · rw [List.map_append, List.nodup_append]
      refine ⟨h2, by simp, fun x hx y hy e => ?_⟩
      rw [List.map_cons, List.map_nil, List.mem_singleton] at hy
      obtain ⟨p, hp, rfl⟩ := List.mem_map.1 hx
      have := h3 p hp
      dsimp only at hy e
      omega
    intro p hp
    simp only [Option.isSome_none, Bool.false_eq_true, if_false]
    rcases List.mem_append.1 hp with g | g
    · exact Nat.lt_succ_of_lt (h3 p g)
    rw [List.mem_singleton] at g; subst g; exact Nat.lt_succ_self _
  | some u =>
    obtain ⟨j, u', n, -, hj, hs⟩ := midx_some l 0 hm
    have he : ∀ f : α × Value × Nat → Nat ⊕ α, f (a, v, n) = f (a, u', n) → (l.set j (a, v, n)).map f = l.map f := fun f hf => by
      apply List.ext_getElem?
      intro i
      rw [List.getElem?_map, List.getElem?_map, List.getElem?_set]
      by_cases hi : j = i
      · subst hi
        rw [if_pos rfl, hj, if_pos (List.getElem?_eq_some_iff.1 hj).1]
        simp [hf]
      rw [if_neg hi]
    have e1 : (l.set j (a, v, n)).map (·.1) = l.map (·.1) := by
      have := congrArg (List.map (fun s : Nat ⊕ α => match s with | .inr x => x | .inl _ => a)) (he (fun p => .inr p.1) rfl)
      simpa [List.map_map, Function.comp_def] using this
    have e2 : (l.set j (a, v, n)).map (·.2.2) = l.map (·.2.2) := by
      have := congrArg (List.map (fun s : Nat ⊕ α => match s with | .inl x => x | .inr _ => 0)) (he (fun p => .inl p.2.2) rfl)
      simpa [List.map_map, Function.comp_def] using this
    rw [hs, mclk, hm]
    refine ⟨by rw [e1]; exact h1, by rw [e2]; exact h2, fun p hp => ?_⟩
    have : p.2.2 ∈ l.map (·.2.2) := e2 ▸ List.mem_map_of_mem hp
    obtain ⟨q, hq, e⟩ := List.mem_map.1 this
    exact e ▸ h3 q hq
end
section
variable {cx : Cx} {Q : Qt} {o : Oper} {e : Env} {S : World → Prop} {α : Type} [BEq α] [LawfulBEq α]
omit [BEq α] [LawfulBEq α] in
theorem yl_entry {b m since c : Nat} {x : Operand} {kv : α → Value} {l vis : ML α} {p : α × Value × Nat} (ho : o.op = .entry x) (hx : ev e x = some (ptr b 0)) (hb : Blk S b (mit m since (vis ++ [p]) c)) (hm : Blk S m (mobj kv l c)) (hp : p ∈ l) (hn : (l.map (·.2.2)).Nodup) : Yld cx o e S (.tuple #[kv p.1, p.2.1]) := by
  intro w0 w ha hs
  have h1 := hb w hs
  have h2 := hm w hs
  have h3 : w.heap[b]? = some (.mapIter (some m) since ((vis.map (·.2.2)).toArray.push (ment kv p).born) c) := by
    rw [h1]; simp [mit]
  have hr := run_entry_at (P := cx.P) w b m since _ _ c (ment kv p) h3 h2 (by simp only [List.mem_map]; exact ⟨p, hp, rfl⟩) (by
    rw [List.map_map]
    exact hn)
  have : (execOp w0.eval o).run cx.P w = .ok (.value (.tuple #[kv p.1, p.2.1])) w := by
    simp only [execOp, ho, ha.eval hx, Sem.run_bind, hr, Result.andThen_ok, Sem.run_pure]
  exact this
end
end Go.Sx
end
section
namespace Go.Sx
open Go
section
variable {α β : Type}
variable {cx : Cx} {Q : Qt} {en : Env} {f : β → List Value} {sz : Nat} {T : TypeId} {R : HL} {c : Code}
end
end Go.Sx
end
section
namespace Go.Sx
open Go
section
variable {α β : Type} [BEq α] [LawfulBEq α]
abbrev kvp (p : α × Value × Nat) : α × Value := (p.1, p.2.1)
def pget (l : List (α × Value)) (a : α) : Option Value := match l with
  | [] => none
  | (b, v) :: r => if a == b then some v else pget r a
def pset (l : List (α × Value)) (a : α) (v : Value) : List (α × Value) := match l with
  | [] => [(a, v)]
  | (b, u) :: r => if a == b then (b, v) :: r else (b, u) :: pset r a v
omit [LawfulBEq α] in
theorem mget_kvp (a : α) : ∀ l : ML α, mget l a = pget (l.map kvp) a
  | [] => rfl
  | (b, v, n) :: r => by simp only [mget, List.map_cons, pget, mget_kvp a r]
omit [LawfulBEq α] in
theorem mset_kvp (a : α) (v : Value) (c : Nat) : ∀ l : ML α, (mset l a v c).map kvp = pset (l.map kvp) a v
  | [] => rfl
  | (b, u, n) :: r => by
    simp only [mset, List.map_cons, pset]
    split
    · rfl
    rw [List.map_cons, mset_kvp a v c r]
theorem pset_at {a : α} {u v : Value} {B : List (α × Value)} : ∀ {A : List (α × Value)}, a ∉ A.map (·.1) → pset (A ++ (a, u) :: B) a v = A ++ (a, v) :: B ∧ pget (A ++ (a, u) :: B) a = some u
  | [], _ => by simp [pset, pget]
  | (b, w) :: A, h => by
    rw [List.map_cons, List.mem_cons, not_or] at h
    obtain ⟨h1, h2⟩ := pset_at (u := u) (v := v) (B := B) h.2
    have hb : (a == b) = false := by simpa using h.1
    simp only [List.cons_append, pset, pget, hb, Bool.false_eq_true, if_false, h1, h2, and_self]
theorem pset_new {a : α} {v : Value} : ∀ {A : List (α × Value)}, a ∉ A.map (·.1) → pset A a v = A ++ [(a, v)] ∧ pget A a = none
  | [], _ => ⟨rfl, rfl⟩
  | (b, w) :: A, h => by
    rw [List.map_cons, List.mem_cons, not_or] at h
    obtain ⟨h1, h2⟩ := pset_new (v := v) h.2
    have hb : (a == b) = false := by simpa using h.1
    simp only [List.cons_append, pset, pget, hb, Bool.false_eq_true, if_false, h1, h2, and_self]
variable {cx : Cx} {Q : Qt} {e : Env} {I : Heap} {H H' : HL}
theorem JA.perm {l : List Oper} {I1 : Heap} {A : HL} {Z : CL} {z fuel : Nat} {listed : Array Bool} (hs : H'.Perm H) (k : JA cx Q l I1 A Z z fuel listed e I H') : JA cx Q l I1 A Z z fuel listed e I H := fun a w ha h1 => k a w ha (h1.perm hs)
end
end Go.Sx
end
section
namespace Go.Sx
open Go
section
variable {α : Type} [BEq α] [LawfulBEq α]
def mdel (l : ML α) (a : α) : ML α := match l with
  | [] => []
  | (b, v, n) :: r => if a == b then r else (b, v, n) :: mdel r a
omit [LawfulBEq α] in
theorem midx_del {a : α} : ∀ (l : ML α) (i : Nat), (midx l a i = none ∧ mdel l a = l) ∨ ∃ j v, midx l a i = some (i + j, v) ∧ mdel l a = l.eraseIdx j ∧ j < l.length
  | [], _ => .inl ⟨rfl, rfl⟩
  | (b, v, n) :: r, i => by
    unfold midx mdel
    by_cases h : (a == b) = true
    · rw [if_pos h, if_pos h]; exact .inr ⟨0, v, rfl, rfl, by simp⟩
    rw [if_neg h, if_neg h]
    rcases midx_del (a := a) r (i + 1) with ⟨h1, h2⟩ | ⟨j, u, h1, h2, h3⟩
    · exact .inl ⟨h1, by rw [h2]⟩
    refine .inr ⟨j + 1, u, ?_, by rw [h2]; rfl, by simpa using h3⟩
    rw [h1, Nat.add_assoc, Nat.add_comm 1 j]
theorem mdel_filter {a : α} : ∀ {l : ML α}, (l.map (·.1)).Nodup → mdel l a = l.filter fun p => !(p.1 == a)
  | [], _ => rfl
  | (b, v, n) :: r, h => by
    rw [List.map_cons, List.nodup_cons] at h
    unfold mdel
    by_cases hb : (a == b) = true
    · have he := eq_of_beq hb
      subst he
      rw [if_pos hb, List.filter_cons_of_neg (by simp)]
      rw [List.filter_eq_self.2]
      intro p hp
      have : p.1 ≠ a := fun g => h.1 (List.mem_map.2 ⟨p, hp, g⟩)
      simpa using this
    have hne : (b == a) = false := by
      rw [Bool.eq_false_iff]; intro g; exact hb (by rw [eq_of_beq g]; simp)
    rw [if_neg hb, List.filter_cons_of_pos (by simp [hne]), mdel_filter h.2]
theorem MS.del {l : ML α} {c : Nat} (h : MS l c) (a : α) : MS (mdel l a) c := by
  rw [mdel_filter h.1]
  refine ⟨h.1.sublist (List.filter_sublist.map _), h.2.1.sublist (List.filter_sublist.map _), fun p hp => h.2.2 p (List.mem_filter.1 hp).1⟩
theorem mget_mdel {l : ML α} (h : (l.map (·.1)).Nodup) (a b : α) : mget (mdel l a) b = if b == a then none else mget l b := by
  by_cases hb : (b == a) = true
  · rw [if_pos hb, mget_none, mdel_filter h]
    have := eq_of_beq hb
    subst this
    simp
  rw [if_neg hb]
  cases hm : mget l b with
  | none =>
    rw [mget_none] at hm ⊢
    rw [mdel_filter h]
    exact fun g => hm ((List.filter_sublist.map _).subset g)
  | some v =>
    have h2 : ((mdel l a).map (·.1)).Nodup := by rw [mdel_filter h]; exact h.sublist (List.filter_sublist.map _)
    rw [mget_iff h] at hm
    obtain ⟨n, hn⟩ := hm
    rw [mget_iff h2, mdel_filter h]
    exact ⟨n, List.mem_filter.2 ⟨hn, by simpa using hb⟩⟩
variable {cx : Cx} {Q : Qt} {e : Env} {I : Heap} {H : HL} {o : Oper} {C : Ct} {S : World → Prop}
omit [LawfulBEq α] in
theorem run_delete {P : Program} {T U K E b c : Nat} {t : TypeId} {kv : α → Value} {l : ML α} {a : α} {w : World} (hT : P.underlying T = some (.map K E)) (hk : KeyK P K kv) (hb : w.heap[b]? = some (mobj kv l c)) :
    (Builtin.delete_ #[T, U] t #[.map (some b), kv a]).run P w = .ok (.tuple #[]) (World.block w b (mobj kv (mdel l a) c)) := by
  obtain ⟨hf, hc, _⟩ := hk
  have hg : (getObj b).run P w = .ok (mobj kv l c) w := by simp [getObj, Sem.run, hb, mobj]
  have hset : ∀ o', (setObj b o').run P w = .ok () (World.block w b o') := fun o' => by simp [setObj, Sem.run, hb, World.block, mobj]
  rcases midx_del (a := a) l 0 with ⟨h1, h2⟩ | ⟨j, v, h1, h2, h3⟩
  · have h4 : (Instr.findKey K (kv a) (l.map (ment kv))).run P w = .ok none w := by rw [hf, h1]
    simp [Builtin.delete_, run_underlying hT, hg, mobj, hc, h4, hset, h2]
  rw [Nat.zero_add] at h1
  have he : ∀ (q : ML α) (k : Nat), (q.map (ment kv)).eraseIdx k = (q.eraseIdx k).map (ment kv) := by
    intro q
    induction q with
    | nil => intro k; rfl
    | cons x r ih => intro k; cases k with
      | zero => rfl
      | succ k => simp [ih]
  have h4 : (Instr.findKey K (kv a) (l.map (ment kv))).run P w = .ok (some (j, v)) w := by rw [hf, h1]
  have h5 : (l.map (ment kv)).toArray.eraseIdxIfInBounds j = (((l.eraseIdx j).map (ment kv)).toArray : Array MapEntry) := by
    rw [Array.eraseIdxIfInBounds, dif_pos (by simpa using h3), List.eraseIdx_toArray, he]
  simp [Builtin.delete_, run_underlying hT, hg, mobj, hc, h4, hset, h2, he]
omit [LawfulBEq α] in
theorem op_delete0 {T U K E b c : Nat} {m x : Operand} {kv : α → Value} {l : ML α} {a : α} {kx : Value} {H' : HL} (i : Nat) (ho : o.op = .call ⟨.builtin .delete, #[m, x], #[T, U]⟩) (hd : o.dst = none) (hm : ev e m = some (.map (some b))) (hx : ev e x = some kx) (hkx : kx = kv a) (hT : cx.P.underlying T = some (.map K E)) (hK : KeyK cx.P K kv)
    (hH : H[i]? = some (b, mobj kv l c)) (hH' : LSet H i (b, mobj kv (mdel l a) c) H') (kk : C e I H') : OpJ cx Q o e I H C := by
  intro Kk hKk w0 w ha hs
  unfold Oper.wp
  subst hkx
  have hb := hs.own _ (List.mem_of_getElem? hH)
  have hr := run_delete (U := U) (t := o.type) (a := a) hT hK hb
  have : (execOp w0.eval o).run cx.P w = .ok (.value (.tuple #[])) (World.block w b (mobj kv (mdel l a) c)) := by
    simp [execOp, ho, resolve, invoke, builtin, ha.eval hm, ha.eval hx, hr]
  rw [this]
  simp only [Oper.upon, hd]
  exact hKk _ _ _ kk _ _ ha.putNone (hs.block hH hH')
end
section
variable {cx : Cx} {o : Oper} {e : Env} {S : World → Prop}
theorem run_mapNil {P : Program} {w : World} {T K E : Nat} (p : Option Nat) (hT : P.underlying T = some (.map K E)) : (binOp .neq T (.map p) (.map none)).run P w = .ok (.bool p.isSome) w ∧ (binOp .eql T (.map p) (.map none)).run P w = .ok (.bool p.isNone) w := by
  have h1 : ∀ d : Nat, (Op.equalIn (d + 1) T (.map p) (.map none)).run P w = .ok p.isNone w := fun d => by cases p <;> simp [Op.equalIn, run_underlying hT]
  simp only [binOp]
  cases p <;> simp [Op.equal, Op.maxDepth, h1 9999]
theorem yl_eqlMap {x y : Operand} {T U K E : Nat} (p : Option Nat) (ho : o.op = .binOp .eql T x y U) (hx : ev e x = some (.map p)) (hy : ev e y = some (.map none)) (hT : cx.P.underlying T = some (.map K E)) : Yld cx o e S (.bool p.isNone) := by
  intro a w ha _
  have hb := (run_mapNil (P := cx.P) (w := w) p hT).2
  have hg : eqGuard .eql T x y (.map p) (.map none) = pure () := rfl
  simp [execOp, ho, ha.eval hx, ha.eval hy, hb, hg]
end
end Go.Sx
end
section
namespace Go.Sx
open Go
section
variable {α β : Type} [BEq α] [LawfulBEq α] [BEq β] [LawfulBEq β]
abbrev Nest (α β : Type) := List (α × Nat × ML β × Nat)
abbrev nvp (e : α × Nat × ML β × Nat) : α × Value := (e.1, .map (some e.2.1))
def nestH (kv : β → Value) (N : Nest α β) : HL := N.map fun e => (e.2.1, mobj kv e.2.2.1 e.2.2.2)
omit [BEq α] [LawfulBEq α] [BEq β] [LawfulBEq β] in
theorem nestH_app (kv : β → Value) (A B : Nest α β) : nestH kv (A ++ B) = nestH kv A ++ nestH kv B := by unfold nestH; rw [List.map_append]
omit [BEq α] [LawfulBEq α] [BEq β] [LawfulBEq β] in
theorem nestH_out (kv : β → Value) (A B : Nest α β) (a : α) (b : Nat) (m : ML β) (c : Nat) : ((b, mobj kv m c) :: nestH kv (A ++ B)).Perm (nestH kv (A ++ (a, b, m, c) :: B)) := by
  rw [nestH_app, nestH_app]
  exact (List.perm_middle).symm
def cv (n : Nat) : Option Value := if n = 0 then none else some (i64 (n : Int))
def bump (f : α → β → Nat) (a : α) (b : β) (d : Nat → Nat) (x : α) (y : β) : Nat := if x == a && y == b then d (f x y) else f x y
structure NestS (l : ML α) (c : Nat) (N : Nest α β) (f : α → β → Nat) : Prop where
  ms : MS l c
  vals : l.map kvp = N.map nvp
  inn : ∀ e ∈ N, MS e.2.2.1 e.2.2.2 ∧ e.2.2.1 ≠ [] ∧ ∀ t, mget e.2.2.1 t = cv (f e.1 t)
  out : ∀ a, a ∉ N.map (·.1) → ∀ t, f a t = 0
omit [BEq α] [LawfulBEq α] [LawfulBEq β] in
theorem NestS.nil : NestS ([] : ML α) 0 ([] : Nest α β) (fun _ _ => 0) := ⟨MS.nil, rfl, fun _ h => (by cases h), fun _ _ _ => rfl⟩
omit [BEq α] [LawfulBEq α] [BEq β] [LawfulBEq β] in
theorem nvp_keys (N : Nest α β) : (N.map nvp).map (·.1) = N.map (·.1) := by rw [List.map_map]; rfl
omit [BEq α] [LawfulBEq α] [LawfulBEq β] in
theorem NestS.keys {l : ML α} {c : Nat} {N : Nest α β} {f : α → β → Nat} (h : NestS l c N f) : l.map (·.1) = N.map (·.1) := by
  rw [← nvp_keys N, ← h.vals, List.map_map]; rfl
omit [BEq α] [LawfulBEq α] [LawfulBEq β] in
theorem NestS.nodup {l : ML α} {c : Nat} {N : Nest α β} {f : α → β → Nat} (h : NestS l c N f) : (N.map (·.1)).Nodup := h.keys ▸ h.ms.1
omit [LawfulBEq β] in
theorem NestS.find {l : ML α} {c : Nat} {N : Nest α β} {f : α → β → Nat} (h : NestS l c N f) (a : α) :
    (a ∉ N.map (·.1) ∧ mget l a = none ∧ ∀ t, f a t = 0) ∨ ∃ A b m k B, N = A ++ (a, b, m, k) :: B ∧ mget l a = some (.map (some b)) ∧ MS m k ∧ m ≠ [] ∧ (∀ t, mget m t = cv (f a t)) ∧ a ∉ A.map (·.1) ∧ a ∉ B.map (·.1) := by
  by_cases ha : a ∈ N.map (·.1)
  · obtain ⟨⟨a', b, m, k⟩, he, rfl⟩ := List.mem_map.1 ha
    obtain ⟨A, B, rfl⟩ := List.append_of_mem he
    have hn := h.nodup
    rw [List.map_append, List.map_cons, List.nodup_append, List.nodup_cons] at hn
    have h1 : a' ∉ A.map (·.1) := fun g => hn.2.2 _ g _ (.head _) rfl
    have h2 : mget l a' = some (.map (some b)) := by
      rw [mget_kvp, h.vals, List.map_append, List.map_cons]
      exact (pset_at (v := .map none) (by rw [nvp_keys]; exact h1)).2
    obtain ⟨h3, h4, h5⟩ := h.inn _ he
    exact .inr ⟨A, b, m, k, B, rfl, h2, h3, h4, h5, h1, hn.2.1.1⟩
  refine .inl ⟨ha, ?_, h.out a ha⟩
  rw [mget_none, h.keys]; exact ha
theorem NestS.set {l : ML α} {c : Nat} {A B : Nest α β} {f : α → β → Nat} {a : α} {b k k' : Nat} {m m' : ML β} {t : β} {d : Nat → Nat} (h : NestS l c (A ++ (a, b, m, k) :: B) f)
    (h1 : MS m' k') (h2 : m' ≠ []) (h3 : ∀ s, mget m' s = if s == t then cv (d (f a t)) else mget m s) : NestS l c (A ++ (a, b, m', k') :: B) (bump f a t d) := by
  have hn := h.nodup
  rw [List.map_append, List.map_cons, List.nodup_append, List.nodup_cons] at hn
  have hA : ∀ e ∈ A ++ B, e.1 ≠ a := by
    intro e he g
    rcases List.mem_append.1 he with he | he
    · exact hn.2.2 _ (List.mem_map_of_mem he) _ (.head _) g
    exact hn.2.1.1 (List.mem_map.2 ⟨e, he, g⟩)
  refine ⟨h.ms, ?_, fun e he => ?_, fun x hx s => ?_⟩
  · rw [h.vals]; simp
  · have hcase : e ∈ A ++ B ∨ e = (a, b, m', k') := by
      rcases List.mem_append.1 he with he | he
      · exact .inl (List.mem_append_left _ he)
      rcases List.mem_cons.1 he with he | he
      · exact .inr he
      exact .inl (List.mem_append_right _ he)
    rcases hcase with he | rfl
    · obtain ⟨g1, g2, g3⟩ := h.inn e (by rcases List.mem_append.1 he with he | he; exact List.mem_append_left _ he; exact List.mem_append_right _ (.tail _ he))
      refine ⟨g1, g2, fun s => ?_⟩
      have : (e.1 == a) = false := by simpa using hA e he
      rw [g3]; unfold bump; rw [this]; rfl
    refine ⟨h1, h2, fun s => ?_⟩
    dsimp only
    rw [h3]
    obtain ⟨_, _, g3⟩ := h.inn (a, b, m, k) (by simp)
    unfold bump
    by_cases hs : (s == t) = true
    · have := eq_of_beq hs; subst this; simp
    simp only [hs, if_false, beq_self_eq_true, Bool.true_and, Bool.false_eq_true]; exact g3 s
  have hx' : x ∉ (A ++ (a, b, m, k) :: B).map (·.1) := by simpa using hx
  have hxa : (x == a) = false := by
    have : x ≠ a := fun g => hx (by rw [g]; simp)
    simpa using this
  unfold bump
  rw [hxa]; exact h.out x hx' s
theorem NestS.add {l : ML α} {c : Nat} {N : Nest α β} {f : α → β → Nat} {a : α} {b k' : Nat} {m' : ML β} {t : β} {d : Nat → Nat} (h : NestS l c N f) (ha : a ∉ N.map (·.1))
    (h1 : MS m' k') (h2 : m' ≠ []) (h3 : ∀ s, mget m' s = if s == t then cv (d 0) else none) : NestS (mset l a (.map (some b)) c) (mclk l a c) (N ++ [(a, b, m', k')]) (bump f a t d) := by
  refine ⟨h.ms.set a _, ?_, fun e he => ?_, fun x hx s => ?_⟩
  · rw [mset_kvp, h.vals, (pset_new (by rw [nvp_keys]; exact ha)).1, List.map_append]; rfl
  · rcases List.mem_append.1 he with he | he
    · obtain ⟨g1, g2, g3⟩ := h.inn e he
      refine ⟨g1, g2, fun s => ?_⟩
      have : (e.1 == a) = false := by
        have : e.1 ≠ a := fun g => ha (g ▸ List.mem_map_of_mem he)
        simpa using this
      rw [g3]; unfold bump; rw [this]; rfl
    rw [List.mem_singleton.1 he]
    refine ⟨h1, h2, fun s => ?_⟩
    dsimp only
    rw [h3, ← h.out a ha t]
    unfold bump
    by_cases hs : (s == t) = true
    · have := eq_of_beq hs; subst this; simp
    simp only [hs, if_false, beq_self_eq_true, Bool.true_and, Bool.false_eq_true]
    rw [h.out a ha s]; rfl
  rw [List.map_append, List.mem_append, not_or] at hx
  have hxa : (x == a) = false := by
    have : x ≠ a := by simpa using hx.2
    simpa using this
  unfold bump
  rw [hxa]; exact h.out x hx.1 s
theorem NestS.drop {l : ML α} {c : Nat} {A B : Nest α β} {f : α → β → Nat} {a : α} {b k : Nat} {m : ML β} {t : β} {d : Nat → Nat} (h : NestS l c (A ++ (a, b, m, k) :: B) f)
    (h1 : ∀ s, s ≠ t → f a s = 0) (h2 : d (f a t) = 0) : NestS (mdel l a) c (A ++ B) (bump f a t d) := by
  have hn := h.nodup
  rw [List.map_append, List.map_cons, List.nodup_append, List.nodup_cons] at hn
  have hA : ∀ e ∈ A ++ B, e.1 ≠ a := by
    intro e he g
    rcases List.mem_append.1 he with he | he
    · exact hn.2.2 _ (List.mem_map_of_mem he) _ (.head _) g
    exact hn.2.1.1 (List.mem_map.2 ⟨e, he, g⟩)
  refine ⟨h.ms.del a, ?_, fun e he => ?_, fun x hx s => ?_⟩
  · have h3 : (mdel l a).map kvp = (l.map kvp).filter fun p => !(p.1 == a) := by
      rw [mdel_filter h.ms.1, List.filter_map]; rfl
    rw [h3, h.vals, List.map_append, List.map_cons, List.filter_append, List.filter_cons_of_neg (by simp), ← List.filter_append, ← List.map_append]
    rw [List.filter_eq_self.2]
    intro p hp
    obtain ⟨e, he, rfl⟩ := List.mem_map.1 hp
    have := hA e he
    simpa using this
  · obtain ⟨g1, g2, g3⟩ := h.inn e (by rcases List.mem_append.1 he with he | he; exact List.mem_append_left _ he; exact List.mem_append_right _ (.tail _ he))
    refine ⟨g1, g2, fun s => ?_⟩
    have : (e.1 == a) = false := by simpa using hA e he
    rw [g3]; unfold bump; rw [this]; rfl
  unfold bump
  by_cases hxa : x = a
  · subst hxa
    by_cases hs : s = t
    · subst hs; simp [h2]
    have : (s == t) = false := by simpa using hs
    simp only [this, Bool.and_false, Bool.false_eq_true, if_false]; exact h1 s hs
  have hxb : (x == a) = false := by simpa using hxa
  rw [hxb]
  refine h.out x ?_ s
  rw [List.map_append, List.map_cons, List.mem_append, List.mem_cons, not_or, not_or]
  rw [List.map_append, List.mem_append, not_or] at hx
  exact ⟨hx.1, hxa, hx.2⟩
theorem cv_set {m : ML β} {g : β → Nat} (_hm : ∀ s, mget m s = cv (g s)) (t : β) (n : Nat) (hn : n ≠ 0) (k : Nat) : ∀ s, mget (mset m t (i64 (n : Int)) k) s = if s == t then cv n else mget m s := by
  intro s
  rw [mget_mset]; unfold cv; rw [if_neg hn]
omit [LawfulBEq β] in
theorem cv_get {m : ML β} {g : β → Nat} (hm : ∀ s, mget m s = cv (g s)) (t : β) : (mget m t).getD (i64 0) = i64 (g t : Int) := by
  rw [hm]; unfold cv
  split
  · rename_i h; rw [h]; rfl
  rfl
end
end Go.Sx
end
section
namespace Go.Sx
open Go
section
variable {P : Program} {K i : TypeId} {f0 f1 : Field}
theorem check_str {b : Bool} {t : TypeId} (hu : P.underlying t = some .string) (a : List UInt8) (d : Nat) (w : World) : (Instr.checkKey b (d + 1) t (str a)).run P w = .ok () w := by simp [Instr.checkKey, run_underlying hu]
theorem equal_str {t : TypeId} (hu : P.underlying t = some .string) (a b : List UInt8) (d : Nat) (w : World) : (Op.equalIn (d + 1) t (str a) (str b)).run P w = .ok (a == b) w := by
  have h : ((⟨a.toArray⟩ : ByteArray) == ⟨b.toArray⟩) = (a == b) := by
    show (a.toArray == b.toArray) = (a == b)
    simp
  simp [Op.equalIn, run_underlying hu, str, h]
theorem KeyK.texts2 (hu : P.underlying K = some (.struct #[f0, f1])) (hp : P.stoodInHeld K = false) (n0 : f0.name ≠ "_") (n1 : f1.name ≠ "_") (o0 : f0.offset = 0) (o1 : f1.offset = 1) (t0 : f0.type = i) (t1 : f1.type = i) (hi : P.underlying i = some .string) (ha : ∀ w, (isAgg i).run P w = .ok false w) :
    KeyK P K (fun a : List UInt8 × List UInt8 => .agg #[str a.1, str a.2]) := by
  subst t0
  refine KeyK.equal hu (fun a b => rfl) (fun a b w => ?_) (fun b a w => ?_) (fun a => ?_)
  · have h := stru_equal2 hu hp n0 n1 o0 o1 ha (t1 ▸ ha) (x0 := str a.1) (x1 := str a.2) (y0 := str b.1) (y1 := str b.2) w (fun d w => equal_str hi a.1 b.1 d w) (fun d w => equal_str (t1 ▸ hi) a.2 b.2 d w) 9998
    exact h
  · exact stru_check2 hu n0 n1 o0 o1 ha (t1 ▸ ha) b w (fun d w => check_str hi _ d w) (fun d w => check_str (t1 ▸ hi) _ d w) 9998
  show Instr.sameBits (9999 + 1) _ _ = true
  have h := fun x n => sameBits_str x n
  simp [Instr.sameBits, h]
end
end Go.Sx
end
section
namespace Go.Sx
open Go
section
variable {α : Type} [BEq α] [LawfulBEq α]
def mst (l : ML α) (a : α) (c : Nat) : Nat := match l with
  | [] => c
  | (b, _, n) :: r => if a == b then n else mst r a c
omit [LawfulBEq α] in
theorem mst_none {l : ML α} {a : α} {c : Nat} (h : mget l a = none) : mst l a c = c := by
  induction l with
  | nil => rfl
  | cons p r ih =>
    obtain ⟨b, u, n⟩ := p
    unfold mget at h
    unfold mst
    split at h
    · cases h
    rename_i hne
    rw [if_neg hne]; exact ih h
theorem mst_some {a : α} {v : Value} : ∀ (l : ML α) (c i : Nat), mget l a = some v → ∃ j, midx l a i = some (i + j, v) ∧ l[j]? = some (a, v, mst l a c) ∧ ∀ x c', mset l a x c' = l.set j (a, x, mst l a c)
  | [], _, _, h => by cases h
  | (b, u, n) :: r, c, i, h => by
    unfold mget at h
    split at h
    · rename_i he
      have he' := eq_of_beq he
      subst he'
      cases h
      exact ⟨0, by simp [midx], by simp [mst], fun x c' => by simp [mset, mst]⟩
    rename_i hne
    have hb : (a == b) = false := by simpa using hne
    obtain ⟨j, h1, h2, h3⟩ := mst_some r c (i + 1) h
    refine ⟨j + 1, ?_, ?_, fun x c' => by simp [mset, mst, hb, h3]⟩
    · simp only [midx, hb, Bool.false_eq_true, if_false]
      rw [h1, Nat.add_assoc, Nat.add_comm 1 j]
    simp only [List.getElem?_cons_succ, mst, hb, Bool.false_eq_true, if_false]; exact h2
variable {cx : Cx} {Q : Qt} {e : Env} {I : Heap} {H : HL} {o : Oper} {C : Ct} {S : World → Prop}
theorem run_mapEntry {P : Program} {T K E b c : Nat} {kv : α → Value} {l : ML α} {a : α} {z : Value} {w : World} (hT : P.underlying T = some (.map K E)) (hk : KeyK P K kv) (hz : ∀ w, (zeroValue E).run P w = .ok z w) (hb : w.heap[b]? = some (mobj kv l c)) :
    (Instr.mapEntry T (.map (some b)) (kv a)).run P w = .ok (.tuple #[(mget l a).getD z, i64 (mst l a c : Int)]) (World.block w b (mobj kv (mset l a ((mget l a).getD z) c) (mclk l a c))) := by
  obtain ⟨hf, hc, hbits⟩ := hk
  have hg : (getObj b).run P w = .ok (mobj kv l c) w := by simp [getObj, Sem.run, hb, mobj]
  have hset : ∀ o', (setObj b o').run P w = .ok () (World.block w b o') := fun o' => by simp [setObj, Sem.run, hb, World.block, mobj]
  cases hm : mget l a with
  | none =>
    obtain ⟨h1, h2⟩ := midx_none l 0 hm
    have h3 : (Instr.findKey K (kv a) (l.map (ment kv))).run P w = .ok none w := by rw [hf, h1]
    simp only [Instr.mapEntry, Sem.run_bind, run_underlying hT, Result.andThen_ok, hg, mobj, hc, h3, hz, hset, h2, mclk, hm, mst_none hm]
    simp [goInt]
  | some u =>
    obtain ⟨j, h1, h2, h3⟩ := mst_some l c 0 hm
    rw [Nat.zero_add] at h1
    have h4 : (Instr.findKey K (kv a) (l.map (ment kv))).run P w = .ok (some (j, u)) w := by rw [hf, h1]
    have hj : (l.map (ment kv)).toArray[j]? = some { key := kv a, val := u, born := mst l a c } := by simp [h2, ment]
    have hkeep : ∀ w, (Instr.keyThatStays (kv a) (kv a)).run P w = .ok (kv a) w := fun w => by simp [Instr.keyThatStays, hbits]
    simp only [Instr.mapEntry, Sem.run_bind, run_underlying hT, Result.andThen_ok, hg, mobj, hc, h4, hj, Option.map_some, Option.getD_some, hkeep, hset, h3, mclk, hm, Option.isSome_some, if_true, goInt, Sem.run_pure]
    refine congrArg (fun A => Result.ok (Value.tuple #[u, Value.int .i64 (mst l a c : Int)]) (World.block w b (Obj.map A c))) ?_
    apply Array.ext_getElem?
    intro i
    rw [Array.getElem?_modify]
    simp only [List.getElem?_toArray, List.getElem?_map, List.getElem?_set]
    by_cases hi : j = i
    · subst hi
      have hlt : j < l.length := by
        rcases Nat.lt_or_ge j l.length with h' | h'
        · exact h'
        simp [List.getElem?_eq_none h'] at h2
      have h5 : l[j] = (a, u, mst l a c) := by
        have := List.getElem?_eq_getElem hlt
        rw [h2] at this; exact (Option.some.inj this).symm
      simp [hlt, h5]
    simp [hi]
theorem op_mapEntry {T K E b c d : Nat} {m x : Operand} {kv : α → Value} {l : ML α} {a : α} {kx z : Value} {H' : HL} (i : Nat) (ho : o.op = .mapEntry T m x) (hd : o.dst = some d) (hn : Nat.blt d cx.n = true) (hm : ev e m = some (.map (some b))) (hx : ev e x = some kx) (hkx : kx = kv a) (hT : cx.P.underlying T = some (.map K E)) (hK : KeyK cx.P K kv) (hz : ∀ w, (zeroValue E).run cx.P w = .ok z w)
    (hH : H[i]? = some (b, mobj kv l c)) (hH' : LSet H i (b, mobj kv (mset l a ((mget l a).getD z) c) (mclk l a c)) H') (kk : C ((d, .tuple #[(mget l a).getD z, i64 (mst l a c : Int)]) :: e) I H') : OpJ cx Q o e I H C := by
  intro Kk hKk w0 w ha hs
  unfold Oper.wp
  subst hkx
  have hb := hs.own _ (List.mem_of_getElem? hH)
  have hr := run_mapEntry (a := a) hT hK hz hb
  have : (execOp w0.eval o).run cx.P w = .ok (.value (.tuple #[(mget l a).getD z, i64 (mst l a c : Int)])) (World.block w b (mobj kv (mset l a ((mget l a).getD z) c) (mclk l a c))) := by
    simp [execOp, ho, ha.eval hm, ha.eval hx, hr]
  rw [this]
  simp only [Oper.upon, hd]
  exact hKk _ _ _ kk _ _ (ha.put hn) (hs.block hH hH')
theorem mset_two {l : ML α} {a : α} {x v : Value} {c : Nat} (_h : MS l c) : ∃ j, (mset l a x c)[j]? = some (a, x, mst l a c) ∧ mset l a v c = (mset l a x c).set j (a, v, mst l a c) := by
  cases hm : mget l a with
  | none =>
    obtain ⟨_, h2⟩ := midx_none l 0 hm
    refine ⟨l.length, ?_, ?_⟩
    · rw [h2, mst_none hm]; simp
    rw [h2, h2, mst_none hm]; simp
  | some u =>
    obtain ⟨j, _, h2, h3⟩ := mst_some l c 0 hm
    refine ⟨j, ?_, ?_⟩
    · rw [h3, List.getElem?_set, if_pos rfl, if_pos (List.getElem?_eq_some_iff.1 h2).1]
    rw [h3, h3, List.set_set]
theorem run_entryStore {P : Program} {T b c : Nat} {kv : α → Value} {l : ML α} {a : α} {x v : Value} {w : World} (h : MS l c) (hb : w.heap[b]? = some (mobj kv (mset l a x c) (mclk l a c))) :
    (Instr.entryStore T (.map (some b)) (i64 (mst l a c : Int)) v).run P w = .ok () (World.block w b (mobj kv (mset l a v c) (mclk l a c))) := by
  have hg : (getObj b).run P w = .ok (mobj kv (mset l a x c) (mclk l a c)) w := by simp [getObj, Sem.run, hb, mobj]
  have hset : ∀ o', (setObj b o').run P w = .ok () (World.block w b o') := fun o' => by simp [setObj, Sem.run, hb, World.block, mobj]
  obtain ⟨j, h1, h2⟩ := mset_two (x := x) (v := v) (a := a) h
  have hms := h.set a x
  generalize mset l a x c = L at h1 h2 hms hg
  have hj : j < L.length := (List.getElem?_eq_some_iff.1 h1).1
  have hLj : L[j] = (a, x, mst l a c) := (List.getElem?_eq_some_iff.1 h1).2
  have hf : (L.map (ment kv)).toArray.findIdx? (fun e => (e.born : Int) == (mst l a c : Int)) = some j := by
    rw [List.findIdx?_toArray, List.findIdx?_eq_some_iff_getElem]
    refine ⟨by simpa using hj, by simp [hLj], fun k hk => ?_⟩
    simp only [List.getElem_map, Bool.not_eq_true, beq_eq_false_iff_ne, ne_eq]
    intro he
    have hk' : k < L.length := by omega
    have h3 := hms.2.1
    rw [List.nodup_iff_pairwise_ne, List.pairwise_map, List.pairwise_iff_getElem] at h3
    refine h3 k j hk' hj hk ?_
    rw [hLj]
    exact Int.ofNat_inj.1 he
  have hai : ∀ w, (asInt (i64 (mst l a c : Int))).run P w = .ok (mst l a c : Int) w := fun w => by simp [asInt, asIntOf]
  simp only [Instr.entryStore, Sem.run_bind, hg, mobj, Result.andThen_ok, hai, hf, hset]
  refine congrArg (fun A => Result.ok () (World.block w b (Obj.map A (mclk l a c)))) ?_
  rw [h2]
  apply Array.ext_getElem?
  intro i
  rw [Array.getElem?_modify]
  simp only [List.getElem?_toArray, List.getElem?_map, List.getElem?_set]
  by_cases hi : j = i
  · subst hi
    simp [hj, hLj]
  simp [hi]
theorem op_entryStore {T b c : Nat} {m x y : Operand} {kv : α → Value} {l : ML α} {a : α} {u v : Value} {n : Int} {H' : HL} (i : Nat) (ho : o.op = .entryStore T m x y) (hd : o.dst = none) (hm : ev e m = some (.map (some b))) (hx : ev e x = some (i64 n)) (hnn : n = (mst l a c : Int)) (hy : ev e y = some v) (hMS : MS l c)
    (hH : H[i]? = some (b, mobj kv (mset l a u c) (mclk l a c))) (hH' : LSet H i (b, mobj kv (mset l a v c) (mclk l a c)) H') (kk : C e I H') : OpJ cx Q o e I H C := by
  intro Kk hKk w0 w ha hs
  unfold Oper.wp
  subst hnn
  have hb := hs.own _ (List.mem_of_getElem? hH)
  have hr := run_entryStore (P := cx.P) (T := T) (v := v) hMS hb
  have : (execOp w0.eval o).run cx.P w = .ok .skip (World.block w b (mobj kv (mset l a v c) (mclk l a c))) := by
    simp [execOp, ho, ha.eval hm, ha.eval hx, ha.eval hy, hr]
  rw [this]
  simp only [Oper.upon, hd]
  exact hKk _ _ _ kk _ _ ha.putNone (hs.block hH hH')
end
end Go.Sx
end
section
namespace Go.Proofs.YtjcdfnbomkoheaaGreatDoor
open _root_.Go.Proofs.Tryz
open Go Go.Sx
abbrev kvR (t : Ix.Rec) : Value := .agg #[i64 t.1, i64 t.2]
abbrev kvP (p : Ix.Pl) : Value := .agg #[str p.1, str p.2]
theorem keyR : KeyK Tryz.prog 26 kvR := KeyK.ints2 tU26 (by kernel_rfl) (by decide) (by decide) rfl rfl rfl rfl tU3 tA3
theorem keyP : KeyK Tryz.prog 93 kvP := KeyK.texts2 tU93 (by kernel_rfl) (by decide) (by decide) rfl rfl rfl rfl tU9 tA9
def setH (b : Nat) (l : ML Ix.Pl) (c : Nat) (N : Nest Ix.Pl Ix.Rec) : HL := (b, mobj kvP l c) :: nestH kvR N
theorem setH_out (b : Nat) (l : ML Ix.Pl) (c : Nat) (A B : Nest Ix.Pl Ix.Rec) (p : Ix.Pl) (ib : Nat) (m : ML Ix.Rec) (k : Nat) : ([(b, mobj kvP l c), (ib, mobj kvR m k)] ++ nestH kvR (A ++ B)).Perm (setH b l c (A ++ (p, ib, m, k) :: B)) :=
  List.Perm.cons _ (nestH_out kvR A B p ib m k)
theorem mset_ne {α : Type} [BEq α] [LawfulBEq α] (l : ML α) (a : α) (v : Value) (c : Nat) : mset l a v c ≠ [] := fun h => by
  have := (mset_mem (l := l) (a := a) (x := a) (v := v) (c := c)).2 (.inr rfl)
  rw [h] at this; cases this
theorem getD_set {α : Type} [BEq α] [LawfulBEq α] {l : ML α} {a : α} {v z : Value} {c : Nat} : (mget (mset l a v c) a).getD z = v := by
  rw [mget_mset]; simp
theorem cv_pos {n : Nat} (h : n ≠ 0) : cv n = some (i64 (n : Int)) := if_neg h
theorem add_new (b : Nat) (l : ML Ix.Pl) (c : Nat) (p : Ix.Pl) (t : Ix.Rec) (hm : mget l p = none) (I : Heap) : Ctr Tryz.prog 75 [.map (some b), kvP p, kvR t] I [(b, mobj kvP l c)]
    (fun e _ H' => ∃ ib, e = .returned (.tuple #[]) ∧ H' = [(b, mobj kvP (mset l p (.map (some ib)) c) (mclk l p c)), (ib, mobj kvR (mset [] t (i64 1) 0) (mclk ([] : ML Ix.Rec) t 0))]) := by
 refine Ctr.ob func75 ?_
 intro w0 hw0
 refine Cj.sr (J.op rfl (q28 ?_))
 intro b1 hb1
 refine J.op rfl (q28 ?_)
 intro b2 hb2
 refine J.nsss (Cj.region (J.z q0 ?_))
 refine J.z (q27 tA93 tS93 (Blk.at 1 rfl)) ?_
 refine J.z (q45 (kv := kvP) (l := l) (a := p) tU87 keyP tZ105 (Blk.at 2 rfl)) ?_
 refine J.eqv 8 rfl (show _ = .map none from (by rw [hm]; rfl)) ?_
 refine J.z (yl_eqlMap _ rfl rfl rfl tU105) ?_
 refine J.c1 (fun hc3 => ?_)
 refine Cj.region (J.z q0 ?_)
 refine J.z (q27 tA93 tS93 (Blk.at 1 rfl)) ?_
 refine J.op rfl (op_makeMap rfl rfl rfl ?_)
 intro b4 hb4
 refine J.op rfl (op_insert (kv := kvP) (a := p) 3 (.inr rfl) rfl rfl rfl rfl rfl tU87 keyP rfl (LSet.s (LSet.s (LSet.s LSet.z))) ?_)
 refine J.ns (Cj.drawSel [1, 2, 3] [] 9 (by kernel_rfl) ?_)
 refine JA.fix ⟨(HSub.c 1 rfl (HSub.c 2 rfl (HSub.c 3 rfl HSub.n))), CSub.n, (Le.refl _)⟩ (fun fx5 => ?_)
 refine JA.tk 0 rfl fx5 q0 ?_
 refine JA.tk 1 rfl fx5 (q27 tA93 tS93 (Blk.atC 1 rfl)) ?_
 refine JA.tk 2 rfl fx5 (q45 (kv := kvP) (l := (mset l p (.map (some b4)) c)) (a := p) tU87 keyP tZ105 (Blk.atC 2 rfl)) ?_
 refine JA.eqv 15 rfl (show _ = .map (some b4) from getD_set) ?_
 refine JA.tk 3 rfl fx5 (q27 tA26 tS26 (Blk.atC 0 rfl)) ?_
 refine JA.all [4, 6] (by kernel_rfl) (by simp) ?_
 intro i hi
 simp only [List.mem_cons, List.not_mem_nil, or_false] at hi
 rcases hi with rfl | rfl
 ·
  refine ⟨_, rfl, rfl, ?_⟩
  refine q2 (yl_lookup1 (kv := kvR) (l := []) (a := t) rfl rfl rfl rfl tU105 keyR tZ3 (Blk.at 0 rfl)) ?_
  refine ⟨⟨(Le.refl _), (HSub.c 1 rfl (HSub.c 2 rfl (HSub.c 3 rfl HSub.n))), CSub.n⟩, ?_⟩
  refine JA.eqv 17 rfl (show _ = i64 0 from rfl) ?_
  refine JA.fix ⟨(HSub.c 1 rfl (HSub.c 2 rfl (HSub.c 3 rfl HSub.n))), CSub.n, (Le.refl _)⟩ (fun fx6 => ?_)
  refine JA.tk 5 rfl fx6 (yl_add rfl rfl rfl (w64 (by decide))) ?_
  refine q13 6 rfl (op_mapEntry (kv := kvR) (l := []) (c := 0) (a := t) 0 rfl rfl rfl rfl rfl rfl tU105 keyR tZ3 rfl LSet.z ?_)
  refine ⟨⟨(Le.refl _), (HSub.c 1 rfl (HSub.c 2 rfl (HSub.c 3 rfl HSub.n))), CSub.n⟩, ?_⟩
  refine JA.fix ⟨(HSub.c 1 rfl (HSub.c 2 rfl (HSub.c 3 rfl HSub.n))), CSub.n, (Le.refl _)⟩ (fun fx7 => ?_)
  refine JA.tk 7 rfl fx7 q25 ?_
  refine q13 8 rfl (op_entryStore (kv := kvR) (l := []) (a := t) (c := 0) 0 rfl rfl rfl rfl rfl rfl MS.nil rfl LSet.z ?_)
  refine ⟨⟨(Le.refl _), (HSub.c 1 rfl (HSub.c 2 rfl (HSub.c 3 rfl HSub.n))), CSub.n⟩, ?_⟩
  refine q14 ?_
  refine Ej.keep (Keeps.k (Keeps.d (Keeps.d (Keeps.k Keeps.n)))) ?_
  refine Ej.pull Pull.z ?_
  refine Ej.pull (Pull.s Pull.z) ?_
  refine q39 ?_
  exact ⟨_, rfl, rfl⟩
 refine ⟨_, rfl, rfl, ?_⟩
 refine op_mapEntry (kv := kvR) (l := []) (c := 0) (a := t) 0 rfl rfl rfl rfl rfl rfl tU105 keyR tZ3 rfl LSet.z ?_
 refine ⟨⟨(Le.refl _), (HSub.c 1 rfl (HSub.c 2 rfl (HSub.c 3 rfl HSub.n))), CSub.n⟩, ?_⟩
 refine JA.fix ⟨(HSub.c 1 rfl (HSub.c 2 rfl (HSub.c 3 rfl HSub.n))), CSub.n, (Le.refl _)⟩ (fun fx8 => ?_)
 refine JA.tk 7 rfl fx8 q25 ?_
 refine q13 4 rfl (q2 (yl_lookup1 (kv := kvR) (l := (mset [] t ((mget [] t).getD (.int .i64 0)) 0)) (a := t) rfl rfl rfl rfl tU105 keyR tZ3 (Blk.at 0 rfl)) ?_)
 refine ⟨⟨(Le.refl _), (HSub.c 1 rfl (HSub.c 2 rfl (HSub.c 3 rfl HSub.n))), CSub.n⟩, ?_⟩
 refine JA.eqv 17 rfl (show _ = i64 0 from getD_set) ?_
 refine JA.fix ⟨(HSub.c 1 rfl (HSub.c 2 rfl (HSub.c 3 rfl HSub.n))), CSub.n, (Le.refl _)⟩ (fun fx9 => ?_)
 refine JA.tk 5 rfl fx9 (yl_add rfl rfl rfl (w64 (by decide))) ?_
 refine q13 8 rfl (op_entryStore (kv := kvR) (l := []) (a := t) (c := 0) 0 rfl rfl rfl rfl rfl rfl MS.nil rfl LSet.z ?_)
 refine ⟨⟨(Le.refl _), (HSub.c 1 rfl (HSub.c 2 rfl (HSub.c 3 rfl HSub.n))), CSub.n⟩, ?_⟩
 refine q14 ?_
 refine Ej.keep (Keeps.k (Keeps.d (Keeps.d (Keeps.k Keeps.n)))) ?_
 refine Ej.pull Pull.z ?_
 refine Ej.pull (Pull.s Pull.z) ?_
 refine q39 ?_
 exact ⟨_, rfl, rfl⟩
theorem add_old (b : Nat) (l : ML Ix.Pl) (c : Nat) (p : Ix.Pl) (t : Ix.Rec) (ib : Nat) (m : ML Ix.Rec) (k n : Nat) (hm : mget l p = some (.map (some ib))) (hms : MS m k) (hn : (mget m t).getD (i64 0) = i64 (n : Int)) (hn2 : n ≤ 1000000000000000) (I : Heap) : Ctr Tryz.prog 75 [.map (some b), kvP p, kvR t] I [(b, mobj kvP l c), (ib, mobj kvR m k)]
    (fun e _ H' => e = .returned (.tuple #[]) ∧ H' = [(b, mobj kvP l c), (ib, mobj kvR (mset m t (i64 ((n + 1 : Nat) : Int)) k) (mclk m t k))]) := by
 refine Ctr.ob func75 ?_
 intro w0 hw0
 refine Cj.sr (J.op rfl (q28 ?_))
 intro b1 hb1
 refine J.op rfl (q28 ?_)
 intro b2 hb2
 refine J.nsss (Cj.region (J.z q0 ?_))
 refine J.z (q27 tA93 tS93 (Blk.at 1 rfl)) ?_
 refine J.z (q45 (kv := kvP) (l := l) (a := p) tU87 keyP tZ105 (Blk.at 2 rfl)) ?_
 refine J.eqv 8 rfl (show _ = .map (some ib) from (by rw [hm]; rfl)) ?_
 refine J.z (yl_eqlMap _ rfl rfl rfl tU105) ?_
 refine J.c0 (fun hc3 => ?_)
 refine Cj.ks (Cj.drawSel [0, 1, 2] [] 9 (by kernel_rfl) ?_)
 refine JA.fix ⟨(HSub.c 0 rfl (HSub.c 1 rfl (HSub.c 2 rfl HSub.n))), CSub.n, (Le.refl _)⟩ (fun fx4 => ?_)
 refine JA.tk 0 rfl fx4 q0 ?_
 refine JA.tk 1 rfl fx4 (q27 tA93 tS93 (Blk.atC 1 rfl)) ?_
 refine JA.tk 2 rfl fx4 (q45 (kv := kvP) (l := l) (a := p) tU87 keyP tZ105 (Blk.atC 2 rfl)) ?_
 refine JA.eqv 15 rfl (show _ = .map (some ib) from (by rw [hm]; rfl)) ?_
 refine JA.tk 3 rfl fx4 (q27 tA26 tS26 (Blk.atC 0 rfl)) ?_
 refine JA.all [4, 6] (by kernel_rfl) (by simp) ?_
 intro i hi
 simp only [List.mem_cons, List.not_mem_nil, or_false] at hi
 rcases hi with rfl | rfl
 ·
  refine ⟨_, rfl, rfl, ?_⟩
  refine q2 (q45 (kv := kvR) (l := m) (a := t) tU105 keyR tZ3 (Blk.at 3 rfl)) ?_
  refine ⟨⟨(Le.refl _), (HSub.c 0 rfl (HSub.c 1 rfl (HSub.c 2 rfl HSub.n))), CSub.n⟩, ?_⟩
  refine JA.eqv 17 rfl (show _ = i64 (n : Int) from hn) ?_
  refine JA.fix ⟨(HSub.c 0 rfl (HSub.c 1 rfl (HSub.c 2 rfl HSub.n))), CSub.n, (Le.refl _)⟩ (fun fx5 => ?_)
  refine JA.tk 5 rfl fx5 q7 ?_
  refine q13 6 rfl (op_mapEntry (kv := kvR) (l := m) (c := k) (a := t) 3 rfl rfl rfl rfl rfl rfl tU105 keyR tZ3 rfl (LSet.s (LSet.s (LSet.s LSet.z))) ?_)
  refine ⟨⟨(Le.refl _), (HSub.c 0 rfl (HSub.c 1 rfl (HSub.c 2 rfl HSub.n))), CSub.n⟩, ?_⟩
  refine JA.fix ⟨(HSub.c 0 rfl (HSub.c 1 rfl (HSub.c 2 rfl HSub.n))), CSub.n, (Le.refl _)⟩ (fun fx6 => ?_)
  refine JA.tk 7 rfl fx6 q25 ?_
  refine q13 8 rfl (op_entryStore (kv := kvR) (l := m) (a := t) (c := k) 3 rfl rfl rfl rfl rfl rfl hms rfl (LSet.s (LSet.s (LSet.s LSet.z))) ?_)
  refine ⟨⟨(Le.refl _), (HSub.c 0 rfl (HSub.c 1 rfl (HSub.c 2 rfl HSub.n))), CSub.n⟩, ?_⟩
  refine q14 ?_
  refine Ej.keep (Keeps.d (Keeps.d (Keeps.k (Keeps.k Keeps.n)))) ?_
  refine q39 ?_
  exact ⟨rfl, rfl⟩
 refine ⟨_, rfl, rfl, ?_⟩
 refine op_mapEntry (kv := kvR) (l := m) (c := k) (a := t) 3 rfl rfl rfl rfl rfl rfl tU105 keyR tZ3 rfl (LSet.s (LSet.s (LSet.s LSet.z))) ?_
 refine ⟨⟨(Le.refl _), (HSub.c 0 rfl (HSub.c 1 rfl (HSub.c 2 rfl HSub.n))), CSub.n⟩, ?_⟩
 refine JA.fix ⟨(HSub.c 0 rfl (HSub.c 1 rfl (HSub.c 2 rfl HSub.n))), CSub.n, (Le.refl _)⟩ (fun fx7 => ?_)
 refine JA.tk 7 rfl fx7 q25 ?_
 refine q13 4 rfl (q2 (q45 (kv := kvR) (l := (mset m t ((mget m t).getD (.int .i64 0)) k)) (a := t) tU105 keyR tZ3 (Blk.at 3 rfl)) ?_)
 refine ⟨⟨(Le.refl _), (HSub.c 0 rfl (HSub.c 1 rfl (HSub.c 2 rfl HSub.n))), CSub.n⟩, ?_⟩
 refine JA.eqv 17 rfl (show _ = i64 (n : Int) from (getD_set.trans hn)) ?_
 refine JA.fix ⟨(HSub.c 0 rfl (HSub.c 1 rfl (HSub.c 2 rfl HSub.n))), CSub.n, (Le.refl _)⟩ (fun fx8 => ?_)
 refine JA.tk 5 rfl fx8 q7 ?_
 refine q13 8 rfl (op_entryStore (kv := kvR) (l := m) (a := t) (c := k) 3 rfl rfl rfl rfl rfl rfl hms rfl (LSet.s (LSet.s (LSet.s LSet.z))) ?_)
 refine ⟨⟨(Le.refl _), (HSub.c 0 rfl (HSub.c 1 rfl (HSub.c 2 rfl HSub.n))), CSub.n⟩, ?_⟩
 refine q14 ?_
 refine Ej.keep (Keeps.d (Keeps.d (Keeps.k (Keeps.k Keeps.n)))) ?_
 refine q39 ?_
 exact ⟨rfl, rfl⟩
theorem add_ok (b : Nat) (l : ML Ix.Pl) (c : Nat) (N : Nest Ix.Pl Ix.Rec) (f : Ix.Pl → Ix.Rec → Nat) (p : Ix.Pl) (t : Ix.Rec) (h : NestS l c N f) (hf : f p t ≤ 1000000000000000) (I : Heap) :
    Ctr Tryz.prog 75 [.map (some b), kvP p, kvR t] I (setH b l c N) (fun e _ H' => ∃ l' c' N', e = .returned (.tuple #[]) ∧ NestS l' c' N' (bump f p t (· + 1)) ∧ H' = setH b l' c' N') := by
  rcases h.find p with ⟨hno, hmg, hz⟩ | ⟨A, ib, m, k, B, rfl, hmg, hms, hne, hmv, hA, hB⟩
  · have h1 := (add_new b l c p t hmg I).frame (nestH kvR N)
    refine h1.leave fun e I' H' _ ⟨H1, hH, ib, he, hH1⟩ => ⟨_, [], ?_, mset l p (.map (some ib)) c, mclk l p c, N ++ [(p, ib, mset [] t (i64 1) 0, mclk ([] : ML Ix.Rec) t 0)], he, h.add hno (MS.nil.set t _) (mset_ne _ _ _ _) (fun s => ?_), rfl⟩
    · rw [List.append_nil, hH, hH1]
      unfold setH
      rw [nestH_app]
      exact List.Perm.cons _ List.perm_append_comm
    rw [mget_mset]
    by_cases hs : (s == t) = true
    · rw [if_pos hs, if_pos hs]; rfl
    rw [if_neg hs, if_neg hs]; rfl
  have hn := cv_get hmv t
  have h1 := (Ctr.perm (setH_out b l c A B p ib m k) ((add_old b l c p t ib m k (f p t) hmg hms hn hf I).frame (nestH kvR (A ++ B))))
  refine h1.leave fun e I' H' _ ⟨H1, hH, he, hH1⟩ => ⟨_, [], ?_, l, c, A ++ (p, ib, mset m t (i64 ((f p t + 1 : Nat) : Int)) k, mclk m t k) :: B, he, h.set (d := (· + 1)) (hms.set t _) (mset_ne _ _ _ _) (fun s => ?_), rfl⟩
  · rw [List.append_nil, hH, hH1]
    exact (setH_out b l c A B p ib _ _).symm
  exact cv_set hmv t (f p t + 1) (Nat.succ_ne_zero _) k s
theorem remove_at (b : Nat) (l : ML Ix.Pl) (c : Nat) (p : Ix.Pl) (t : Ix.Rec) (ib : Nat) (m : ML Ix.Rec) (k n : Nat) (hm : mget l p = some (.map (some ib))) (hms : MS m k) (hn : (mget m t).getD (i64 0) = i64 (n : Int)) (hn1 : 1 ≤ n) (hn2 : n ≤ 1000000000000000) (I : Heap) : Ctr Tryz.prog 78 [.map (some b), kvP p, kvR t] I [(b, mobj kvP l c), (ib, mobj kvR m k)]
    (fun e _ H' => (n ≠ 1 ∧ e = .returned (.tuple #[]) ∧ H' = [(b, mobj kvP l c), (ib, mobj kvR (mset m t (i64 ((n - 1 : Nat) : Int)) k) (mclk m t k))]) ∨ (n = 1 ∧ (mdel (mset m t (i64 ((n - 1 : Nat) : Int)) k) t) ≠ [] ∧ e = .returned (.tuple #[]) ∧ H' = [(b, mobj kvP l c), (ib, mobj kvR (mdel (mset m t (i64 ((n - 1 : Nat) : Int)) k) t) (mclk m t k))]) ∨ (n = 1 ∧ (mdel (mset m t (i64 ((n - 1 : Nat) : Int)) k) t) = [] ∧ e = .returned (.tuple #[]) ∧ H' = [(b, mobj kvP (mdel l p) c), (ib, mobj kvR (mdel (mset m t (i64 ((n - 1 : Nat) : Int)) k) t) (mclk m t k))])) := by
 refine Ctr.ob func78 ?_
 intro w0 hw0
 refine Cj.sr (J.op rfl (q28 ?_))
 intro b1 hb1
 refine J.op rfl (q28 ?_)
 intro b2 hb2
 refine J.nss (Cj.drawSel [0, 1, 2] [] 9 (by kernel_rfl) ?_)
 refine JA.fix ⟨(HSub.c 0 rfl (HSub.c 1 rfl (HSub.c 2 rfl HSub.n))), CSub.n, (Le.refl _)⟩ (fun fx3 => ?_)
 refine JA.tk 0 rfl fx3 q0 ?_
 refine JA.tk 1 rfl fx3 (q27 tA93 tS93 (Blk.atC 1 rfl)) ?_
 refine JA.tk 2 rfl fx3 (q45 (kv := kvP) (l := l) (a := p) tU87 keyP tZ105 (Blk.atC 2 rfl)) ?_
 refine JA.eqv 8 rfl (show _ = .map (some ib) from (by rw [hm]; rfl)) ?_
 refine JA.tk 3 rfl fx3 (q27 tA26 tS26 (Blk.atC 0 rfl)) ?_
 refine JA.all [4, 6] (by kernel_rfl) (by simp) ?_
 intro i hi
 simp only [List.mem_cons, List.not_mem_nil, or_false] at hi
 rcases hi with rfl | rfl
 ·
  refine ⟨_, rfl, rfl, ?_⟩
  refine q2 (q45 (kv := kvR) (l := m) (a := t) tU105 keyR tZ3 (Blk.at 3 rfl)) ?_
  refine ⟨⟨(Le.refl _), (HSub.c 0 rfl (HSub.c 1 rfl (HSub.c 2 rfl HSub.n))), CSub.n⟩, ?_⟩
  refine JA.eqv 10 rfl (show _ = i64 (n : Int) from hn) ?_
  refine JA.fix ⟨(HSub.c 0 rfl (HSub.c 1 rfl (HSub.c 2 rfl HSub.n))), CSub.n, (Le.refl _)⟩ (fun fx4 => ?_)
  refine JA.tk 5 rfl fx4 q49 ?_
  refine JA.eqv 11 rfl (show _ = i64 ((n - 1 : Nat) : Int) from (congrArg i64 (by omega))) ?_
  refine q13 6 rfl (op_mapEntry (kv := kvR) (l := m) (c := k) (a := t) 3 rfl rfl rfl rfl rfl rfl tU105 keyR tZ3 rfl (LSet.s (LSet.s (LSet.s LSet.z))) ?_)
  refine ⟨⟨(Le.refl _), (HSub.c 0 rfl (HSub.c 1 rfl (HSub.c 2 rfl HSub.n))), CSub.n⟩, ?_⟩
  refine JA.fix ⟨(HSub.c 0 rfl (HSub.c 1 rfl (HSub.c 2 rfl HSub.n))), CSub.n, (Le.refl _)⟩ (fun fx5 => ?_)
  refine JA.tk 7 rfl fx5 q25 ?_
  refine q13 8 rfl (op_entryStore (kv := kvR) (l := m) (a := t) (c := k) 3 rfl rfl rfl rfl rfl rfl hms rfl (LSet.s (LSet.s (LSet.s LSet.z))) ?_)
  refine ⟨⟨(Le.refl _), (HSub.c 0 rfl (HSub.c 1 rfl (HSub.c 2 rfl HSub.n))), CSub.n⟩, ?_⟩
  refine q14 ?_
  refine Ej.seq (Cj.seq (Cj.seq (Cj.drawSel [0, 1, 2, 3] [] 6 (by kernel_rfl) ?_)))
  refine JA.fix ⟨(HSub.c 0 rfl (HSub.c 1 rfl (HSub.c 2 rfl (HSub.c 3 rfl HSub.n)))), CSub.n, (Le.refl _)⟩ (fun fx6 => ?_)
  refine JA.tk 0 rfl fx6 q0 ?_
  refine JA.tk 1 rfl fx6 (q27 tA93 tS93 (Blk.atC 1 rfl)) ?_
  refine JA.tk 2 rfl fx6 (q45 (kv := kvP) (l := l) (a := p) tU87 keyP tZ105 (Blk.atC 2 rfl)) ?_
  refine JA.eqv 16 rfl (show _ = .map (some ib) from (by rw [hm]; rfl)) ?_
  refine JA.tk 3 rfl fx6 (q27 tA26 tS26 (Blk.atC 0 rfl)) ?_
  refine JA.tk 4 rfl fx6 (q45 (kv := kvR) (l := (mset m t (i64 ((n - 1 : Nat) : Int)) k)) (a := t) tU105 keyR tZ3 (Blk.atC 3 rfl)) ?_
  refine JA.eqv 18 rfl (show _ = i64 ((n - 1 : Nat) : Int) from getD_set) ?_
  refine JA.tk 5 rfl fx6 q23 ?_
  refine q14 ?_
  refine Ej.seq (Cj.cond rfl (fun hc7 => ?_) (fun hc7 => ?_))
  ·
   have hc7p := ebq hc7
   refine Cj.drawSel [0, 1, 2] [] 5 (by kernel_rfl) ?_
   refine JA.fix ⟨(HSub.c 0 rfl (HSub.c 1 rfl (HSub.c 2 rfl HSub.n))), CSub.n, (Le.refl _)⟩ (fun fx8 => ?_)
   refine JA.tk 0 rfl fx8 q0 ?_
   refine JA.tk 1 rfl fx8 (q27 tA93 tS93 (Blk.atC 1 rfl)) ?_
   refine JA.tk 2 rfl fx8 (q45 (kv := kvP) (l := l) (a := p) tU87 keyP tZ105 (Blk.atC 2 rfl)) ?_
   refine JA.eqv 22 rfl (show _ = .map (some ib) from (by rw [hm]; rfl)) ?_
   refine JA.tk 3 rfl fx8 (q27 tA26 tS26 (Blk.atC 0 rfl)) ?_
   refine q13 4 rfl (op_delete0 (kv := kvR) (a := t) 3 rfl rfl rfl rfl rfl tU105 keyR rfl (LSet.s (LSet.s (LSet.s LSet.z))) ?_)
   refine ⟨⟨(Le.refl _), (HSub.c 0 rfl (HSub.c 1 rfl (HSub.c 2 rfl HSub.n))), CSub.n⟩, ?_⟩
   refine q14 ?_
   refine Ej.seq (Cj.sr (J.z q0 ?_))
   refine J.z (q27 tA93 tS93 (Blk.at 1 rfl)) ?_
   refine J.z (q45 (kv := kvP) (l := l) (a := p) tU87 keyP tZ105 (Blk.at 2 rfl)) ?_
   refine J.eqv 26 rfl (show _ = .map (some ib) from (by rw [hm]; rfl)) ?_
   refine J.z (yl_lenMap (kv := kvR) (l := (mdel (mset m t (i64 ((n - 1 : Nat) : Int)) k) t)) rfl rfl tU105 (Blk.at 3 rfl)) ?_
   refine J.z q23 ?_
   refine J.cd (fun hc9 => ?_) (fun hc9 => ?_)
   ·
    have hc9p := ebq hc9
    have hem : (mdel (mset m t (i64 ((n - 1 : Nat) : Int)) k) t) = [] := List.length_eq_zero_iff.1 (by have h := ebq hc9; omega)
    refine Cj.region (J.z q0 ?_)
    refine J.z (q27 tA93 tS93 (Blk.at 1 rfl)) ?_
    refine J.op rfl (op_delete0 (kv := kvP) (a := p) 2 rfl rfl rfl rfl rfl tU87 keyP rfl (LSet.s (LSet.s LSet.z)) ?_)
    refine J.nil (Ej.keep (Keeps.d (Keeps.d (Keeps.k (Keeps.k Keeps.n)))) ?_)
    refine q39 ?_
    exact .inr (.inr ⟨by omega, hem, rfl, rfl⟩)
   have hc9p := nbf hc9
   have hne : (mdel (mset m t (i64 ((n - 1 : Nat) : Int)) k) t) ≠ [] := fun e => by have h := nbf hc9; rw [e] at h; exact h rfl
   refine Cj.skip (Ej.keep (Keeps.d (Keeps.d (Keeps.k (Keeps.k Keeps.n)))) ?_)
   refine q39 ?_
   exact .inr (.inl ⟨by omega, hne, rfl, rfl⟩)
  have hc7p := nbf hc7
  refine Cj.ks (Cj.sr (J.z q0 ?_))
  refine J.z (q27 tA93 tS93 (Blk.at 1 rfl)) ?_
  refine J.z (q45 (kv := kvP) (l := l) (a := p) tU87 keyP tZ105 (Blk.at 2 rfl)) ?_
  refine J.eqv 26 rfl (show _ = .map (some ib) from (by rw [hm]; rfl)) ?_
  refine J.z (yl_lenMap (kv := kvR) (l := (mset m t (i64 ((n - 1 : Nat) : Int)) k)) rfl rfl tU105 (Blk.at 3 rfl)) ?_
  refine J.z q23 ?_
  refine J.cd (fun hc10 => ?_) (fun hc10 => ?_)
  ·
   have hc10p := ebq hc10
   exact absurd (show (mset m t (i64 ((n - 1 : Nat) : Int)) k) = [] from List.length_eq_zero_iff.1 (by have h := ebq hc10; omega)) (mset_ne _ _ _ _)
  have hc10p := nbf hc10
  refine Cj.skip (Ej.keep (Keeps.d (Keeps.d (Keeps.k (Keeps.k Keeps.n)))) ?_)
  refine q39 ?_
  exact .inl ⟨by omega, rfl, rfl⟩
 refine ⟨_, rfl, rfl, ?_⟩
 refine op_mapEntry (kv := kvR) (l := m) (c := k) (a := t) 3 rfl rfl rfl rfl rfl rfl tU105 keyR tZ3 rfl (LSet.s (LSet.s (LSet.s LSet.z))) ?_
 refine ⟨⟨(Le.refl _), (HSub.c 0 rfl (HSub.c 1 rfl (HSub.c 2 rfl HSub.n))), CSub.n⟩, ?_⟩
 refine JA.fix ⟨(HSub.c 0 rfl (HSub.c 1 rfl (HSub.c 2 rfl HSub.n))), CSub.n, (Le.refl _)⟩ (fun fx11 => ?_)
 refine JA.tk 7 rfl fx11 q25 ?_
 refine q13 4 rfl (q2 (q45 (kv := kvR) (l := (mset m t ((mget m t).getD (.int .i64 0)) k)) (a := t) tU105 keyR tZ3 (Blk.at 3 rfl)) ?_)
 refine ⟨⟨(Le.refl _), (HSub.c 0 rfl (HSub.c 1 rfl (HSub.c 2 rfl HSub.n))), CSub.n⟩, ?_⟩
 refine JA.eqv 10 rfl (show _ = i64 (n : Int) from (getD_set.trans hn)) ?_
 refine JA.fix ⟨(HSub.c 0 rfl (HSub.c 1 rfl (HSub.c 2 rfl HSub.n))), CSub.n, (Le.refl _)⟩ (fun fx12 => ?_)
 refine JA.tk 5 rfl fx12 q49 ?_
 refine JA.eqv 11 rfl (show _ = i64 ((n - 1 : Nat) : Int) from (congrArg i64 (by omega))) ?_
 refine q13 8 rfl (op_entryStore (kv := kvR) (l := m) (a := t) (c := k) 3 rfl rfl rfl rfl rfl rfl hms rfl (LSet.s (LSet.s (LSet.s LSet.z))) ?_)
 refine ⟨⟨(Le.refl _), (HSub.c 0 rfl (HSub.c 1 rfl (HSub.c 2 rfl HSub.n))), CSub.n⟩, ?_⟩
 refine q14 ?_
 refine Ej.seq (Cj.seq (Cj.seq (Cj.drawSel [0, 1, 2, 3] [] 6 (by kernel_rfl) ?_)))
 refine JA.fix ⟨(HSub.c 0 rfl (HSub.c 1 rfl (HSub.c 2 rfl (HSub.c 3 rfl HSub.n)))), CSub.n, (Le.refl _)⟩ (fun fx13 => ?_)
 refine JA.tk 0 rfl fx13 q0 ?_
 refine JA.tk 1 rfl fx13 (q27 tA93 tS93 (Blk.atC 1 rfl)) ?_
 refine JA.tk 2 rfl fx13 (q45 (kv := kvP) (l := l) (a := p) tU87 keyP tZ105 (Blk.atC 2 rfl)) ?_
 refine JA.eqv 16 rfl (show _ = .map (some ib) from (by rw [hm]; rfl)) ?_
 refine JA.tk 3 rfl fx13 (q27 tA26 tS26 (Blk.atC 0 rfl)) ?_
 refine JA.tk 4 rfl fx13 (q45 (kv := kvR) (l := (mset m t (i64 ((n - 1 : Nat) : Int)) k)) (a := t) tU105 keyR tZ3 (Blk.atC 3 rfl)) ?_
 refine JA.eqv 18 rfl (show _ = i64 ((n - 1 : Nat) : Int) from getD_set) ?_
 refine JA.tk 5 rfl fx13 q23 ?_
 refine q14 ?_
 refine Ej.seq (Cj.cond rfl (fun hc14 => ?_) (fun hc14 => ?_))
 ·
  have hc14p := ebq hc14
  refine Cj.drawSel [0, 1, 2] [] 5 (by kernel_rfl) ?_
  refine JA.fix ⟨(HSub.c 0 rfl (HSub.c 1 rfl (HSub.c 2 rfl HSub.n))), CSub.n, (Le.refl _)⟩ (fun fx15 => ?_)
  refine JA.tk 0 rfl fx15 q0 ?_
  refine JA.tk 1 rfl fx15 (q27 tA93 tS93 (Blk.atC 1 rfl)) ?_
  refine JA.tk 2 rfl fx15 (q45 (kv := kvP) (l := l) (a := p) tU87 keyP tZ105 (Blk.atC 2 rfl)) ?_
  refine JA.eqv 22 rfl (show _ = .map (some ib) from (by rw [hm]; rfl)) ?_
  refine JA.tk 3 rfl fx15 (q27 tA26 tS26 (Blk.atC 0 rfl)) ?_
  refine q13 4 rfl (op_delete0 (kv := kvR) (a := t) 3 rfl rfl rfl rfl rfl tU105 keyR rfl (LSet.s (LSet.s (LSet.s LSet.z))) ?_)
  refine ⟨⟨(Le.refl _), (HSub.c 0 rfl (HSub.c 1 rfl (HSub.c 2 rfl HSub.n))), CSub.n⟩, ?_⟩
  refine q14 ?_
  refine Ej.seq (Cj.sr (J.z q0 ?_))
  refine J.z (q27 tA93 tS93 (Blk.at 1 rfl)) ?_
  refine J.z (q45 (kv := kvP) (l := l) (a := p) tU87 keyP tZ105 (Blk.at 2 rfl)) ?_
  refine J.eqv 26 rfl (show _ = .map (some ib) from (by rw [hm]; rfl)) ?_
  refine J.z (yl_lenMap (kv := kvR) (l := (mdel (mset m t (i64 ((n - 1 : Nat) : Int)) k) t)) rfl rfl tU105 (Blk.at 3 rfl)) ?_
  refine J.z q23 ?_
  refine J.cd (fun hc16 => ?_) (fun hc16 => ?_)
  ·
   have hc16p := ebq hc16
   have hem : (mdel (mset m t (i64 ((n - 1 : Nat) : Int)) k) t) = [] := List.length_eq_zero_iff.1 (by have h := ebq hc16; omega)
   refine Cj.region (J.z q0 ?_)
   refine J.z (q27 tA93 tS93 (Blk.at 1 rfl)) ?_
   refine J.op rfl (op_delete0 (kv := kvP) (a := p) 2 rfl rfl rfl rfl rfl tU87 keyP rfl (LSet.s (LSet.s LSet.z)) ?_)
   refine J.nil (Ej.keep (Keeps.d (Keeps.d (Keeps.k (Keeps.k Keeps.n)))) ?_)
   refine q39 ?_
   exact .inr (.inr ⟨by omega, hem, rfl, rfl⟩)
  have hc16p := nbf hc16
  have hne : (mdel (mset m t (i64 ((n - 1 : Nat) : Int)) k) t) ≠ [] := fun e => by have h := nbf hc16; rw [e] at h; exact h rfl
  refine Cj.skip (Ej.keep (Keeps.d (Keeps.d (Keeps.k (Keeps.k Keeps.n)))) ?_)
  refine q39 ?_
  exact .inr (.inl ⟨by omega, hne, rfl, rfl⟩)
 have hc14p := nbf hc14
 refine Cj.ks (Cj.sr (J.z q0 ?_))
 refine J.z (q27 tA93 tS93 (Blk.at 1 rfl)) ?_
 refine J.z (q45 (kv := kvP) (l := l) (a := p) tU87 keyP tZ105 (Blk.at 2 rfl)) ?_
 refine J.eqv 26 rfl (show _ = .map (some ib) from (by rw [hm]; rfl)) ?_
 refine J.z (yl_lenMap (kv := kvR) (l := (mset m t (i64 ((n - 1 : Nat) : Int)) k)) rfl rfl tU105 (Blk.at 3 rfl)) ?_
 refine J.z q23 ?_
 refine J.cd (fun hc17 => ?_) (fun hc17 => ?_)
 ·
  have hc17p := ebq hc17
  exact absurd (show (mset m t (i64 ((n - 1 : Nat) : Int)) k) = [] from List.length_eq_zero_iff.1 (by have h := ebq hc17; omega)) (mset_ne _ _ _ _)
 have hc17p := nbf hc17
 refine Cj.skip (Ej.keep (Keeps.d (Keeps.d (Keeps.k (Keeps.k Keeps.n)))) ?_)
 refine q39 ?_
 exact .inl ⟨by omega, rfl, rfl⟩
theorem cv_none {n : Nat} (h : cv n = none) : n = 0 := by
  unfold cv at h
  split at h
  · assumption
  cases h
theorem mdel_set {m : ML Ix.Rec} {k : Nat} (h : MS m k) (t : Ix.Rec) (v : Value) (s : Ix.Rec) : mget (mdel (mset m t v k) t) s = if s == t then none else mget m s := by
  rw [mget_mdel (h.set t v).1, mget_mset]
  by_cases hs : (s == t) = true
  · rw [if_pos hs, if_pos hs]
  rw [if_neg hs, if_neg hs, if_neg hs]
theorem remove_ok (b : Nat) (l : ML Ix.Pl) (c : Nat) (N : Nest Ix.Pl Ix.Rec) (f : Ix.Pl → Ix.Rec → Nat) (p : Ix.Pl) (t : Ix.Rec) (h : NestS l c N f) (hf1 : 1 ≤ f p t) (hf : f p t ≤ 1000000000000000) (I : Heap) :
    Ctr Tryz.prog 78 [.map (some b), kvP p, kvR t] I (setH b l c N) (fun e _ H' => ∃ l' c' N', e = .returned (.tuple #[]) ∧ NestS l' c' N' (bump f p t (· - 1)) ∧ H' = setH b l' c' N') := by
  rcases h.find p with ⟨hno, hmg, hz⟩ | ⟨A, ib, m, k, B, rfl, hmg, hms, hne, hmv, hA, hB⟩
  · rw [hz t] at hf1; omega
  have hn := cv_get hmv t
  have h1 := (Ctr.perm (setH_out b l c A B p ib m k) ((remove_at b l c p t ib m k (f p t) hmg hms hn hf1 hf I).frame (nestH kvR (A ++ B))))
  refine h1.leave fun e I' H' _ ⟨H1, hH, hq⟩ => ?_
  rcases hq with ⟨h9, he, hH1⟩ | ⟨h9, hne2, he, hH1⟩ | ⟨h9, hem, he, hH1⟩
  · refine ⟨_, [], ?_, l, c, A ++ (p, ib, mset m t (i64 ((f p t - 1 : Nat) : Int)) k, mclk m t k) :: B, he, h.set (d := (· - 1)) (hms.set t _) (mset_ne _ _ _ _) (fun s => ?_), rfl⟩
    · rw [List.append_nil, hH, hH1]
      exact (setH_out b l c A B p ib _ _).symm
    exact cv_set hmv t (f p t - 1) (by omega) k s
  · refine ⟨_, [], ?_, l, c, A ++ (p, ib, mdel (mset m t (i64 ((f p t - 1 : Nat) : Int)) k) t, mclk m t k) :: B, he, h.set (d := (· - 1)) ((hms.set t _).del t) hne2 (fun s => ?_), rfl⟩
    · rw [List.append_nil, hH, hH1]
      exact (setH_out b l c A B p ib _ _).symm
    rw [mdel_set hms]
    show _ = if (s == t) = true then cv (f p t - 1) else _
    rw [h9]; rfl
  refine ⟨_, [(ib, mobj kvR (mdel (mset m t (i64 ((f p t - 1 : Nat) : Int)) k) t) (mclk m t k))], ?_, mdel l p, c, A ++ B, he, h.drop (d := (· - 1)) (fun s hs => ?_) (by show f p t - 1 = 0; omega), rfl⟩
  · rw [hH, hH1]
    unfold setH
    exact List.Perm.cons _ List.perm_append_comm
  have h2 := mdel_set hms t (i64 ((f p t - 1 : Nat) : Int)) s
  rw [hem, if_neg (by simpa using hs), hmv] at h2
  exact cv_none h2.symm
abbrev ixC (vb wb kb : Nat) : List Value := [.map (some vb), .map (some wb), .map (some kb)]
structure Ent where
  t : Ix.Rec
  k : UInt8
  l : UInt8
  v : Value
  fs : List Ke.Fld
def entC (e : Ent) : List Value := [i64 e.t.1, i64 e.t.2, u8 e.k, u8 e.l, e.v]
theorem entC_len (e : Ent) : (entC e).length = 5 := rfl
theorem put1_ok (xb eb ib vb wb kb : Nat) (ek el : UInt8) (ev : Value) (l : ML Ix.Pl) (c : Nat) (N : Nest Ix.Pl Ix.Rec) (f : Ix.Pl → Ix.Rec → Nat) (p : Ix.Pl) (t : Ix.Rec) (h : NestS l c N f) (hf : f p t ≤ 1000000000000000) (I : Heap) (hxb : I xb = some (cel 38 [ptr ib 0])) (heb : I eb = some (cel 37 [i64 t.1, i64 t.2, u8 ek, u8 el, ev])) :
    Ctr Tryz.prog 74 [kvP p, ptr xb 0, ptr eb 0] I ([(ib, cel 89 (ixC vb wb kb))] ++ setH wb l c N) (fun e _ H' => ∃ l' c' N', e = .returned (.tuple #[]) ∧ NestS l' c' N' (bump f p t (· + 1)) ∧ H' = [(ib, cel 89 (ixC vb wb kb))] ++ setH wb l' c' N') := by
 refine Ctr.ob func74 ?_
 intro w0 hw0
 refine Cj.sr (J.op rfl (q28 ?_))
 intro b1 hb1
 refine J.ns (Cj.drawSel [0, 1] [] 8 (by kernel_rfl) ?_)
 have hxb_1 := hxb
 have heb_1 := heb
 refine JA.fix ⟨(HSub.c 0 rfl (HSub.c 1 rfl HSub.n)), CSub.n, (Le.refl _)⟩ (fun fx2 => ?_)
 refine JA.tk 0 rfl fx2 (q9 tA38 (Blk.immC hxb_1)) ?_
 refine JA.tk 1 rfl fx2 q8 ?_
 refine JA.tk 2 rfl fx2 (q4 (off' := 1) tU89 tS87) ?_
 refine JA.tk 3 rfl fx2 (q9 isAgg87 (Blk.atC 1 rfl)) ?_
 refine JA.tk 4 rfl fx2 (q27 tA93 tS93 (Blk.atC 0 rfl)) ?_
 refine JA.tk 5 rfl fx2 (q4 (off' := 0) tU37 tS26) ?_
 refine JA.tk 6 rfl fx2 (q27 tA26 tS26 (Blk.immC heb_1)) ?_
 refine q13 7 rfl (q56 (H1 := setH _ _ _ _) [_, _] rfl rfl rfl rfl rfl rfl (add_ok wb l c N f p t h hf _) ?_)
 intro v3 I4 H5 hle6 hp7
 obtain ⟨l1, c1, N1, h, hN, rfl⟩ := hp7; cases h
 refine ⟨⟨(Le.trans (Le.refl _) hle6), (HSub.c 0 rfl (HSub.c 1 rfl HSub.n)), CSub.n⟩, ?_⟩
 refine q14 ?_
 refine Ej.keep (Keeps.d (Keeps.k Keeps.r)) ?_
 refine q39 ?_
 exact ⟨l1, c1, N1, rfl, hN, rfl⟩
theorem put2_ok (xb eb ib vb wb kb : Nat) (ek el : UInt8) (ev : Value) (l : ML Ix.Pl) (c : Nat) (N : Nest Ix.Pl Ix.Rec) (f : Ix.Pl → Ix.Rec → Nat) (p : Ix.Pl) (t : Ix.Rec) (h : NestS l c N f) (hf : f p t ≤ 1000000000000000) (I : Heap) (hxb : I xb = some (cel 38 [ptr ib 0])) (heb : I eb = some (cel 37 [i64 t.1, i64 t.2, u8 ek, u8 el, ev])) :
    Ctr Tryz.prog 76 [kvP p, ptr xb 0, ptr eb 0] I ([(ib, cel 89 (ixC vb wb kb))] ++ setH kb l c N) (fun e _ H' => ∃ l' c' N', e = .returned (.tuple #[]) ∧ NestS l' c' N' (bump f p t (· + 1)) ∧ H' = [(ib, cel 89 (ixC vb wb kb))] ++ setH kb l' c' N') := by
 refine Ctr.ob func76 ?_
 intro w0 hw0
 refine Cj.sr (J.op rfl (q28 ?_))
 intro b1 hb1
 refine J.ns (Cj.drawSel [0, 1] [] 8 (by kernel_rfl) ?_)
 have hxb_1 := hxb
 have heb_1 := heb
 refine JA.fix ⟨(HSub.c 0 rfl (HSub.c 1 rfl HSub.n)), CSub.n, (Le.refl _)⟩ (fun fx2 => ?_)
 refine JA.tk 0 rfl fx2 (q9 tA38 (Blk.immC hxb_1)) ?_
 refine JA.tk 1 rfl fx2 q8 ?_
 refine JA.tk 2 rfl fx2 (q4 (off' := 2) tU89 tS87) ?_
 refine JA.tk 3 rfl fx2 (q9 isAgg87 (Blk.atC 1 rfl)) ?_
 refine JA.tk 4 rfl fx2 (q27 tA93 tS93 (Blk.atC 0 rfl)) ?_
 refine JA.tk 5 rfl fx2 (q4 (off' := 0) tU37 tS26) ?_
 refine JA.tk 6 rfl fx2 (q27 tA26 tS26 (Blk.immC heb_1)) ?_
 refine q13 7 rfl (q56 (H1 := setH _ _ _ _) [_, _] rfl rfl rfl rfl rfl rfl (add_ok kb l c N f p t h hf _) ?_)
 intro v3 I4 H5 hle6 hp7
 obtain ⟨l1, c1, N1, h, hN, rfl⟩ := hp7; cases h
 refine ⟨⟨(Le.trans (Le.refl _) hle6), (HSub.c 0 rfl (HSub.c 1 rfl HSub.n)), CSub.n⟩, ?_⟩
 refine q14 ?_
 refine Ej.keep (Keeps.d (Keeps.k Keeps.r)) ?_
 refine q39 ?_
 exact ⟨l1, c1, N1, rfl, hN, rfl⟩
theorem drop1_ok (xb eb ib vb wb kb : Nat) (l : ML Ix.Pl) (c : Nat) (N : Nest Ix.Pl Ix.Rec) (f : Ix.Pl → Ix.Rec → Nat) (p : Ix.Pl) (t : Ix.Rec) (h : NestS l c N f) (hf1 : 1 ≤ f p t) (hf : f p t ≤ 1000000000000000) (I : Heap) (hxb : I xb = some (cel 38 [ptr ib 0])) (heb : I eb = some (cel 26 [i64 t.1, i64 t.2])) :
    Ctr Tryz.prog 77 [kvP p, ptr xb 0, ptr eb 0] I ([(ib, cel 89 (ixC vb wb kb))] ++ setH wb l c N) (fun e _ H' => ∃ l' c' N', e = .returned (.tuple #[]) ∧ NestS l' c' N' (bump f p t (· - 1)) ∧ H' = [(ib, cel 89 (ixC vb wb kb))] ++ setH wb l' c' N') := by
 refine Ctr.ob func77 ?_
 intro w0 hw0
 refine Cj.sr (J.op rfl (q28 ?_))
 intro b1 hb1
 refine J.ns (Cj.drawSel [0, 1] [] 7 (by kernel_rfl) ?_)
 have hxb_1 := hxb
 have heb_1 := heb
 refine JA.fix ⟨(HSub.c 0 rfl (HSub.c 1 rfl HSub.n)), CSub.n, (Le.refl _)⟩ (fun fx2 => ?_)
 refine JA.tk 0 rfl fx2 (q9 tA38 (Blk.immC hxb_1)) ?_
 refine JA.tk 1 rfl fx2 q8 ?_
 refine JA.tk 2 rfl fx2 (q4 (off' := 1) tU89 tS87) ?_
 refine JA.tk 3 rfl fx2 (q9 isAgg87 (Blk.atC 1 rfl)) ?_
 refine JA.tk 4 rfl fx2 (q27 tA93 tS93 (Blk.atC 0 rfl)) ?_
 refine JA.tk 5 rfl fx2 (q27 tA26 tS26 (Blk.immC heb_1)) ?_
 refine q13 6 rfl (q56 (H1 := setH _ _ _ _) [_, _] rfl rfl rfl rfl rfl rfl (remove_ok wb l c N f p t h hf1 hf _) ?_)
 intro v3 I4 H5 hle6 hp7
 obtain ⟨l1, c1, N1, h, hN, rfl⟩ := hp7; cases h
 refine ⟨⟨(Le.trans (Le.refl _) hle6), (HSub.c 0 rfl (HSub.c 1 rfl HSub.n)), CSub.n⟩, ?_⟩
 refine q14 ?_
 refine Ej.keep (Keeps.d (Keeps.k Keeps.r)) ?_
 refine q39 ?_
 exact ⟨l1, c1, N1, rfl, hN, rfl⟩
theorem drop2_ok (xb eb ib vb wb kb : Nat) (l : ML Ix.Pl) (c : Nat) (N : Nest Ix.Pl Ix.Rec) (f : Ix.Pl → Ix.Rec → Nat) (p : Ix.Pl) (t : Ix.Rec) (h : NestS l c N f) (hf1 : 1 ≤ f p t) (hf : f p t ≤ 1000000000000000) (I : Heap) (hxb : I xb = some (cel 38 [ptr ib 0])) (heb : I eb = some (cel 26 [i64 t.1, i64 t.2])) :
    Ctr Tryz.prog 79 [kvP p, ptr xb 0, ptr eb 0] I ([(ib, cel 89 (ixC vb wb kb))] ++ setH kb l c N) (fun e _ H' => ∃ l' c' N', e = .returned (.tuple #[]) ∧ NestS l' c' N' (bump f p t (· - 1)) ∧ H' = [(ib, cel 89 (ixC vb wb kb))] ++ setH kb l' c' N') := by
 refine Ctr.ob func79 ?_
 intro w0 hw0
 refine Cj.sr (J.op rfl (q28 ?_))
 intro b1 hb1
 refine J.ns (Cj.drawSel [0, 1] [] 7 (by kernel_rfl) ?_)
 have hxb_1 := hxb
 have heb_1 := heb
 refine JA.fix ⟨(HSub.c 0 rfl (HSub.c 1 rfl HSub.n)), CSub.n, (Le.refl _)⟩ (fun fx2 => ?_)
 refine JA.tk 0 rfl fx2 (q9 tA38 (Blk.immC hxb_1)) ?_
 refine JA.tk 1 rfl fx2 q8 ?_
 refine JA.tk 2 rfl fx2 (q4 (off' := 2) tU89 tS87) ?_
 refine JA.tk 3 rfl fx2 (q9 isAgg87 (Blk.atC 1 rfl)) ?_
 refine JA.tk 4 rfl fx2 (q27 tA93 tS93 (Blk.atC 0 rfl)) ?_
 refine JA.tk 5 rfl fx2 (q27 tA26 tS26 (Blk.immC heb_1)) ?_
 refine q13 6 rfl (q56 (H1 := setH _ _ _ _) [_, _] rfl rfl rfl rfl rfl rfl (remove_ok kb l c N f p t h hf1 hf _) ?_)
 intro v3 I4 H5 hle6 hp7
 obtain ⟨l1, c1, N1, h, hN, rfl⟩ := hp7; cases h
 refine ⟨⟨(Le.trans (Le.refl _) hle6), (HSub.c 0 rfl (HSub.c 1 rfl HSub.n)), CSub.n⟩, ?_⟩
 refine q14 ?_
 refine Ej.keep (Keeps.d (Keeps.k Keeps.r)) ?_
 refine q39 ?_
 exact ⟨l1, c1, N1, rfl, hN, rfl⟩
structure EA where
  i : Nat
  J : Heap
  Y : HL
theorem each_ok (v : Ix.V) (wv : Value) (gw gk : Nat) (cap : List Value) (YW : Nat → HL → Prop) (Z : HL → Prop) (hwl : v.ws.length ≤ 1000000000000) (I : Heap) (hws0 : StrS 9 I v.ws wv) (H0 : HL) (hY0 : YW 0 H0)
    (hw : ∀ k w H J, v.ws[k]? = some w → Le I J → YW k H → Ctr Tryz.prog gw (kvP (v.name, w) :: cap) J H (fun e _ H' => e = .returned (.tuple #[]) ∧ YW (k + 1) H'))
    (hk : ∀ H J, v.key ≠ [] → Le I J → YW v.ws.length H → Ctr Tryz.prog gk (kvP (v.name, v.key) :: cap) J H (fun e _ H' => e = .returned (.tuple #[]) ∧ Z H')) (hz : v.key = [] → ∀ H, YW v.ws.length H → Z H) :
    Ctr Tryz.prog 73 [.agg (vwC (v, wv)).toArray, .func (.func gw) #[] cap.toArray, .func (.func gk) #[] cap.toArray] I H0 (fun e _ H' => e = .returned (.tuple #[]) ∧ Z H') := by
 obtain ⟨wp, wc, rfl⟩ := StrS_sl hws0
 refine Ctr.ob func73 ?_
 intro w0 hw0
 refine Cj.sr (J.op rfl (q28 ?_))
 intro b1 hb1
 refine J.nsss (Cj.region (J.z (q4 (off' := 2) tU98 tS28) ?_))
 refine J.z (q18 tA28) ?_
 refine J.z (q15 tU28) ?_
 refine J.z q0 ?_
 refine J.ns (Cj.block (Cj.loop (ι := EA) (fun y => y.i ≤ v.ws.length ∧ Le I y.J ∧ YW y.i y.Y) (fun y => v.ws.length - y.i) (fun y => [(1, .func (.func gw) #[] cap.toArray), (2, .func (.func gk) #[] cap.toArray), (3, ptr b1 0), (9, .slice wp v.ws.length wc), (10, i64 (v.ws.length : Int)), (11, i64 (y.i : Int))]) (fun y => y.J) (fun y => (b1, cel 98 [str v.name, str v.key, .slice wp v.ws.length wc]) :: y.Y) ⟨0, _, H0⟩ ⟨Nat.zero_le _, Le.refl _, hY0⟩ ⟨rfl, rfl, rfl, rfl, rfl, rfl, trivial⟩ rfl rfl ?_))
 rintro ⟨i, Jh, HY⟩ ⟨hi, hIJ, hY⟩
 dsimp only at hi hIJ hY ⊢
 have hws := hws0.mono hIJ
 refine Cj.sr (J.z q17 ?_)
 refine J.nss (Cj.cond rfl (fun hc2 => ?_) (fun hc2 => ?_))
 ·
  have hc2p := odt hc2
  have hlt : i < v.ws.length := by omega
  obtain ⟨x, hget⟩ : ∃ x, v.ws[i]? = some x := ⟨_, lgg hlt⟩
  obtain ⟨wb, wc1, wsp, hwe, hwb⟩ := hws.some (ne_nil_of hlt)
  cases hwe
  refine Cj.ks (Cj.seq (Cj.block (Cj.sr (J.z (q19 (off' := i) tU28 tS9) ?_))))
  refine J.z (q37 tA9 (Blk.imm hwb) (str_get hget)) ?_
  refine J.z q1 ?_
  refine J.nsr (J.z q0 ?_)
  refine J.z (q4 (off' := 0) tU98 tS9) ?_
  refine J.z (q18 tA9) ?_
  refine J.z q0 ?_
  refine J.z (yl_buildS (pl := #[(0, 1), (1, 1)]) rfl rfl tZ93 rfl tU93 (fun w => by simp []) (LBld.part rfl rfl rfl (LSpl.c LSpl.z) (LBld.part rfl rfl rfl (LSpl.s (LSpl.c LSpl.z)) LBld.none))) ?_
  refine J.op rfl (op_callR (H1 := HY) [_] rfl rfl rfl rfl rfl rfl (hw i x _ _ hget hIJ hY) ?_ (fun _ _ _ _ h => by cases h.1) (fun _ _ h => by cases h.1))
  intro v3 I4 H5 hle6 hp7
  have hIJ := hIJ.mono hle6
  obtain ⟨h, hY1⟩ := hp7; cases h
  refine J.nb (Cj.region (J.z q7 ?_))
  refine J.z q0 ?_
  refine J.nil (Ej.round ⟨i + 1, _, H5⟩ ⟨by dsimp only; omega, hIJ, hY1⟩ (by dsimp only; omega) ⟨rfl, rfl, rfl, rfl, rfl, rfl, trivial⟩ rfl rfl)
 have hc2p := odf hc2
 have hil : i = v.ws.length := by omega
 subst hil
 refine Cj.xl (Cj.sr (J.z (q4 (off' := 1) tU98 tS9) ?_))
 refine J.z (q18 tA9) ?_
 refine J.z (yl_neqStr rfl rfl rfl) ?_
 refine J.cd (fun hc8 => ?_) (fun hc8 => ?_)
 ·
  have hc8p := bne_iff_ne.1 hc8
  have hkey : v.key ≠ [] := bne_iff_ne.1 hc8
  refine Cj.region (J.z q0 ?_)
  refine J.z (q4 (off' := 0) tU98 tS9) ?_
  refine J.z (q18 tA9) ?_
  refine J.z (q4 (off' := 1) tU98 tS9) ?_
  refine J.z (q18 tA9) ?_
  refine J.z (yl_buildS (pl := #[(0, 1), (1, 1)]) rfl rfl tZ93 rfl tU93 (fun w => by simp []) (LBld.part rfl rfl rfl (LSpl.c LSpl.z) (LBld.part rfl rfl rfl (LSpl.s (LSpl.c LSpl.z)) LBld.none))) ?_
  refine J.op rfl (op_callR (H1 := HY) [_] rfl rfl rfl rfl rfl rfl (hk _ _ hkey hIJ hY) ?_ (fun _ _ _ _ h => by cases h.1) (fun _ _ h => by cases h.1))
  intro v9 I10 H11 hle12 hp13
  obtain ⟨h, hZ⟩ := hp13; cases h
  refine J.nil (Ej.keep (Keeps.d Keeps.r) ?_)
  refine q39 ?_
  exact ⟨rfl, hZ⟩
 have hc8p := bne_f hc8
 have hkey : v.key = [] := bne_f hc8
 refine Cj.skip (Ej.keep (Keeps.d Keeps.r) ?_)
 refine q39 ?_
 exact ⟨rfl, hz hkey _ hY⟩
end Go.Proofs.YtjcdfnbomkoheaaGreatDoor
end
section
namespace Go.Proofs.YtjcdfnbomkoheaaGreatDoor
open Go Go.Sx
theorem bump_add (f : Ix.Pl → Ix.Rec → Nat) (t : Ix.Rec) (xs : List Ix.Pl) (q : Ix.Pl) : bump (Ix.way f t fun p => xs.count p) q t (· + 1) = Ix.way f t fun p => (xs ++ [q]).count p := by
  funext p u
  unfold bump Ix.way
  by_cases hu : u = t
  · subst hu
    by_cases hp : p = q
    · subst hp; simp
    have h1 : (p == q) = false := by simpa using hp
    have h2 : List.count p [q] = 0 := List.count_eq_zero.2 (by simpa using hp)
    simp [h1, List.count_append, h2]
  have h1 : (u == t) = false := by simpa using hu
  simp [h1, hu]
theorem bump_del (f : Ix.Pl → Ix.Rec → Nat) (t : Ix.Rec) (ys : List Ix.Pl) (q : Ix.Pl) : bump (Ix.way f t fun p => (q :: ys).count p) q t (· - 1) = Ix.way f t fun p => ys.count p := by
  funext p u
  unfold bump Ix.way
  by_cases hu : u = t
  · subst hu
    by_cases hp : p = q
    · subst hp; simp
    have h1 : (p == q) = false := by simpa using hp
    have h2 : (q == p) = false := by simpa using Ne.symm hp
    simp [h1, List.count_cons, h2]
  have h1 : (u == t) = false := by simpa using hu
  simp [h1, hu]
theorem way_at (f : Ix.Pl → Ix.Rec → Nat) (t : Ix.Rec) (n : Ix.Pl → Nat) (p : Ix.Pl) : Ix.way f t n p t = n p := if_pos rfl
def VOK (vs : List Ix.V) : Prop := vs.length ≤ 10000000 ∧ ∀ v ∈ vs, v.ws.length ≤ 10000000
theorem plW_len : ∀ (vs : List Ix.V), (∀ v ∈ vs, v.ws.length ≤ 10000000) → (Ix.plW vs).length ≤ vs.length * 10000000
  | [], _ => by simp [Ix.plW]
  | v :: r, h => by
    have h1 := plW_len r fun x hx => h x (.tail _ hx)
    have h2 := h v (.head _)
    unfold Ix.plW at h1 ⊢
    rw [List.flatMap_cons, List.length_append, List.length_map, List.length_cons, Nat.add_mul]; omega
theorem plK_len : ∀ (vs : List Ix.V), (Ix.plK vs).length ≤ vs.length
  | [] => by simp [Ix.plK]
  | v :: r => by
    have h1 := plK_len r
    unfold Ix.plK at h1 ⊢
    rw [List.flatMap_cons, List.length_append, List.length_cons]
    by_cases hk : v.key = []
    · rw [if_pos hk, List.length_nil]; omega
    rw [if_neg hk, List.length_singleton]; omega
theorem VOK.w {vs : List Ix.V} (h : VOK vs) : (Ix.plW vs).length ≤ 100000000000000 := nlt (plW_len vs h.2) (Nat.mul_le_mul_right _ h.1)
theorem VOK.k {vs : List Ix.V} (h : VOK vs) : (Ix.plK vs).length ≤ 10000000 := nlt (plK_len vs) h.1
theorem vok_of {fs : List Ke.Fld} (h : EOK fs) : VOK (Ix.vals fs) := by
  have h1 := vals_take fs h fs.length
  rw [List.take_length] at h1
  refine ⟨nlt h1 (nlt (Nat.mul_le_mul_right _ h.1) (by decide)), fun v hv => ?_⟩
  unfold Ix.vals at hv
  obtain ⟨f, hf, hv⟩ := List.mem_flatMap.1 hv
  obtain ⟨k1, k2, k3⟩ := h.2 f hf
  have hw : v.ws.length ≤ v.text.length + 1 := (Ke.words_len v.text).1
  unfold Ix.vals1 at hv
  rcases List.mem_append.1 hv with g | g
  · obtain ⟨s, hs, rfl⟩ := List.mem_map.1 g
    have := named_text hs
    dsimp only at hw; omega
  split at g
  · rw [List.mem_singleton] at g
    subst g
    have := textX_len f []
    rw [textX_all] at this
    dsimp only at hw; omega
  cases g
structure Ist where
  vb : Nat
  wb : Nat
  kb : Nat
  lv : ML Ix.Rec
  cv : Nat
  lw : ML Ix.Pl
  cw : Nat
  Nw : Nest Ix.Pl Ix.Rec
  lk : ML Ix.Pl
  ck : Nat
  Nk : Nest Ix.Pl Ix.Rec
def istH (ib : Nat) (s : Ist) : HL := (s.vb, mobj kvR s.lv s.cv) :: (ib, cel 89 (ixC s.vb s.wb s.kb)) :: (setH s.wb s.lw s.cw s.Nw ++ setH s.kb s.lk s.ck s.Nk)
def ValMap (I : Heap) (lv : ML Ix.Rec) (L : Ix.Ix) : Prop := ∀ t, (Ix.rget L t = none → mget lv t = none) ∧ ∀ vs, Ix.rget L t = some vs → ∃ w, mget lv t = some w ∧ ValsS I vs w
theorem ValMap.mono {I I' : Heap} {lv : ML Ix.Rec} {L : Ix.Ix} (h : ValMap I lv L) (hle : Le I I') : ValMap I' lv L := fun t => ⟨(h t).1, fun vs hv => let ⟨w, h1, h2⟩ := (h t).2 vs hv; ⟨w, h1, h2.mono hle⟩⟩
theorem ValsS.nil (I : Heap) : ValsS I [] (.slice none 0 0) := ⟨[], RowT.nil, rfl, fun _ h => by cases h⟩
theorem ValMap.at {I : Heap} {lv : ML Ix.Rec} {L : Ix.Ix} (h : ValMap I lv L) (t : Ix.Rec) : ∃ w, (mget lv t).getD (.slice none 0 0) = w ∧ ValsS I ((Ix.rget L t).getD []) w := by
  cases hg : Ix.rget L t with
  | none => rw [(h t).1 hg]; exact ⟨_, rfl, ValsS.nil I⟩
  | some vs =>
    obtain ⟨w, h1, h2⟩ := (h t).2 vs hg
    rw [h1]; exact ⟨w, rfl, h2⟩
structure IstOk (I : Heap) (s : Ist) (L : Ix.Ix) : Prop where
  srt : Ix.Srt L
  big : L.length ≤ 100000
  vok : ∀ e ∈ L, VOK e.2
  vms : MS s.lv s.cv
  vals : ValMap I s.lv L
  nw : NestS s.lw s.cw s.Nw (Ix.cnt Ix.plW L)
  nk : NestS s.lk s.ck s.Nk (Ix.cnt Ix.plK L)
theorem IstOk.mono {I I' : Heap} {s : Ist} {L : Ix.Ix} (h : IstOk I s L) (hle : Le I I') : IstOk I' s L := ⟨h.srt, h.big, h.vok, h.vms, h.vals.mono hle, h.nw, h.nk⟩
theorem cnt_way (pl : List Ix.V → List Ix.Pl) (h0 : pl [] = []) (L : Ix.Ix) (t : Ix.Rec) : Ix.cnt pl L = Ix.way (Ix.cnt pl L) t fun p => (pl ((Ix.rget L t).getD [])).count p := by
  cases hg : Ix.rget L t with
  | none =>
    rw [Option.getD_none, h0]
    exact Ix.cnt_none hg
  | some vs => exact Ix.cnt_some hg
theorem rget_vok {L : Ix.Ix} (hs : Ix.Srt L) (h : ∀ e ∈ L, VOK e.2) (t : Ix.Rec) : VOK ((Ix.rget L t).getD []) := by
  cases hg : Ix.rget L t with
  | none => exact ⟨Nat.zero_le _, fun _ h => by cases h⟩
  | some vs => exact h _ ((Ix.rget_iff hs).1 hg)
def YS (ib vb wb kb : Nat) (fw fk : Ix.Pl → Ix.Rec → Nat) (Y : HL) : Prop := ∃ lw cw Nw lk ck Nk, NestS lw cw Nw fw ∧ NestS lk ck Nk fk ∧ Y = (ib, cel 89 (ixC vb wb kb)) :: (setH wb lw cw Nw ++ setH kb lk ck Nk)
theorem YS.word {ib vb wb kb : Nat} {fw fk fw' : Ix.Pl → Ix.Rec → Nat} {g : Nat} {args : List Value} {J : Heap} {H : HL} (hY : YS ib vb wb kb fw fk H)
    (h : ∀ l c N, NestS l c N fw → Ctr Tryz.prog g args J ([(ib, cel 89 (ixC vb wb kb))] ++ setH wb l c N) (fun e _ H' => ∃ l' c' N', e = .returned (.tuple #[]) ∧ NestS l' c' N' fw' ∧ H' = [(ib, cel 89 (ixC vb wb kb))] ++ setH wb l' c' N')) :
    Ctr Tryz.prog g args J H (fun e _ H' => e = .returned (.tuple #[]) ∧ YS ib vb wb kb fw' fk H') := by
  obtain ⟨lw, cw, Nw, lk, ck, Nk, h1, h2, rfl⟩ := hY
  refine ((h lw cw Nw h1).frame (setH kb lk ck Nk)).mono fun e I' H' _ ⟨H1, hH, l', c', N', he, hN, hH1⟩ => ⟨he, l', c', N', lk, ck, Nk, hN, h2, ?_⟩
  rw [hH, hH1]; rfl
theorem YS.key {ib vb wb kb : Nat} {fw fk fk' : Ix.Pl → Ix.Rec → Nat} {g : Nat} {args : List Value} {J : Heap} {H : HL} (hY : YS ib vb wb kb fw fk H)
    (h : ∀ l c N, NestS l c N fk → Ctr Tryz.prog g args J ([(ib, cel 89 (ixC vb wb kb))] ++ setH kb l c N) (fun e _ H' => ∃ l' c' N', e = .returned (.tuple #[]) ∧ NestS l' c' N' fk' ∧ H' = [(ib, cel 89 (ixC vb wb kb))] ++ setH kb l' c' N')) :
    Ctr Tryz.prog g args J H (fun e _ H' => e = .returned (.tuple #[]) ∧ YS ib vb wb kb fw fk' H') := by
  obtain ⟨lw, cw, Nw, lk, ck, Nk, h1, h2, rfl⟩ := hY
  have hp : ∀ X, (((ib, cel 89 (ixC vb wb kb)) :: (X ++ setH wb lw cw Nw) : HL)).Perm ((ib, cel 89 (ixC vb wb kb)) :: (setH wb lw cw Nw ++ X)) := fun X => List.Perm.cons _ List.perm_append_comm
  refine (Ctr.perm (hp (setH kb lk ck Nk)) ((h lk ck Nk h2).frame (setH wb lw cw Nw))).leave fun e I' H' _ ⟨H1, hH, l', c', N', he, hN, hH1⟩ => ⟨_, [], ?_, he, lw, cw, Nw, l', c', N', h1, hN, rfl⟩
  rw [List.append_nil, hH, hH1]
  exact (hp _).symm
theorem drop_next {α : Type} {l : List α} {k : Nat} {x : α} (h : l[k]? = some x) : l.drop k = x :: l.drop (k + 1) := by
  obtain ⟨hlt, hg⟩ := List.getElem?_eq_some_iff.1 h
  rw [← hg, List.getElem_cons_drop]
theorem plW_cons (v : Ix.V) (r : List Ix.V) : Ix.plW (v :: r) = v.ws.map (fun w => (v.name, w)) ++ Ix.plW r := by unfold Ix.plW; rw [List.flatMap_cons]
theorem plK_cons (v : Ix.V) (r : List Ix.V) : Ix.plK (v :: r) = (if v.key = [] then [] else [(v.name, v.key)]) ++ Ix.plK r := by unfold Ix.plK; rw [List.flatMap_cons]
theorem plW_one (xs : List Ix.V) (v : Ix.V) : Ix.plW (xs ++ [v]) = Ix.plW xs ++ v.ws.map fun w => (v.name, w) := by unfold Ix.plW; rw [List.flatMap_append]; simp
theorem plK_one (xs : List Ix.V) (v : Ix.V) : Ix.plK (xs ++ [v]) = Ix.plK xs ++ if v.key = [] then [] else [(v.name, v.key)] := by unfold Ix.plK; rw [List.flatMap_append]; simp
theorem plW_drop_len {vs : List Ix.V} (h : VOK vs) (i : Nat) : (Ix.plW (vs.drop i)).length ≤ 100000000000000 :=
  VOK.w ⟨by rw [List.length_drop]; have := h.1; omega, fun v hv => h.2 v (List.mem_of_mem_drop hv)⟩
theorem plK_drop_len {vs : List Ix.V} (h : VOK vs) (i : Nat) : (Ix.plK (vs.drop i)).length ≤ 10000000 :=
  VOK.k ⟨by rw [List.length_drop]; have := h.1; omega, fun v hv => h.2 v (List.mem_of_mem_drop hv)⟩
theorem plW_take_len {vs : List Ix.V} (h : VOK vs) (i : Nat) : (Ix.plW (vs.take i)).length ≤ 100000000000000 :=
  VOK.w ⟨by rw [List.length_take]; have := h.1; omega, fun v hv => h.2 v (List.mem_of_mem_take hv)⟩
theorem plK_take_len {vs : List Ix.V} (h : VOK vs) (i : Nat) : (Ix.plK (vs.take i)).length ≤ 10000000 :=
  VOK.k ⟨by rw [List.length_take]; have := h.1; omega, fun v hv => h.2 v (List.mem_of_mem_take hv)⟩
def YD (ib vb wb kb : Nat) (L : Ix.Ix) (t : Ix.Rec) (vs : List Ix.V) (i : Nat) : HL → Prop := YS ib vb wb kb (Ix.way (Ix.cnt Ix.plW L) t fun p => (Ix.plW (vs.drop i)).count p) (Ix.way (Ix.cnt Ix.plK L) t fun p => (Ix.plK (vs.drop i)).count p)
theorem each_drop (xb eb ib vb wb kb : Nat) (L : Ix.Ix) (t : Ix.Rec) (vs : List Ix.V) (hv : VOK vs) (i : Nat) (v : Ix.V) (wv : Value) (hget : vs[i]? = some v) (I : Heap) (hws : StrS 9 I v.ws wv) (hxb : I xb = some (cel 38 [ptr ib 0])) (heb : I eb = some (cel 26 [i64 t.1, i64 t.2])) (Y : HL) (hY : YD ib vb wb kb L t vs i Y) :
    Ctr Tryz.prog 73 [.agg (vwC (v, wv)).toArray, .func (.func 77) #[] [ptr xb 0, ptr eb 0].toArray, .func (.func 79) #[] [ptr xb 0, ptr eb 0].toArray] I Y (fun e _ H' => e = .returned (.tuple #[]) ∧ YD ib vb wb kb L t vs (i + 1) H') := by
  have hd := drop_next hget
  have hwl := hv.2 v (lmg hget)
  have hlW := plW_drop_len hv i
  have hlK := plK_drop_len hv i
  refine each_ok v wv _ _ [ptr xb 0, ptr eb 0] (fun k => YS ib vb wb kb (Ix.way (Ix.cnt Ix.plW L) t fun p => ((v.ws.drop k).map (fun w => (v.name, w)) ++ Ix.plW (vs.drop (i + 1))).count p) (Ix.way (Ix.cnt Ix.plK L) t fun p => (Ix.plK (vs.drop i)).count p)) (YD ib vb wb kb L t vs (i + 1)) (by omega) I hws Y ?_ ?_ ?_ ?_
  · unfold YD at hY
    rw [hd, plW_cons] at hY
    rw [hd]
    exact hY
  · intro k w H J hk hle hYk
    refine hYk.word fun l c N hN => ?_
    have hdk : (v.ws.drop k).map (fun w => (v.name, w)) ++ Ix.plW (vs.drop (i + 1)) = (v.name, w) :: ((v.ws.drop (k + 1)).map (fun w => (v.name, w)) ++ Ix.plW (vs.drop (i + 1))) := by rw [drop_next hk]; rfl
    rw [hdk] at hN
    have hb := bump_del (Ix.cnt Ix.plW L) t ((v.ws.drop (k + 1)).map (fun w => (v.name, w)) ++ Ix.plW (vs.drop (i + 1))) (v.name, w)
    rw [← hb]
    refine drop1_ok xb eb ib vb wb kb l c N _ (v.name, w) t hN ?_ ?_ J (hle _ _ hxb) (hle _ _ heb)
    · rw [way_at]; exact List.one_le_count_iff.2 (.head _)
    rw [way_at]
    refine nlt List.count_le_length ?_
    have h9 : ((v.name, w) :: ((v.ws.drop (k + 1)).map (fun w => (v.name, w)) ++ Ix.plW (vs.drop (i + 1)))).length ≤ (Ix.plW (vs.drop i)).length := by
      rw [hd, plW_cons, ← hdk, List.length_append, List.length_append, List.length_map, List.length_map, List.length_drop]; omega
    omega
  · intro H J hne hle hYk
    have hY2 : YS ib vb wb kb (Ix.way (Ix.cnt Ix.plW L) t fun p => (Ix.plW (vs.drop (i + 1))).count p) (Ix.way (Ix.cnt Ix.plK L) t fun p => ((v.name, v.key) :: Ix.plK (vs.drop (i + 1))).count p) H := by
      rw [List.drop_length, List.map_nil, List.nil_append, hd, plK_cons, if_neg hne] at hYk
      exact hYk
    unfold YD
    refine hY2.key fun l c N hN => ?_
    rw [← bump_del (Ix.cnt Ix.plK L) t (Ix.plK (vs.drop (i + 1))) (v.name, v.key)]
    refine drop2_ok xb eb ib vb wb kb l c N _ (v.name, v.key) t hN ?_ ?_ J (hle _ _ hxb) (hle _ _ heb)
    · rw [way_at]; exact List.one_le_count_iff.2 (.head _)
    rw [way_at]
    refine nlt List.count_le_length ?_
    rw [hd, plK_cons, if_neg hne] at hlK
    have : ((v.name, v.key) :: Ix.plK (vs.drop (i + 1))).length ≤ 10000000 := hlK
    omega
  intro he H hYk
  rw [List.drop_length, List.map_nil, List.nil_append, hd, plK_cons, if_pos he, List.nil_append] at hYk
  exact hYk
def YP (ib vb wb kb : Nat) (L : Ix.Ix) (t : Ix.Rec) (vs : List Ix.V) (i : Nat) : HL → Prop := YS ib vb wb kb (Ix.way (Ix.cnt Ix.plW L) t fun p => (Ix.plW (vs.take i)).count p) (Ix.way (Ix.cnt Ix.plK L) t fun p => (Ix.plK (vs.take i)).count p)
theorem take_one {α : Type} {l : List α} {k : Nat} {x : α} (h : l[k]? = some x) : l.take (k + 1) = l.take k ++ [x] := by
  obtain ⟨hlt, hg⟩ := List.getElem?_eq_some_iff.1 h
  rw [List.take_succ_eq_append_getElem hlt, hg]
theorem each_put (xb eb ib vb wb kb : Nat) (ek el : UInt8) (ev : Value) (L : Ix.Ix) (t : Ix.Rec) (vs : List Ix.V) (hv : VOK vs) (i : Nat) (v : Ix.V) (wv : Value) (hget : vs[i]? = some v) (I : Heap) (hws : StrS 9 I v.ws wv) (hxb : I xb = some (cel 38 [ptr ib 0])) (heb : I eb = some (cel 37 [i64 t.1, i64 t.2, u8 ek, u8 el, ev])) (Y : HL) (hY : YP ib vb wb kb L t vs i Y) :
    Ctr Tryz.prog 73 [.agg (vwC (v, wv)).toArray, .func (.func 74) #[] [ptr xb 0, ptr eb 0].toArray, .func (.func 76) #[] [ptr xb 0, ptr eb 0].toArray] I Y (fun e _ H' => e = .returned (.tuple #[]) ∧ YP ib vb wb kb L t vs (i + 1) H') := by
  have hd := take_one hget
  have hwl := hv.2 v (lmg hget)
  have hlW := plW_take_len hv (i + 1)
  have hlK := plK_take_len hv (i + 1)
  refine each_ok v wv _ _ [ptr xb 0, ptr eb 0] (fun k => YS ib vb wb kb (Ix.way (Ix.cnt Ix.plW L) t fun p => (Ix.plW (vs.take i) ++ (v.ws.take k).map (fun w => (v.name, w))).count p) (Ix.way (Ix.cnt Ix.plK L) t fun p => (Ix.plK (vs.take i)).count p)) (YP ib vb wb kb L t vs (i + 1)) (by omega) I hws Y ?_ ?_ ?_ ?_
  · unfold YP at hY
    rw [List.take_zero, List.map_nil, List.append_nil]
    exact hY
  · intro k w H J hk hle hYk
    refine hYk.word fun l c N hN => ?_
    have hdk : Ix.plW (vs.take i) ++ (v.ws.take (k + 1)).map (fun w => (v.name, w)) = (Ix.plW (vs.take i) ++ (v.ws.take k).map (fun w => (v.name, w))) ++ [(v.name, w)] := by rw [take_one hk, List.map_append, List.append_assoc]; rfl
    rw [hdk, ← bump_add (Ix.cnt Ix.plW L) t (Ix.plW (vs.take i) ++ (v.ws.take k).map (fun w => (v.name, w))) (v.name, w)]
    refine put1_ok xb eb ib vb wb kb ek el ev l c N _ (v.name, w) t hN ?_ J (hle _ _ hxb) (hle _ _ heb)
    rw [way_at]
    refine nlt List.count_le_length ?_
    have h9 : (Ix.plW (vs.take i) ++ (v.ws.take k).map (fun w => (v.name, w))).length ≤ (Ix.plW (vs.take (i + 1))).length := by
      rw [hd, plW_one, List.length_append, List.length_append, List.length_map, List.length_map, List.length_take]; omega
    omega
  · intro H J hne hle hYk
    have hY2 : YS ib vb wb kb (Ix.way (Ix.cnt Ix.plW L) t fun p => (Ix.plW (vs.take (i + 1))).count p) (Ix.way (Ix.cnt Ix.plK L) t fun p => (Ix.plK (vs.take i)).count p) H := by
      rw [List.take_length, ← plW_one, ← hd] at hYk
      exact hYk
    unfold YP
    refine hY2.key fun l c N hN => ?_
    have e1 : Ix.plK (vs.take (i + 1)) = Ix.plK (vs.take i) ++ [(v.name, v.key)] := by rw [hd, plK_one, if_neg hne]
    rw [e1, ← bump_add (Ix.cnt Ix.plK L) t (Ix.plK (vs.take i)) (v.name, v.key)]
    refine put2_ok xb eb ib vb wb kb ek el ev l c N _ (v.name, v.key) t hN ?_ J (hle _ _ hxb) (hle _ _ heb)
    rw [way_at]
    refine nlt List.count_le_length ?_
    rw [e1, List.length_append] at hlK
    omega
  intro he H hYk
  unfold YP
  rw [List.take_length, ← plW_one, ← hd] at hYk
  have e1 : Ix.plK (vs.take (i + 1)) = Ix.plK (vs.take i) := by rw [hd, plK_one, if_pos he, List.append_nil]
  rw [e1]
  exact hYk
structure DA where
  i : Nat
  J : Heap
  Y : HL
theorem rput_len (t : Ix.Rec) (v : List Ix.V) : ∀ L : Ix.Ix, (Ix.rput t v L).length ≤ L.length + 1
  | [] => by simp [Ix.rput]
  | (u, x) :: r => by
    unfold Ix.rput
    split
    · have := rput_len t v r; rw [List.length_cons, List.length_cons]; omega
    split
    · simp
    simp
theorem IstOk.drop {I I' : Heap} {vb wb kb : Nat} {lv : ML Ix.Rec} {cv : Nat} {lw : ML Ix.Pl} {cw : Nat} {Nw : Nest Ix.Pl Ix.Rec} {lk : ML Ix.Pl} {ck : Nat} {Nk : Nest Ix.Pl Ix.Rec} {L : Ix.Ix} (h : IstOk I ⟨vb, wb, kb, lv, cv, lw, cw, Nw, lk, ck, Nk⟩ L) (hle : Le I I') (t : Ix.Rec) {lw2 : ML Ix.Pl} {cw2 : Nat} {Nw2 : Nest Ix.Pl Ix.Rec} {lk2 : ML Ix.Pl} {ck2 : Nat} {Nk2 : Nest Ix.Pl Ix.Rec}
    (hw : NestS lw2 cw2 Nw2 (Ix.way (Ix.cnt Ix.plW L) t fun p => (Ix.plW []).count p)) (hk : NestS lk2 ck2 Nk2 (Ix.way (Ix.cnt Ix.plK L) t fun p => (Ix.plK []).count p)) : IstOk I' ⟨vb, wb, kb, mdel lv t, cv, lw2, cw2, Nw2, lk2, ck2, Nk2⟩ (Ix.rdrop t L) := by
  refine ⟨Ix.rdrop_srt t h.srt, nlt (List.length_filter_le _ _) h.big, fun e he => h.vok e ((Ix.rdrop_mem t L e).1 he).1, h.vms.del t, fun u => ⟨fun hu => ?_, fun vs hu => ?_⟩, ?_, ?_⟩
  · show mget (mdel lv t) u = none
    rw [mget_mdel h.vms.1]
    split
    · rfl
    rename_i hne
    rw [Ix.rget_rdrop h.srt, if_neg (by simpa using hne)] at hu
    exact (h.vals u).1 hu
  · rw [Ix.rget_rdrop h.srt] at hu
    split at hu
    · cases hu
    rename_i hne
    obtain ⟨w, h1, h2⟩ := (h.vals u).2 vs hu
    refine ⟨w, ?_, h2.mono hle⟩
    show mget (mdel lv t) u = some w
    rw [mget_mdel h.vms.1, if_neg (by simpa using hne)]; exact h1
  · rw [Ix.cnt_rdrop h.srt]; exact hw
  rw [Ix.cnt_rdrop h.srt]; exact hk
theorem IstOk.put {I : Heap} {vb wb kb : Nat} {lv : ML Ix.Rec} {cv : Nat} {lw : ML Ix.Pl} {cw : Nat} {Nw : Nest Ix.Pl Ix.Rec} {lk : ML Ix.Pl} {ck : Nat} {Nk : Nest Ix.Pl Ix.Rec} {L : Ix.Ix} (h : IstOk I ⟨vb, wb, kb, lv, cv, lw, cw, Nw, lk, ck, Nk⟩ L) {t : Ix.Rec} (hL : L.length < 100000) {vs : List Ix.V} (hv : VOK vs) {w : Value} (hw0 : ValsS I vs w) {lw2 : ML Ix.Pl} {cw2 : Nat} {Nw2 : Nest Ix.Pl Ix.Rec} {lk2 : ML Ix.Pl} {ck2 : Nat} {Nk2 : Nest Ix.Pl Ix.Rec}
    (hw : NestS lw2 cw2 Nw2 (Ix.way (Ix.cnt Ix.plW L) t fun p => (Ix.plW vs).count p)) (hk : NestS lk2 ck2 Nk2 (Ix.way (Ix.cnt Ix.plK L) t fun p => (Ix.plK vs).count p)) : IstOk I ⟨vb, wb, kb, mset lv t w cv, mclk lv t cv, lw2, cw2, Nw2, lk2, ck2, Nk2⟩ (Ix.rput t vs L) := by
  refine ⟨Ix.rput_srt t vs h.srt, ?_, fun e he => ?_, h.vms.set t w, fun u => ⟨fun hu => ?_, fun us hu => ?_⟩, ?_, ?_⟩
  · have := rput_len t vs L; omega
  · rcases (Ix.rput_mem t vs h.srt e).1 he with g | g
    · rw [g]; exact hv
    exact h.vok e g.1
  · show mget (mset lv t w cv) u = none
    rw [Ix.rget_rput h.srt] at hu
    rw [mget_mset]
    split at hu
    · cases hu
    rename_i hne
    rw [if_neg (by simpa using hne)]; exact (h.vals u).1 hu
  · show ∃ w', mget (mset lv t w cv) u = some w' ∧ _
    rw [Ix.rget_rput h.srt] at hu
    rw [mget_mset]
    split at hu
    · rename_i he
      cases hu
      exact ⟨w, by rw [if_pos (by simpa using he)], hw0⟩
    rename_i hne
    rw [if_neg (by simpa using hne)]; exact (h.vals u).2 us hu
  · rw [Ix.cnt_rput h.srt]; exact hw
  rw [Ix.cnt_rput h.srt]; exact hk
theorem ist_new (I : Heap) (vb wb kb : Nat) : IstOk I ⟨vb, wb, kb, [], 0, [], 0, [], [], 0, []⟩ [] :=
  ⟨List.Pairwise.nil, Nat.zero_le _, fun _ h => (by cases h), MS.nil, fun _ => ⟨fun _ => rfl, fun _ h => by cases h⟩, NestS.nil, NestS.nil⟩
end Go.Proofs.YtjcdfnbomkoheaaGreatDoor
end
section
namespace Go.Proofs.YtjcdfnbomkoheaaGreatDoor
open _root_.Go.Proofs.Tryz
open Go Go.Sx
theorem Drop_some (ib : Nat) (s0 : Ist) (L : Ix.Ix) (t : Ix.Rec) (I : Heap) (hok0 : IstOk I s0 L) : Ctr Tryz.prog 43 [ptr ib 0, kvR t] I (istH ib s0)
    (fun e I' H' => ∃ s', e = .returned (.tuple #[]) ∧ IstOk I' s' (Ix.rdrop t L) ∧ H' = istH ib s') := by
 obtain ⟨vb, wb, kb, lv, cv, lw, cw, Nw, lk, ck, Nk⟩ := s0
 unfold istH
 dsimp only
 have hok := hok0
 refine Ctr.ob func43 ?_
 intro w0 hw0
 refine Cj.sr (J.op rfl (q28 ?_))
 intro b1 hb1
 refine J.op rfl (q28 ?_)
 intro b2 hb2
 refine J.nsss (Cj.pull (Pull.s Pull.z) ?_)
 refine Cj.persist hb1 (fun I4 hle3 hb1i => ?_)
 have hok := hok.mono hle3
 refine Cj.persist hb2 (fun I6 hle5 hb2i => ?_)
 have hok := hok.mono hle5
 have hb1i := hle5 _ _ hb1i
 refine Cj.region (J.z (q9 tA38 (Blk.imm hb1i)) ?_)
 refine J.z (q52 tU38) ?_
 refine J.c0 (fun hc7 => ?_)
 refine Cj.ks (Cj.seq (Cj.seq ?_))
 have hv0 := hok.vals
 obtain ⟨vv, hvv, hvs⟩ := hv0.at t
 obtain ⟨xs, hrow, hX⟩ := hvs
 obtain ⟨vp, vc, rfl, hvc, -⟩ := id hrow
 have hvok := rget_vok hok.srt hok.vok t
 have hxl := hX.len
 have hvl := hvok.1
 have hY0 : YD ib vb wb kb L t ((Ix.rget L t).getD []) 0 ((ib, cel 89 (ixC vb wb kb)) :: (setH wb lw cw Nw ++ setH kb lk ck Nk)) := ⟨lw, cw, Nw, lk, ck, Nk, (by have h := hok.nw; rw [cnt_way Ix.plW rfl L t] at h; exact h), (by have h := hok.nk; rw [cnt_way Ix.plK rfl L t] at h; exact h), rfl⟩
 refine Cj.drawSel [0, 1] [] 8 (by kernel_rfl) ?_
 refine JA.fix ⟨(HSub.c 0 rfl (HSub.c 1 rfl HSub.n)), CSub.n, (Le.refl _)⟩ (fun fx8 => ?_)
 refine JA.tk 0 rfl fx8 (q9 tA38 (Blk.immC hb1i)) ?_
 refine JA.tk 1 rfl fx8 q8 ?_
 refine JA.tk 2 rfl fx8 (q4 (off' := 0) tU89 tS85) ?_
 refine JA.tk 3 rfl fx8 (q9 tA85 (Blk.atC 1 rfl)) ?_
 refine JA.tk 4 rfl fx8 (q27 tA26 tS26 (Blk.immC hb2i)) ?_
 refine JA.tk 5 rfl fx8 (q45 (kv := kvR) (l := lv) (a := t) tU85 keyR tZ96 (Blk.atC 0 rfl)) ?_
 refine JA.eqv 13 rfl (show _ = .slice vp xs.length vc from hvv) ?_
 refine JA.tk 6 rfl fx8 (q15 tU96) ?_
 refine JA.tk 7 rfl fx8 q0 ?_
 refine q14 ?_
 refine Ej.seq (Cj.block (Cj.loop (ι := DA) (fun y => y.i ≤ xs.length ∧ Le I6 y.J ∧ YD ib vb wb kb L t ((Ix.rget L t).getD []) y.i y.Y) (fun y => xs.length - y.i) (fun y => [(2, ptr b1 0), (3, ptr b2 0), (13, .slice vp xs.length vc), (14, i64 (xs.length : Int)), (15, i64 (y.i : Int))]) (fun y => y.J) (fun y => (vb, mobj kvR lv cv) :: y.Y) ⟨0, _, (ib, cel 89 (ixC vb wb kb)) :: (setH _ _ _ _ ++ setH _ _ _ _)⟩ ⟨Nat.zero_le _, Le.refl _, hY0⟩ ⟨rfl, rfl, rfl, rfl, rfl, trivial⟩ rfl rfl ?_))
 rintro ⟨i, Jh, Y9⟩ ⟨hi, hIJ, hY⟩
 dsimp only at hi hIJ hY ⊢
 have hrow := hrow.mono hIJ
 have hX := hX.mono hIJ
 have hb1i := hIJ _ _ hb1i
 have hb2i := hIJ _ _ hb2i
 refine Cj.sr (J.z q17 ?_)
 refine J.nss (Cj.cond rfl (fun hc9 => ?_) (fun hc9 => ?_))
 ·
  have hc9p := odt hc9
  have hlt : i < xs.length := by omega
  obtain ⟨x, hget⟩ : ∃ x, xs[i]? = some x := ⟨_, lgg hlt⟩
  obtain ⟨vp1, vc1, hve, -, hvb⟩ := id hrow
  cases hve
  obtain ⟨rb, rsp, rfl, hrb⟩ := hvb (ne_nil_of hlt)
  have hws := hX.2 x (lmg hget)
  have hgv := (congrArg (fun l => l[i]?) hX.1).symm.trans ((List.getElem?_map).trans (congrArg (Option.map (·.1)) hget))
  dsimp only [Option.map_some] at hgv
  refine Cj.ks (Cj.seq (Cj.block (Cj.sr (J.z (q19 (off' := 0 + i * 3) tU96 tS98) ?_))))
  refine J.z (q43 isAgg98 tS98 (Blk.imm hrb) (row_from vwC_len (o := 0) rfl hget)) ?_
  refine J.op rfl (q46 tZ98 ?_)
  intro b10 hb10
  refine J.op rfl (op_store 0 rfl rfl rfl rfl rfl (vw_one hws rfl rfl) tS98 rfl rfl (LSpl.c (LSpl.c (LSpl.c LSpl.z))) LSet.z ?_)
  refine J.nsr (J.z (q33 isAgg98 tS98) ?_)
  refine J.z (yl_makeFunc rfl rfl rfl) ?_
  refine J.z (yl_makeFunc rfl rfl rfl) ?_
  refine J.op rfl (op_callR (H1 := Y9) [_, _] rfl rfl rfl rfl rfl rfl (each_drop b1 b2 ib vb wb kb L t ((Ix.rget L t).getD []) hvok i x.1 x.2 hgv _ hws hb1i hb2i _ hY) ?_ (fun _ _ _ _ h => by cases h.1) (fun _ _ h => by cases h.1))
  intro v11 I12 H13 hle14 hp15
  have hIJ := hIJ.mono hle14
  obtain ⟨h, hY1⟩ := hp15; cases h
  refine J.nb (Cj.region (J.z q7 ?_))
  refine J.z q0 ?_
  refine J.nil (Ej.keep (Keeps.d (Keeps.k Keeps.r)) ?_)
  refine Ej.round ⟨i + 1, _, H13⟩ ⟨by dsimp only; omega, hIJ, hY1⟩ (by dsimp only; omega) ⟨rfl, rfl, rfl, rfl, rfl, trivial⟩ rfl rfl
 have hc9p := odf hc9
 have hil : i = ((Ix.rget L t).getD []).length := by omega
 obtain ⟨lw2, cw2, Nw2, lk2, ck2, Nk2, hw2, hk2, rfl⟩ := hY
 rw [hil, List.drop_length] at hw2 hk2
 refine Cj.xl (Cj.drawSel [1] [] 6 (by kernel_rfl) ?_)
 refine JA.fix ⟨(HSub.c 1 rfl HSub.n), CSub.n, (Le.refl _)⟩ (fun fx16 => ?_)
 refine JA.tk 0 rfl fx16 (q9 tA38 (Blk.immC hb1i)) ?_
 refine JA.tk 1 rfl fx16 q8 ?_
 refine JA.tk 2 rfl fx16 (q4 (off' := 0) tU89 tS85) ?_
 refine JA.tk 3 rfl fx16 (q9 tA85 (Blk.atC 0 rfl)) ?_
 refine JA.tk 4 rfl fx16 (q27 tA26 tS26 (Blk.immC hb2i)) ?_
 refine q13 5 rfl (op_delete0 (kv := kvR) (a := t) 0 rfl rfl rfl rfl rfl tU85 keyR rfl LSet.z ?_)
 refine ⟨⟨(Le.refl _), (HSub.c 1 rfl HSub.n), CSub.n⟩, ?_⟩
 refine q14 ?_
 refine q39 ?_
 exact ⟨⟨vb, wb, kb, mdel lv t, cv, lw2, cw2, Nw2, lk2, ck2, Nk2⟩, rfl, hok.drop hIJ t hw2 hk2, rfl⟩
theorem Drop_none (ib : Nat) (t : Ix.Rec) (I : Heap) : Ctr Tryz.prog 43 [ptr ib 0, kvR t] I [(ib, cel 89 [.map none, .map none, .map none])]
    (fun e _ H' => e = .returned (.tuple #[]) ∧ H' = [(ib, cel 89 [.map none, .map none, .map none])]) := by
 refine Ctr.ob func43 ?_
 intro w0 hw0
 refine Cj.sr (J.op rfl (q28 ?_))
 intro b1 hb1
 refine J.op rfl (q28 ?_)
 intro b2 hb2
 refine J.nsss (Cj.region (J.z (q9 tA38 (Blk.at 1 rfl)) ?_))
 refine J.z (q52 tU38) ?_
 refine J.c0 (fun hc3 => ?_)
 refine Cj.ks (Cj.seq (Cj.seq (Cj.drawSel [0, 1, 2] [] 8 (by kernel_rfl) ?_)))
 refine JA.fix ⟨(HSub.c 0 rfl (HSub.c 1 rfl (HSub.c 2 rfl HSub.n))), CSub.n, (Le.refl _)⟩ (fun fx4 => ?_)
 refine JA.tk 0 rfl fx4 (q9 tA38 (Blk.atC 1 rfl)) ?_
 refine JA.tk 1 rfl fx4 q8 ?_
 refine JA.tk 2 rfl fx4 (q4 (off' := 0) tU89 tS85) ?_
 refine JA.tk 3 rfl fx4 (q9 tA85 (Blk.atC 2 rfl)) ?_
 refine JA.tk 4 rfl fx4 (q27 tA26 tS26 (Blk.atC 0 rfl)) ?_
 refine JA.tk 5 rfl fx4 (yl_lookupNil1 (kv := kvR) (a := t) rfl rfl rfl rfl tU85 keyR tZ96) ?_
 refine JA.tk 6 rfl fx4 (q15 tU96) ?_
 refine JA.tk 7 rfl fx4 q0 ?_
 refine q14 ?_
 refine Ej.seq (Cj.block (Cj.rounds 1 ?_))
 refine Rj.succ ?_
 refine Cj.sr (J.z q17 ?_)
 refine J.nss (Cj.cond rfl (fun hc5 => ?_) (fun hc5 => ?_))
 ·
  have hc5p := odt hc5
  exact absurd (odt hc5) (by decide)
 have hc5p := odf hc5
 refine Cj.exit (Ej.seqExit (Ej.seqExit (Ej.blkExit (Ej.seq (Cj.drawSel [0, 1, 2] [] 6 (by kernel_rfl) ?_)))))
 refine JA.fix ⟨(HSub.c 0 rfl (HSub.c 1 rfl (HSub.c 2 rfl HSub.n))), CSub.n, (Le.refl _)⟩ (fun fx6 => ?_)
 refine JA.tk 0 rfl fx6 (q9 tA38 (Blk.atC 1 rfl)) ?_
 refine JA.tk 1 rfl fx6 q8 ?_
 refine JA.tk 2 rfl fx6 (q4 (off' := 0) tU89 tS85) ?_
 refine JA.tk 3 rfl fx6 (q9 tA85 (Blk.atC 2 rfl)) ?_
 refine JA.tk 4 rfl fx6 (q27 tA26 tS26 (Blk.atC 0 rfl)) ?_
 refine q13 5 rfl (op_deleteNil (kv := kvR) (a := t) rfl rfl rfl rfl rfl tU85 keyR ?_)
 refine ⟨⟨(Le.refl _), (HSub.c 0 rfl (HSub.c 1 rfl (HSub.c 2 rfl HSub.n))), CSub.n⟩, ?_⟩
 refine q14 ?_
 refine Ej.keep (Keeps.d (Keeps.d (Keeps.k Keeps.n))) ?_
 refine q39 ?_
 exact ⟨rfl, rfl⟩
theorem iput_end {I I' : Heap} {vb wb kb : Nat} {lv : ML Ix.Rec} {cv : Nat} {lw : ML Ix.Pl} {cw : Nat} {Nw : Nest Ix.Pl Ix.Rec} {lk : ML Ix.Pl} {ck : Nat} {Nk : Nest Ix.Pl Ix.Rec} {L : Ix.Ix} {t : Ix.Rec} (h : IstOk I ⟨vb, wb, kb, lv, cv, lw, cw, Nw, lk, ck, Nk⟩ (Ix.rdrop t L)) (hs : Ix.Srt L) (hL : L.length < 100000) {vs : List Ix.V} (hv : VOK vs) {w : Value} (hw0 : ValsS I' vs w) (hle : Le I I') {lw2 : ML Ix.Pl} {cw2 : Nat} {Nw2 : Nest Ix.Pl Ix.Rec} {lk2 : ML Ix.Pl} {ck2 : Nat} {Nk2 : Nest Ix.Pl Ix.Rec}
    (hw : NestS lw2 cw2 Nw2 (Ix.way (Ix.cnt Ix.plW L) t fun p => (Ix.plW vs).count p)) (hk : NestS lk2 ck2 Nk2 (Ix.way (Ix.cnt Ix.plK L) t fun p => (Ix.plK vs).count p)) : IstOk I' ⟨vb, wb, kb, mset lv t w cv, mclk lv t cv, lw2, cw2, Nw2, lk2, ck2, Nk2⟩ (Ix.rput t vs L) := by
  have hb : (Ix.rdrop t L).length < 100000 := Nat.lt_of_le_of_lt (List.length_filter_le _ _) hL
  have hww : ∀ (pl : List Ix.V → List Ix.Pl), (Ix.way (Ix.cnt pl L) t fun p => (pl vs).count p) = Ix.way (Ix.cnt pl (Ix.rdrop t L)) t fun p => (pl vs).count p := fun pl => by
    rw [Ix.cnt_rdrop hs]
    funext p u
    unfold Ix.way
    split <;> rfl
  rw [hww] at hw hk
  have h2 := (h.mono hle).put hb hv hw0 hw hk
  rw [Ix.rput_rdrop hs] at h2
  exact h2
theorem Put_some (ib : Nat) (s0 : Ist) (L : Ix.Ix) (e0 : Ent) (I : Heap) (hok : IstOk I s0 L) (hbig : L.length < 100000) (hek : EOK e0.fs) (hrec : RecS I e0.fs e0.v) : Ctr Tryz.prog 42 [ptr ib 0, .agg (entC e0).toArray] I (istH ib s0)
    (fun e I' H' => ∃ s', e = .returned (.tuple #[]) ∧ IstOk I' s' (Ix.rput e0.t (Ix.vals e0.fs) L) ∧ H' = istH ib s') := by
 have hsrt := hok.srt
 obtain ⟨vp0, vc0, hev, -, -⟩ := id hrec.1
 refine Ctr.ob func42 ?_
 intro w0 hw0
 refine Cj.sr (J.op rfl (q28 ?_))
 intro b1 hb1
 refine J.op rfl (q28 ?_)
 intro b2 hb2
 refine J.nsss (Cj.pull (Pull.s Pull.z) ?_)
 refine Cj.persist hb1 (fun I4 hle3 hb1i => ?_)
 have hok := hok.mono hle3
 have hrec := hrec.mono hle3
 refine Cj.persist hb2 (fun I6 hle5 hb2i => ?_)
 have hok := hok.mono hle5
 have hrec := hrec.mono hle5
 have hb1i := hle5 _ _ hb1i
 refine Cj.region (J.z (q9 tA38 (Blk.imm hb1i)) ?_)
 refine J.z (q52 tU38) ?_
 refine J.c0 (fun hc7 => ?_)
 refine Cj.ks (Cj.sr (J.z (q9 tA38 (Blk.imm hb1i)) ?_))
 refine J.z (q4 (off' := 0) tU37 tS26) ?_
 refine J.z (q27 tA26 tS26 (Blk.imm hb2i)) ?_
 refine J.op rfl (op_callR (H1 := istH _ _) [] rfl rfl rfl rfl rfl rfl (Drop_some ib s0 L e0.t _ hok) ?_ (fun _ _ _ _ ⟨_, h, _⟩ => nomatch h) (fun _ _ ⟨_, h, _⟩ => nomatch h))
 intro v8 I9 H10 hle11 hp12
 have hok := hok.mono hle11
 have hrec := hrec.mono hle11
 have hb1i := hle11 _ _ hb1i
 have hb2i := hle11 _ _ hb2i
 obtain ⟨s1, h, hok, rfl⟩ := hp12; cases h
 obtain ⟨vb, wb, kb, lv, cv, lw, cw, Nw, lk, ck, Nk⟩ := s1
 unfold istH
 dsimp only
 refine J.nsss (Cj.region (J.z (q9 tA38 (Blk.imm hb1i)) ?_))
 refine J.z q8 ?_
 refine J.z (q4 (off' := 0) tU89 tS85) ?_
 refine J.z (q9 tA85 (Blk.at 1 rfl)) ?_
 refine J.z (yl_eqlMap _ rfl rfl rfl tU85) ?_
 refine J.c0 (fun hc13 => ?_)
 refine Cj.ks (Cj.seq (Cj.drawSel [1] [] 10 (by kernel_rfl) ?_))
 have hb1i_5 := hb1i
 have hb2i_5 := hb2i
 refine JA.fix ⟨(HSub.c 1 rfl HSub.n), CSub.n, (Le.refl _)⟩ (fun fx14 => ?_)
 refine JA.tk 0 rfl fx14 (q9 tA38 (Blk.immC hb1i_5)) ?_
 refine JA.tk 1 rfl fx14 q8 ?_
 refine JA.tk 2 rfl fx14 (q4 (off' := 0) tU89 tS85) ?_
 refine JA.tk 3 rfl fx14 (q9 tA85 (Blk.atC 0 rfl)) ?_
 refine JA.tk 4 rfl fx14 (q4 (off' := 0) tU37 tS26) ?_
 refine JA.tk 5 rfl fx14 (q27 tA26 tS26 (Blk.immC hb2i_5)) ?_
 refine JA.tk 6 rfl fx14 (q4 (off' := 2) tU37 tS35) ?_
 refine JA.tk 7 rfl fx14 (q27 isAgg35 tS35 (Blk.immC hb2i_5)) ?_
 refine q13 8 rfl (q36 (H1 := []) rfl rfl rfl rfl rfl (valuesOf_ok e0.fs e0.v e0.k e0.l hek _ hrec) ?_)
 intro v15 I16 H17 hle18 hp19
 have hb1i := hle18 _ _ hb1i
 have hb2i := hle18 _ _ hb2i
 have hok := hok.mono hle18
 obtain ⟨vv, h, hvs, rfl⟩ := hp19; cases h
 obtain ⟨xs, hrow, hX⟩ := hvs
 obtain ⟨vp, vc, rfl, hvc, -⟩ := id hrow
 have hvok := vok_of hek
 have hxl := hX.len
 have hvl := hvok.1
 refine ⟨⟨(Le.trans (Le.refl _) hle18), (HSub.c 1 rfl HSub.n), CSub.n⟩, ?_⟩
 refine q13 9 rfl (op_insert (kv := kvR) (a := e0.t) 0 (.inr rfl) rfl rfl rfl rfl rfl tU85 keyR rfl LSet.z ?_)
 refine ⟨⟨(Le.trans (Le.refl _) hle18), (HSub.c 1 rfl HSub.n), CSub.n⟩, ?_⟩
 refine q14 ?_
 refine Ej.seq (Cj.seq ?_)
 have hY0 : YP ib vb wb kb L e0.t (Ix.vals e0.fs) 0 ((ib, cel 89 (ixC vb wb kb)) :: (setH wb lw cw Nw ++ setH kb lk ck Nk)) := ⟨lw, cw, Nw, lk, ck, Nk, (by have h := hok.nw; rw [Ix.cnt_rdrop hsrt] at h; exact h), (by have h := hok.nk; rw [Ix.cnt_rdrop hsrt] at h; exact h), rfl⟩
 refine Cj.drawSel [0, 1] [] 9 (by kernel_rfl) ?_
 refine JA.fix ⟨(HSub.c 0 rfl (HSub.c 1 rfl HSub.n)), CSub.n, (Le.refl _)⟩ (fun fx20 => ?_)
 refine JA.tk 0 rfl fx20 (q9 tA38 (Blk.immC hb1i)) ?_
 refine JA.tk 1 rfl fx20 q8 ?_
 refine JA.tk 2 rfl fx20 (q4 (off' := 0) tU89 tS85) ?_
 refine JA.tk 3 rfl fx20 (q9 tA85 (Blk.atC 1 rfl)) ?_
 refine JA.tk 4 rfl fx20 (q4 (off' := 0) tU37 tS26) ?_
 refine JA.tk 5 rfl fx20 (q27 tA26 tS26 (Blk.immC hb2i)) ?_
 refine JA.tk 6 rfl fx20 (q45 (kv := kvR) (l := (mset lv e0.t (.slice vp xs.length vc) cv)) (a := e0.t) tU85 keyR tZ96 (Blk.atC 0 rfl)) ?_
 refine JA.eqv 44 rfl (show _ = .slice vp xs.length vc from getD_set) ?_
 refine JA.tk 7 rfl fx20 (q15 tU96) ?_
 refine JA.tk 8 rfl fx20 q0 ?_
 refine q14 ?_
 refine Ej.seq (Cj.block (Cj.loop (ι := DA) (fun y => y.i ≤ xs.length ∧ Le I16 y.J ∧ YP ib vb wb kb L e0.t (Ix.vals e0.fs) y.i y.Y) (fun y => xs.length - y.i) (fun y => [(2, ptr b1 0), (3, ptr b2 0), (44, .slice vp xs.length vc), (45, i64 (xs.length : Int)), (46, i64 (y.i : Int))]) (fun y => y.J) (fun y => (vb, mobj kvR (mset lv e0.t (.slice vp xs.length vc) cv) (mclk lv e0.t cv)) :: y.Y) ⟨0, _, (ib, cel 89 (ixC vb wb kb)) :: (setH _ _ _ _ ++ setH _ _ _ _)⟩ ⟨Nat.zero_le _, Le.refl _, hY0⟩ ⟨rfl, rfl, rfl, rfl, rfl, trivial⟩ rfl rfl ?_))
 rintro ⟨i, Jh, Y9⟩ ⟨hi, hIJ, hY⟩
 dsimp only at hi hIJ hY ⊢
 have hrow := hrow.mono hIJ
 have hX := hX.mono hIJ
 have hb1i := hIJ _ _ hb1i
 have hb2i := hIJ _ _ hb2i
 refine Cj.sr (J.z q17 ?_)
 refine J.nss (Cj.cond rfl (fun hc21 => ?_) (fun hc21 => ?_))
 ·
  have hc21p := odt hc21
  have hlt : i < xs.length := by omega
  obtain ⟨x, hget⟩ : ∃ x, xs[i]? = some x := ⟨_, lgg hlt⟩
  obtain ⟨vp1, vc1, hve, -, hvb⟩ := id hrow
  cases hve
  obtain ⟨rb, rsp, rfl, hrb⟩ := hvb (ne_nil_of hlt)
  have hws := hX.2 x (lmg hget)
  have hgv := (congrArg (fun l => l[i]?) hX.1).symm.trans ((List.getElem?_map).trans (congrArg (Option.map (·.1)) hget))
  dsimp only [Option.map_some] at hgv
  refine Cj.ks (Cj.seq (Cj.block (Cj.sr (J.z (q19 (off' := 0 + i * 3) tU96 tS98) ?_))))
  refine J.z (q43 isAgg98 tS98 (Blk.imm hrb) (row_from vwC_len (o := 0) rfl hget)) ?_
  refine J.op rfl (q46 tZ98 ?_)
  intro b22 hb22
  refine J.op rfl (op_store 0 rfl rfl rfl rfl rfl (vw_one hws rfl rfl) tS98 rfl rfl (LSpl.c (LSpl.c (LSpl.c LSpl.z))) LSet.z ?_)
  refine J.nsr (J.z (q33 isAgg98 tS98) ?_)
  refine J.z (yl_makeFunc rfl rfl rfl) ?_
  refine J.z (yl_makeFunc rfl rfl rfl) ?_
  refine J.op rfl (op_callR (H1 := Y9) [_, _] rfl rfl rfl rfl rfl rfl (each_put b1 b2 ib vb wb kb e0.k e0.l e0.v L e0.t (Ix.vals e0.fs) hvok i x.1 x.2 hgv _ hws hb1i hb2i _ hY) ?_ (fun _ _ _ _ h => by cases h.1) (fun _ _ h => by cases h.1))
  intro v23 I24 H25 hle26 hp27
  have hIJ := hIJ.mono hle26
  obtain ⟨h, hY1⟩ := hp27; cases h
  refine J.nb (Cj.region (J.z q7 ?_))
  refine J.z q0 ?_
  refine J.nil (Ej.keep (Keeps.d (Keeps.k Keeps.r)) ?_)
  refine Ej.round ⟨i + 1, _, H25⟩ ⟨by dsimp only; omega, hIJ, hY1⟩ (by dsimp only; omega) ⟨rfl, rfl, rfl, rfl, rfl, trivial⟩ rfl rfl
 have hc21p := odf hc21
 have hil : i = (Ix.vals e0.fs).length := by omega
 obtain ⟨lw2, cw2, Nw2, lk2, ck2, Nk2, hw2, hk2, rfl⟩ := hY
 rw [hil, List.take_length] at hw2 hk2
 refine Cj.exit (Ej.seqExit (Ej.loopExit (Ej.blkExit (q39 ?_))))
 exact ⟨⟨vb, wb, kb, (mset lv e0.t (.slice vp xs.length vc) cv), (mclk lv e0.t cv), lw2, cw2, Nw2, lk2, ck2, Nk2⟩, rfl, iput_end hok hsrt hbig hvok ⟨xs, hrow, hX⟩ hIJ hw2 hk2, rfl⟩
theorem Put_none (ib : Nat) (e0 : Ent) (I : Heap) (hek : EOK e0.fs) (hrec : RecS I e0.fs e0.v) : Ctr Tryz.prog 42 [ptr ib 0, .agg (entC e0).toArray] I [(ib, cel 89 [.map none, .map none, .map none])]
    (fun e I' H' => ∃ s', e = .returned (.tuple #[]) ∧ IstOk I' s' (Ix.rput e0.t (Ix.vals e0.fs) []) ∧ H' = istH ib s') := by
 obtain ⟨vp0, vc0, hev, -, -⟩ := id hrec.1
 refine Ctr.ob func42 ?_
 intro w0 hw0
 refine Cj.sr (J.op rfl (q28 ?_))
 intro b1 hb1
 refine J.op rfl (q28 ?_)
 intro b2 hb2
 refine J.nsss (Cj.pull (Pull.s Pull.z) ?_)
 refine Cj.persist hb1 (fun I4 hle3 hb1i => ?_)
 have hrec := hrec.mono hle3
 refine Cj.persist hb2 (fun I6 hle5 hb2i => ?_)
 have hrec := hrec.mono hle5
 have hb1i := hle5 _ _ hb1i
 refine Cj.region (J.z (q9 tA38 (Blk.imm hb1i)) ?_)
 refine J.z (q52 tU38) ?_
 refine J.c0 (fun hc7 => ?_)
 refine Cj.ks (Cj.sr (J.z (q9 tA38 (Blk.imm hb1i)) ?_))
 refine J.z (q4 (off' := 0) tU37 tS26) ?_
 refine J.z (q27 tA26 tS26 (Blk.imm hb2i)) ?_
 refine J.pull Pull.z ?_
 refine J.op rfl (op_call (H1 := [_]) rfl rfl rfl rfl rfl (Drop_none ib e0.t _) ?_ (fun _ _ _ _ h => by cases h.1) (fun _ _ h => by cases h.1))
 intro v8 I9 H10 hle11 hp12
 have hrec := hrec.mono hle11
 have hb1i := hle11 _ _ hb1i
 have hb2i := hle11 _ _ hb2i
 obtain ⟨h, rfl⟩ := hp12; cases h
 refine J.ns (Cj.join (ι := Nat × Nat × Nat) (fun y => True) (fun y => [(2, ptr b1 0), (3, ptr b2 0)]) (fun y => I9) (fun y => (y.1, mobj kvR [] 0) :: (ib, cel 89 (ixC y.1 y.2.1 y.2.2)) :: (setH y.2.1 [] 0 [] ++ setH y.2.2 [] 0 [])) ?_ (fun hcut => ?_))
 ·
  rintro ⟨vb, wb, kb⟩ -
  dsimp only
  refine Cj.seq (Cj.drawSel [1] [] 10 (by kernel_rfl) ?_)
  have hb1i_5 := hb1i
  have hb2i_5 := hb2i
  refine JA.fix ⟨(HSub.c 1 rfl HSub.n), CSub.n, (Le.refl _)⟩ (fun fx13 => ?_)
  refine JA.tk 0 rfl fx13 (q9 tA38 (Blk.immC hb1i_5)) ?_
  refine JA.tk 1 rfl fx13 q8 ?_
  refine JA.tk 2 rfl fx13 (q4 (off' := 0) tU89 tS85) ?_
  refine JA.tk 3 rfl fx13 (q9 tA85 (Blk.atC 0 rfl)) ?_
  refine JA.tk 4 rfl fx13 (q4 (off' := 0) tU37 tS26) ?_
  refine JA.tk 5 rfl fx13 (q27 tA26 tS26 (Blk.immC hb2i_5)) ?_
  refine JA.tk 6 rfl fx13 (q4 (off' := 2) tU37 tS35) ?_
  refine JA.tk 7 rfl fx13 (q27 isAgg35 tS35 (Blk.immC hb2i_5)) ?_
  refine q13 8 rfl (q36 (H1 := []) rfl rfl rfl rfl rfl (valuesOf_ok e0.fs e0.v e0.k e0.l hek _ hrec) ?_)
  intro v14 I15 H16 hle17 hp18
  have hb1i := hle17 _ _ hb1i
  have hb2i := hle17 _ _ hb2i
  obtain ⟨vv, h, hvs, rfl⟩ := hp18; cases h
  obtain ⟨xs, hrow, hX⟩ := hvs
  obtain ⟨vp, vc, rfl, hvc, -⟩ := id hrow
  have hvok := vok_of hek
  have hxl := hX.len
  have hvl := hvok.1
  refine ⟨⟨(Le.trans (Le.refl _) hle17), (HSub.c 1 rfl HSub.n), CSub.n⟩, ?_⟩
  refine q13 9 rfl (op_insert (kv := kvR) (a := e0.t) 0 (.inr rfl) rfl rfl rfl rfl rfl tU85 keyR rfl LSet.z ?_)
  refine ⟨⟨(Le.trans (Le.refl _) hle17), (HSub.c 1 rfl HSub.n), CSub.n⟩, ?_⟩
  refine q14 ?_
  refine Ej.seq (Cj.seq ?_)
  have hY0 : YP ib vb wb kb [] e0.t (Ix.vals e0.fs) 0 ((ib, cel 89 (ixC vb wb kb)) :: (setH wb [] 0 [] ++ setH kb [] 0 [])) := ⟨[], 0, [], [], 0, [], (by rw [List.take_zero]; have h := (NestS.nil : NestS ([] : ML Ix.Pl) 0 ([] : Nest Ix.Pl Ix.Rec) (fun _ _ => 0)); exact (show (Ix.way (Ix.cnt Ix.plW []) e0.t fun p => (Ix.plW []).count p) = (fun _ _ => 0) by funext p u; unfold Ix.way; split <;> rfl) ▸ h), (by rw [List.take_zero]; have h := (NestS.nil : NestS ([] : ML Ix.Pl) 0 ([] : Nest Ix.Pl Ix.Rec) (fun _ _ => 0)); exact (show (Ix.way (Ix.cnt Ix.plK []) e0.t fun p => (Ix.plK []).count p) = (fun _ _ => 0) by funext p u; unfold Ix.way; split <;> rfl) ▸ h), rfl⟩
  refine Cj.drawSel [0, 1] [] 9 (by kernel_rfl) ?_
  refine JA.fix ⟨(HSub.c 0 rfl (HSub.c 1 rfl HSub.n)), CSub.n, (Le.refl _)⟩ (fun fx19 => ?_)
  refine JA.tk 0 rfl fx19 (q9 tA38 (Blk.immC hb1i)) ?_
  refine JA.tk 1 rfl fx19 q8 ?_
  refine JA.tk 2 rfl fx19 (q4 (off' := 0) tU89 tS85) ?_
  refine JA.tk 3 rfl fx19 (q9 tA85 (Blk.atC 1 rfl)) ?_
  refine JA.tk 4 rfl fx19 (q4 (off' := 0) tU37 tS26) ?_
  refine JA.tk 5 rfl fx19 (q27 tA26 tS26 (Blk.immC hb2i)) ?_
  refine JA.tk 6 rfl fx19 (q45 (kv := kvR) (l := (mset ([] : ML Ix.Rec) e0.t (.slice vp xs.length vc) 0)) (a := e0.t) tU85 keyR tZ96 (Blk.atC 0 rfl)) ?_
  refine JA.eqv 44 rfl (show _ = .slice vp xs.length vc from getD_set) ?_
  refine JA.tk 7 rfl fx19 (q15 tU96) ?_
  refine JA.tk 8 rfl fx19 q0 ?_
  refine q14 ?_
  refine Ej.seq (Cj.block (Cj.loop (ι := DA) (fun y => y.i ≤ xs.length ∧ Le I15 y.J ∧ YP ib vb wb kb [] e0.t (Ix.vals e0.fs) y.i y.Y) (fun y => xs.length - y.i) (fun y => [(2, ptr b1 0), (3, ptr b2 0), (44, .slice vp xs.length vc), (45, i64 (xs.length : Int)), (46, i64 (y.i : Int))]) (fun y => y.J) (fun y => (vb, mobj kvR (mset ([] : ML Ix.Rec) e0.t (.slice vp xs.length vc) 0) (mclk ([] : ML Ix.Rec) e0.t 0)) :: y.Y) ⟨0, _, (ib, cel 89 (ixC vb wb kb)) :: (setH _ _ _ _ ++ setH _ _ _ _)⟩ ⟨Nat.zero_le _, Le.refl _, hY0⟩ ⟨rfl, rfl, rfl, rfl, rfl, trivial⟩ rfl rfl ?_))
  rintro ⟨i, Jh, Y9⟩ ⟨hi, hIJ, hY⟩
  dsimp only at hi hIJ hY ⊢
  have hrow := hrow.mono hIJ
  have hX := hX.mono hIJ
  have hb1i := hIJ _ _ hb1i
  have hb2i := hIJ _ _ hb2i
  refine Cj.sr (J.z q17 ?_)
  refine J.nss (Cj.cond rfl (fun hc20 => ?_) (fun hc20 => ?_))
  ·
   have hc20p := odt hc20
   have hlt : i < xs.length := by omega
   obtain ⟨x, hget⟩ : ∃ x, xs[i]? = some x := ⟨_, lgg hlt⟩
   obtain ⟨vp1, vc1, hve, -, hvb⟩ := id hrow
   cases hve
   obtain ⟨rb, rsp, rfl, hrb⟩ := hvb (ne_nil_of hlt)
   have hws := hX.2 x (lmg hget)
   have hgv := (congrArg (fun l => l[i]?) hX.1).symm.trans ((List.getElem?_map).trans (congrArg (Option.map (·.1)) hget))
   dsimp only [Option.map_some] at hgv
   refine Cj.ks (Cj.seq (Cj.block (Cj.sr (J.z (q19 (off' := 0 + i * 3) tU96 tS98) ?_))))
   refine J.z (q43 isAgg98 tS98 (Blk.imm hrb) (row_from vwC_len (o := 0) rfl hget)) ?_
   refine J.op rfl (q46 tZ98 ?_)
   intro b21 hb21
   refine J.op rfl (op_store 0 rfl rfl rfl rfl rfl (vw_one hws rfl rfl) tS98 rfl rfl (LSpl.c (LSpl.c (LSpl.c LSpl.z))) LSet.z ?_)
   refine J.nsr (J.z (q33 isAgg98 tS98) ?_)
   refine J.z (yl_makeFunc rfl rfl rfl) ?_
   refine J.z (yl_makeFunc rfl rfl rfl) ?_
   refine J.op rfl (op_callR (H1 := Y9) [_, _] rfl rfl rfl rfl rfl rfl (each_put b1 b2 ib vb wb kb e0.k e0.l e0.v [] e0.t (Ix.vals e0.fs) hvok i x.1 x.2 hgv _ hws hb1i hb2i _ hY) ?_ (fun _ _ _ _ h => by cases h.1) (fun _ _ h => by cases h.1))
   intro v22 I23 H24 hle25 hp26
   have hIJ := hIJ.mono hle25
   obtain ⟨h, hY1⟩ := hp26; cases h
   refine J.nb (Cj.region (J.z q7 ?_))
   refine J.z q0 ?_
   refine J.nil (Ej.keep (Keeps.d (Keeps.k Keeps.r)) ?_)
   refine Ej.round ⟨i + 1, _, H24⟩ ⟨by dsimp only; omega, hIJ, hY1⟩ (by dsimp only; omega) ⟨rfl, rfl, rfl, rfl, rfl, trivial⟩ rfl rfl
  have hc20p := odf hc20
  have hil : i = (Ix.vals e0.fs).length := by omega
  obtain ⟨lw2, cw2, Nw2, lk2, ck2, Nk2, hw2, hk2, rfl⟩ := hY
  rw [hil, List.take_length] at hw2 hk2
  refine Cj.exit (Ej.seqExit (Ej.loopExit (Ej.blkExit (q39 ?_))))
  exact ⟨⟨vb, wb, kb, (mset ([] : ML Ix.Rec) e0.t (.slice vp xs.length vc) 0), (mclk ([] : ML Ix.Rec) e0.t 0), lw2, cw2, Nw2, lk2, ck2, Nk2⟩, rfl, iput_end (L := []) (ist_new _ vb wb kb) List.Pairwise.nil (by decide) hvok ⟨xs, hrow, hX⟩ hIJ hw2 hk2, rfl⟩
 refine Cj.sr (J.z (q9 tA38 (Blk.imm hb1i)) ?_)
 refine J.z q8 ?_
 refine J.z (q4 (off' := 0) tU89 tS85) ?_
 refine J.z (q18 tA85) ?_
 refine J.z (yl_eqlMap _ rfl rfl rfl tU85) ?_
 refine J.c1 (fun hc27 => ?_)
 refine Cj.drawSel [] [] 15 (by kernel_rfl) ?_
 refine JA.fix fx1 (fun fx28 => ?_)
 refine JA.tk 0 rfl fx28 (q9 tA38 (Blk.immC hb1i)) ?_
 refine JA.tk 1 rfl fx28 (q9 tA38 (Blk.immC hb1i)) ?_
 refine JA.tk 2 rfl fx28 (q9 tA38 (Blk.immC hb1i)) ?_
 refine JA.all [3, 4, 5] (by kernel_rfl) (by simp) ?_
 intro i hi
 simp only [List.mem_cons, List.not_mem_nil, or_false] at hi
 rcases hi with rfl | rfl | rfl
 ·
  refine ⟨_, rfl, rfl, ?_⟩
  refine op_makeMap rfl rfl rfl ?_
  intro b29 hb29
  refine ⟨fx0, ?_⟩
  refine JA.fix fx1 (fun fx30 => ?_)
  refine JA.tk 6 rfl fx30 q8 ?_
  refine JA.tk 7 rfl fx30 (q4 (off' := 0) tU89 tS85) ?_
  refine JA.all [4, 5, 8] (by kernel_rfl) (by simp) ?_
  intro i hi
  simp only [List.mem_cons, List.not_mem_nil, or_false] at hi
  rcases hi with rfl | rfl | rfl
  ·
   refine ⟨_, rfl, rfl, ?_⟩
   refine op_makeMap rfl rfl rfl ?_
   intro b31 hb31
   refine ⟨fx0, ?_⟩
   refine JA.all [5, 8] (by kernel_rfl) (by simp) ?_
   intro i hi
   simp only [List.mem_cons, List.not_mem_nil, or_false] at hi
   rcases hi with rfl | rfl
   ·
    refine ⟨_, rfl, rfl, ?_⟩
    refine op_makeMap rfl rfl rfl ?_
    intro b32 hb32
    refine ⟨fx0, ?_⟩
    refine q13 8 rfl (q21 3 tS85 (LSpl.c LSpl.z) (LSet.s (LSet.s (LSet.s LSet.z))) ?_)
    refine ⟨fx0, ?_⟩
    refine JA.fix fx1 (fun fx33 => ?_)
    refine JA.tk 9 rfl fx33 q8 ?_
    refine JA.tk 10 rfl fx33 (q4 (off' := 1) tU89 tS87) ?_
    refine q13 11 rfl (q21 3 tS87 (LSpl.s (LSpl.c LSpl.z)) (LSet.s (LSet.s (LSet.s LSet.z))) ?_)
    refine ⟨fx0, ?_⟩
    refine JA.fix fx1 (fun fx34 => ?_)
    refine JA.tk 12 rfl fx34 q8 ?_
    refine JA.tk 13 rfl fx34 (q4 (off' := 2) tU89 tS87) ?_
    refine q13 14 rfl (q21 3 tS87 (LSpl.s (LSpl.s (LSpl.c LSpl.z))) (LSet.s (LSet.s (LSet.s LSet.z))) ?_)
    refine ⟨fx0, ?_⟩
    refine q14 ?_
    refine Ej.keep (Keeps.k (Keeps.k (Keeps.k (Keeps.k Keeps.n)))) ?_
    refine Ej.pull Pull.z ?_
    refine Ej.pull (Pull.s Pull.z) ?_
    refine Ej.pull (Pull.s (Pull.s (Pull.s Pull.z))) ?_
    refine Ej.pull (Pull.s (Pull.s (Pull.s Pull.z))) ?_
    exact hcut (b29, b31, b32) _ _ _ trivial ⟨rfl, rfl, trivial⟩ rfl rfl
   refine ⟨_, rfl, rfl, ?_⟩
   refine q21 2 tS85 (LSpl.c LSpl.z) (LSet.s (LSet.s LSet.z)) ?_
   refine ⟨fx0, ?_⟩
   refine JA.fix fx1 (fun fx35 => ?_)
   refine JA.tk 9 rfl fx35 q8 ?_
   refine JA.tk 10 rfl fx35 (q4 (off' := 1) tU89 tS87) ?_
   refine JA.all [5, 11] (by kernel_rfl) (by simp) ?_
   intro i hi
   simp only [List.mem_cons, List.not_mem_nil, or_false] at hi
   rcases hi with rfl | rfl
   ·
    refine ⟨_, rfl, rfl, ?_⟩
    refine op_makeMap rfl rfl rfl ?_
    intro b36 hb36
    refine ⟨fx0, ?_⟩
    refine q13 11 rfl (q21 3 tS87 (LSpl.s (LSpl.c LSpl.z)) (LSet.s (LSet.s (LSet.s LSet.z))) ?_)
    refine ⟨fx0, ?_⟩
    refine JA.fix fx1 (fun fx37 => ?_)
    refine JA.tk 12 rfl fx37 q8 ?_
    refine JA.tk 13 rfl fx37 (q4 (off' := 2) tU89 tS87) ?_
    refine q13 14 rfl (q21 3 tS87 (LSpl.s (LSpl.s (LSpl.c LSpl.z))) (LSet.s (LSet.s (LSet.s LSet.z))) ?_)
    refine ⟨fx0, ?_⟩
    refine q14 ?_
    refine Ej.keep (Keeps.k (Keeps.k (Keeps.k (Keeps.k Keeps.n)))) ?_
    refine Ej.pull Pull.z ?_
    refine Ej.pull (Pull.s Pull.z) ?_
    refine Ej.pull (Pull.s (Pull.s (Pull.s Pull.z))) ?_
    refine Ej.pull (Pull.s (Pull.s (Pull.s Pull.z))) ?_
    exact hcut (b29, b31, b36) _ _ _ trivial ⟨rfl, rfl, trivial⟩ rfl rfl
   refine ⟨_, rfl, rfl, ?_⟩
   refine q21 2 tS87 (LSpl.s (LSpl.c LSpl.z)) (LSet.s (LSet.s LSet.z)) ?_
   refine ⟨fx0, ?_⟩
   refine q13 5 rfl (op_makeMap rfl rfl rfl ?_)
   intro b38 hb38
   refine ⟨fx0, ?_⟩
   refine JA.fix fx1 (fun fx39 => ?_)
   refine JA.tk 12 rfl fx39 q8 ?_
   refine JA.tk 13 rfl fx39 (q4 (off' := 2) tU89 tS87) ?_
   refine q13 14 rfl (q21 3 tS87 (LSpl.s (LSpl.s (LSpl.c LSpl.z))) (LSet.s (LSet.s (LSet.s LSet.z))) ?_)
   refine ⟨fx0, ?_⟩
   refine q14 ?_
   refine Ej.keep (Keeps.k (Keeps.k (Keeps.k (Keeps.k Keeps.n)))) ?_
   refine Ej.pull Pull.z ?_
   refine Ej.pull (Pull.s Pull.z) ?_
   refine Ej.pull (Pull.s (Pull.s (Pull.s Pull.z))) ?_
   refine Ej.pull (Pull.s (Pull.s (Pull.s Pull.z))) ?_
   exact hcut (b29, b31, b38) _ _ _ trivial ⟨rfl, rfl, trivial⟩ rfl rfl
  ·
   refine ⟨_, rfl, rfl, ?_⟩
   refine op_makeMap rfl rfl rfl ?_
   intro b40 hb40
   refine ⟨fx0, ?_⟩
   refine JA.all [4, 8] (by kernel_rfl) (by simp) ?_
   intro i hi
   simp only [List.mem_cons, List.not_mem_nil, or_false] at hi
   rcases hi with rfl | rfl
   ·
    refine ⟨_, rfl, rfl, ?_⟩
    refine op_makeMap rfl rfl rfl ?_
    intro b41 hb41
    refine ⟨fx0, ?_⟩
    refine q13 8 rfl (q21 3 tS85 (LSpl.c LSpl.z) (LSet.s (LSet.s (LSet.s LSet.z))) ?_)
    refine ⟨fx0, ?_⟩
    refine JA.fix fx1 (fun fx42 => ?_)
    refine JA.tk 9 rfl fx42 q8 ?_
    refine JA.tk 10 rfl fx42 (q4 (off' := 1) tU89 tS87) ?_
    refine q13 11 rfl (q21 3 tS87 (LSpl.s (LSpl.c LSpl.z)) (LSet.s (LSet.s (LSet.s LSet.z))) ?_)
    refine ⟨fx0, ?_⟩
    refine JA.fix fx1 (fun fx43 => ?_)
    refine JA.tk 12 rfl fx43 q8 ?_
    refine JA.tk 13 rfl fx43 (q4 (off' := 2) tU89 tS87) ?_
    refine q13 14 rfl (q21 3 tS87 (LSpl.s (LSpl.s (LSpl.c LSpl.z))) (LSet.s (LSet.s (LSet.s LSet.z))) ?_)
    refine ⟨fx0, ?_⟩
    refine q14 ?_
    refine Ej.keep (Keeps.k (Keeps.k (Keeps.k (Keeps.k Keeps.n)))) ?_
    refine Ej.pull (Pull.s Pull.z) ?_
    refine Ej.pull (Pull.s Pull.z) ?_
    refine Ej.pull (Pull.s (Pull.s (Pull.s Pull.z))) ?_
    refine Ej.pull (Pull.s (Pull.s (Pull.s Pull.z))) ?_
    exact hcut (b29, b41, b40) _ _ _ trivial ⟨rfl, rfl, trivial⟩ rfl rfl
   refine ⟨_, rfl, rfl, ?_⟩
   refine q21 2 tS85 (LSpl.c LSpl.z) (LSet.s (LSet.s LSet.z)) ?_
   refine ⟨fx0, ?_⟩
   refine q13 4 rfl (op_makeMap rfl rfl rfl ?_)
   intro b44 hb44
   refine ⟨fx0, ?_⟩
   refine JA.fix fx1 (fun fx45 => ?_)
   refine JA.tk 9 rfl fx45 q8 ?_
   refine JA.tk 10 rfl fx45 (q4 (off' := 1) tU89 tS87) ?_
   refine q13 11 rfl (q21 3 tS87 (LSpl.s (LSpl.c LSpl.z)) (LSet.s (LSet.s (LSet.s LSet.z))) ?_)
   refine ⟨fx0, ?_⟩
   refine JA.fix fx1 (fun fx46 => ?_)
   refine JA.tk 12 rfl fx46 q8 ?_
   refine JA.tk 13 rfl fx46 (q4 (off' := 2) tU89 tS87) ?_
   refine q13 14 rfl (q21 3 tS87 (LSpl.s (LSpl.s (LSpl.c LSpl.z))) (LSet.s (LSet.s (LSet.s LSet.z))) ?_)
   refine ⟨fx0, ?_⟩
   refine q14 ?_
   refine Ej.keep (Keeps.k (Keeps.k (Keeps.k (Keeps.k Keeps.n)))) ?_
   refine Ej.pull (Pull.s Pull.z) ?_
   refine Ej.pull (Pull.s Pull.z) ?_
   refine Ej.pull (Pull.s (Pull.s (Pull.s Pull.z))) ?_
   refine Ej.pull (Pull.s (Pull.s (Pull.s Pull.z))) ?_
   exact hcut (b29, b44, b40) _ _ _ trivial ⟨rfl, rfl, trivial⟩ rfl rfl
  refine ⟨_, rfl, rfl, ?_⟩
  refine q21 1 tS85 (LSpl.c LSpl.z) (LSet.s LSet.z) ?_
  refine ⟨fx0, ?_⟩
  refine JA.all [4, 5] (by kernel_rfl) (by simp) ?_
  intro i hi
  simp only [List.mem_cons, List.not_mem_nil, or_false] at hi
  rcases hi with rfl | rfl
  ·
   refine ⟨_, rfl, rfl, ?_⟩
   refine op_makeMap rfl rfl rfl ?_
   intro b47 hb47
   refine ⟨fx0, ?_⟩
   refine JA.fix fx1 (fun fx48 => ?_)
   refine JA.tk 9 rfl fx48 q8 ?_
   refine JA.tk 10 rfl fx48 (q4 (off' := 1) tU89 tS87) ?_
   refine JA.all [5, 11] (by kernel_rfl) (by simp) ?_
   intro i hi
   simp only [List.mem_cons, List.not_mem_nil, or_false] at hi
   rcases hi with rfl | rfl
   ·
    refine ⟨_, rfl, rfl, ?_⟩
    refine op_makeMap rfl rfl rfl ?_
    intro b49 hb49
    refine ⟨fx0, ?_⟩
    refine q13 11 rfl (q21 3 tS87 (LSpl.s (LSpl.c LSpl.z)) (LSet.s (LSet.s (LSet.s LSet.z))) ?_)
    refine ⟨fx0, ?_⟩
    refine JA.fix fx1 (fun fx50 => ?_)
    refine JA.tk 12 rfl fx50 q8 ?_
    refine JA.tk 13 rfl fx50 (q4 (off' := 2) tU89 tS87) ?_
    refine q13 14 rfl (q21 3 tS87 (LSpl.s (LSpl.s (LSpl.c LSpl.z))) (LSet.s (LSet.s (LSet.s LSet.z))) ?_)
    refine ⟨fx0, ?_⟩
    refine q14 ?_
    refine Ej.keep (Keeps.k (Keeps.k (Keeps.k (Keeps.k Keeps.n)))) ?_
    refine Ej.pull Pull.z ?_
    refine Ej.pull (Pull.s Pull.z) ?_
    refine Ej.pull (Pull.s (Pull.s (Pull.s Pull.z))) ?_
    refine Ej.pull (Pull.s (Pull.s (Pull.s Pull.z))) ?_
    exact hcut (b29, b47, b49) _ _ _ trivial ⟨rfl, rfl, trivial⟩ rfl rfl
   refine ⟨_, rfl, rfl, ?_⟩
   refine q21 2 tS87 (LSpl.s (LSpl.c LSpl.z)) (LSet.s (LSet.s LSet.z)) ?_
   refine ⟨fx0, ?_⟩
   refine q13 5 rfl (op_makeMap rfl rfl rfl ?_)
   intro b51 hb51
   refine ⟨fx0, ?_⟩
   refine JA.fix fx1 (fun fx52 => ?_)
   refine JA.tk 12 rfl fx52 q8 ?_
   refine JA.tk 13 rfl fx52 (q4 (off' := 2) tU89 tS87) ?_
   refine q13 14 rfl (q21 3 tS87 (LSpl.s (LSpl.s (LSpl.c LSpl.z))) (LSet.s (LSet.s (LSet.s LSet.z))) ?_)
   refine ⟨fx0, ?_⟩
   refine q14 ?_
   refine Ej.keep (Keeps.k (Keeps.k (Keeps.k (Keeps.k Keeps.n)))) ?_
   refine Ej.pull Pull.z ?_
   refine Ej.pull (Pull.s Pull.z) ?_
   refine Ej.pull (Pull.s (Pull.s (Pull.s Pull.z))) ?_
   refine Ej.pull (Pull.s (Pull.s (Pull.s Pull.z))) ?_
   exact hcut (b29, b47, b51) _ _ _ trivial ⟨rfl, rfl, trivial⟩ rfl rfl
  refine ⟨_, rfl, rfl, ?_⟩
  refine op_makeMap rfl rfl rfl ?_
  intro b53 hb53
  refine ⟨fx0, ?_⟩
  refine q13 4 rfl (op_makeMap rfl rfl rfl ?_)
  intro b54 hb54
  refine ⟨fx0, ?_⟩
  refine JA.fix fx1 (fun fx55 => ?_)
  refine JA.tk 9 rfl fx55 q8 ?_
  refine JA.tk 10 rfl fx55 (q4 (off' := 1) tU89 tS87) ?_
  refine q13 11 rfl (q21 3 tS87 (LSpl.s (LSpl.c LSpl.z)) (LSet.s (LSet.s (LSet.s LSet.z))) ?_)
  refine ⟨fx0, ?_⟩
  refine JA.fix fx1 (fun fx56 => ?_)
  refine JA.tk 12 rfl fx56 q8 ?_
  refine JA.tk 13 rfl fx56 (q4 (off' := 2) tU89 tS87) ?_
  refine q13 14 rfl (q21 3 tS87 (LSpl.s (LSpl.s (LSpl.c LSpl.z))) (LSet.s (LSet.s (LSet.s LSet.z))) ?_)
  refine ⟨fx0, ?_⟩
  refine q14 ?_
  refine Ej.keep (Keeps.k (Keeps.k (Keeps.k (Keeps.k Keeps.n)))) ?_
  refine Ej.pull (Pull.s Pull.z) ?_
  refine Ej.pull (Pull.s Pull.z) ?_
  refine Ej.pull (Pull.s (Pull.s (Pull.s Pull.z))) ?_
  refine Ej.pull (Pull.s (Pull.s (Pull.s Pull.z))) ?_
  exact hcut (b29, b54, b53) _ _ _ trivial ⟨rfl, rfl, trivial⟩ rfl rfl
 ·
  refine ⟨_, rfl, rfl, ?_⟩
  refine op_makeMap rfl rfl rfl ?_
  intro b57 hb57
  refine ⟨fx0, ?_⟩
  refine JA.all [3, 5] (by kernel_rfl) (by simp) ?_
  intro i hi
  simp only [List.mem_cons, List.not_mem_nil, or_false] at hi
  rcases hi with rfl | rfl
  ·
   refine ⟨_, rfl, rfl, ?_⟩
   refine op_makeMap rfl rfl rfl ?_
   intro b58 hb58
   refine ⟨fx0, ?_⟩
   refine JA.fix fx1 (fun fx59 => ?_)
   refine JA.tk 6 rfl fx59 q8 ?_
   refine JA.tk 7 rfl fx59 (q4 (off' := 0) tU89 tS85) ?_
   refine JA.all [5, 8] (by kernel_rfl) (by simp) ?_
   intro i hi
   simp only [List.mem_cons, List.not_mem_nil, or_false] at hi
   rcases hi with rfl | rfl
   ·
    refine ⟨_, rfl, rfl, ?_⟩
    refine op_makeMap rfl rfl rfl ?_
    intro b60 hb60
    refine ⟨fx0, ?_⟩
    refine q13 8 rfl (q21 3 tS85 (LSpl.c LSpl.z) (LSet.s (LSet.s (LSet.s LSet.z))) ?_)
    refine ⟨fx0, ?_⟩
    refine JA.fix fx1 (fun fx61 => ?_)
    refine JA.tk 9 rfl fx61 q8 ?_
    refine JA.tk 10 rfl fx61 (q4 (off' := 1) tU89 tS87) ?_
    refine q13 11 rfl (q21 3 tS87 (LSpl.s (LSpl.c LSpl.z)) (LSet.s (LSet.s (LSet.s LSet.z))) ?_)
    refine ⟨fx0, ?_⟩
    refine JA.fix fx1 (fun fx62 => ?_)
    refine JA.tk 12 rfl fx62 q8 ?_
    refine JA.tk 13 rfl fx62 (q4 (off' := 2) tU89 tS87) ?_
    refine q13 14 rfl (q21 3 tS87 (LSpl.s (LSpl.s (LSpl.c LSpl.z))) (LSet.s (LSet.s (LSet.s LSet.z))) ?_)
    refine ⟨fx0, ?_⟩
    refine q14 ?_
    refine Ej.keep (Keeps.k (Keeps.k (Keeps.k (Keeps.k Keeps.n)))) ?_
    refine Ej.pull Pull.z ?_
    refine Ej.pull (Pull.s (Pull.s Pull.z)) ?_
    refine Ej.pull (Pull.s (Pull.s (Pull.s Pull.z))) ?_
    refine Ej.pull (Pull.s (Pull.s (Pull.s Pull.z))) ?_
    exact hcut (b58, b57, b60) _ _ _ trivial ⟨rfl, rfl, trivial⟩ rfl rfl
   refine ⟨_, rfl, rfl, ?_⟩
   refine q21 2 tS85 (LSpl.c LSpl.z) (LSet.s (LSet.s LSet.z)) ?_
   refine ⟨fx0, ?_⟩
   refine JA.fix fx1 (fun fx63 => ?_)
   refine JA.tk 9 rfl fx63 q8 ?_
   refine JA.tk 10 rfl fx63 (q4 (off' := 1) tU89 tS87) ?_
   refine JA.all [5, 11] (by kernel_rfl) (by simp) ?_
   intro i hi
   simp only [List.mem_cons, List.not_mem_nil, or_false] at hi
   rcases hi with rfl | rfl
   ·
    refine ⟨_, rfl, rfl, ?_⟩
    refine op_makeMap rfl rfl rfl ?_
    intro b64 hb64
    refine ⟨fx0, ?_⟩
    refine q13 11 rfl (q21 3 tS87 (LSpl.s (LSpl.c LSpl.z)) (LSet.s (LSet.s (LSet.s LSet.z))) ?_)
    refine ⟨fx0, ?_⟩
    refine JA.fix fx1 (fun fx65 => ?_)
    refine JA.tk 12 rfl fx65 q8 ?_
    refine JA.tk 13 rfl fx65 (q4 (off' := 2) tU89 tS87) ?_
    refine q13 14 rfl (q21 3 tS87 (LSpl.s (LSpl.s (LSpl.c LSpl.z))) (LSet.s (LSet.s (LSet.s LSet.z))) ?_)
    refine ⟨fx0, ?_⟩
    refine q14 ?_
    refine Ej.keep (Keeps.k (Keeps.k (Keeps.k (Keeps.k Keeps.n)))) ?_
    refine Ej.pull Pull.z ?_
    refine Ej.pull (Pull.s (Pull.s Pull.z)) ?_
    refine Ej.pull (Pull.s (Pull.s (Pull.s Pull.z))) ?_
    refine Ej.pull (Pull.s (Pull.s (Pull.s Pull.z))) ?_
    exact hcut (b58, b57, b64) _ _ _ trivial ⟨rfl, rfl, trivial⟩ rfl rfl
   refine ⟨_, rfl, rfl, ?_⟩
   refine q21 2 tS87 (LSpl.s (LSpl.c LSpl.z)) (LSet.s (LSet.s LSet.z)) ?_
   refine ⟨fx0, ?_⟩
   refine q13 5 rfl (op_makeMap rfl rfl rfl ?_)
   intro b66 hb66
   refine ⟨fx0, ?_⟩
   refine JA.fix fx1 (fun fx67 => ?_)
   refine JA.tk 12 rfl fx67 q8 ?_
   refine JA.tk 13 rfl fx67 (q4 (off' := 2) tU89 tS87) ?_
   refine q13 14 rfl (q21 3 tS87 (LSpl.s (LSpl.s (LSpl.c LSpl.z))) (LSet.s (LSet.s (LSet.s LSet.z))) ?_)
   refine ⟨fx0, ?_⟩
   refine q14 ?_
   refine Ej.keep (Keeps.k (Keeps.k (Keeps.k (Keeps.k Keeps.n)))) ?_
   refine Ej.pull Pull.z ?_
   refine Ej.pull (Pull.s (Pull.s Pull.z)) ?_
   refine Ej.pull (Pull.s (Pull.s (Pull.s Pull.z))) ?_
   refine Ej.pull (Pull.s (Pull.s (Pull.s Pull.z))) ?_
   exact hcut (b58, b57, b66) _ _ _ trivial ⟨rfl, rfl, trivial⟩ rfl rfl
  refine ⟨_, rfl, rfl, ?_⟩
  refine op_makeMap rfl rfl rfl ?_
  intro b68 hb68
  refine ⟨fx0, ?_⟩
  refine q13 3 rfl (op_makeMap rfl rfl rfl ?_)
  intro b69 hb69
  refine ⟨fx0, ?_⟩
  refine JA.fix fx1 (fun fx70 => ?_)
  refine JA.tk 6 rfl fx70 q8 ?_
  refine JA.tk 7 rfl fx70 (q4 (off' := 0) tU89 tS85) ?_
  refine q13 8 rfl (q21 3 tS85 (LSpl.c LSpl.z) (LSet.s (LSet.s (LSet.s LSet.z))) ?_)
  refine ⟨fx0, ?_⟩
  refine JA.fix fx1 (fun fx71 => ?_)
  refine JA.tk 9 rfl fx71 q8 ?_
  refine JA.tk 10 rfl fx71 (q4 (off' := 1) tU89 tS87) ?_
  refine q13 11 rfl (q21 3 tS87 (LSpl.s (LSpl.c LSpl.z)) (LSet.s (LSet.s (LSet.s LSet.z))) ?_)
  refine ⟨fx0, ?_⟩
  refine JA.fix fx1 (fun fx72 => ?_)
  refine JA.tk 12 rfl fx72 q8 ?_
  refine JA.tk 13 rfl fx72 (q4 (off' := 2) tU89 tS87) ?_
  refine q13 14 rfl (q21 3 tS87 (LSpl.s (LSpl.s (LSpl.c LSpl.z))) (LSet.s (LSet.s (LSet.s LSet.z))) ?_)
  refine ⟨fx0, ?_⟩
  refine q14 ?_
  refine Ej.keep (Keeps.k (Keeps.k (Keeps.k (Keeps.k Keeps.n)))) ?_
  refine Ej.pull (Pull.s Pull.z) ?_
  refine Ej.pull (Pull.s (Pull.s Pull.z)) ?_
  refine Ej.pull (Pull.s (Pull.s (Pull.s Pull.z))) ?_
  refine Ej.pull (Pull.s (Pull.s (Pull.s Pull.z))) ?_
  exact hcut (b69, b57, b68) _ _ _ trivial ⟨rfl, rfl, trivial⟩ rfl rfl
 refine ⟨_, rfl, rfl, ?_⟩
 refine op_makeMap rfl rfl rfl ?_
 intro b73 hb73
 refine ⟨fx0, ?_⟩
 refine JA.all [3, 4] (by kernel_rfl) (by simp) ?_
 intro i hi
 simp only [List.mem_cons, List.not_mem_nil, or_false] at hi
 rcases hi with rfl | rfl
 ·
  refine ⟨_, rfl, rfl, ?_⟩
  refine op_makeMap rfl rfl rfl ?_
  intro b74 hb74
  refine ⟨fx0, ?_⟩
  refine JA.fix fx1 (fun fx75 => ?_)
  refine JA.tk 6 rfl fx75 q8 ?_
  refine JA.tk 7 rfl fx75 (q4 (off' := 0) tU89 tS85) ?_
  refine JA.all [4, 8] (by kernel_rfl) (by simp) ?_
  intro i hi
  simp only [List.mem_cons, List.not_mem_nil, or_false] at hi
  rcases hi with rfl | rfl
  ·
   refine ⟨_, rfl, rfl, ?_⟩
   refine op_makeMap rfl rfl rfl ?_
   intro b76 hb76
   refine ⟨fx0, ?_⟩
   refine q13 8 rfl (q21 3 tS85 (LSpl.c LSpl.z) (LSet.s (LSet.s (LSet.s LSet.z))) ?_)
   refine ⟨fx0, ?_⟩
   refine JA.fix fx1 (fun fx77 => ?_)
   refine JA.tk 9 rfl fx77 q8 ?_
   refine JA.tk 10 rfl fx77 (q4 (off' := 1) tU89 tS87) ?_
   refine q13 11 rfl (q21 3 tS87 (LSpl.s (LSpl.c LSpl.z)) (LSet.s (LSet.s (LSet.s LSet.z))) ?_)
   refine ⟨fx0, ?_⟩
   refine JA.fix fx1 (fun fx78 => ?_)
   refine JA.tk 12 rfl fx78 q8 ?_
   refine JA.tk 13 rfl fx78 (q4 (off' := 2) tU89 tS87) ?_
   refine q13 14 rfl (q21 3 tS87 (LSpl.s (LSpl.s (LSpl.c LSpl.z))) (LSet.s (LSet.s (LSet.s LSet.z))) ?_)
   refine ⟨fx0, ?_⟩
   refine q14 ?_
   refine Ej.keep (Keeps.k (Keeps.k (Keeps.k (Keeps.k Keeps.n)))) ?_
   refine Ej.pull (Pull.s (Pull.s Pull.z)) ?_
   refine Ej.pull (Pull.s Pull.z) ?_
   refine Ej.pull (Pull.s (Pull.s (Pull.s Pull.z))) ?_
   refine Ej.pull (Pull.s (Pull.s (Pull.s Pull.z))) ?_
   exact hcut (b74, b76, b73) _ _ _ trivial ⟨rfl, rfl, trivial⟩ rfl rfl
  refine ⟨_, rfl, rfl, ?_⟩
  refine q21 2 tS85 (LSpl.c LSpl.z) (LSet.s (LSet.s LSet.z)) ?_
  refine ⟨fx0, ?_⟩
  refine q13 4 rfl (op_makeMap rfl rfl rfl ?_)
  intro b79 hb79
  refine ⟨fx0, ?_⟩
  refine JA.fix fx1 (fun fx80 => ?_)
  refine JA.tk 9 rfl fx80 q8 ?_
  refine JA.tk 10 rfl fx80 (q4 (off' := 1) tU89 tS87) ?_
  refine q13 11 rfl (q21 3 tS87 (LSpl.s (LSpl.c LSpl.z)) (LSet.s (LSet.s (LSet.s LSet.z))) ?_)
  refine ⟨fx0, ?_⟩
  refine JA.fix fx1 (fun fx81 => ?_)
  refine JA.tk 12 rfl fx81 q8 ?_
  refine JA.tk 13 rfl fx81 (q4 (off' := 2) tU89 tS87) ?_
  refine q13 14 rfl (q21 3 tS87 (LSpl.s (LSpl.s (LSpl.c LSpl.z))) (LSet.s (LSet.s (LSet.s LSet.z))) ?_)
  refine ⟨fx0, ?_⟩
  refine q14 ?_
  refine Ej.keep (Keeps.k (Keeps.k (Keeps.k (Keeps.k Keeps.n)))) ?_
  refine Ej.pull (Pull.s (Pull.s Pull.z)) ?_
  refine Ej.pull (Pull.s Pull.z) ?_
  refine Ej.pull (Pull.s (Pull.s (Pull.s Pull.z))) ?_
  refine Ej.pull (Pull.s (Pull.s (Pull.s Pull.z))) ?_
  exact hcut (b74, b79, b73) _ _ _ trivial ⟨rfl, rfl, trivial⟩ rfl rfl
 refine ⟨_, rfl, rfl, ?_⟩
 refine op_makeMap rfl rfl rfl ?_
 intro b82 hb82
 refine ⟨fx0, ?_⟩
 refine q13 3 rfl (op_makeMap rfl rfl rfl ?_)
 intro b83 hb83
 refine ⟨fx0, ?_⟩
 refine JA.fix fx1 (fun fx84 => ?_)
 refine JA.tk 6 rfl fx84 q8 ?_
 refine JA.tk 7 rfl fx84 (q4 (off' := 0) tU89 tS85) ?_
 refine q13 8 rfl (q21 3 tS85 (LSpl.c LSpl.z) (LSet.s (LSet.s (LSet.s LSet.z))) ?_)
 refine ⟨fx0, ?_⟩
 refine JA.fix fx1 (fun fx85 => ?_)
 refine JA.tk 9 rfl fx85 q8 ?_
 refine JA.tk 10 rfl fx85 (q4 (off' := 1) tU89 tS87) ?_
 refine q13 11 rfl (q21 3 tS87 (LSpl.s (LSpl.c LSpl.z)) (LSet.s (LSet.s (LSet.s LSet.z))) ?_)
 refine ⟨fx0, ?_⟩
 refine JA.fix fx1 (fun fx86 => ?_)
 refine JA.tk 12 rfl fx86 q8 ?_
 refine JA.tk 13 rfl fx86 (q4 (off' := 2) tU89 tS87) ?_
 refine q13 14 rfl (q21 3 tS87 (LSpl.s (LSpl.s (LSpl.c LSpl.z))) (LSet.s (LSet.s (LSet.s LSet.z))) ?_)
 refine ⟨fx0, ?_⟩
 refine q14 ?_
 refine Ej.keep (Keeps.k (Keeps.k (Keeps.k (Keeps.k Keeps.n)))) ?_
 refine Ej.pull (Pull.s (Pull.s Pull.z)) ?_
 refine Ej.pull (Pull.s (Pull.s Pull.z)) ?_
 refine Ej.pull (Pull.s (Pull.s (Pull.s Pull.z))) ?_
 refine Ej.pull (Pull.s (Pull.s (Pull.s Pull.z))) ?_
 exact hcut (b83, b82, b73) _ _ _ trivial ⟨rfl, rfl, trivial⟩ rfl rfl
end Go.Proofs.YtjcdfnbomkoheaaGreatDoor
end
section
namespace Go.SxD
open Go
abbrev Heap := Nat → Option Obj
abbrev HL := List (Nat × Obj)
abbrev Env := List (Nat × Value)
def eg : Env → Nat → Option Value
  | [], _ => none
  | (k, v) :: r, t => bif Nat.beq k t then some v else eg r t
def ev (e : Env) : Operand → Option Value
  | .tmp t => eg e t
  | .const v => some v
  | .global g => some (.pointer (some ⟨g, 0, none⟩))
  | .func f => some (.func (.func f) #[] #[])
def evs (e : Env) : List Operand → Option (List Value)
  | [] => some []
  | x :: r => match ev e x, evs e r with
    | some v, some vs => some (v :: vs)
    | _, _ => none
structure Has (a : Act) (n : Nat) (e : Env) (ds : List Deferred) : Prop where
  size : a.tmps.size = n
  defs : a.defers = ds
  get : ∀ t v, eg e t = some v → a.tmps[t]? = some v
theorem eg_cons (k : Nat) (v : Value) (r : Env) (t : Nat) : eg ((k, v) :: r) t = if k = t then some v else eg r t := by
  show (bif Nat.beq k t then some v else eg r t) = _
  by_cases h : k = t
  · subst h; simp
  have : Nat.beq k t = false := by
    cases hb : Nat.beq k t with
    | false => rfl
    | true => exact absurd (Nat.eq_of_beq_eq_true hb) h
  rw [this, if_neg h]; rfl
section has
variable {a : Act} {n : Nat} {e : Env} {ds : List Deferred}
theorem Has.eval (h : Has a n e ds) {x : Operand} {v : Value} (hx : ev e x = some v) : a.eval x = v := by
  cases x with
  | tmp t =>
    have := h.get t v hx
    simp [Act.eval, this]
  | const c => simpa [ev, Act.eval] using hx
  | global g => simpa [ev, Act.eval] using hx
  | func f => simpa [ev, Act.eval] using hx
theorem Has.evals (h : Has a n e ds) : ∀ {xs : List Operand} {vs : List Value}, evs e xs = some vs → xs.map a.eval = vs
  | [], vs, hx => by simp [evs] at hx; subst hx; rfl
  | x :: r, vs, hx => by
    simp only [evs] at hx
    split at hx
    · rename_i v vs' h1 h2
      cases hx
      simp [h.eval h1, Has.evals h h2]
    cases hx
theorem Has.put (h : Has a n e ds) {d : Nat} {v : Value} (hd : Nat.blt d n = true) : Has (a.put (some d) v) n ((d, v) :: e) ds := by
  have hd' : d < n := by simpa [Nat.blt_eq] using hd
  refine ⟨by simpa [Act.put] using h.size, by simpa [Act.put] using h.defs, fun t u hu => ?_⟩
  rw [eg_cons] at hu
  have hs := h.size
  by_cases hk : d = t
  · subst hk
    simp at hu; subst hu
    simp [Act.put, hs, hd']
  simp only [hk, if_false] at hu
  simp [Act.put, hk]
  have := h.get t u hu
  simpa using this
end has
def argsEnv : Nat → List Value → Env
  | _, [] => []
  | k, v :: r => (k, v) :: argsEnv (k + 1) r
theorem argsEnv_get : ∀ (l : List Value) (k t : Nat) (v : Value), eg (argsEnv k l) t = some v → k ≤ t ∧ l[t - k]? = some v
  | [], k, t, v, h => by simp [argsEnv, eg] at h
  | u :: r, k, t, v, h => by
    simp only [argsEnv] at h
    rw [eg_cons] at h
    by_cases hk : k = t
    · subst hk; simp at h; subst h; simp
    simp only [hk, if_false] at h
    obtain ⟨h1, h2⟩ := argsEnv_get r (k + 1) t v h
    refine ⟨by omega, ?_⟩
    have : t - k = (t - (k + 1)) + 1 := by omega
    rw [this]; simpa using h2
theorem Has.start (l : List Value) (n : Nat) (hn : l.length ≤ n) :
    Has { tmps := l.toArray ++ Array.replicate (n - l.toArray.size) undef, defers := [] } n (argsEnv 0 l) [] := by
  refine ⟨by simp; omega, rfl, fun t v h => ?_⟩
  obtain ⟨_, h2⟩ := argsEnv_get l 0 t v h
  have ht : t < l.length := by
    rcases Nat.lt_or_ge t l.length with h' | h'
    · exact h'
    simp [List.getElem?_eq_none h'] at h2
  simp only [Nat.sub_zero] at h2
  rw [Array.getElem?_append_left (by simpa using ht)]
  simpa using h2
def Le (I I' : Heap) : Prop := ∀ b o, I b = some o → I' b = some o
theorem Le.refl (I : Heap) : Le I I := fun _ _ h => h
theorem Le.trans {I J K : Heap} (h : Le I J) (k : Le J K) : Le I K := fun b o x => k b o (h b o x)
structure St (w0 : World) (D : List Nat) (I0 I : Heap) (H : HL) (w : World) : Prop where
  os : w.os = w0.os
  tape : w.tape = w0.tape
  output : w.output = w0.output
  size : w0.heap.size ≤ w.heap.size
  frm : ∀ b, b < w0.heap.size → b ∉ D → w.heap[b]? = w0.heap[b]?
  sub : ∀ b o, I b = some o → w.heap[b]? = some o
  own : ∀ p ∈ H, w.heap[p.1]? = some p.2
  nodup : (H.map (·.1)).Nodup
  dis : ∀ p ∈ H, I p.1 = none
  new : ∀ p ∈ H, p.1 ∈ D ∨ w0.heap.size ≤ p.1
  ifr : ∀ b, b < w0.heap.size → I b = I0 b
  le : Le I0 I
  drw : w0.drawn ≤ w.drawn
theorem St.start (w : World) (I : Heap) (H : HL) (h1 : ∀ b o, I b = some o → w.heap[b]? = some o) (h2 : ∀ p ∈ H, w.heap[p.1]? = some p.2)
    (h3 : (H.map (·.1)).Nodup) (h4 : ∀ p ∈ H, I p.1 = none) : St w (H.map (·.1)) I I H w :=
  ⟨rfl, rfl, rfl, Nat.le_refl _, fun _ _ _ => rfl, h1, h2, h3, h4, fun _p hp => .inl (List.mem_map_of_mem hp), fun _ _ => rfl, Le.refl _, Nat.le_refl _⟩
section st
variable {w0 : World} {D : List Nat} {I0 I : Heap} {H : HL} {w : World}
theorem St.lt (h : St w0 D I0 I H w) {p : Nat × Obj} (hp : p ∈ H) : p.1 < w.heap.size := by
  have := h.own p hp
  rcases Nat.lt_or_ge p.1 w.heap.size with h' | h'
  · exact h'
  simp [Array.getElem?_eq_none h'] at this
theorem St.drew (h : St w0 D I0 I H w) : St w0 D I0 I H { w with drawn := w.drawn + 1 } :=
  ⟨h.os, h.tape, h.output, h.size, h.frm, h.sub, h.own, h.nodup, h.dis, h.new, h.ifr, h.le, Nat.le_succ_of_le h.drw⟩
theorem St.keep {H' : HL} (h : St w0 D I0 I H w) (hs : ∀ p ∈ H', p ∈ H) (hn : (H'.map (·.1)).Nodup) : St w0 D I0 I H' w :=
  ⟨h.os, h.tape, h.output, h.size, h.frm, h.sub, fun p hp => h.own p (hs p hp), hn, fun p hp => h.dis p (hs p hp), fun p hp => h.new p (hs p hp), h.ifr, h.le, h.drw⟩
theorem St.sublist {H' : HL} (h : St w0 D I0 I H w) (hs : H'.Sublist H) : St w0 D I0 I H' w :=
  h.keep (fun _ hp => hs.subset hp) (h.nodup.sublist (hs.map _))
theorem St.perm {H' : HL} (h : St w0 D I0 I H w) (hs : H'.Perm H) : St w0 D I0 I H' w :=
  h.keep (fun _ hp => hs.mem_iff.1 hp) ((hs.map _).nodup_iff.2 h.nodup)
theorem St.alloc (h : St w0 D I0 I H w) (o : Obj) : St w0 D I0 I ((w.heap.size, o) :: H) { w with heap := w.heap.push o } := by
  have hlt : ∀ {b : Nat} {o' : Obj}, w.heap[b]? = some o' → b < w.heap.size := fun {b o'} hb => by
    rcases Nat.lt_or_ge b w.heap.size with h' | h'
    · exact h'
    simp [Array.getElem?_eq_none h'] at hb
  have hold : ∀ {b : Nat} {o' : Obj}, w.heap[b]? = some o' → (w.heap.push o)[b]? = some o' := fun {b o'} hb => by
    rw [Array.getElem?_push, if_neg (by have := hlt hb; omega)]; exact hb
  refine ⟨h.os, h.tape, h.output, by have := h.size; simp; omega, fun b hb hd => ?_, fun b o' hb => hold (h.sub b o' hb), ?_, ?_, ?_, ?_, h.ifr, h.le, h.drw⟩
  · rw [← h.frm b hb hd]
    show (w.heap.push o)[b]? = _
    rw [Array.getElem?_push, if_neg (by have := h.size; omega)]
  · intro p hp
    cases hp with
    | head => simp
    | tail _ hp => exact hold (h.own p hp)
  · simp only [List.map_cons, List.nodup_cons]
    refine ⟨fun hm => ?_, h.nodup⟩
    obtain ⟨p, hp, he⟩ := List.mem_map.1 hm
    have := h.lt hp
    omega
  · intro p hp
    cases hp with
    | head =>
      cases hi : I w.heap.size with
      | none => rfl
      | some o' => have := hlt (h.sub _ _ hi); omega
    | tail _ hp => exact h.dis p hp
  intro p hp
  cases hp with
  | head => exact .inr h.size
  | tail _ hp => exact h.new p hp
end st
theorem St.call {w0 w w' : World} {D : List Nat} {I0 I I' : Heap} {H1 H1' R : HL} (h : St w0 D I0 I (H1 ++ R) w) (k : St w (H1.map (·.1)) I I' H1' w') :
    St w0 D I0 I' (H1' ++ R) w' := by
  have hnd := h.nodup
  rw [List.map_append, List.nodup_append] at hnd
  obtain ⟨n1, n2, n3⟩ := hnd
  have hR : ∀ p ∈ R, p.1 < w.heap.size := fun p hp => h.lt (List.mem_append_right _ hp)
  have hRD : ∀ p ∈ R, p.1 ∉ H1.map (·.1) := fun p hp hm => n3 _ hm _ (List.mem_map_of_mem hp) rfl
  refine ⟨k.os.trans h.os, k.tape.trans h.tape, k.output.trans h.output, Nat.le_trans h.size k.size, fun b hb hd => ?_, k.sub, fun p hp => ?_, ?_, fun p hp => ?_, fun p hp => ?_, fun b hb => ?_, h.le.trans k.le, Nat.le_trans h.drw k.drw⟩
  · have hnot : b ∉ H1.map (·.1) := fun hm => by
      obtain ⟨p, hp, he⟩ := List.mem_map.1 hm
      rcases h.new p (List.mem_append_left _ hp) with h' | h'
      · exact hd (he ▸ h')
      omega
    rw [k.frm b (Nat.lt_of_lt_of_le hb h.size) hnot]
    exact h.frm b hb hd
  · rcases List.mem_append.1 hp with hp | hp
    · exact k.own p hp
    rw [k.frm _ (hR p hp) (hRD p hp)]
    exact h.own p (List.mem_append_right _ hp)
  · rw [List.map_append, List.nodup_append]
    refine ⟨k.nodup, n2, fun x hx y hy he => ?_⟩
    obtain ⟨p, hp, hpx⟩ := List.mem_map.1 hx
    obtain ⟨q, hq, hqy⟩ := List.mem_map.1 hy
    rcases k.new p hp with h' | h'
    · exact hRD q hq (by rw [hqy, ← he, ← hpx]; exact h')
    have := hR q hq; omega
  · rcases List.mem_append.1 hp with hp | hp
    · exact k.dis p hp
    rw [k.ifr _ (hR p hp)]; exact h.dis p (List.mem_append_right _ hp)
  · rcases List.mem_append.1 hp with hp | hp
    · rcases k.new p hp with h' | h'
      · obtain ⟨q, hq, he⟩ := List.mem_map.1 h'
        rw [← he]; exact h.new q (List.mem_append_left _ hq)
      exact .inr (Nat.le_trans h.size h')
    exact h.new p (List.mem_append_right _ hp)
  rw [k.ifr b (Nat.lt_of_lt_of_le hb h.size)]; exact h.ifr b hb
def SS (I : Heap) (H : HL) (w : World) : Prop := (∀ b o, I b = some o → w.heap[b]? = some o) ∧ ∀ p ∈ H, w.heap[p.1]? = some p.2
theorem St.ss {w0 w : World} {D : List Nat} {I0 I : Heap} {H : HL} (h : St w0 D I0 I H w) : SS I H w := ⟨h.sub, h.own⟩
def Blk (S : World → Prop) (b : Nat) (o : Obj) : Prop := ∀ w, S w → w.heap[b]? = some o
theorem Blk.at {I : Heap} {H : HL} {b : Nat} {o : Obj} (i : Nat) (h : H[i]? = some (b, o)) : Blk (SS I H) b o := fun _ hs => hs.2 _ (List.mem_of_getElem? h)
abbrev CL := List (Nat × Nat × Value)
def SC (I : Heap) (A : HL) (Z : CL) (w : World) : Prop := SS I A w ∧ ∀ c ∈ Z, w.cell? ⟨c.1, c.2.1, none⟩ = some c.2.2
theorem Blk.atC {I : Heap} {A : HL} {Z : CL} {b : Nat} {o : Obj} (i : Nat) (h : A[i]? = some (b, o)) : Blk (SC I A Z) b o := fun _ hs => hs.1.2 _ (List.mem_of_getElem? h)
structure Cx where
  P : Program
  n : Nat
  w0 : World
  D : List Nat
  I0 : Heap
  ds : List Deferred
  rd : Option Nat := none
def Cx.F (cx : Cx) : Fence := { Fence.wide with round := cx.rd }
abbrev Qt := Exit → Act → World → Prop
def Cj (cx : Cx) (Q : Qt) (c : Code) (e : Env) (I : Heap) (H : HL) : Prop :=
  ∀ a w, Has a cx.n e cx.ds → St cx.w0 cx.D cx.I0 I H w → c.wpIn cx.F 0 cx.P Q a w
def Ej (cx : Cx) (Q : Qt) (x : Exit) (e : Env) (I : Heap) (H : HL) : Prop :=
  ∀ a w, Has a cx.n e cx.ds → St cx.w0 cx.D cx.I0 I H w → Q x a w
def J (cx : Cx) (Q : Qt) (ops : Array Oper) (l : List Oper) (e : Env) (I : Heap) (H : HL) : Prop :=
  ∀ a w, Has a cx.n e cx.ds → St cx.w0 cx.D cx.I0 I H w → wpListIn cx.F 0 cx.P ops Q l a w
abbrev Ct := Env → Heap → HL → Prop
def OpJ (cx : Cx) (Q : Qt) (o : Oper) (e : Env) (I : Heap) (H : HL) (C : Ct) : Prop :=
  ∀ K : Act → World → Prop, (∀ e' I' H', C e' I' H' → ∀ a w, Has a cx.n e' cx.ds → St cx.w0 cx.D cx.I0 I' H' w → K a w) →
    ∀ a w, Has a cx.n e cx.ds → St cx.w0 cx.D cx.I0 I H w → o.wp cx.P a w K Q
theorem fence_calls {rd : Option Nat} {n : Nat} {P : Program} {f : FuncId} {args : Array Value} {w : World} {R : Ending → World → Prop} (h : Calls P f args w R) : CallsIn { Fence.wide with round := rd } n P f args w R := by
  have := (callsIn_wide (n := n)).2 h
  cases rd with
  | none => exact this
  | some l => exact this
theorem fence_rows {rd : Option Nat} {n : Nat} {P : Program} {row : String} {args : Array Value} {w : World} {R : Value → World → Prop} (h : Rows P row args w R) : RowsIn { Fence.wide with round := rd } n P row args w R := by
  have : RowsIn Fence.wide n P row args w R := fun c cs _ => let ⟨v, w', hr, hs⟩ := h c cs; ⟨v, w', hr, stepsIn_wide.2 hs⟩
  cases rd with
  | none => exact this
  | some l => exact this
theorem fence_upon {rd : Option Nat} {n : Nat} {P : Program} {o : Oper} {a : Act} {K : Act → World → Prop} {Q : Qt} {r : Result Next} (h : o.upon P a K Q r) : o.uponIn { Fence.wide with round := rd } n P a K Q r := by
  cases r with
  | ok x w' =>
    cases x <;> simp only [Oper.upon, Oper.uponIn] at h ⊢ <;>
      first
        | exact h
        | exact ⟨fun h => by simp [Fence.wide] at h, fence_calls h⟩
        | exact ⟨fun h => by simp [Fence.wide] at h, fence_rows h⟩
  | halt x w' => cases x <;> simp only [Oper.upon, Oper.uponIn] at h ⊢ <;> exact h
theorem fence_wp {rd : Option Nat} {n : Nat} {P : Program} {o : Oper} {a : Act} {w : World} {K : Act → World → Prop} {Q : Qt} (hd : rd = none ∨ ∀ c, o.op ≠ .defer c) (h : o.wp P a w K Q) : o.wpIn { Fence.wide with round := rd } n P a w K Q := by
  refine ⟨fun _ _ => trivial, ?_⟩
  have he : o.semAt rd a.eval = execOp a.eval o := by
    rcases hd with rfl | hd
    · rfl
    exact Oper.semAt_eq rd a.eval o hd
  show o.uponIn _ n P a K Q ((o.semAt rd a.eval).run P w)
  rw [he]
  exact fence_upon h
theorem OpJ.toIn {cx : Cx} {Q : Qt} {o : Oper} {e : Env} {I : Heap} {H : HL} {C : Ct} (h : OpJ cx Q o e I H C) (K : Act → World → Prop)
    (hK : ∀ e' I' H', C e' I' H' → ∀ a w, Has a cx.n e' cx.ds → St cx.w0 cx.D cx.I0 I' H' w → K a w) (a : Act) (w : World) (ha : Has a cx.n e cx.ds) (hs : St cx.w0 cx.D cx.I0 I H w) : o.wpIn cx.F 0 cx.P a w K Q := by
  by_cases hd : ∃ c, o.op = .defer c
  · obtain ⟨c, hc⟩ := hd
    have h1 := h (fun a' w' => K a' w' ∧ a'.defers = cx.ds) (fun e' I' H' hC a w ha' hs' => ⟨hK e' I' H' hC a w ha' hs', ha'.defs⟩) a w ha hs
    refine ⟨fun _ _ => trivial, ?_⟩
    unfold Oper.wp at h1
    have hx : (execOp a.eval o).run cx.P w = ((resolve a.eval c o.type).run cx.P w).andThen fun d w' => .ok (.defer d) w' := by
      simp only [execOp, hc, Sem.run_bind]
      rfl
    rw [hx] at h1
    cases hr : (resolve a.eval c o.type).run cx.P w with
    | ok d w' =>
      rw [hr] at h1
      simp only [Result.andThen_ok, Oper.upon] at h1
      have h2 := h1.2
      have h3 : ({ a with defers := d :: a.defers }.put o.dst undef).defers = d :: a.defers := by
        cases o.dst <;> rfl
      rw [h3, ha.defs] at h2
      exact absurd (congrArg List.length h2) (by simp)
    | halt x w' =>
      rw [hr] at h1
      have hy : (o.semAt cx.F.round a.eval).run cx.P w = .halt x w' := by
        unfold Oper.semAt
        cases cx.F.round with
        | none => simp only [hx, hr]; rfl
        | some l => simp only [hc, Sem.run_bind, hr]; rfl
      rw [hy]
      have h4 : (Result.andThen (.halt x w' : Result Deferred) fun d w' => (.ok (.defer d) w' : Result Next)) = .halt x w' := rfl
      rw [h4] at h1
      cases x <;> simp only [Oper.upon, Oper.uponIn] at h1 ⊢ <;> exact h1
  have h1 := h K hK a w ha hs
  exact fence_wp (rd := cx.rd) (.inr fun c hc => hd ⟨c, hc⟩) h1
theorem Cx.wide {cx : Cx} (h : cx.rd = none) : cx.F = Fence.wide := by
  unfold Cx.F; rw [h]; rfl
theorem Cj.of_wp {cx : Cx} {Q : Qt} {c : Code} {e : Env} {I : Heap} {H : HL} (hr : cx.rd = none) (h : ∀ a w, Has a cx.n e cx.ds → St cx.w0 cx.D cx.I0 I H w → c.wp cx.P Q a w) : Cj cx Q c e I H := fun a w ha hs => by
  rw [Cx.wide hr]; exact wpIn_wide.2 (h a w ha hs)
theorem Cj.wp {cx : Cx} {Q : Qt} {c : Code} {e : Env} {I : Heap} {H : HL} (h : Cj cx Q c e I H) (hr : cx.rd = none) {a : Act} {w : World} (ha : Has a cx.n e cx.ds) (hs : St cx.w0 cx.D cx.I0 I H w) : c.wp cx.P Q a w := by
  have := h a w ha hs
  rw [Cx.wide hr] at this; exact wpIn_wide.1 this
section rules
variable {cx : Cx} {Q : Qt} {e : Env} {I : Heap} {H : HL}
theorem Cj.region {id : Nat} {l : List Oper} (h : J cx Q l.toArray l e I H) : Cj cx Q (.region id l.toArray false) e I H :=
  fun a w ha hs => wpIn_region_lit (h a w ha hs)
theorem J.nil {ops : Array Oper} (h : Ej cx Q .normal e I H) : J cx Q ops [] e I H := fun a w ha hs => wpListIn_nil (h a w ha hs)
theorem J.op {ops : Array Oper} {o : Oper} {l : List Oper} (hg : o.guard = none) (h : OpJ cx Q o e I H (J cx Q ops l)) : J cx Q ops (o :: l) e I H :=
  fun a w ha hs => wpListIn_plain hg fun K hK => h.toIn K (fun _ _ _ hc a w ha hs => hK a w (hc a w ha hs)) a w ha hs
theorem Cj.seq {x y : Code} (h : Cj cx (Exit.then (y.wpIn cx.F 0 cx.P Q) Q) x e I H) : Cj cx Q (.seq x y) e I H := fun a w ha hs => wpIn_seq (h a w ha hs)
theorem Ej.seq {y : Code} (h : Cj cx Q y e I H) : Ej cx (Exit.then (y.wpIn cx.F 0 cx.P Q) Q) .normal e I H := fun a w ha hs => h a w ha hs
theorem Ej.seqRet {K : Act → World → Prop} (h : Ej cx Q .ret e I H) : Ej cx (Exit.then K Q) .ret e I H := fun a w ha hs => h a w ha hs
theorem Cj.skip (h : Ej cx Q .normal e I H) : Cj cx Q .skip e I H := fun a w ha hs => wpIn_skip (h a w ha hs)
theorem Cj.ret (h : Ej cx Q .ret e I H) : Cj cx Q .ret e I H := fun a w ha hs => wpIn_ret (h a w ha hs)
theorem Cj.cond {c : Operand} {x y : Code} {t : Bool} (hc : ev e c = some (.bool t)) (h1 : t = true → Cj cx Q x e I H) (h2 : t = false → Cj cx Q y e I H) : Cj cx Q (.cond c x y) e I H :=
  fun a w ha hs => wpIn_cond_split (ha.eval hc) (fun h => h1 h a w ha hs) (fun h => h2 h a w ha hs)
theorem Ej.keep {x : Exit} {H' : HL} (hs : H'.Sublist H) (h : Ej cx Q x e I H') : Ej cx Q x e I H := fun a w ha h1 => h a w ha (h1.sublist hs)
section round
variable {ι : Type} {pre : ι → Prop} {μ : ι → Nat} {i : ι} {env : ι → Env} {hp : ι → Heap} {hl : ι → HL}
end round
end rules
end Go.SxD
namespace Go.SxD
open Go
def Yld (cx : Cx) (o : Oper) (e : Env) (S : World → Prop) (v : Value) : Prop :=
  ∀ a w, Has a cx.n e cx.ds → S w → (execOp a.eval o).run cx.P w = .ok (.value v) w
def str (l : List UInt8) : Value := .string ⟨l.toArray⟩
abbrev i64 (n : Int) : Value := .int .i64 n
abbrev ptr (b o : Nat) : Value := .pointer (some ⟨b, o, none⟩)
def cel (t : TypeId) (l : List Value) : Obj := .cells l.toArray t (0, 0)
section
variable {cx : Cx} {Q : Qt} {o : Oper} {e : Env} {I : Heap} {H : HL} {C : Ct} {S : World → Prop}
theorem op_yld {d : Nat} {v : Value} (hy : Yld cx o e (SS I H) v) (ho : o.dst = some d) (hd : Nat.blt d cx.n = true) (k : C ((d, v) :: e) I H) : OpJ cx Q o e I H C := by
  intro K hK a w ha hs
  unfold Oper.wp
  rw [hy a w ha hs.ss]
  simp only [Oper.upon, ho]
  exact hK _ _ _ k _ _ (ha.put hd) hs
theorem J.y {ops : Array Oper} {l : List Oper} {d : Nat} {v : Value} (hy : Yld cx o e (SS I H) v) (hg : o.guard = none) (ho : o.dst = some d) (hd : Nat.blt d cx.n = true)
    (k : J cx Q ops l ((d, v) :: e) I H) : J cx Q ops (o :: l) e I H := J.op hg (op_yld hy ho hd k)
theorem J.z {ops : Array Oper} {l : List Oper} {d : Nat} {v : Value} (hy : Yld cx o e (SS I H) v) (k : J cx Q ops l ((d, v) :: e) I H) (hg : o.guard = none := by rfl) (ho : o.dst = some d := by rfl) (hd : Nat.blt d cx.n = true := by rfl) : J cx Q ops (o :: l) e I H := J.y hy hg ho hd k
theorem yl_move {x : Operand} {v : Value} (ho : o.op = .move x) (hx : ev e x = some v) : Yld cx o e S v := by
  intro a w ha _
  simp only [execOp, ho, Sem.run_pure, ha.eval hx]
theorem yl_assign {x : Operand} {v : Value} (ho : o.op = .assign x) (hx : ev e x = some v) : Yld cx o e S v := by
  intro a w ha _
  simp only [execOp, ho, Sem.run_pure, ha.eval hx]
theorem yl_fieldAddr {x : Operand} {T k b off off' m : Nat} {fs : Array Field} {f : Field} (ho : o.op = .fieldAddr T x k) (hx : ev e x = some (ptr b off))
    (hu : cx.P.underlying T = some (.struct fs)) (hf : fs[k]? = some f) (hsz : ∀ w, (sizeOf f.type).run cx.P w = .ok (m + 1) w) (hoff : off + f.offset = off') :
    Yld cx o e S (ptr b off') := by
  intro a w ha _
  subst hoff
  simp [execOp, ho, ha.eval hx, Instr.fieldAt, run_underlying hu, hf, Instr.sureAddr, fieldPlace, hsz, Addr.add_lit]
theorem cell_of_heap {w : World} {b off : Nat} {cs : List Value} {t : TypeId} {fr : Nat × Nat} {v : Value} (h : w.heap[b]? = some (.cells cs.toArray t fr)) (hv : cs[off]? = some v) :
    w.cell? ⟨b, off, none⟩ = some v := by
  simp [World.cell?, h, hv]
theorem yl_load {x : Operand} {T b off : Nat} {cs : List Value} {t : TypeId} {fr : Nat × Nat} {v : Value} (ho : o.op = .load T x) (hx : ev e x = some (ptr b off))
    (ha0 : ∀ w, (isAgg T).run cx.P w = .ok false w) (hb : Blk S b (.cells cs.toArray t fr)) (hv : cs[off]? = some v) : Yld cx o e S v := by
  intro a w ha hs
  have hc := cell_of_heap (hb w hs) hv
  simp [execOp, ho, ha.eval hx, Instr.loadAt, Instr.sureAddr, loadVar, ha0, hc]
theorem yl_neqStr {x y : Operand} {T U : Nat} {l m : List UInt8} (ho : o.op = .binOp .neq T x y U) (hx : ev e x = some (str l)) (hy : ev e y = some (str m)) : Yld cx o e S (.bool (l != m)) := by
  intro a w ha _
  simp [execOp, ho, ha.eval hx, ha.eval hy, str, eqGuard_at_string, binOp, Op.stringOp, bne]
end
end Go.SxD
namespace Go.SxD
open Go
def LCat (vs : List Value) (sz : Nat) (cs : List Value) : Prop := (∀ v ∈ vs, v.cells.size = sz) ∧ vs.flatMap (fun v => v.cells.toList) = cs
theorem LCat.none {sz : Nat} : LCat [] sz [] := ⟨by simp, rfl⟩
theorem LCat.one {v : Value} {vs cs : List Value} (h1 : v.cells = #[v]) (h : LCat vs 1 cs) : LCat (v :: vs) 1 (v :: cs) :=
  ⟨fun u hu => by cases hu with | head => rw [h1]; rfl | tail _ hu => exact h.1 u hu, by rw [List.flatMap_cons, h1, h.2]; rfl⟩
theorem foldl_put : ∀ (xs : List Value) (k : Nat) (pre old post : List Value) (off : Nat), old.length = xs.length → pre.length = off + k →
    (xs.zipIdx k).foldl (fun cs (x : Value × Nat) => cs.setIfInBounds (off + x.2) x.1) (pre ++ old ++ post).toArray = (pre ++ xs ++ post).toArray
  | [], k, pre, old, post, off, h, _ => by
    have : old = [] := List.length_eq_zero_iff.1 (by simpa using h)
    subst this; simp
  | x :: xs, k, pre, old, post, off, h, hp => by
    obtain ⟨y, r, rfl⟩ : ∃ y r, old = y :: r := by
      cases old with
      | nil => simp at h
      | cons y r => exact ⟨y, r, rfl⟩
    simp only [List.zipIdx_cons, List.foldl_cons]
    have h1 : (pre ++ y :: r ++ post).toArray.setIfInBounds (off + k) x = ((pre ++ [x]) ++ r ++ post).toArray := by
      rw [List.setIfInBounds_toArray]
      congr 1
      rw [List.append_assoc, List.set_append_right _ _ (by omega), hp, Nat.sub_self]
      simp
    rw [h1, foldl_put xs (k + 1) (pre ++ [x]) r post off (by simpa using h) (by simp; omega)]
    simp
theorem fill_cat {sz : Nat} : ∀ (vs : List Value) (k : Nat) (pre rest : List Value), (∀ v ∈ vs, v.cells.size = sz) → pre.length = k * sz → rest.length = vs.length * sz →
    Instr.fill (fun i => some (i * sz, sz)) (pre ++ rest).toArray ((List.range' k vs.length).zip vs) = some (pre ++ vs.flatMap (fun v => v.cells.toList)).toArray
  | [], k, pre, rest, _, _, hr => by
    have : rest = [] := List.length_eq_zero_iff.1 (by simpa using hr)
    subst this; simp [Instr.fill]
  | v :: vs, k, pre, rest, hv, hp, hr => by
    have h1 : v.cells.toList.length = sz := by simpa using hv v (.head _)
    have hr' : rest.length = sz + vs.length * sz := by rw [hr]; simp [Nat.add_mul]; omega
    have hs1 : v.cells.size = sz := hv v (.head _)
    simp only [List.length_cons, List.range'_succ, List.zip_cons_cons, Instr.fill]
    rw [if_neg (by simp [hs1, hp]; omega)]
    have h2 : v.cells.zipIdx.foldl (fun cs (x : Value × Nat) => cs.setIfInBounds (k * sz + x.2) x.1) (pre ++ rest).toArray = (pre ++ v.cells.toList ++ rest.drop sz).toArray := by
      rw [← foldl_put v.cells.toList 0 pre (rest.take sz) (rest.drop sz) (k * sz) (by simp; omega) (by omega)]
      rw [List.append_assoc pre, List.take_append_drop]
      rw [← Array.foldl_toList, Array.toList_zipIdx]
    rw [h2, fill_cat vs (k + 1) (pre ++ v.cells.toList) (rest.drop sz) (fun u hu => hv u (.tail _ hu)) (by simp [hs1, hp, Nat.add_mul]) (by simp; omega)]
    simp [List.flatMap_cons]
section
variable {cx : Cx} {Q : Qt} {o : Oper} {e : Env} {I : Heap} {H : HL} {C : Ct}
theorem op_box {T d : Nat} {x : Operand} {z : Value} {zs : List Value} (ho : o.op = .box T x) (hd : o.dst = some d) (hn : Nat.blt d cx.n = true) (hx : ev e x = some z) (hc : z.cells = zs.toArray)
    (k : ∀ b, cx.w0.heap.size ≤ b → C ((d, ptr b 0) :: e) I ((b, cel T zs) :: H)) : OpJ cx Q o e I H C := by
  intro K hK a w ha hs
  unfold Oper.wp
  have : (execOp a.eval o).run cx.P w = .ok (.value (ptr w.heap.size 0)) { w with heap := w.heap.push (cel T zs) } := by
    simp [execOp, ho, Instr.box, ha.eval hx, newVar, newRow, hc, cel]
  rw [this]
  simp only [Oper.upon, hd]
  exact hK _ _ _ (k _ hs.size) _ _ (ha.put hn) (hs.alloc _)
theorem op_buildSlice {T E d len sz : Nat} {parts : List (Nat × Operand)} {vs : List Value} {z : Value} {cells : List Value} (ho : o.op = .buildSlice T len parts.toArray) (hd : o.dst = some d) (hn : Nat.blt d cx.n = true)
    (hu : cx.P.underlying T = some (.slice E)) (hsz : ∀ w, (sizeOf E).run cx.P w = .ok sz w) (hz : ∀ w, (zeroValue E).run cx.P w = .ok z w) (hbig : (Nat.ble (len * sz) (2 ^ 24) && Nat.blt 0 (len * sz)) = true)
    (hv : evs e (parts.map (·.2)) = some vs) (hi : parts.map (·.1) = List.range' 0 vs.length) (hl : vs.length = len) (hf : LCat vs sz cells)
    (k : ∀ b, cx.w0.heap.size ≤ b → C ((d, .slice (some ⟨b, 0, none⟩) len len) :: e) I ((b, cel E cells) :: H)) : OpJ cx Q o e I H C := by
  intro K hK a w ha hs
  unfold Oper.wp
  have hp : (parts.toArray.map fun (i, x) => (i, a.eval x)).toList = (List.range' 0 vs.length).zip vs := by
    have h := ha.evals hv
    rw [← hi, ← h]
    simp [List.zip_map', List.map_map]
  have hb1 : ¬ (len * sz > 2 ^ 24) := by
    simp only [Bool.and_eq_true, Nat.ble_eq] at hbig; omega
  have hb2 : ¬ (len * sz = 0) := by
    simp only [Bool.and_eq_true, Nat.blt_eq] at hbig; omega
  have hfl : Instr.fill (fun i => some (i * sz, sz)) ((Array.range (len * sz)).map (z.cells[· % z.cells.size]!)) ((List.range' 0 vs.length).zip vs) = some cells.toArray := by
    have h0 : ((Array.range (len * sz)).map (z.cells[· % z.cells.size]!)) = ([] ++ ((Array.range (len * sz)).map (z.cells[· % z.cells.size]!)).toList).toArray := by rw [List.nil_append, Array.toArray_toList]
    rw [h0, fill_cat vs 0 [] _ hf.1 (by simp) (by simp [hl]), hf.2]
    simp
  have : (execOp a.eval o).run cx.P w = .ok (.value (.slice (some ⟨w.heap.size, 0, none⟩) len len)) { w with heap := w.heap.push (cel E cells) } := by
    simp only [execOp, ho, Instr.buildSlice, Sem.run_bind, run_underlying hu, Result.andThen_ok, hsz, hb1, hb2, if_false, Sem.run_pure, hz, hp, hfl, newRow, run_newObj, cel]
  rw [this]
  simp only [Oper.upon, hd]
  exact hK _ _ _ (k _ hs.size) _ _ (ha.put hn) (hs.alloc _)
end
def Enters (P : Program) (f : FuncId) : Prop := ∃ fn, P.funcs[f]? = some fn ∧ fn.name ≠ "runtime.NumGoroutine" ∧ fn.body.isNone = false
def Ready (I : Heap) (H : HL) (w : World) : Prop := (∀ b o, I b = some o → w.heap[b]? = some o) ∧ (∀ p ∈ H, w.heap[p.1]? = some p.2) ∧ (H.map (·.1)).Nodup ∧ ∀ p ∈ H, I p.1 = none
def RR (w0 : World) (D : List Nat) (I0 : Heap) (post : Ending → Heap → HL → Prop) : Ending → World → Prop :=
  fun e w' => ∃ I' H', St w0 D I0 I' H' w' ∧ post e I' H'
def Ctr (P : Program) (f : FuncId) (args : List Value) (I : Heap) (H : HL) (post : Ending → Heap → HL → Prop) : Prop :=
  Enters P f ∧ ∀ w, Ready I H w → Calls P f args.toArray w (RR w (H.map (·.1)) I post)
theorem run_callFunc {P : Program} {f : FuncId} (h : Enters P f) (args : Array Value) (w : World) : (callFunc f args).run P w = .ok (.enter f args) w := by
  obtain ⟨fn, h1, h2, h3⟩ := h
  have h4 : (fn.name == "runtime.NumGoroutine") = false := by simpa using h2
  simp only [callFunc, Sem.run_bind, run_program, Result.andThen_ok, h1, h4, h3, Bool.false_eq_true, if_false, Sem.run_pure]
section
variable {cx : Cx} {Q : Qt} {o : Oper} {e : Env} {I : Heap} {C : Ct}
theorem op_call {H1 R : HL} {d f : Nat} {fo : Operand} {xs : List Operand} {ts : Array TypeId} {fst cap vs : List Value} {post : Ending → Heap → HL → Prop}
    (ho : o.op = .call ⟨.value fo, xs.toArray, ts⟩) (hd : o.dst = some d) (hn : Nat.blt d cx.n = true) (hf : ev e fo = some (.func (.func f) fst.toArray cap.toArray)) (hx : evs e xs = some vs)
    (hs : Ctr cx.P f (fst ++ vs ++ cap) I H1 post)
    (k : ∀ v I' H1', Le I I' → post (.returned v) I' H1' → C ((d, v) :: e) I' (H1' ++ R))
    (kp : ∀ ch I' H1', Le I I' → post (.panicked ch) I' H1' → Ej cx Q (.panic ch) e I' (H1' ++ R))
    (ko : ∀ I' H1', ¬ post .outgrown I' H1') : OpJ cx Q o e I (H1 ++ R) C := by
  intro K hK a w ha hst
  unfold Oper.wp
  have hr : (execOp a.eval o).run cx.P w = .ok (.enter f (fst ++ vs ++ cap).toArray) w := by
    have hxs : xs.toArray.map a.eval = vs.toArray := by
      rw [List.map_toArray, ha.evals hx]
    simp only [execOp, ho, resolve, hxs, ha.eval hf, Deferred.ofValue, invoke, Sem.run_bind, Sem.run_pure, Result.andThen_ok, run_callFunc hs.1]
    simp
  rw [hr]
  simp only [Oper.upon]
  have hready : Ready I H1 w := ⟨hst.sub, fun p hp => hst.own p (List.mem_append_left _ hp), by
    have := hst.nodup; rw [List.map_append, List.nodup_append] at this; exact this.1, fun p hp => hst.dis p (List.mem_append_left _ hp)⟩
  refine (hs.2 w hready).mono ?_
  rintro en w' ⟨I', H1', hs', hp⟩
  have hle := hs'.le
  have hst' := hst.call hs'
  cases en with
  | returned v =>
    rw [hd]
    exact hK _ _ _ (k v I' H1' hle hp) _ _ (ha.put hn) hst'
  | panicked ch => exact kp ch I' H1' hle hp _ _ ha hst'
  | outgrown => exact (ko _ _ hp).elim
end
theorem Ctr.of_body {P : Program} {f : FuncId} {fn : Func} {c : Code} {args : List Value} {I : Heap} {H : HL} {post : Ending → Heap → HL → Prop} (hf : P.funcs[f]? = some fn) (hb : fn.body = some c) (hname : fn.name ≠ "runtime.NumGoroutine")
    (hn : args.length ≤ fn.ntmps)
    (h : ∀ w0, Ready I H w0 → Cj ⟨P, fn.ntmps, w0, H.map (·.1), I, [], none⟩ (bodyPost P fn (RR w0 (H.map (·.1)) I post)) c (argsEnv 0 args) I H) : Ctr P f args I H post := by
  refine ⟨⟨fn, hf, hname, by simp [hb]⟩, fun w hw => ?_⟩
  refine calls_of_wp hf hb ?_
  exact (h w hw).wp rfl (Has.start args fn.ntmps hn) (St.start w I H hw.1 hw.2.1 hw.2.2.1 hw.2.2.2)
section
variable {cx : Cx} {fn : Func} {post : Ending → Heap → HL → Prop} {e : Env} {I : Heap} {H : HL}
theorem Ej.ret1 {t : Nat} {v : Value} (hr : fn.results = #[.tmp t]) (hds : cx.ds = []) (hv : eg e t = some v) (hp : post (.returned v) I H) : Ej cx (bodyPost cx.P fn (RR cx.w0 cx.D cx.I0 post)) .ret e I H := by
  intro a w ha hs
  refine ⟨ha.defs.trans hds, v, ?_, I, H, hs, hp⟩
  rw [results_tmp hr]
  have := ha.get t v hv
  simp [this]
end
def Pull (H : HL) (p : Nat × Obj) (H' : HL) : Prop := (p :: H').Perm H
theorem Pull.z {p : Nat × Obj} {r : HL} : Pull (p :: r) p r := List.Perm.refl _
section
variable {cx : Cx} {Q : Qt} {e : Env} {I : Heap} {H H' : HL} {p : Nat × Obj}
theorem Ej.bare {x : Exit} (k : Ej cx Q x e I []) : Ej cx Q x e I H := Ej.keep (List.nil_sublist _) k
end
def sel : List Nat → HL → HL
  | [], _ => []
  | i :: r, H => match H[i]? with
    | some p => p :: sel r H
    | none => sel r H
def HSub : HL → HL → Prop
  | [], _ => True
  | p :: r, H => p ∈ H ∧ HSub r H
theorem HSub.mem : ∀ {A H : HL}, HSub A H → ∀ p ∈ A, p ∈ H
  | _ :: _, _, ⟨h, _⟩, _, .head _ => h
  | _ :: _, _, ⟨_, h⟩, _, .tail _ hp => HSub.mem h _ hp
theorem HSub.n {H : HL} : HSub [] H := trivial
theorem HSub.c {p : Nat × Obj} {r H : HL} (i : Nat) (h : H[i]? = some p) (t : HSub r H) : HSub (p :: r) H := ⟨List.mem_of_getElem? h, t⟩
def CSub : CL → HL → Prop
  | [], _ => True
  | c :: r, H => (∃ cs t fr, (c.1, Obj.cells (List.toArray cs) t fr) ∈ H ∧ cs[c.2.1]? = some c.2.2) ∧ CSub r H
theorem CSub.n {H : HL} : CSub [] H := trivial
theorem CSub.cell : ∀ {Z : CL} {H : HL} {w : World}, CSub Z H → (∀ p ∈ H, w.heap[p.1]? = some p.2) → ∀ c ∈ Z, w.cell? ⟨c.1, c.2.1, none⟩ = some c.2.2
  | _ :: _, _, _, ⟨⟨_, _, _, h1, h2⟩, _⟩, hw, _, .head _ => cell_of_heap (hw _ h1) h2
  | _ :: _, _, _, ⟨_, h⟩, hw, _, .tail _ hc => CSub.cell h hw _ hc
def waits (ops : Array Oper) (i : Nat) : Nat → Nat → Bool
  | 0, _ => false
  | f + 1, j => match ops[j]? with
    | none => false
    | some o => o.after.any (fun e => Region.binds .any e && (e.on == i || waits ops i f e.on))
def Closed (ops : Array Oper) (listed : Array Bool) : Prop := ∀ j o, ops[j]? = some o → listed.getD j false = true → ∀ e ∈ o.after, Region.binds .any e = true → listed.getD e.on false = true
def closedB (ops : Array Oper) (listed : Array Bool) : Bool := (List.range ops.size).all fun j => !(listed.getD j false) || (match ops[j]? with
  | none => true
  | some o => o.after.all fun e => !(Region.binds .any e) || listed.getD e.on false)
theorem Closed.of {ops : Array Oper} {listed : Array Bool} (h : closedB ops listed = true) : Closed ops listed := by
  intro j o ho hj e he hb
  have hlt : j < ops.size := (Array.getElem?_eq_some_iff.1 ho).1
  have h1 := List.all_eq_true.1 h j (List.mem_range.2 hlt)
  rw [hj, ho] at h1
  simp only [Bool.not_true, Bool.false_or] at h1
  have h2 := Array.all_eq_true'.1 h1 e he
  rw [hb] at h2
  simpa using h2
theorem Closed.set {ops : Array Oper} {listed : Array Bool} {j : Nat} {oj : Oper} (h : Closed ops listed) (hj : ops[j]? = some oj) (hall : ∀ e ∈ oj.after, Region.binds .any e = true → listed.getD e.on false = true) : Closed ops (listed.setIfInBounds j true) := by
  intro k o ho hk e he hb
  by_cases hjk : j = k
  · subst hjk
    rw [hj] at ho; cases ho
    exact getD_set_true (hall e he hb)
  rw [getD_set_ne false hjk] at hk
  exact getD_set_true (h k o ho hk e he hb)
theorem waits_not {ops : Array Oper} {listed : Array Bool} {i : Nat} (hc : Closed ops listed) (hi : listed.getD i false = false) : ∀ (f j : Nat) (o : Oper), ops[j]? = some o → waits ops i f j = true → ∃ e ∈ o.after, Region.binds .any e = true ∧ listed.getD e.on false = false
  | 0, _, _, _, h => by cases h
  | f + 1, j, o, ho, h => by
    simp only [waits, ho] at h
    obtain ⟨e, he, hb⟩ := Array.any_eq_true'.1 h
    rw [Bool.and_eq_true, Bool.or_eq_true, beq_iff_eq] at hb
    refine ⟨e, he, hb.1, ?_⟩
    rcases hb.2 with h1 | h1
    · rw [h1]; exact hi
    cases hl : listed.getD e.on false with
    | false => rfl
    | true =>
      cases ho2 : ops[e.on]? with
      | none => cases f <;> simp [waits, ho2] at h1
      | some o2 =>
        obtain ⟨e2, he2, hb2, hn⟩ := waits_not hc hi f e.on o2 ho2 h1
        rw [hc e.on o2 ho2 hl e2 he2 hb2] at hn; cases hn
def zok (ops : Array Oper) (listed : Array Bool) (z i : Nat) : Bool := match ops[z]? with
  | none => true
  | some _ => closedB ops listed && (i != z && waits ops i ops.size z)
def wpAnyZ (P : Program) (ops : Array Oper) (Q : Qt) (S : World → Prop) (z : Nat) : Nat → Array Bool → Act → World → Prop
  | 0, listed, a, w => Region.ready .any ops listed = [] ∧ Q .normal a w
  | fuel + 1, listed, a, w => (Region.ready .any ops listed = [] → Q .normal a w) ∧
    ∀ i ∈ Region.ready .any ops listed, wpOp P ops Q i (fun a' w' => (i ≠ z → S w') ∧ wpAnyZ P ops Q S z fuel (listed.setIfInBounds i true) a' w') a w
theorem wpAny_of_Z {P : Program} {ops : Array Oper} {Q : Qt} {S : World → Prop} {z : Nat} : ∀ (fuel : Nat) (listed : Array Bool) (a : Act) (w : World), wpAnyZ P ops Q S z fuel listed a w → wpAny P .any ops Q fuel listed a w
  | 0, _, _, _, h => h
  | fuel + 1, _, _, _, h => ⟨h.1, fun i hi => wpOp_mono (fun a' w' h' => wpAny_of_Z fuel _ a' w' h'.2) (h.2 i hi)⟩
theorem wait_unlisted {listed : Array Bool} {i : Nat} {oj : Oper} (hr : listed.getD i true = false) (hall : ∀ e ∈ oj.after, Region.binds .any e = true → listed.getD e.on false = true) : ∀ e ∈ oj.after, Region.binds .any e = true → e.on ≠ i := fun e he hb heq => by
  have h1 := hall e he hb
  rw [heq] at h1
  rcases Nat.lt_or_ge i listed.size with h' | h'
  · simp [h'] at hr h1; rw [hr] at h1; cases h1
  simp [Array.getElem?_eq_none h'] at h1
theorem wpAnyZ_first {P : Program} {ops : Array Oper} {Q : Qt} {S : World → Prop} {z i : Nat} {oi : Oper} {v : Value} (hz : ∀ oz, ops[z]? = some oz → i ≠ z ∧ waits ops i ops.size z = true) (hi : ops[i]? = some oi) (hsel : ∀ (j : Nat) (o : Oper) cs b, ops[j]? = some o → o.op ≠ .select cs b)
    (hQ : ∀ c a w, Q (.panic c) (a.put oi.dst v) w → Q (.panic c) a w) : ∀ (fuel : Nat) (listed : Array Bool) (a : Act) (w : World),
      (∀ j oj, ops[j]? = some oj → j ≠ i → listed.getD j true = false → (∀ e ∈ oj.after, Region.binds .any e = true → e.on ≠ i) → oi.apart ops oj = true) →
      (∀ oz, ops[z]? = some oz → Closed ops listed) → i ∈ Region.ready .any ops listed → YieldsIf P ops S oi v a → S w →
      wpAnyZ P ops Q S z fuel (listed.setIfInBounds i true) (a.put oi.dst v) w → wpAnyZ P ops Q S z (fuel + 1) listed a w := by
  intro fuel
  induction fuel with
  | zero =>
    intro listed a w _ _ hr hy hS H
    refine ⟨fun h => (by rw [h] at hr; cases hr), fun j hj => ?_⟩
    by_cases hji : j = i
    · subst hji; exact hy.wpOp hi hS ⟨fun _ => hS, H⟩
    have := ready_mono hj hji
    rw [H.1] at this
    cases this
  | succ fuel ih =>
    intro listed a w hfree hcl hr hy hS H
    refine ⟨fun h => (by rw [h] at hr; cases hr), fun j hj => ?_⟩
    by_cases hji : j = i
    · subst hji; exact hy.wpOp hi hS ⟨fun _ => hS, H⟩
    have h1 := H.2 j (ready_mono hj hji)
    obtain ⟨hjun, oj, hoj, hall⟩ := mem_ready.1 hj
    have hnot := wait_unlisted (i := i) (mem_ready.1 hr).1 hall
    have hi0 : listed.getD i false = false := by
      have h0 := (mem_ready.1 hr).1
      rcases Nat.lt_or_ge i listed.size with h' | h'
      · simp [h'] at h0 ⊢; exact h0
      simp [Array.getElem?_eq_none h']
    have hjz : j ≠ z := fun he => by
      subst he
      obtain ⟨e, he, hb, hn⟩ := waits_not (hcl oj hoj) hi0 _ j oj hoj (hz oj hoj).2
      rw [hall e he hb] at hn; cases hn
    have h2 := wpOp_putIf hoj (hfree j oj hoj hji hjun hnot) (fun cs b => hsel i oi cs b hi) (fun cs b => hsel j oj cs b hoj) hQ hy h1
    have hfree' : ∀ k ok, ops[k]? = some ok → k ≠ i → (listed.setIfInBounds j true).getD k true = false →
        (∀ e ∈ ok.after, Region.binds .any e = true → e.on ≠ i) → oi.apart ops ok = true := fun k ok hk hki hun hno => by
      refine hfree k ok hk hki ?_ hno
      by_cases hjk : j = k
      · subst hjk; exact hjun
      rw [getD_set_ne true hjk] at hun; exact hun
    refine wpOp_mono (fun a' w' h3 => ⟨fun _ => h3.2.1 hjz, ih (listed.setIfInBounds j true) a' w' hfree' (fun oz hoz => (hcl oz hoz).set hoj hall) (ready_mono hr (Ne.symm hji)) h3.1 (h3.2.1 hjz) ?_⟩) h2
    rw [Array.setIfInBounds_comm _ _ hji]
    exact h3.2.2
theorem wpAnyZ_take {P : Program} {ops : Array Oper} {Q : Qt} {S : World → Prop} {z i : Nat} {oi : Oper} {v : Value} {fuel : Nat} {listed : Array Bool} {a : Act} {w : World} (hz : zok ops listed z i = true) (hi : ops[i]? = some oi)
    (hs : Region.noSelect ops = true) (hf : Region.free .any ops listed i = true) (hr : (Region.ready .any ops listed).contains i = true)
    (hQ : ∀ c a w, Q (.panic c) (a.put oi.dst v) w → Q (.panic c) a w) (hy : YieldsIf P ops S oi v a) (hS : S w)
    (h : wpAnyZ P ops Q S z fuel (listed.setIfInBounds i true) (a.put oi.dst v) w) : wpAnyZ P ops Q S z (fuel + 1) listed a w :=
  wpAnyZ_first (fun oz ho => by
    simp only [zok, ho, Bool.and_eq_true, bne_iff_ne] at hz
    exact hz.2) hi (Region.noSelect_spec hs) hQ fuel listed a w (Region.free_spec hi hf) (fun oz ho => by
    simp only [zok, ho, Bool.and_eq_true] at hz
    exact Closed.of hz.1) (by simpa using hr) hy hS h
theorem wpAnyZ_all {P : Program} {ops : Array Oper} {Q : Qt} {S : World → Prop} {z : Nat} {rs : List Nat} {fuel : Nat} {listed : Array Bool} {a : Act} {w : World} (hr : Region.ready .any ops listed = rs) (hne : rs ≠ [])
    (h : ∀ i ∈ rs, wpOp P ops Q i (fun a' w' => (i ≠ z → S w') ∧ wpAnyZ P ops Q S z fuel (listed.setIfInBounds i true) a' w') a w) : wpAnyZ P ops Q S z (fuel + 1) listed a w :=
  ⟨fun h0 => absurd (hr ▸ h0) hne, hr ▸ h⟩
theorem wpAnyZ_done {P : Program} {ops : Array Oper} {Q : Qt} {S : World → Prop} {z : Nat} {listed : Array Bool} {a : Act} {w : World} (hr : Region.ready .any ops listed = []) (h : Q .normal a w) : ∀ fuel, wpAnyZ P ops Q S z fuel listed a w
  | 0 => ⟨hr, h⟩
  | _ + 1 => ⟨fun _ => h, by rw [hr]; simp⟩
def JA (cx : Cx) (Q : Qt) (l : List Oper) (I1 : Heap) (A : HL) (Z : CL) (z : Nat) (fuel : Nat) (listed : Array Bool) (e : Env) (I : Heap) (H : HL) : Prop :=
  ∀ a w, Has a cx.n e cx.ds → St cx.w0 cx.D cx.I0 I H w → wpAnyZ cx.P l.toArray Q (SC I1 A Z) z fuel listed a w
section
variable {cx : Cx} {Q : Qt} {e : Env} {I I1 : Heap} {H A : HL} {Z : CL} {z : Nat} {l : List Oper}
def noDefer (ops : Array Oper) : Bool := ops.toList.all fun o => match o.op with
  | .defer _ => false
  | _ => true
theorem noDefer_at {ops : Array Oper} (h : noDefer ops = true) {i : Nat} {o : Oper} (ho : ops[i]? = some o) : ∀ c, o.op ≠ .defer c := by
  intro c hc
  have := List.all_eq_true.1 h o (by have := Array.mem_of_getElem? ho; simpa using this)
  simp [hc] at this
theorem fence_any {rd : Option Nat} {P : Program} {md : Region.Mode} {ops : Array Oper} {Q : Qt} (hd : noDefer ops = true) (hq : ¬ LetsOut Q) : ∀ (fuel : Nat) (listed : Array Bool) (a : Act) (w : World), wpAny P md ops Q fuel listed a w → wpAnyIn { Fence.wide with round := rd } 0 P md ops Q fuel listed a w
  | 0, _, _, _, h => h
  | fuel + 1, listed, a, w, h => ⟨h.1, fun i hi => by
    have h2 := h.2 i hi
    unfold wpOp at h2
    unfold wpOpIn
    cases ho : ops[i]? with
    | none => simp only [ho] at h2 ⊢; exact fence_any hd hq fuel _ _ _ h2
    | some o =>
      simp only [ho] at h2 ⊢
      split
      · rename_i hw
        rw [if_pos hw] at h2
        have hd' : rd = none ∨ ∀ c, o.op ≠ .defer c := .inr (noDefer_at hd ho)
        rcases h2 with h2 | ⟨_, h2⟩
        · exact Oper.wpIn_mono (fun a' w' h3 => fence_any hd hq fuel _ a' w' h3) (fence_wp hd' h2)
        exact (hq h2).elim
      rename_i hw
      rw [if_neg hw] at h2
      exact ⟨fun _ _ => trivial, fence_any hd hq fuel _ _ _ h2⟩⟩
theorem Cj.draw {id : Nat} (A : HL) (Z : CL) (z : Nat) (hm : cx.P.follows .mixedOrders = true) (h : JA cx Q l I A Z z l.toArray.size (Array.replicate l.toArray.size false) e I H) (hnd : cx.rd = none ∨ (noDefer l.toArray = true ∧ ¬ LetsOut Q) := by first | exact .inl rfl | exact .inr ⟨rfl, fun h => h.elim fun _ h => h.elim fun _ h => h⟩) : Cj cx Q (.region id l.toArray true) e I H :=
  hnd.elim (fun hr => Cj.of_wp hr fun a _w ha hs => wp_region_any hm (wpAny_of_Z _ _ _ _ (h a _ ha hs.drew))) fun hd => fun a _w ha hs => wpIn_region_any hm (fence_any hd.1 hd.2 _ _ _ _ (wpAny_of_Z _ _ _ _ (h a _ ha hs.drew)))
theorem Cj.drawSel {id : Nat} (is : List Nat) (Z : CL) (z : Nat) (hm : cx.P.follows .mixedOrders = true) (h : JA cx Q l I (sel is H) Z z l.toArray.size (Array.replicate l.toArray.size false) e I H) (hnd : cx.rd = none ∨ (noDefer l.toArray = true ∧ ¬ LetsOut Q) := by first | exact .inl rfl | exact .inr ⟨rfl, fun h => h.elim fun _ h => h.elim fun _ h => h⟩) : Cj cx Q (.region id l.toArray true) e I H := Cj.draw _ _ z hm h hnd
theorem JA.pull {H' : HL} {p : Nat × Obj} {fuel : Nat} {listed : Array Bool} (h : Pull H p H') (k : JA cx Q l I1 A Z z fuel listed e I (p :: H')) : JA cx Q l I1 A Z z fuel listed e I H := fun a w ha h1 => k a w ha (h1.perm h)
theorem JA.done {fuel : Nat} {listed : Array Bool} (hr : Region.ready .any l.toArray listed = []) (h : Ej cx Q .normal e I H) : JA cx Q l I1 A Z z fuel listed e I H :=
  fun a w ha hs => wpAnyZ_done hr (h a w ha hs) fuel
theorem JA.take {fuel : Nat} {listed : Array Bool} (i : Nat) {o : Oper} {d : Nat} {v : Value} (hz : zok l.toArray listed z i = true) (hi : l.toArray[i]? = some o) (hs : Region.noSelect l.toArray = true) (hf : Region.free .any l.toArray listed i = true)
    (hr : (Region.ready .any l.toArray listed).contains i = true) (hq : ∀ c a w, Q (.panic c) (a.put (some d) v) w → Q (.panic c) a w) (hg : o.guard = none) (hd : o.dst = some d) (hn : Nat.blt d cx.n = true) (hA : HSub A H) (hZ : CSub Z H) (hle : Le I1 I)
    (hy : Yld cx o e (SC I1 A Z) v) (k : JA cx Q l I1 A Z z fuel (listed.setIfInBounds i true) ((d, v) :: e) I H) : JA cx Q l I1 A Z z (fuel + 1) listed e I H := by
  intro a w ha hst
  have hss : SC I1 A Z w := ⟨⟨fun b o h => hst.sub b o (hle b o h), fun p hp => hst.own p (hA.mem p hp)⟩, hZ.cell hst.own⟩
  refine wpAnyZ_take (oi := o) hz (v := v) hi hs hf hr (by rw [hd]; exact hq) (.inl ⟨by simp [Region.wanted, hg], fun w' hs' => hy a w' ha hs'⟩) hss ?_
  rw [hd]
  exact k _ _ (ha.put hn) hst
def JFix (I1 : Heap) (A : HL) (Z : CL) (I : Heap) (H : HL) : Prop := HSub A H ∧ CSub Z H ∧ Le I1 I
theorem JA.fix {fuel : Nat} {listed : Array Bool} (h : JFix I1 A Z I H) (k : JFix I1 A Z I H → JA cx Q l I1 A Z z fuel listed e I H) : JA cx Q l I1 A Z z fuel listed e I H := k h
theorem JA.tk {fuel : Nat} {listed : Array Bool} (i : Nat) {o : Oper} {d : Nat} {v : Value} (hi : l.toArray[i]? = some o) (hx : JFix I1 A Z I H) (hy : Yld cx o e (SC I1 A Z) v) (k : JA cx Q l I1 A Z z fuel (listed.setIfInBounds i true) ((d, v) :: e) I H)
    (hd : o.dst = some d := by rfl) (hg : o.guard = none := by rfl) (hn : Nat.blt d cx.n = true := by rfl) (hz : zok l.toArray listed z i = true := by first | rfl | kernel_rfl) (hs : Region.noSelect l.toArray = true := by kernel_rfl) (hf : Region.free .any l.toArray listed i = true := by kernel_rfl)
    (hr : (Region.ready .any l.toArray listed).contains i = true := by kernel_rfl) (hq : ∀ c a w, Q (.panic c) (a.put (some d) v) w → Q (.panic c) a w := by exact fun _ _ _ h => h) : JA cx Q l I1 A Z z (fuel + 1) listed e I H :=
  JA.take i hz hi hs hf hr hq hg hd hn hx.1 hx.2.1 hx.2.2 hy k
theorem JA.step {fuel : Nat} {listed : Array Bool} (i : Nat) {o : Oper} (hr : Region.ready .any l.toArray listed = [i]) (hi : l.toArray[i]? = some o) (hg : o.guard = none)
    (k : OpJ cx Q o e I H (fun e' I' H' => (Le I1 I' ∧ HSub A H' ∧ CSub Z H') ∧ JA cx Q l I1 A Z z fuel (listed.setIfInBounds i true) e' I' H')) : JA cx Q l I1 A Z z (fuel + 1) listed e I H := by
  intro a w ha hst
  refine wpAnyZ_all hr (by simp) fun j hj => ?_
  obtain rfl : j = i := by simpa using hj
  unfold wpOp
  simp only [hi]
  rw [if_pos (by simp [Region.wanted, hg])]
  refine .inl (k _ (fun e' I' H' ⟨⟨hle, hA, hZ⟩, hj⟩ a' w' ha' hs' => ⟨fun _ => ⟨⟨fun b o h => hs'.sub b o (hle b o h), fun p hp => hs'.own p (hA.mem p hp)⟩, hZ.cell hs'.own⟩, hj a' w' ha' hs'⟩) a w ha hst)
end
end Go.SxD
namespace Go.SxD
open Go
section
variable {cx : Cx} {Q : Qt} {o : Oper} {e : Env} {I : Heap} {H : HL} {C : Ct} {S : World → Prop}
theorem yl_lssStr {x y : Operand} {T U : Nat} {l m : List UInt8} (ho : o.op = .binOp .lss T x y U) (hx : ev e x = some (str l)) (hy : ev e y = some (str m)) : Yld cx o e S (.bool (decide (l < m))) := by
  intro a w ha _
  have h := Go.Proofs.bytesLess_eq l m
  simp [execOp, ho, ha.eval hx, ha.eval hy, str, eqGuard_at_string, binOp, Op.stringOp, h]
theorem yl_gtrStr {x y : Operand} {T U : Nat} {l m : List UInt8} (ho : o.op = .binOp .gtr T x y U) (hx : ev e x = some (str l)) (hy : ev e y = some (str m)) : Yld cx o e S (.bool (!(decide (l < m) || l == m))) := by
  intro a w ha _
  have h := Go.Proofs.bytesLess_eq l m
  simp [execOp, ho, ha.eval hx, ha.eval hy, str, eqGuard_at_string, binOp, Op.stringOp, h]
end
theorem Ctr.same {P : Program} {f : FuncId} {args : List Value} {I : Heap} {H : HL} {v : Value} (he : Enters P f) (h : ∀ w, Ready I H w → Calls P f args.toArray w fun e w' => e = .returned v ∧ w' = w) : Ctr P f args I H (fun e I' H' => e = .returned v ∧ I' = I ∧ H' = H) :=
  ⟨he, fun w hw => (h w hw).mono fun _e w' ⟨h1, h2⟩ => ⟨I, H, by subst h2; exact St.start w' I H hw.1 hw.2.1 hw.2.2.1 hw.2.2.2, h1, rfl, rfl⟩⟩
theorem Ctr.grows {P : Program} {f : FuncId} {args : List Value} {v : Value} {post : Ending → Heap → HL → Prop} (h : Ctr P f args (fun _ => none) [] post) (hp : ∀ e I' H', post e I' H' → e = .returned v) (w : World) : Calls P f args.toArray w fun e w' => e = .returned v ∧ ∃ q os', w' = Sort.grow (w.drewN q) os' :=
  have hr : Ready (fun _ => none) [] w := by
    unfold Ready
    exact ⟨(fun b o hb => by cases hb), (fun p hp => by cases hp), List.Pairwise.nil, (fun p hp => by cases hp)⟩
  (h.2 w hr).mono fun e w' ⟨I', H', hs, hq⟩ => ⟨hp e I' H' hq, w'.drawn - w.drawn, w'.heap.extract w.heap.size w'.heap.size, by
    have hh : w'.heap = w.heap ++ w'.heap.extract w.heap.size w'.heap.size := by
      apply Array.ext_getElem?
      intro i
      rw [Array.getElem?_append]
      split
      · rename_i hi; exact hs.frm i hi (by simp)
      rename_i hi
      rw [Array.getElem?_extract]
      split
      · congr 1; omega
      rw [Array.getElem?_eq_none (by omega)]
    have h1 := hs.os
    have h2 := hs.tape
    have h3 := hs.output
    have h4 := hs.drw
    have h5 : w.drawn + (w'.drawn - w.drawn) = w'.drawn := by omega
    unfold Sort.grow World.drewN
    rw [h5]
    cases w'
    cases w
    simp only at h1 h2 h3 hh ⊢
    subst h1 h2 h3
    rw [← hh]⟩
end Go.SxD
end
section
namespace Go.Proofs.YtjcdfnbomkoheaaGreatDoor
open Go Go.SxD
def orR (r s : Int) : Int := if r ≠ 0 then r else s
section
open Go.Shelf Go.RowKit Go.Lib
theorem or2_ok (b : Nat) (r0 r1 : Int) (w : World) (h0 : w.cell? ⟨b, 0, none⟩ = some (.int .i64 r0)) (h1 : w.cell? ⟨b, 1, none⟩ = some (.int .i64 r1)) :
    Calls Tryz.prog 98 #[.slice (some ⟨b, 0, none⟩) 2 2] w fun e w' => e = .returned (.int .i64 (orR r0 r1)) ∧ w' = w := by
  go_enter Tryz.func98, Tryz.ntmps98
  go_wp2
  refine wp_loop_rounds 3 ?_
  rw [rounds_succ]
  go_wp2
  · have hr : (r0 != 0) = true := by assumption
    have hc : orR r0 r1 = r0 := if_pos (by simpa using hr)
    go_ret
    exact ⟨by rw [hc]; rfl, rfl⟩
  have hr : (r0 != 0) = false := by assumption
  have hc : orR r0 r1 = r1 := if_neg (by simpa using hr)
  rw [rounds_succ]
  go_wp2
  · go_ret
    exact ⟨by rw [hc]; rfl, rfl⟩
  have hs : (r1 != 0) = false := by assumption
  have hs1 : r1 = 0 := by simpa using hs
  rw [rounds_succ]
  go_wp2
  go_ret
  exact ⟨by rw [hc, hs1]; rfl, rfl⟩
end
def cmpS (a b : List UInt8) : Int := if a < b then -1 else if b < a then 1 else 0
theorem str_gt {a b : List UInt8} (h : ¬ a < b) {t : Bool} (ht : (!(decide (a < b) || a == b)) = t) : if t then b < a else ¬ b < a := by
  rw [decide_eq_false h, Bool.false_or] at ht
  subst ht
  by_cases he : a = b
  · subst he; simp
  have hb : (a == b) = false := by simpa using he
  rw [hb]
  simp only [Bool.not_false, if_true]
  exact Std.lt_of_le_of_ne (Std.not_lt.1 h) (Ne.symm he)
theorem cmpOr_ok (b : Nat) (r0 r1 : Int) (I : Heap) : Ctr Tryz.prog 98 [.slice (some ⟨b, 0, none⟩) 2 2] I [(b, cel 3 [i64 r0, i64 r1])] (fun e I' H' => e = .returned (i64 (orR r0 r1)) ∧ I' = I ∧ H' = [(b, cel 3 [i64 r0, i64 r1])]) :=
  Ctr.same ⟨_, Tryz.func98, by decide, rfl⟩ fun w hw => by
    have hb := hw.2.1 _ (.head _)
    refine or2_ok b r0 r1 w ?_ ?_ <;> simp [World.cell?, hb, cel]
theorem ceq_ok (x y : Int) (I : Heap) : Ctr Tryz.prog 99 [i64 x, i64 y] I [] (fun e I' H' => e = .returned (i64 (Lib.compareInt x y)) ∧ I' = I ∧ H' = []) :=
  Ctr.same ⟨_, Tryz.func99, by decide, rfl⟩ fun w _ => Tryz.cmp_Compare_int x y w
theorem compareD_ok (x0 x1 y0 y1 : Int) (I : Heap) : Ctr Tryz.prog 70 [.agg #[i64 x0, i64 x1], .agg #[i64 y0, i64 y1]] I [] (fun e _ H' => e = .returned (i64 (orR (Lib.compareInt x0 y0) (Lib.compareInt x1 y1))) ∧ H' = []) := by
 refine Ctr.of_body Tryz.func70 rfl (by decide) (Nat.le_of_ble_eq_true rfl) ?_
 intro w0 hw0
 refine Cj.seq (Cj.region (J.op rfl (op_box rfl rfl rfl rfl rfl ?_)))
 intro b1 hb1
 refine J.op rfl (op_box rfl rfl rfl rfl rfl ?_)
 intro b2 hb2
 refine J.z (yl_assign rfl rfl) ?_
 refine J.nil (Ej.seq (Cj.seq (Cj.drawSel [0, 1] [] 13 (by kernel_rfl) ?_)))
 refine JA.fix ⟨(HSub.c 0 rfl (HSub.c 1 rfl HSub.n)), CSub.n, (Le.refl _)⟩ (fun fx3 => ?_)
 refine JA.tk 0 rfl fx3 (yl_fieldAddr (off' := 0) rfl rfl Tryz.underlying26 rfl Tryz.sizeOf3 rfl) ?_
 refine JA.tk 1 rfl fx3 (yl_load rfl rfl Tryz.isAgg3 (Blk.atC 1 rfl) rfl) ?_
 refine JA.tk 2 rfl fx3 (yl_fieldAddr (off' := 0) rfl rfl Tryz.underlying26 rfl Tryz.sizeOf3 rfl) ?_
 refine JA.tk 3 rfl fx3 (yl_load rfl rfl Tryz.isAgg3 (Blk.atC 0 rfl) rfl) ?_
 refine JA.tk 5 rfl fx3 (yl_fieldAddr (off' := 1) rfl rfl Tryz.underlying26 rfl Tryz.sizeOf3 rfl) ?_
 refine JA.tk 6 rfl fx3 (yl_load rfl rfl Tryz.isAgg3 (Blk.atC 1 rfl) rfl) ?_
 refine JA.tk 7 rfl fx3 (yl_fieldAddr (off' := 1) rfl rfl Tryz.underlying26 rfl Tryz.sizeOf3 rfl) ?_
 refine JA.tk 8 rfl fx3 (yl_load rfl rfl Tryz.isAgg3 (Blk.atC 0 rfl) rfl) ?_
 refine JA.step 4 (by kernel_rfl) rfl rfl (op_call (H1 := []) rfl rfl rfl rfl rfl (ceq_ok x0 y0 _) ?_ (fun _ _ _ _ h => by cases h.1) (fun _ _ h => by cases h.1))
 intro v4 I5 H6 hle7 hp8
 obtain ⟨h, rfl, rfl⟩ := hp8; cases h
 refine ⟨⟨(Le.trans (Le.refl _) hle7), (HSub.c 0 rfl (HSub.c 1 rfl HSub.n)), CSub.n⟩, ?_⟩
 refine JA.step 9 (by kernel_rfl) rfl rfl (op_call (H1 := []) rfl rfl rfl rfl rfl (ceq_ok x1 y1 _) ?_ (fun _ _ _ _ h => by cases h.1) (fun _ _ h => by cases h.1))
 intro v9 I10 H11 hle12 hp13
 obtain ⟨h, rfl, rfl⟩ := hp13; cases h
 refine ⟨⟨(Le.trans (Le.trans (Le.refl _) hle7) hle12), (HSub.c 0 rfl (HSub.c 1 rfl HSub.n)), CSub.n⟩, ?_⟩
 refine JA.step 10 (by kernel_rfl) rfl rfl (op_buildSlice rfl rfl rfl Tryz.underlying185 Tryz.sizeOf3 Tryz.zeroValue3 rfl rfl rfl rfl (LCat.one rfl (LCat.one rfl LCat.none)) ?_)
 intro b14 hb14
 refine ⟨⟨(Le.trans (Le.trans (Le.refl _) hle7) hle12), (HSub.c 1 rfl (HSub.c 2 rfl HSub.n)), CSub.n⟩, ?_⟩
 refine JA.pull Pull.z ?_
 refine JA.step 11 (by kernel_rfl) rfl rfl (op_call (H1 := [_]) rfl rfl rfl rfl rfl (cmpOr_ok _ (Lib.compareInt x0 y0) (Lib.compareInt x1 y1) _) ?_ (fun _ _ _ _ h => by cases h.1) (fun _ _ h => by cases h.1))
 intro v15 I16 H17 hle18 hp19
 obtain ⟨h, rfl, rfl⟩ := hp19; cases h
 refine ⟨⟨(Le.trans (Le.trans (Le.trans (Le.refl _) hle7) hle12) hle18), (HSub.c 1 rfl (HSub.c 2 rfl HSub.n)), CSub.n⟩, ?_⟩
 refine JA.fix ⟨(HSub.c 1 rfl (HSub.c 2 rfl HSub.n)), CSub.n, (Le.trans (Le.trans (Le.trans (Le.refl _) hle7) hle12) hle18)⟩ (fun fx20 => ?_)
 refine JA.tk 12 rfl fx20 (yl_assign rfl rfl) ?_
 refine JA.done (by kernel_rfl) ?_
 refine Ej.seq (Cj.ret (Ej.bare ?_))
 refine Ej.ret1 rfl rfl rfl ?_
 exact ⟨rfl, rfl⟩
theorem isNaNS_ok (s : List UInt8) (I : Heap) : Ctr Tryz.prog 90 [str s] I [] (fun e I' H' => e = .returned (.bool false) ∧ I' = I ∧ H' = []) := by
 refine Ctr.of_body Tryz.func90 rfl (by decide) (Nat.le_of_ble_eq_true rfl) ?_
 intro w0 hw0
 refine Cj.seq (Cj.region (J.z (yl_assign rfl rfl) ?_))
 refine J.nil (Ej.seq (Cj.seq (Cj.region (J.z (yl_move rfl rfl) ?_))))
 refine J.z (yl_move rfl rfl) ?_
 refine J.z (yl_neqStr rfl rfl rfl) ?_
 refine J.z (yl_assign rfl rfl) ?_
 refine J.nil (Ej.seq (Cj.ret (Ej.ret1 rfl rfl rfl ?_)))
 exact ⟨by rw [bne_self_eq_false], rfl, rfl⟩
theorem compareS_ok (a b : List UInt8) (I : Heap) : Ctr Tryz.prog 59 [str a, str b] I [] (fun e I' H' => e = .returned (i64 (cmpS a b)) ∧ I' = I ∧ H' = []) := by
 refine Ctr.of_body Tryz.func59 rfl (by decide) (Nat.le_of_ble_eq_true rfl) ?_
 intro w0 hw0
 refine Cj.seq (Cj.region (J.z (yl_assign rfl rfl) ?_))
 refine J.nil (Ej.seq (Cj.seq (Cj.region (J.z (yl_move rfl rfl) ?_))))
 refine J.op rfl (op_call (H1 := []) rfl rfl rfl rfl rfl (isNaNS_ok a _) ?_ (fun _ _ _ _ h => by cases h.1) (fun _ _ h => by cases h.1))
 intro v1 I2 H3 hle4 hp5
 obtain ⟨h, rfl, rfl⟩ := hp5; cases h
 refine J.z (yl_assign rfl rfl) ?_
 refine J.nil (Ej.seq (Cj.seq (Cj.region (J.z (yl_move rfl rfl) ?_))))
 refine J.op rfl (op_call (H1 := []) rfl rfl rfl rfl rfl (isNaNS_ok b _) ?_ (fun _ _ _ _ h => by cases h.1) (fun _ _ h => by cases h.1))
 intro v6 I7 H8 hle9 hp10
 obtain ⟨h, rfl, rfl⟩ := hp10; cases h
 refine J.z (yl_assign rfl rfl) ?_
 refine J.nil (Ej.seq (Cj.seq (Cj.seq (Cj.region (J.z (yl_move rfl rfl) ?_)))))
 refine J.nil (Ej.seq (Cj.cond rfl (fun hc11 => Bool.noConfusion (Eq.trans (Eq.symm rfl) hc11)) (fun hc11 => ?_)))
 refine Cj.skip (Ej.seq (Cj.seq (Cj.seq (Cj.region (J.z (yl_move rfl rfl) ?_)))))
 refine J.nil (Ej.seq (Cj.cond rfl (fun hc12 => Bool.noConfusion (Eq.trans (Eq.symm rfl) hc12)) (fun hc12 => ?_)))
 refine Cj.skip (Ej.seq (Cj.seq (Cj.seq (Cj.region (J.z (yl_move rfl rfl) ?_)))))
 refine J.z (yl_move rfl rfl) ?_
 refine J.z (yl_lssStr rfl rfl rfl) ?_
 refine J.nil (Ej.seq (Cj.cond rfl (fun hc13 => ?_) (fun hc13 => ?_)))
 ·
  have hc16p := of_decide_eq_true hc13
  refine Cj.seq (Cj.region (J.z (yl_assign rfl rfl) ?_))
  refine J.nil (Ej.seq (Cj.ret (Ej.seqRet (Ej.ret1 rfl rfl rfl ?_))))
  rw [cmpS, if_pos hc16p]
  exact ⟨rfl, rfl, rfl⟩
 have hc16p := of_decide_eq_false hc13
 refine Cj.skip (Ej.seq (Cj.seq (Cj.seq (Cj.region (J.z (yl_move rfl rfl) ?_)))))
 refine J.z (yl_move rfl rfl) ?_
 refine J.z (yl_gtrStr rfl rfl rfl) ?_
 refine J.nil (Ej.seq (Cj.cond rfl (fun hc14 => ?_) (fun hc14 => ?_)))
 ·
  refine Cj.seq (Cj.region (J.z (yl_assign rfl rfl) ?_))
  refine J.nil (Ej.seq (Cj.ret (Ej.seqRet (Ej.ret1 rfl rfl rfl ?_))))
  rw [cmpS, if_neg hc16p, if_pos (by have h := str_gt hc16p hc14; simpa using h)]
  exact ⟨rfl, rfl, rfl⟩
 refine Cj.skip (Ej.seq (Cj.seq (Cj.region (J.z (yl_assign rfl rfl) ?_))))
 refine J.nil (Ej.seq (Cj.ret (Ej.ret1 rfl rfl rfl ?_)))
 rw [cmpS, if_neg hc16p, if_neg (by have h := str_gt hc16p hc14; simpa using h)]
 exact ⟨rfl, rfl, rfl⟩
theorem scan1D_ok (a b : List UInt8) (n m : Int) (I : Heap) : Ctr Tryz.prog 58 [.agg #[str a, i64 n], .agg #[str b, i64 m]] I [] (fun e _ H' => e = .returned (i64 (cmpS a b)) ∧ H' = []) := by
 refine Ctr.of_body Tryz.func58 rfl (by decide) (Nat.le_of_ble_eq_true rfl) ?_
 intro w0 hw0
 refine Cj.seq (Cj.region (J.op rfl (op_box rfl rfl rfl rfl rfl ?_)))
 intro b1 hb1
 refine J.op rfl (op_box rfl rfl rfl rfl rfl ?_)
 intro b2 hb2
 refine J.z (yl_assign rfl rfl) ?_
 refine J.nil (Ej.seq (Cj.seq (Cj.region (J.z (yl_fieldAddr (off' := 0) rfl rfl Tryz.underlying57 rfl Tryz.sizeOf9 rfl) ?_))))
 refine J.z (yl_load rfl rfl Tryz.isAgg9 (Blk.at 1 rfl) rfl) ?_
 refine J.z (yl_fieldAddr (off' := 0) rfl rfl Tryz.underlying57 rfl Tryz.sizeOf9 rfl) ?_
 refine J.z (yl_load rfl rfl Tryz.isAgg9 (Blk.at 0 rfl) rfl) ?_
 refine J.op rfl (op_call (H1 := []) rfl rfl rfl rfl rfl (compareS_ok a b _) ?_ (fun _ _ _ _ h => by cases h.1) (fun _ _ h => by cases h.1))
 intro v3 I4 H5 hle6 hp7
 obtain ⟨h, rfl, rfl⟩ := hp7; cases h
 refine J.z (yl_assign rfl rfl) ?_
 refine J.nil (Ej.seq (Cj.ret (Ej.bare ?_)))
 refine Ej.ret1 rfl rfl rfl ?_
 exact ⟨rfl, rfl⟩
theorem compareR_ok (x0 x1 y0 y1 : Int) (w : World) : Calls Tryz.prog 70 #[.agg #[i64 x0, i64 x1], .agg #[i64 y0, i64 y1]] w fun e w' => e = .returned (i64 (orR (Lib.compareInt x0 y0) (Lib.compareInt x1 y1))) ∧ ∃ q os', w' = Sort.grow (w.drewN q) os' :=
  Ctr.grows (compareD_ok x0 x1 y0 y1 _) (fun _ _ _ h => h.1) w
theorem scan1_ok (a b : List UInt8) (n m : Int) (w : World) : Calls Tryz.prog 58 #[.agg #[str a, i64 n], .agg #[str b, i64 m]] w fun e w' => e = .returned (i64 (cmpS a b)) ∧ ∃ q os', w' = Sort.grow (w.drewN q) os' :=
  Ctr.grows (scan1D_ok a b n m _) (fun _ _ _ h => h.1) w
end Go.Proofs.YtjcdfnbomkoheaaGreatDoor
end
section
namespace Go.Proofs
open _root_.Go.Proofs.Tryz
open Go.Shelf
def Tryz.sortF_ren : Go.Shelf.Ren := ⟨fun | 6 => 69 | 15 => 89 | 14 => 97 | 28 => 137 | 29 => 138 | 20 => 139 | 21 => 140 | 22 => 141 | 23 => 142 | 24 => 143 | 25 => 144 | 26 => 145 | 27 => 146 | 46 => 175 | 47 => 171 | 48 => 172 | 49 => 176 | 50 => 177 | 57 => 202 | n => n, fun | 22 => 44 | 24 => 26 | 25 => 119 | 3 => 3 | 39 => 135 | 0 => 0 | 53 => 177 | 55 => 179 | 4 => 4 | 46 => 171 | 45 => 170 | 50 => 113 | 5 => 5 | 9 => 9 | 66 => 224 | 70 => 228 | 76 => 247 | 77 => 248 | n => n, fun | n => n⟩
theorem Tryz.sortF : Go.Proofs.SlLaysF0.n6 Tryz.prog Tryz.sortF_ren := {
  mixed := by kernel_rfl
  f6 := ⟨Tryz.f69.name, by decide, func69.trans (congrArg some (by kernel_rfl))⟩
  f14 := ⟨Tryz.f97.name, by decide, func97.trans (congrArg some (by kernel_rfl))⟩
  f15 := func89.trans (congrArg some (by kernel_rfl))
  f20 := ⟨Tryz.f139.name, by decide, func139.trans (congrArg some (by kernel_rfl))⟩
  f21 := ⟨Tryz.f140.name, by decide, func140.trans (congrArg some (by kernel_rfl))⟩
  f22 := ⟨Tryz.f141.name, by decide, func141.trans (congrArg some (by kernel_rfl))⟩
  f23 := ⟨Tryz.f142.name, by decide, func142.trans (congrArg some (by kernel_rfl))⟩
  f24 := ⟨Tryz.f143.name, by decide, func143.trans (congrArg some (by kernel_rfl))⟩
  f25 := ⟨Tryz.f144.name, by decide, func144.trans (congrArg some (by kernel_rfl))⟩
  f26 := ⟨Tryz.f145.name, by decide, func145.trans (congrArg some (by kernel_rfl))⟩
  f27 := ⟨Tryz.f146.name, by decide, func146.trans (congrArg some (by kernel_rfl))⟩
  f28 := func137.trans (congrArg some (by kernel_rfl))
  f29 := func138.trans (congrArg some (by kernel_rfl))
  f46 := ⟨Tryz.f175.name, by decide, func175.trans (congrArg some (by kernel_rfl))⟩
  f47 := func171.trans (congrArg some (by kernel_rfl))
  f48 := func172.trans (congrArg some (by kernel_rfl))
  f49 := ⟨Tryz.f176.name, by decide, func176.trans (congrArg some (by kernel_rfl))⟩
  f50 := ⟨Tryz.f177.name, by decide, func177.trans (congrArg some (by kernel_rfl))⟩
  f57 := ⟨Tryz.f202.name, by decide, func202.trans (congrArg some (by kernel_rfl))⟩
  t0 := underlying0
  a0 := isAgg0
  z0 := sizeOf0
  v0 := zeroValue0
  t3 := underlying3
  a3 := isAgg3
  z3 := sizeOf3
  v3 := zeroValue3
  t4 := underlying4
  a4 := isAgg4
  z4 := sizeOf4
  v4 := zeroValue4
  t5 := underlying5
  a5 := isAgg5
  z5 := sizeOf5
  v5 := zeroValue5
  t9 := underlying9
  a9 := isAgg9
  z9 := sizeOf9
  v9 := zeroValue9
  t22 := underlying44
  a22 := isAgg44
  z22 := sizeOf44
  v22 := zeroValue44
  t25 := underlying119
  a25 := isAgg119
  z25 := sizeOf119
  v25 := zeroValue119
  t39 := underlying135
  a39 := isAgg135
  z39 := sizeOf135
  v39 := zeroValue135
  t45 := underlying170
  a45 := isAgg170
  z45 := sizeOf170
  v45 := zeroValue170
  t46 := underlying171
  a46 := isAgg171
  z46 := sizeOf171
  v46 := zeroValue171
  t50 := underlying113
  a50 := isAgg113
  z50 := sizeOf113
  v50 := zeroValue113
  t53 := underlying177
  a53 := isAgg177
  z53 := sizeOf177
  v53 := zeroValue177
  t55 := underlying179
  a55 := isAgg179
  z55 := sizeOf179
  v55 := zeroValue179
  t66 := underlying224
  a66 := isAgg224
  z66 := sizeOf224
  v66 := zeroValue224
  t70 := underlying228
  a70 := isAgg228
  z70 := sizeOf228
  v70 := zeroValue228
  t76 := underlying247
  a76 := isAgg247
  z76 := sizeOf247
  v76 := zeroValue247
  t77 := underlying248
  a77 := isAgg248
  z77 := sizeOf248
  v77 := zeroValue248 }
def Tryz.sortL_ren : Go.Shelf.Ren := ⟨fun | 6 => 57 | 15 => 89 | 14 => 88 | 28 => 137 | 29 => 138 | 20 => 129 | 21 => 130 | 22 => 131 | 23 => 132 | 24 => 133 | 25 => 134 | 26 => 135 | 27 => 136 | 46 => 170 | 47 => 171 | 48 => 172 | 49 => 173 | 50 => 174 | 57 => 201 | n => n, fun | 22 => 47 | 24 => 57 | 25 => 108 | 3 => 3 | 39 => 135 | 0 => 0 | 53 => 177 | 55 => 179 | 4 => 4 | 46 => 171 | 45 => 170 | 50 => 113 | 5 => 5 | 9 => 9 | 66 => 224 | 70 => 228 | 76 => 247 | 77 => 248 | n => n, fun | n => n⟩
theorem Tryz.sortL : Go.Proofs.SlLaysF0.n6 Tryz.prog Tryz.sortL_ren := {
  mixed := by kernel_rfl
  f6 := ⟨Tryz.f57.name, by decide, func57.trans (congrArg some (by kernel_rfl))⟩
  f14 := ⟨Tryz.f88.name, by decide, func88.trans (congrArg some (by kernel_rfl))⟩
  f15 := func89.trans (congrArg some (by kernel_rfl))
  f20 := ⟨Tryz.f129.name, by decide, func129.trans (congrArg some (by kernel_rfl))⟩
  f21 := ⟨Tryz.f130.name, by decide, func130.trans (congrArg some (by kernel_rfl))⟩
  f22 := ⟨Tryz.f131.name, by decide, func131.trans (congrArg some (by kernel_rfl))⟩
  f23 := ⟨Tryz.f132.name, by decide, func132.trans (congrArg some (by kernel_rfl))⟩
  f24 := ⟨Tryz.f133.name, by decide, func133.trans (congrArg some (by kernel_rfl))⟩
  f25 := ⟨Tryz.f134.name, by decide, func134.trans (congrArg some (by kernel_rfl))⟩
  f26 := ⟨Tryz.f135.name, by decide, func135.trans (congrArg some (by kernel_rfl))⟩
  f27 := ⟨Tryz.f136.name, by decide, func136.trans (congrArg some (by kernel_rfl))⟩
  f28 := func137.trans (congrArg some (by kernel_rfl))
  f29 := func138.trans (congrArg some (by kernel_rfl))
  f46 := ⟨Tryz.f170.name, by decide, func170.trans (congrArg some (by kernel_rfl))⟩
  f47 := func171.trans (congrArg some (by kernel_rfl))
  f48 := func172.trans (congrArg some (by kernel_rfl))
  f49 := ⟨Tryz.f173.name, by decide, func173.trans (congrArg some (by kernel_rfl))⟩
  f50 := ⟨Tryz.f174.name, by decide, func174.trans (congrArg some (by kernel_rfl))⟩
  f57 := ⟨Tryz.f201.name, by decide, func201.trans (congrArg some (by kernel_rfl))⟩
  t0 := underlying0
  a0 := isAgg0
  z0 := sizeOf0
  v0 := zeroValue0
  t3 := underlying3
  a3 := isAgg3
  z3 := sizeOf3
  v3 := zeroValue3
  t4 := underlying4
  a4 := isAgg4
  z4 := sizeOf4
  v4 := zeroValue4
  t5 := underlying5
  a5 := isAgg5
  z5 := sizeOf5
  v5 := zeroValue5
  t9 := underlying9
  a9 := isAgg9
  z9 := sizeOf9
  v9 := zeroValue9
  t22 := underlying47
  a22 := isAgg47
  z22 := sizeOf47
  v22 := zeroValue47
  t25 := underlying108
  a25 := isAgg108
  z25 := sizeOf108
  v25 := zeroValue108
  t39 := underlying135
  a39 := isAgg135
  z39 := sizeOf135
  v39 := zeroValue135
  t45 := underlying170
  a45 := isAgg170
  z45 := sizeOf170
  v45 := zeroValue170
  t46 := underlying171
  a46 := isAgg171
  z46 := sizeOf171
  v46 := zeroValue171
  t50 := underlying113
  a50 := isAgg113
  z50 := sizeOf113
  v50 := zeroValue113
  t53 := underlying177
  a53 := isAgg177
  z53 := sizeOf177
  v53 := zeroValue177
  t55 := underlying179
  a55 := isAgg179
  z55 := sizeOf179
  v55 := zeroValue179
  t66 := underlying224
  a66 := isAgg224
  z66 := sizeOf224
  v66 := zeroValue224
  t70 := underlying228
  a70 := isAgg228
  z70 := sizeOf228
  v70 := zeroValue228
  t76 := underlying247
  a76 := isAgg247
  z76 := sizeOf247
  v76 := zeroValue247
  t77 := underlying248
  a77 := isAgg248
  z77 := sizeOf248
  v77 := zeroValue248 }
end Go.Proofs
end
section
namespace Go.Sx
open Go Go.Sort Go.Proofs
theorem row_holdsV {w : World} {b : Nat} {T : TypeId} {vs sp : List Value} (h : w.heap[b]? = some (cel T (vs ++ sp))) : Holds id w b 0 vs.toArray := fun j hj => by
  have hj' : j < vs.length := by simpa using hj
  have h1 : (vs ++ sp)[j]? = some vs[j] := by rw [List.getElem?_append_left hj']; exact List.getElem?_eq_getElem hj'
  have h2 : vs.toArray[j]! = vs[j] := by rw [getElem!_pos _ j hj]; simp
  refine ⟨?_, ?_⟩
  · rw [h2]
    simp only [World.cell?, h, cel, Nat.zero_add]
    simpa using h1
  simp only [World.frozen?, h, cel]; simp
theorem row_putV {vs vs' sp : List Value} (hl : vs'.length = vs.length) : putCells id 0 vs'.toArray (vs ++ sp).toArray = (vs' ++ sp).toArray := by
  apply Array.ext_getElem?
  intro k
  simp only [putCells, Array.getElem?_mapIdx, List.getElem?_toArray, List.size_toArray, Nat.zero_le, true_and, Nat.zero_add, Nat.sub_zero]
  rcases Nat.lt_or_ge k vs.length with h | h
  · have h1 : (vs ++ sp)[k]? = some vs[k] := by rw [List.getElem?_append_left h]; exact List.getElem?_eq_getElem h
    have h2 : (vs' ++ sp)[k]? = some (vs'[k]'(by omega)) := by rw [List.getElem?_append_left (by omega)]; exact List.getElem?_eq_getElem _
    have h3 : vs'.toArray[k]! = vs'[k]'(by omega) := by rw [getElem!_pos _ k (by simpa using (by omega : k < vs'.length))]; simp
    rw [h1, h2, Option.map_some, if_pos (by omega), h3]
    rfl
  rw [List.getElem?_append_right h, List.getElem?_append_right (by omega), hl]
  cases sp[k - vs.length]? with
  | none => rfl
  | some v => rw [Option.map_some, if_neg (by omega)]
theorem St.rowV {w : World} {I : Heap} {b : Nat} {T : TypeId} {vs vs' sp : List Value} (n : Nat) (os : Array Obj) (hr : Ready I [(b, cel T (vs ++ sp))] w) (hl : vs'.length = vs.length) :
    St w [b] I I [(b, cel T (vs' ++ sp))] (grow (putRow id (Sort.ahead w n) b 0 vs'.toArray) os) := by
  obtain ⟨r1, r2, r3, r4⟩ := hr
  have hb := r2 _ (List.mem_singleton.2 rfl)
  have hlt : ∀ {c : Nat} {o' : Obj}, w.heap[c]? = some o' → c < w.heap.size := fun {c o'} hc => by
    rcases Nat.lt_or_ge c w.heap.size with h' | h'
    · exact h'
    simp [Array.getElem?_eq_none h'] at hc
  have hsz : (putRow id (Sort.ahead w n) b 0 vs'.toArray).heap.size = w.heap.size := by simp [putRow, mapBlock, Sort.ahead]
  have hother : ∀ c, c < w.heap.size → c ≠ b → (grow (putRow id (Sort.ahead w n) b 0 vs'.toArray) os).heap[c]? = w.heap[c]? := fun c hc hne => by
    simp only [grow]
    rw [Array.getElem?_append_left (by omega)]
    simp only [putRow, mapBlock, Sort.ahead, Array.getElem?_modify, if_neg (Ne.symm hne)]
  have hown : (grow (putRow id (Sort.ahead w n) b 0 vs'.toArray) os).heap[b]? = some (cel T (vs' ++ sp)) := by
    have hbl := hlt hb
    simp only [grow]
    rw [Array.getElem?_append_left (by omega)]
    simp only [putRow, mapBlock, Sort.ahead, Array.getElem?_modify, if_true]
    rw [hb]
    simp only [Option.map_some, onCells, cel]
    rw [row_putV hl]
  refine ⟨rfl, rfl, rfl, ?_, ?_, ?_, ?_, by simp, ?_, ?_, fun _ _ => rfl, Le.refl _⟩
  · simp only [grow, Array.size_append]; omega
  · intro c hc hd
    exact hother c hc (by simpa using hd)
  · intro c o hc
    have h1 := r1 c o hc
    refine (hother c (hlt h1) ?_).trans h1
    rintro rfl
    have := r4 _ (List.mem_singleton.2 rfl)
    rw [this] at hc; cases hc
  · intro p hp
    rw [List.mem_singleton.1 hp]; exact hown
  · intro p hp
    rw [List.mem_singleton.1 hp]; exact r4 (b, cel T (vs ++ sp)) (List.mem_singleton.2 rfl)
  intro p hp
  rw [List.mem_singleton.1 hp]; exact .inl (.head _)
section
variable {α : Type} [Inhabited α] {enc : α → List Value} {k : Nat}
theorem flatK_list (hk : ∀ x, (enc x).length = k) (l : List α) : flatK enc k l.toArray = (l.flatMap enc).toArray := by
  refine ext_get! (by simp [flat_len hk]) fun t ht => ?_
  have ht' : t < l.length * k := by simpa using ht
  have h0 : 0 < k := by
    rcases Nat.eq_zero_or_pos k with e | e
    · subst e; simp at ht'
    exact e
  have hd : t / k < l.length := (Nat.div_lt_iff_lt_mul h0).2 ht'
  have hm : t % k < k := Nat.mod_lt _ h0
  rw [get_flatK _ _ _ _ (by simpa using ht')]
  have h1 : l.toArray[t / k]! = l[t / k] := by rw [getElem!_pos _ _ (by simpa using hd)]; simp
  have h2 : l[t / k]? = some l[t / k] := List.getElem?_eq_getElem hd
  have h3 := row_cell hk (sp := []) h2 (t % k) hm
  rw [List.append_nil, Nat.mul_comm, Nat.div_add_mod] at h3
  have h4 : t < (l.flatMap enc).length := by rw [flat_len hk]; exact ht'
  rw [h1, getElem!_pos _ t (by simpa using h4), List.getElem_toArray, getElem!_pos _ _ (by rw [hk]; exact hm)]
  rw [List.getElem?_eq_getElem h4, List.getElem?_eq_getElem (by rw [hk]; exact hm)] at h3
  exact (Option.some.inj h3).symm
theorem perm_in {l : List α} {d' : Array α} (h : PermIn 0 l.length l.toArray d') : d'.toList.Perm l := by
  obtain ⟨h1, _, h3⟩ := h
  have h4 : d'.size = l.length := by rw [h1]; simp
  rw [← h4] at h3
  simp only [Array.extract_size] at h3
  rw [h4] at h3
  have h5 : l.toArray.extract 0 l.length = l.toArray := by
    have := Array.extract_size (xs := l.toArray)
    rwa [List.size_toArray] at this
  rw [h5] at h3
  simpa using h3
theorem sorted_in {lt : α → α → Bool} {d' : Array α} (h : SortedIn lt 0 d'.size d') : d'.toList.Pairwise fun x y => lt y x = false := by
  rw [List.pairwise_iff_getElem]
  intro i j hi hj hij
  have hi' : i < d'.size := by simpa using hi
  have hj' : j < d'.size := by simpa using hj
  have := h i j (Nat.zero_le _) hij hj'
  rw [getElem!_pos d' i hi', getElem!_pos d' j hj'] at this
  simpa using this
end
end Go.Sx
end
section
namespace Go.Proofs.YtjcdfnbomkoheaaGreatDoor
open Go Go.Shelf Go.RowKit Go.Lib Go.Sort
abbrev recC (x : Ix.Rec) : List Value := [.int .i64 x.1, .int .i64 x.2]
theorem recC_len (x : Ix.Rec) : (recC x).length = 2 := rfl
abbrev lineC (x : List UInt8 × Int) : List Value := [Sx.str x.1, .int .i64 x.2]
theorem lineC_len (x : List UInt8 × Int) : (lineC x).length = 2 := rfl
def cmpRec (x y : Ix.Rec) : Int := orR (compareInt x.1 y.1) (compareInt x.2 y.2)
def cmpLine (x y : List UInt8 × Int) : Int := cmpS x.1 y.1
theorem cmpRec_lt (x y : Ix.Rec) : ltOf cmpRec x y = Ix.lessR x y := by
  rw [Bool.eq_iff_iff, Ix.lessR_iff]
  unfold ltOf cmpRec orR compareInt
  rw [decide_eq_true_eq]
  repeat (first | omega | split)
theorem cmpRec_swo : SWO (ltOf cmpRec) where
  irrefl x := by rw [cmpRec_lt]; exact Ix.lessR_irr x
  trans x y z h1 h2 := by rw [cmpRec_lt] at *; exact Ix.lessR_trans h1 h2
  ntrans x y z h1 h2 := by
    rw [cmpRec_lt, Bool.eq_false_iff, Ne, Ix.lessR_iff] at *
    omega
theorem cmpLine_lt (x y : List UInt8 × Int) : ltOf cmpLine x y = decide (x.1 < y.1) := by
  unfold ltOf cmpLine cmpS
  rw [decide_eq_decide]
  by_cases h : x.1 < y.1
  · rw [if_pos h]; simp [h]
  rw [if_neg h]
  by_cases h2 : y.1 < x.1
  · rw [if_pos h2]; simp [h]
  rw [if_neg h2]; simp [h]
theorem cmpLine_swo : SWO (ltOf cmpLine) where
  irrefl x := by rw [cmpLine_lt]; exact decide_eq_false (List.lt_irrefl _)
  trans x y z h1 h2 := by
    rw [cmpLine_lt] at *
    exact decide_eq_true (List.lt_trans (odt h1) (odt h2))
  ntrans x y z h1 h2 := by
    rw [cmpLine_lt] at *
    have g1 := List.not_lt.1 (odf h1)
    have g2 := List.not_lt.1 (odf h2)
    exact decide_eq_false (List.not_lt.2 (List.le_trans g2 g1))
theorem SortRec_ok {base : Nat} (l : List Ix.Rec) (g : Sx.Gs) (hg : Sx.gOk base 2 l.length (l.flatMap recC) g) (hl : l.length ≤ 100000000000000) (I : Sx.Heap) : Sx.Ctr Tryz.prog 69 [Sx.gV l.length g, .func (.func 70) #[] #[]] I (Sx.gH 26 (l.flatMap recC) g)
    (fun e _I' H' => ∃ l' : List Ix.Rec, l'.Perm l ∧ l'.Pairwise (fun p q => Ix.lessR q p = false) ∧ e = .returned (.tuple #[]) ∧ H' = Sx.gH 26 (l'.flatMap recC) g) := by
  cases g with
  | none =>
    obtain ⟨h1, h2⟩ := hg
    have h0 : l = [] := List.length_eq_zero_iff.1 h1
    subst h0
    exact (Sx.Pure.of_same (Sx.Enters.of Tryz.func69 (by decide) rfl) (fun w _ => AnyF.slices_SortFunc_none Tryz.sortF none 0 (.func (.func 70) #[] #[]) w)).mono fun e I' H' _ ⟨h1, _, h3⟩ => ⟨[], List.Perm.refl _, List.Pairwise.nil, h1, h3⟩
  | some q =>
    obtain ⟨b, c, sp⟩ := q
    refine ⟨Sx.Enters.of Tryz.func69 (by decide) rfl, fun w hw => ?_⟩
    have hb := hw.2.1 _ (.head _)
    have hlt : b < w.heap.size := by
      rcases Nat.lt_or_ge b w.heap.size with h | h
      · exact h
      rw [Array.getElem?_eq_none h] at hb; cases hb
    have eg : ∀ args w, (callFunc 70 args).run Tryz.prog w = .ok (.enter 70 args) w := enters_of Tryz.func70 (by kernel_rfl) rfl
    have hH : HoldsK recC 2 w b 0 l.toArray := by
      unfold HoldsK
      rw [Sx.flatK_list recC_len]
      exact Sx.row_holdsV hb
    have hcmp : CmpLays Tryz.prog 70 #[] recC 2 cmpRec b 0 l.toArray.size w := fun m os dk _ x y => compareR_ok x.1 x.2 y.1 y.2 _
    have hcon := AnyQ.slices_SortFunc Tryz.sortF 2 tA26 tS26 recC recC_len (fun x v hv => by
      simp only [List.mem_cons, List.not_mem_nil, or_false] at hv
      rcases hv with rfl | rfl <;> rfl) cmpRec cmpRec_swo 70 #[] b 0 c l.toArray w eg hcmp hH hlt (by simp; omega)
    refine hcon.mono fun e w' ⟨h1, d', n, os, h2, h3, h4⟩ => ?_
    rw [List.size_toArray] at h2 h3
    have hp := Sx.perm_in h2
    have hds : d'.size = l.length := by have := hp.length_eq; simpa using this
    rw [← hds] at h3
    refine ⟨I, _, ?_, d'.toList, hp, (Sx.sorted_in h3).imp fun h => ?_, h1, rfl⟩
    · rw [h4]
      unfold sortWorldK putRowK
      rw [show d' = d'.toList.toArray from (Array.toArray_toList (xs := d')).symm, Sx.flatK_list recC_len]
      exact Sx.St.rowV n os hw (by rw [Sx.flat_len recC_len, Sx.flat_len recC_len, hp.length_eq])
    rw [cmpRec_lt] at h
    exact h
theorem SortLine_ok {base : Nat} (l : List (List UInt8 × Int)) (g : Sx.Gs) (hg : Sx.gOk base 2 l.length (l.flatMap lineC) g) (hl : l.length ≤ 100000000000000) (I : Sx.Heap) : Sx.Ctr Tryz.prog 57 [Sx.gV l.length g, .func (.func 58) #[] #[]] I (Sx.gH 57 (l.flatMap lineC) g)
    (fun e _I' H' => ∃ l' : List (List UInt8 × Int), l'.Perm l ∧ l'.Pairwise (fun p q => ¬ q.1 < p.1) ∧ e = .returned (.tuple #[]) ∧ H' = Sx.gH 57 (l'.flatMap lineC) g) := by
  cases g with
  | none =>
    obtain ⟨h1, h2⟩ := hg
    have h0 : l = [] := List.length_eq_zero_iff.1 h1
    subst h0
    exact (Sx.Pure.of_same (Sx.Enters.of Tryz.func57 (by decide) rfl) (fun w _ => AnyF.slices_SortFunc_none Tryz.sortL none 0 (.func (.func 58) #[] #[]) w)).mono fun e I' H' _ ⟨h1, _, h3⟩ => ⟨[], List.Perm.refl _, List.Pairwise.nil, h1, h3⟩
  | some q =>
    obtain ⟨b, c, sp⟩ := q
    refine ⟨Sx.Enters.of Tryz.func57 (by decide) rfl, fun w hw => ?_⟩
    have hb := hw.2.1 _ (.head _)
    have hlt : b < w.heap.size := by
      rcases Nat.lt_or_ge b w.heap.size with h | h
      · exact h
      rw [Array.getElem?_eq_none h] at hb; cases hb
    have eg : ∀ args w, (callFunc 58 args).run Tryz.prog w = .ok (.enter 58 args) w := enters_of Tryz.func58 (by kernel_rfl) rfl
    have hH : HoldsK lineC 2 w b 0 l.toArray := by
      unfold HoldsK
      rw [Sx.flatK_list lineC_len]
      exact Sx.row_holdsV hb
    have hcmp : CmpLays Tryz.prog 58 #[] lineC 2 cmpLine b 0 l.toArray.size w := fun m os dk _ x y => scan1_ok x.1 y.1 x.2 y.2 _
    have hcon := AnyQ.slices_SortFunc Tryz.sortL 2 Tryz.isAgg57 tS57 lineC lineC_len (fun x v hv => by
      simp only [List.mem_cons, List.not_mem_nil, or_false] at hv
      rcases hv with rfl | rfl <;> rfl) cmpLine cmpLine_swo 58 #[] b 0 c l.toArray w eg hcmp hH hlt (by simp; omega)
    refine hcon.mono fun e w' ⟨h1, d', n, os, h2, h3, h4⟩ => ?_
    rw [List.size_toArray] at h2 h3
    have hp := Sx.perm_in h2
    have hds : d'.size = l.length := by have := hp.length_eq; simpa using this
    rw [← hds] at h3
    refine ⟨I, _, ?_, d'.toList, hp, (Sx.sorted_in h3).imp fun h => ?_, h1, rfl⟩
    · rw [h4]
      unfold sortWorldK putRowK
      rw [show d' = d'.toList.toArray from (Array.toArray_toList (xs := d')).symm, Sx.flatK_list lineC_len]
      exact Sx.St.rowV n os hw (by rw [Sx.flat_len lineC_len, Sx.flat_len lineC_len, hp.length_eq])
    rw [cmpLine_lt] at h
    exact odf h
end Go.Proofs.YtjcdfnbomkoheaaGreatDoor
end
