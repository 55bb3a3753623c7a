/-
  Own texts on the laws of the seat, joined: the logic, and contracts of functions. Conditions: none.
-/
import Derived.Test.YtekmeaoblpfnpaaGreatDoorPG6
import Derived.Deep.Draws
set_option maxRecDepth 100000
set_option maxHeartbeats 40000000
section
namespace Go.Sx
open Go
section
variable {α β : Type} [BEq α] [LawfulBEq α]
abbrev kvp (p : α × Value × Nat) : α × Value := (p.1, p.2.1)
def pget (l : List (α × Value)) (a : α) : Option Value := match l with
  | [] => none
  | (b, v) :: r => if a == b then some v else pget r a
def pset (l : List (α × Value)) (a : α) (v : Value) : List (α × Value) := match l with
  | [] => [(a, v)]
  | (b, u) :: r => if a == b then (b, v) :: r else (b, u) :: pset r a v
omit [LawfulBEq α] in
theorem mget_kvp (a : α) : ∀ l : ML α, mget l a = pget (l.map kvp) a
  | [] => rfl
  | (b, v, n) :: r => by simp only [mget, List.map_cons, pget, mget_kvp a r]
omit [LawfulBEq α] in
theorem mset_kvp (a : α) (v : Value) (c : Nat) : ∀ l : ML α, (mset l a v c).map kvp = pset (l.map kvp) a v
  | [] => rfl
  | (b, u, n) :: r => by
    simp only [mset, List.map_cons, pset]
    split
    · rfl
    rw [List.map_cons, mset_kvp a v c r]
theorem pset_at {a : α} {u v : Value} {B : List (α × Value)} : ∀ {A : List (α × Value)}, a ∉ A.map (·.1) → pset (A ++ (a, u) :: B) a v = A ++ (a, v) :: B ∧ pget (A ++ (a, u) :: B) a = some u
  | [], _ => by simp [pset, pget]
  | (b, w) :: A, h => by
    rw [List.map_cons, List.mem_cons, not_or] at h
    obtain ⟨h1, h2⟩ := pset_at (u := u) (v := v) (B := B) h.2
    have hb : (a == b) = false := by simpa using h.1
    simp only [List.cons_append, pset, pget, hb, Bool.false_eq_true, if_false, h1, h2, and_self]
theorem pset_new {a : α} {v : Value} : ∀ {A : List (α × Value)}, a ∉ A.map (·.1) → pset A a v = A ++ [(a, v)] ∧ pget A a = none
  | [], _ => ⟨rfl, rfl⟩
  | (b, w) :: A, h => by
    rw [List.map_cons, List.mem_cons, not_or] at h
    obtain ⟨h1, h2⟩ := pset_new (v := v) h.2
    have hb : (a == b) = false := by simpa using h.1
    simp only [List.cons_append, pset, pget, hb, Bool.false_eq_true, if_false, h1, h2, and_self]
variable {cx : Cx} {Q : Qt} {e : Env} {I : Heap} {H H' : HL}
theorem JA.perm {l : List Oper} {I1 : Heap} {A : HL} {Z : CL} {z fuel : Nat} {listed : Array Bool} (hs : H'.Perm H) (k : JA cx Q l I1 A Z z fuel listed e I H') : JA cx Q l I1 A Z z fuel listed e I H := fun a w ha h1 => k a w ha (h1.perm hs)
end
end Go.Sx
end
section
namespace Go.Sx
open Go
section
variable {α β : Type} [BEq α] [LawfulBEq α] [BEq β] [LawfulBEq β]
abbrev Nest (α β : Type) := List (α × Nat × ML β × Nat)
abbrev nvp (e : α × Nat × ML β × Nat) : α × Value := (e.1, .map (some e.2.1))
def nestH (kv : β → Value) (N : Nest α β) : HL := N.map fun e => (e.2.1, mobj kv e.2.2.1 e.2.2.2)
omit [BEq α] [LawfulBEq α] [BEq β] [LawfulBEq β] in
theorem nestH_app (kv : β → Value) (A B : Nest α β) : nestH kv (A ++ B) = nestH kv A ++ nestH kv B := by unfold nestH; rw [List.map_append]
omit [BEq α] [LawfulBEq α] [BEq β] [LawfulBEq β] in
theorem nestH_out (kv : β → Value) (A B : Nest α β) (a : α) (b : Nat) (m : ML β) (c : Nat) : ((b, mobj kv m c) :: nestH kv (A ++ B)).Perm (nestH kv (A ++ (a, b, m, c) :: B)) := by
  rw [nestH_app, nestH_app]
  exact (List.perm_middle).symm
def cv (n : Nat) : Option Value := if n = 0 then none else some (i64 (n : Int))
def bump (f : α → β → Nat) (a : α) (b : β) (d : Nat → Nat) (x : α) (y : β) : Nat := if x == a && y == b then d (f x y) else f x y
structure NestS (l : ML α) (c : Nat) (N : Nest α β) (f : α → β → Nat) : Prop where
  ms : MS l c
  vals : l.map kvp = N.map nvp
  inn : ∀ e ∈ N, MS e.2.2.1 e.2.2.2 ∧ e.2.2.1 ≠ [] ∧ ∀ t, mget e.2.2.1 t = cv (f e.1 t)
  out : ∀ a, a ∉ N.map (·.1) → ∀ t, f a t = 0
omit [BEq α] [LawfulBEq α] [LawfulBEq β] in
theorem NestS.nil : NestS ([] : ML α) 0 ([] : Nest α β) (fun _ _ => 0) := ⟨MS.nil, rfl, fun _ h => (by cases h), fun _ _ _ => rfl⟩
omit [BEq α] [LawfulBEq α] [BEq β] [LawfulBEq β] in
theorem nvp_keys (N : Nest α β) : (N.map nvp).map (·.1) = N.map (·.1) := by rw [List.map_map]; rfl
omit [BEq α] [LawfulBEq α] [LawfulBEq β] in
theorem NestS.keys {l : ML α} {c : Nat} {N : Nest α β} {f : α → β → Nat} (h : NestS l c N f) : l.map (·.1) = N.map (·.1) := by
  rw [← nvp_keys N, ← h.vals, List.map_map]; rfl
omit [BEq α] [LawfulBEq α] [LawfulBEq β] in
theorem NestS.nodup {l : ML α} {c : Nat} {N : Nest α β} {f : α → β → Nat} (h : NestS l c N f) : (N.map (·.1)).Nodup := h.keys ▸ h.ms.1
omit [LawfulBEq β] in
theorem NestS.find {l : ML α} {c : Nat} {N : Nest α β} {f : α → β → Nat} (h : NestS l c N f) (a : α) :
    (a ∉ N.map (·.1) ∧ mget l a = none ∧ ∀ t, f a t = 0) ∨ ∃ A b m k B, N = A ++ (a, b, m, k) :: B ∧ mget l a = some (.map (some b)) ∧ MS m k ∧ m ≠ [] ∧ (∀ t, mget m t = cv (f a t)) ∧ a ∉ A.map (·.1) ∧ a ∉ B.map (·.1) := by
  by_cases ha : a ∈ N.map (·.1)
  · obtain ⟨⟨a', b, m, k⟩, he, rfl⟩ := List.mem_map.1 ha
    obtain ⟨A, B, rfl⟩ := List.append_of_mem he
    have hn := h.nodup
    rw [List.map_append, List.map_cons, List.nodup_append, List.nodup_cons] at hn
    have h1 : a' ∉ A.map (·.1) := fun g => hn.2.2 _ g _ (.head _) rfl
    have h2 : mget l a' = some (.map (some b)) := by
      rw [mget_kvp, h.vals, List.map_append, List.map_cons]
      exact (pset_at (v := .map none) (by rw [nvp_keys]; exact h1)).2
    obtain ⟨h3, h4, h5⟩ := h.inn _ he
    exact .inr ⟨A, b, m, k, B, rfl, h2, h3, h4, h5, h1, hn.2.1.1⟩
  refine .inl ⟨ha, ?_, h.out a ha⟩
  rw [mget_none, h.keys]; exact ha
theorem NestS.set {l : ML α} {c : Nat} {A B : Nest α β} {f : α → β → Nat} {a : α} {b k k' : Nat} {m m' : ML β} {t : β} {d : Nat → Nat} (h : NestS l c (A ++ (a, b, m, k) :: B) f)
    (h1 : MS m' k') (h2 : m' ≠ []) (h3 : ∀ s, mget m' s = if s == t then cv (d (f a t)) else mget m s) : NestS l c (A ++ (a, b, m', k') :: B) (bump f a t d) := by
  have hn := h.nodup
  rw [List.map_append, List.map_cons, List.nodup_append, List.nodup_cons] at hn
  have hA : ∀ e ∈ A ++ B, e.1 ≠ a := by
    intro e he g
    rcases List.mem_append.1 he with he | he
    · exact hn.2.2 _ (List.mem_map_of_mem he) _ (.head _) g
    exact hn.2.1.1 (List.mem_map.2 ⟨e, he, g⟩)
  refine ⟨h.ms, ?_, fun e he => ?_, fun x hx s => ?_⟩
  · rw [h.vals]; simp
  · have hcase : e ∈ A ++ B ∨ e = (a, b, m', k') := by
      rcases List.mem_append.1 he with he | he
      · exact .inl (List.mem_append_left _ he)
      rcases List.mem_cons.1 he with he | he
      · exact .inr he
      exact .inl (List.mem_append_right _ he)
    rcases hcase with he | rfl
    · obtain ⟨g1, g2, g3⟩ := h.inn e (by rcases List.mem_append.1 he with he | he; exact List.mem_append_left _ he; exact List.mem_append_right _ (.tail _ he))
      refine ⟨g1, g2, fun s => ?_⟩
      have : (e.1 == a) = false := by simpa using hA e he
      rw [g3]; unfold bump; rw [this]; rfl
    refine ⟨h1, h2, fun s => ?_⟩
    dsimp only
    rw [h3]
    obtain ⟨_, _, g3⟩ := h.inn (a, b, m, k) (by simp)
    unfold bump
    by_cases hs : (s == t) = true
    · have := eq_of_beq hs; subst this; simp
    simp only [hs, if_false, beq_self_eq_true, Bool.true_and, Bool.false_eq_true]; exact g3 s
  have hx' : x ∉ (A ++ (a, b, m, k) :: B).map (·.1) := by simpa using hx
  have hxa : (x == a) = false := by
    have : x ≠ a := fun g => hx (by rw [g]; simp)
    simpa using this
  unfold bump
  rw [hxa]; exact h.out x hx' s
theorem NestS.add {l : ML α} {c : Nat} {N : Nest α β} {f : α → β → Nat} {a : α} {b k' : Nat} {m' : ML β} {t : β} {d : Nat → Nat} (h : NestS l c N f) (ha : a ∉ N.map (·.1))
    (h1 : MS m' k') (h2 : m' ≠ []) (h3 : ∀ s, mget m' s = if s == t then cv (d 0) else none) : NestS (mset l a (.map (some b)) c) (mclk l a c) (N ++ [(a, b, m', k')]) (bump f a t d) := by
  refine ⟨h.ms.set a _, ?_, fun e he => ?_, fun x hx s => ?_⟩
  · rw [mset_kvp, h.vals, (pset_new (by rw [nvp_keys]; exact ha)).1, List.map_append]; rfl
  · rcases List.mem_append.1 he with he | he
    · obtain ⟨g1, g2, g3⟩ := h.inn e he
      refine ⟨g1, g2, fun s => ?_⟩
      have : (e.1 == a) = false := by
        have : e.1 ≠ a := fun g => ha (g ▸ List.mem_map_of_mem he)
        simpa using this
      rw [g3]; unfold bump; rw [this]; rfl
    rw [List.mem_singleton.1 he]
    refine ⟨h1, h2, fun s => ?_⟩
    dsimp only
    rw [h3, ← h.out a ha t]
    unfold bump
    by_cases hs : (s == t) = true
    · have := eq_of_beq hs; subst this; simp
    simp only [hs, if_false, beq_self_eq_true, Bool.true_and, Bool.false_eq_true]
    rw [h.out a ha s]; rfl
  rw [List.map_append, List.mem_append, not_or] at hx
  have hxa : (x == a) = false := by
    have : x ≠ a := by simpa using hx.2
    simpa using this
  unfold bump
  rw [hxa]; exact h.out x hx.1 s
theorem NestS.drop {l : ML α} {c : Nat} {A B : Nest α β} {f : α → β → Nat} {a : α} {b k : Nat} {m : ML β} {t : β} {d : Nat → Nat} (h : NestS l c (A ++ (a, b, m, k) :: B) f)
    (h1 : ∀ s, s ≠ t → f a s = 0) (h2 : d (f a t) = 0) : NestS (mdel l a) c (A ++ B) (bump f a t d) := by
  have hn := h.nodup
  rw [List.map_append, List.map_cons, List.nodup_append, List.nodup_cons] at hn
  have hA : ∀ e ∈ A ++ B, e.1 ≠ a := by
    intro e he g
    rcases List.mem_append.1 he with he | he
    · exact hn.2.2 _ (List.mem_map_of_mem he) _ (.head _) g
    exact hn.2.1.1 (List.mem_map.2 ⟨e, he, g⟩)
  refine ⟨h.ms.del a, ?_, fun e he => ?_, fun x hx s => ?_⟩
  · have h3 : (mdel l a).map kvp = (l.map kvp).filter fun p => !(p.1 == a) := by
      rw [mdel_filter h.ms.1, List.filter_map]; rfl
    rw [h3, h.vals, List.map_append, List.map_cons, List.filter_append, List.filter_cons_of_neg (by simp), ← List.filter_append, ← List.map_append]
    rw [List.filter_eq_self.2]
    intro p hp
    obtain ⟨e, he, rfl⟩ := List.mem_map.1 hp
    have := hA e he
    simpa using this
  · obtain ⟨g1, g2, g3⟩ := h.inn e (by rcases List.mem_append.1 he with he | he; exact List.mem_append_left _ he; exact List.mem_append_right _ (.tail _ he))
    refine ⟨g1, g2, fun s => ?_⟩
    have : (e.1 == a) = false := by simpa using hA e he
    rw [g3]; unfold bump; rw [this]; rfl
  unfold bump
  by_cases hxa : x = a
  · subst hxa
    by_cases hs : s = t
    · subst hs; simp [h2]
    have : (s == t) = false := by simpa using hs
    simp only [this, Bool.and_false, Bool.false_eq_true, if_false]; exact h1 s hs
  have hxb : (x == a) = false := by simpa using hxa
  rw [hxb]
  refine h.out x ?_ s
  rw [List.map_append, List.map_cons, List.mem_append, List.mem_cons, not_or, not_or]
  rw [List.map_append, List.mem_append, not_or] at hx
  exact ⟨hx.1, hxa, hx.2⟩
theorem cv_set {m : ML β} {g : β → Nat} (_hm : ∀ s, mget m s = cv (g s)) (t : β) (n : Nat) (hn : n ≠ 0) (k : Nat) : ∀ s, mget (mset m t (i64 (n : Int)) k) s = if s == t then cv n else mget m s := by
  intro s
  rw [mget_mset]; unfold cv; rw [if_neg hn]
omit [LawfulBEq β] in
theorem cv_get {m : ML β} {g : β → Nat} (hm : ∀ s, mget m s = cv (g s)) (t : β) : (mget m t).getD (i64 0) = i64 (g t : Int) := by
  rw [hm]; unfold cv
  split
  · rename_i h; rw [h]; rfl
  rfl
end
end Go.Sx
end
section
namespace Go.Sx
open Go
section
variable {P : Program} {K i : TypeId} {f0 f1 : Field}
theorem check_str {b : Bool} {t : TypeId} (hu : P.underlying t = some .string) (a : List UInt8) (d : Nat) (w : World) : (Instr.checkKey b (d + 1) t (str a)).run P w = .ok () w := by simp [Instr.checkKey, run_underlying hu]
theorem equal_str {t : TypeId} (hu : P.underlying t = some .string) (a b : List UInt8) (d : Nat) (w : World) : (Op.equalIn (d + 1) t (str a) (str b)).run P w = .ok (a == b) w := by
  have h : ((⟨a.toArray⟩ : ByteArray) == ⟨b.toArray⟩) = (a == b) := by
    show (a.toArray == b.toArray) = (a == b)
    simp
  simp [Op.equalIn, run_underlying hu, str, h]
theorem KeyK.texts2 (hu : P.underlying K = some (.struct #[f0, f1])) (hp : P.stoodInHeld K = false) (n0 : f0.name ≠ "_") (n1 : f1.name ≠ "_") (o0 : f0.offset = 0) (o1 : f1.offset = 1) (t0 : f0.type = i) (t1 : f1.type = i) (hi : P.underlying i = some .string) (ha : ∀ w, (isAgg i).run P w = .ok false w) :
    KeyK P K (fun a : List UInt8 × List UInt8 => .agg #[str a.1, str a.2]) := by
  subst t0
  refine KeyK.equal hu (fun a b => rfl) (fun a b w => ?_) (fun b a w => ?_) (fun a => ?_)
  · have h := stru_equal2 hu hp n0 n1 o0 o1 ha (t1 ▸ ha) (x0 := str a.1) (x1 := str a.2) (y0 := str b.1) (y1 := str b.2) w (fun d w => equal_str hi a.1 b.1 d w) (fun d w => equal_str (t1 ▸ hi) a.2 b.2 d w) 9998
    exact h
  · exact stru_check2 hu n0 n1 o0 o1 ha (t1 ▸ ha) b w (fun d w => check_str hi _ d w) (fun d w => check_str (t1 ▸ hi) _ d w) 9998
  show Instr.sameBits (9999 + 1) _ _ = true
  have h := fun x n => sameBits_str x n
  simp [Instr.sameBits, h]
end
end Go.Sx
end
section
namespace Go.Sx
open Go
section
variable {α : Type} [BEq α] [LawfulBEq α]
def mst (l : ML α) (a : α) (c : Nat) : Nat := match l with
  | [] => c
  | (b, _, n) :: r => if a == b then n else mst r a c
omit [LawfulBEq α] in
theorem mst_none {l : ML α} {a : α} {c : Nat} (h : mget l a = none) : mst l a c = c := by
  induction l with
  | nil => rfl
  | cons p r ih =>
    obtain ⟨b, u, n⟩ := p
    unfold mget at h
    unfold mst
    split at h
    · cases h
    rename_i hne
    rw [if_neg hne]; exact ih h
theorem mst_some {a : α} {v : Value} : ∀ (l : ML α) (c i : Nat), mget l a = some v → ∃ j, midx l a i = some (i + j, v) ∧ l[j]? = some (a, v, mst l a c) ∧ ∀ x c', mset l a x c' = l.set j (a, x, mst l a c)
  | [], _, _, h => by cases h
  | (b, u, n) :: r, c, i, h => by
    unfold mget at h
    split at h
    · rename_i he
      have he' := eq_of_beq he
      subst he'
      cases h
      exact ⟨0, by simp [midx], by simp [mst], fun x c' => by simp [mset, mst]⟩
    rename_i hne
    have hb : (a == b) = false := by simpa using hne
    obtain ⟨j, h1, h2, h3⟩ := mst_some r c (i + 1) h
    refine ⟨j + 1, ?_, ?_, fun x c' => by simp [mset, mst, hb, h3]⟩
    · simp only [midx, hb, Bool.false_eq_true, if_false]
      rw [h1, Nat.add_assoc, Nat.add_comm 1 j]
    simp only [List.getElem?_cons_succ, mst, hb, Bool.false_eq_true, if_false]; exact h2
variable {cx : Cx} {Q : Qt} {e : Env} {I : Heap} {H : HL} {o : Oper} {C : Ct} {S : World → Prop}
theorem run_mapEntry {P : Program} {T K E b c : Nat} {kv : α → Value} {l : ML α} {a : α} {z : Value} {w : World} (hT : P.underlying T = some (.map K E)) (hk : KeyK P K kv) (hz : ∀ w, (zeroValue E).run P w = .ok z w) (hb : w.heap[b]? = some (mobj kv l c)) :
    (Instr.mapEntry T (.map (some b)) (kv a)).run P w = .ok (.tuple #[(mget l a).getD z, i64 (mst l a c : Int)]) (World.block w b (mobj kv (mset l a ((mget l a).getD z) c) (mclk l a c))) := by
  obtain ⟨hf, hc, hbits⟩ := hk
  have hg : (getObj b).run P w = .ok (mobj kv l c) w := by simp [getObj, Sem.run, hb, mobj]
  have hset : ∀ o', (setObj b o').run P w = .ok () (World.block w b o') := fun o' => by simp [setObj, Sem.run, hb, World.block, mobj]
  cases hm : mget l a with
  | none =>
    obtain ⟨h1, h2⟩ := midx_none l 0 hm
    have h3 : (Instr.findKey K (kv a) (l.map (ment kv))).run P w = .ok none w := by rw [hf, h1]
    simp only [Instr.mapEntry, Sem.run_bind, run_underlying hT, Result.andThen_ok, hg, mobj, hc, h3, hz, hset, h2, mclk, hm, mst_none hm]
    simp [goInt]
  | some u =>
    obtain ⟨j, h1, h2, h3⟩ := mst_some l c 0 hm
    rw [Nat.zero_add] at h1
    have h4 : (Instr.findKey K (kv a) (l.map (ment kv))).run P w = .ok (some (j, u)) w := by rw [hf, h1]
    have hj : (l.map (ment kv)).toArray[j]? = some { key := kv a, val := u, born := mst l a c } := by simp [h2, ment]
    have hkeep : ∀ w, (Instr.keyThatStays (kv a) (kv a)).run P w = .ok (kv a) w := fun w => by simp [Instr.keyThatStays, hbits]
    simp only [Instr.mapEntry, Sem.run_bind, run_underlying hT, Result.andThen_ok, hg, mobj, hc, h4, hj, Option.map_some, Option.getD_some, hkeep, hset, h3, mclk, hm, Option.isSome_some, if_true, goInt, Sem.run_pure]
    refine congrArg (fun A => Result.ok (Value.tuple #[u, Value.int .i64 (mst l a c : Int)]) (World.block w b (Obj.map A c))) ?_
    apply Array.ext_getElem?
    intro i
    rw [Array.getElem?_modify]
    simp only [List.getElem?_toArray, List.getElem?_map, List.getElem?_set]
    by_cases hi : j = i
    · subst hi
      have hlt : j < l.length := by
        rcases Nat.lt_or_ge j l.length with h' | h'
        · exact h'
        simp [List.getElem?_eq_none h'] at h2
      have h5 : l[j] = (a, u, mst l a c) := by
        have := List.getElem?_eq_getElem hlt
        rw [h2] at this; exact (Option.some.inj this).symm
      simp [hlt, h5]
    simp [hi]
theorem op_mapEntry {T K E b c d : Nat} {m x : Operand} {kv : α → Value} {l : ML α} {a : α} {kx z : Value} {H' : HL} (i : Nat) (ho : o.op = .mapEntry T m x) (hd : o.dst = some d) (hn : Nat.blt d cx.n = true) (hm : ev e m = some (.map (some b))) (hx : ev e x = some kx) (hkx : kx = kv a) (hT : cx.P.underlying T = some (.map K E)) (hK : KeyK cx.P K kv) (hz : ∀ w, (zeroValue E).run cx.P w = .ok z w)
    (hH : H[i]? = some (b, mobj kv l c)) (hH' : LSet H i (b, mobj kv (mset l a ((mget l a).getD z) c) (mclk l a c)) H') (kk : C ((d, .tuple #[(mget l a).getD z, i64 (mst l a c : Int)]) :: e) I H') : OpJ cx Q o e I H C := by
  intro Kk hKk w0 w ha hs
  unfold Oper.wp
  subst hkx
  have hb := hs.own _ (List.mem_of_getElem? hH)
  have hr := run_mapEntry (a := a) hT hK hz hb
  have : (execOp w0.eval o).run cx.P w = .ok (.value (.tuple #[(mget l a).getD z, i64 (mst l a c : Int)])) (World.block w b (mobj kv (mset l a ((mget l a).getD z) c) (mclk l a c))) := by
    simp [execOp, ho, ha.eval hm, ha.eval hx, hr]
  rw [this]
  simp only [Oper.upon, hd]
  exact hKk _ _ _ kk _ _ (ha.put hn) (hs.block hH hH')
theorem mset_two {l : ML α} {a : α} {x v : Value} {c : Nat} (_h : MS l c) : ∃ j, (mset l a x c)[j]? = some (a, x, mst l a c) ∧ mset l a v c = (mset l a x c).set j (a, v, mst l a c) := by
  cases hm : mget l a with
  | none =>
    obtain ⟨_, h2⟩ := midx_none l 0 hm
    refine ⟨l.length, ?_, ?_⟩
    · rw [h2, mst_none hm]; simp
    rw [h2, h2, mst_none hm]; simp
  | some u =>
    obtain ⟨j, _, h2, h3⟩ := mst_some l c 0 hm
    refine ⟨j, ?_, ?_⟩
    · rw [h3, List.getElem?_set, if_pos rfl, if_pos (List.getElem?_eq_some_iff.1 h2).1]
    rw [h3, h3, List.set_set]
theorem run_entryStore {P : Program} {T b c : Nat} {kv : α → Value} {l : ML α} {a : α} {x v : Value} {w : World} (h : MS l c) (hb : w.heap[b]? = some (mobj kv (mset l a x c) (mclk l a c))) :
    (Instr.entryStore T (.map (some b)) (i64 (mst l a c : Int)) v).run P w = .ok () (World.block w b (mobj kv (mset l a v c) (mclk l a c))) := by
  have hg : (getObj b).run P w = .ok (mobj kv (mset l a x c) (mclk l a c)) w := by simp [getObj, Sem.run, hb, mobj]
  have hset : ∀ o', (setObj b o').run P w = .ok () (World.block w b o') := fun o' => by simp [setObj, Sem.run, hb, World.block, mobj]
  obtain ⟨j, h1, h2⟩ := mset_two (x := x) (v := v) (a := a) h
  have hms := h.set a x
  generalize mset l a x c = L at h1 h2 hms hg
  have hj : j < L.length := (List.getElem?_eq_some_iff.1 h1).1
  have hLj : L[j] = (a, x, mst l a c) := (List.getElem?_eq_some_iff.1 h1).2
  have hf : (L.map (ment kv)).toArray.findIdx? (fun e => (e.born : Int) == (mst l a c : Int)) = some j := by
    rw [List.findIdx?_toArray, List.findIdx?_eq_some_iff_getElem]
    refine ⟨by simpa using hj, by simp [hLj], fun k hk => ?_⟩
    simp only [List.getElem_map, Bool.not_eq_true, beq_eq_false_iff_ne, ne_eq]
    intro he
    have hk' : k < L.length := by omega
    have h3 := hms.2.1
    rw [List.nodup_iff_pairwise_ne, List.pairwise_map, List.pairwise_iff_getElem] at h3
    refine h3 k j hk' hj hk ?_
    rw [hLj]
    exact Int.ofNat_inj.1 he
  have hai : ∀ w, (asInt (i64 (mst l a c : Int))).run P w = .ok (mst l a c : Int) w := fun w => by simp [asInt, asIntOf]
  simp only [Instr.entryStore, Sem.run_bind, hg, mobj, Result.andThen_ok, hai, hf, hset]
  refine congrArg (fun A => Result.ok () (World.block w b (Obj.map A (mclk l a c)))) ?_
  rw [h2]
  apply Array.ext_getElem?
  intro i
  rw [Array.getElem?_modify]
  simp only [List.getElem?_toArray, List.getElem?_map, List.getElem?_set]
  by_cases hi : j = i
  · subst hi
    simp [hj, hLj]
  simp [hi]
theorem op_entryStore {T b c : Nat} {m x y : Operand} {kv : α → Value} {l : ML α} {a : α} {u v : Value} {n : Int} {H' : HL} (i : Nat) (ho : o.op = .entryStore T m x y) (hd : o.dst = none) (hm : ev e m = some (.map (some b))) (hx : ev e x = some (i64 n)) (hnn : n = (mst l a c : Int)) (hy : ev e y = some v) (hMS : MS l c)
    (hH : H[i]? = some (b, mobj kv (mset l a u c) (mclk l a c))) (hH' : LSet H i (b, mobj kv (mset l a v c) (mclk l a c)) H') (kk : C e I H') : OpJ cx Q o e I H C := by
  intro Kk hKk w0 w ha hs
  unfold Oper.wp
  subst hnn
  have hb := hs.own _ (List.mem_of_getElem? hH)
  have hr := run_entryStore (P := cx.P) (T := T) (v := v) hMS hb
  have : (execOp w0.eval o).run cx.P w = .ok .skip (World.block w b (mobj kv (mset l a v c) (mclk l a c))) := by
    simp [execOp, ho, ha.eval hm, ha.eval hx, ha.eval hy, hr]
  rw [this]
  simp only [Oper.upon, hd]
  exact hKk _ _ _ kk _ _ ha.putNone (hs.block hH hH')
end
end Go.Sx
end
section
set_option maxHeartbeats 40000000
namespace Go.Proofs.YtekmeaoblpfnpaaGreatDoor
open _root_.Go.Proofs.Tryz
open Go Go.Sx
abbrev kvR (t : Ix.Rec) : Value := .agg #[i64 t.1, i64 t.2]
abbrev kvP (p : Ix.Pl) : Value := .agg #[str p.1, str p.2]
theorem keyR : KeyK Tryz.prog 54 kvR := KeyK.ints2 underlying54 (by kernel_rfl) (by decide) (by decide) rfl rfl rfl rfl underlying3 isAgg3
theorem keyP : KeyK Tryz.prog 152 kvP := KeyK.texts2 underlying152 (by kernel_rfl) (by decide) (by decide) rfl rfl rfl rfl underlying9 isAgg9
def setH (b : Nat) (l : ML Ix.Pl) (c : Nat) (N : Nest Ix.Pl Ix.Rec) : HL := (b, mobj kvP l c) :: nestH kvR N
theorem setH_out (b : Nat) (l : ML Ix.Pl) (c : Nat) (A B : Nest Ix.Pl Ix.Rec) (p : Ix.Pl) (ib : Nat) (m : ML Ix.Rec) (k : Nat) : ([(b, mobj kvP l c), (ib, mobj kvR m k)] ++ nestH kvR (A ++ B)).Perm (setH b l c (A ++ (p, ib, m, k) :: B)) :=
  List.Perm.cons _ (nestH_out kvR A B p ib m k)
theorem mset_ne {α : Type} [BEq α] [LawfulBEq α] (l : ML α) (a : α) (v : Value) (c : Nat) : mset l a v c ≠ [] := fun h => by
  have := (mset_mem (l := l) (a := a) (x := a) (v := v) (c := c)).2 (.inr rfl)
  rw [h] at this; cases this
theorem getD_set {α : Type} [BEq α] [LawfulBEq α] {l : ML α} {a : α} {v z : Value} {c : Nat} : (mget (mset l a v c) a).getD z = v := by
  rw [mget_mset]; simp
theorem cv_pos {n : Nat} (h : n ≠ 0) : cv n = some (i64 (n : Int)) := if_neg h
theorem add_new (b : Nat) (l : ML Ix.Pl) (c : Nat) (p : Ix.Pl) (t : Ix.Rec) (hm : mget l p = none) (I : Heap) : Ctr Tryz.prog 97 [.map (some b), kvP p, kvR t] I [(b, mobj kvP l c)]
    (fun e _ H' => ∃ ib, e = .returned (.tuple #[]) ∧ H' = [(b, mobj kvP (mset l p (.map (some ib)) c) (mclk l p c)), (ib, mobj kvR (mset [] t (i64 1) 0) (mclk ([] : ML Ix.Rec) t 0))]) := by
 refine xob func97 fun w0 hw0 => ?_
 refine axn 3 ?_
 intro b1 hb1
 refine axn 1 ?_
 intro b2 hb2
 refine axn 7 ?_
 refine J.z (yl_lookup1 (kv := kvP) (l := l) (a := p) rfl rfl rfl rfl underlying112 keyP zeroValue213 (Blk.at 2 rfl)) ?_
 refine J.ev 8 (.map none) rfl (by rw [hm]; rfl) ?_
 refine axn 7 ?_
 refine J.op rfl (op_makeMap rfl rfl rfl ?_)
 intro b4 hb4
 refine J.op rfl (op_insert (kv := kvP) (a := p) 3 (.inr rfl) rfl rfl rfl rfl rfl underlying112 keyP rfl (LSet.s (LSet.s (LSet.s LSet.z))) ?_)
 refine axn 2 ?_
 refine Cj.drawSel [1, 2, 3] [] 9 (by kernel_rfl) ?_
 refine axn 2 ?_
 refine JA.zt 2 rfl (yl_lookup1 (kv := kvP) (l := (mset l p (.map (some b4)) c)) (a := p) rfl rfl rfl rfl underlying112 keyP zeroValue213 (Blk.atC 2 rfl)) ?_
 refine JA.ev 15 (.map (some b4)) rfl getD_set ?_
 refine axn 1 ?_
 refine JA.all [4, 6] (by kernel_rfl) (by simp) ?_
 intro i hi
 simp only [List.mem_cons, List.not_mem_nil, or_false] at hi
 rcases hi with rfl | rfl
 ·
  refine ⟨_, rfl, rfl, ?_⟩
  refine op_yld (yl_lookup1 (kv := kvR) (l := []) (a := t) rfl rfl rfl rfl underlying213 keyR zeroValue3 (Blk.at 0 rfl)) rfl rfl ?_
  refine axn 1 ?_
  refine JA.ev 17 (i64 0) rfl rfl ?_
  refine JA.fix fxA (fun fx6 => ?_)
  refine JA.zt 5 rfl (yl_add rfl rfl rfl (w64 (by decide))) ?_
  refine q0 6 rfl (op_mapEntry (kv := kvR) (l := []) (c := 0) (a := t) 0 rfl rfl rfl rfl rfl rfl underlying213 keyR zeroValue3 rfl LSet.z ?_)
  refine axn 2 ?_
  refine q0 8 rfl (op_entryStore (kv := kvR) (l := []) (a := t) (c := 0) 0 rfl rfl rfl rfl rfl rfl MS.nil rfl LSet.z ?_)
  refine axn 2 ?_
  refine Ej.keep (Keeps.k (Keeps.d (Keeps.d (Keeps.k Keeps.n)))) ?_
  refine Ej.pull Pull.z ?_
  refine Ej.pull (Pull.s Pull.z) ?_
  refine Ej.end0 rfl rfl ?_
  exact ⟨_, rfl, rfl⟩
 refine ⟨_, rfl, rfl, ?_⟩
 refine op_mapEntry (kv := kvR) (l := []) (c := 0) (a := t) 0 rfl rfl rfl rfl rfl rfl underlying213 keyR zeroValue3 rfl LSet.z ?_
 refine axn 2 ?_
 refine q0 4 rfl (op_yld (yl_lookup1 (kv := kvR) (l := (mset [] t ((mget [] t).getD (.int .i64 0)) 0)) (a := t) rfl rfl rfl rfl underlying213 keyR zeroValue3 (Blk.at 0 rfl)) rfl rfl ?_)
 refine axn 1 ?_
 refine JA.ev 17 (i64 0) rfl getD_set ?_
 refine JA.fix fxA (fun fx9 => ?_)
 refine JA.zt 5 rfl (yl_add rfl rfl rfl (w64 (by decide))) ?_
 refine q0 8 rfl (op_entryStore (kv := kvR) (l := []) (a := t) (c := 0) 0 rfl rfl rfl rfl rfl rfl MS.nil rfl LSet.z ?_)
 refine axn 2 ?_
 refine Ej.keep (Keeps.k (Keeps.d (Keeps.d (Keeps.k Keeps.n)))) ?_
 refine Ej.pull Pull.z ?_
 refine Ej.pull (Pull.s Pull.z) ?_
 refine Ej.end0 rfl rfl ?_
 exact ⟨_, rfl, rfl⟩
theorem add_old (b : Nat) (l : ML Ix.Pl) (c : Nat) (p : Ix.Pl) (t : Ix.Rec) (ib : Nat) (m : ML Ix.Rec) (k n : Nat) (hm : mget l p = some (.map (some ib))) (hms : MS m k) (hn : (mget m t).getD (i64 0) = i64 (n : Int)) (hn2 : n ≤ 1000000000000000) (I : Heap) : Ctr Tryz.prog 97 [.map (some b), kvP p, kvR t] I [(b, mobj kvP l c), (ib, mobj kvR m k)]
    (fun e _ H' => e = .returned (.tuple #[]) ∧ H' = [(b, mobj kvP l c), (ib, mobj kvR (mset m t (i64 ((n + 1 : Nat) : Int)) k) (mclk m t k))]) := by
 refine xob func97 fun w0 hw0 => ?_
 refine axn 3 ?_
 intro b1 hb1
 refine axn 1 ?_
 intro b2 hb2
 refine axn 7 ?_
 refine J.z (yl_lookup1 (kv := kvP) (l := l) (a := p) rfl rfl rfl rfl underlying112 keyP zeroValue213 (Blk.at 2 rfl)) ?_
 refine J.ev 8 (.map (some ib)) rfl (by rw [hm]; rfl) ?_
 refine axn 6 ?_
 refine Cj.drawSel [0, 1, 2] [] 9 (by kernel_rfl) ?_
 refine axn 2 ?_
 refine JA.zt 2 rfl (yl_lookup1 (kv := kvP) (l := l) (a := p) rfl rfl rfl rfl underlying112 keyP zeroValue213 (Blk.atC 2 rfl)) ?_
 refine JA.ev 15 (.map (some ib)) rfl (by rw [hm]; rfl) ?_
 refine axn 1 ?_
 refine JA.all [4, 6] (by kernel_rfl) (by simp) ?_
 intro i hi
 simp only [List.mem_cons, List.not_mem_nil, or_false] at hi
 rcases hi with rfl | rfl
 ·
  refine ⟨_, rfl, rfl, ?_⟩
  refine op_yld (yl_lookup1 (kv := kvR) (l := m) (a := t) rfl rfl rfl rfl underlying213 keyR zeroValue3 (Blk.at 3 rfl)) rfl rfl ?_
  refine axn 1 ?_
  refine JA.ev 17 (i64 (n : Int)) rfl hn ?_
  refine axn 1 ?_
  refine q0 6 rfl (op_mapEntry (kv := kvR) (l := m) (c := k) (a := t) 3 rfl rfl rfl rfl rfl rfl underlying213 keyR zeroValue3 rfl (LSet.s (LSet.s (LSet.s LSet.z))) ?_)
  refine axn 2 ?_
  refine q0 8 rfl (op_entryStore (kv := kvR) (l := m) (a := t) (c := k) 3 rfl rfl rfl rfl rfl rfl hms rfl (LSet.s (LSet.s (LSet.s LSet.z))) ?_)
  refine axn 2 ?_
  refine Ej.keep (Keeps.d (Keeps.d (Keeps.k (Keeps.k Keeps.n)))) ?_
  refine Ej.end0 rfl rfl ?_
  exact ⟨rfl, rfl⟩
 refine ⟨_, rfl, rfl, ?_⟩
 refine op_mapEntry (kv := kvR) (l := m) (c := k) (a := t) 3 rfl rfl rfl rfl rfl rfl underlying213 keyR zeroValue3 rfl (LSet.s (LSet.s (LSet.s LSet.z))) ?_
 refine axn 2 ?_
 refine q0 4 rfl (op_yld (yl_lookup1 (kv := kvR) (l := (mset m t ((mget m t).getD (.int .i64 0)) k)) (a := t) rfl rfl rfl rfl underlying213 keyR zeroValue3 (Blk.at 3 rfl)) rfl rfl ?_)
 refine axn 1 ?_
 refine JA.ev 17 (i64 (n : Int)) rfl (getD_set.trans hn) ?_
 refine axn 1 ?_
 refine q0 8 rfl (op_entryStore (kv := kvR) (l := m) (a := t) (c := k) 3 rfl rfl rfl rfl rfl rfl hms rfl (LSet.s (LSet.s (LSet.s LSet.z))) ?_)
 refine axn 2 ?_
 refine Ej.keep (Keeps.d (Keeps.d (Keeps.k (Keeps.k Keeps.n)))) ?_
 refine Ej.end0 rfl rfl ?_
 exact ⟨rfl, rfl⟩
theorem add_ok (b : Nat) (l : ML Ix.Pl) (c : Nat) (N : Nest Ix.Pl Ix.Rec) (f : Ix.Pl → Ix.Rec → Nat) (p : Ix.Pl) (t : Ix.Rec) (h : NestS l c N f) (hf : f p t ≤ 1000000000000000) (I : Heap) :
    Ctr Tryz.prog 97 [.map (some b), kvP p, kvR t] I (setH b l c N) (fun e _ H' => ∃ l' c' N', e = .returned (.tuple #[]) ∧ NestS l' c' N' (bump f p t (· + 1)) ∧ H' = setH b l' c' N') := by
  rcases h.find p with ⟨hno, hmg, hz⟩ | ⟨A, ib, m, k, B, rfl, hmg, hms, hne, hmv, hA, hB⟩
  · have h1 := (add_new b l c p t hmg I).frame (nestH kvR N)
    refine h1.leave fun e I' H' _ ⟨H1, hH, ib, he, hH1⟩ => ⟨_, [], ?_, mset l p (.map (some ib)) c, mclk l p c, N ++ [(p, ib, mset [] t (i64 1) 0, mclk ([] : ML Ix.Rec) t 0)], he, h.add hno (MS.nil.set t _) (mset_ne _ _ _ _) (fun s => ?_), rfl⟩
    · rw [List.append_nil, hH, hH1]
      unfold setH
      rw [nestH_app]
      exact List.Perm.cons _ List.perm_append_comm
    rw [mget_mset]
    by_cases hs : (s == t) = true
    · rw [if_pos hs, if_pos hs]; rfl
    rw [if_neg hs, if_neg hs]; rfl
  have hn := cv_get hmv t
  have h1 := (Ctr.perm (setH_out b l c A B p ib m k) ((add_old b l c p t ib m k (f p t) hmg hms hn hf I).frame (nestH kvR (A ++ B))))
  refine h1.leave fun e I' H' _ ⟨H1, hH, he, hH1⟩ => ⟨_, [], ?_, l, c, A ++ (p, ib, mset m t (i64 ((f p t + 1 : Nat) : Int)) k, mclk m t k) :: B, he, h.set (d := (· + 1)) (hms.set t _) (mset_ne _ _ _ _) (fun s => ?_), rfl⟩
  · rw [List.append_nil, hH, hH1]
    exact (setH_out b l c A B p ib _ _).symm
  exact cv_set hmv t (f p t + 1) (Nat.succ_ne_zero _) k s
theorem remove_at (b : Nat) (l : ML Ix.Pl) (c : Nat) (p : Ix.Pl) (t : Ix.Rec) (ib : Nat) (m : ML Ix.Rec) (k n : Nat) (hm : mget l p = some (.map (some ib))) (hms : MS m k) (hn : (mget m t).getD (i64 0) = i64 (n : Int)) (hn1 : 1 ≤ n) (hn2 : n ≤ 1000000000000000) (I : Heap) : Ctr Tryz.prog 90 [.map (some b), kvP p, kvR t] I [(b, mobj kvP l c), (ib, mobj kvR m k)]
    (fun e _ H' => (n ≠ 1 ∧ e = .returned (.tuple #[]) ∧ H' = [(b, mobj kvP l c), (ib, mobj kvR (mset m t (i64 ((n - 1 : Nat) : Int)) k) (mclk m t k))]) ∨ (n = 1 ∧ (mdel (mset m t (i64 ((n - 1 : Nat) : Int)) k) t) ≠ [] ∧ e = .returned (.tuple #[]) ∧ H' = [(b, mobj kvP l c), (ib, mobj kvR (mdel (mset m t (i64 ((n - 1 : Nat) : Int)) k) t) (mclk m t k))]) ∨ (n = 1 ∧ (mdel (mset m t (i64 ((n - 1 : Nat) : Int)) k) t) = [] ∧ e = .returned (.tuple #[]) ∧ H' = [(b, mobj kvP (mdel l p) c), (ib, mobj kvR (mdel (mset m t (i64 ((n - 1 : Nat) : Int)) k) t) (mclk m t k))])) := by
 refine xob func90 fun w0 hw0 => ?_
 refine axn 3 ?_
 intro b1 hb1
 refine axn 1 ?_
 intro b2 hb2
 refine axn 3 ?_
 refine Cj.drawSel [0, 1, 2] [] 9 (by kernel_rfl) ?_
 refine axn 2 ?_
 refine JA.zt 2 rfl (yl_lookup1 (kv := kvP) (l := l) (a := p) rfl rfl rfl rfl underlying112 keyP zeroValue213 (Blk.atC 2 rfl)) ?_
 refine JA.ev 8 (.map (some ib)) rfl (by rw [hm]; rfl) ?_
 refine axn 1 ?_
 refine JA.all [4, 6] (by kernel_rfl) (by simp) ?_
 intro i hi
 simp only [List.mem_cons, List.not_mem_nil, or_false] at hi
 rcases hi with rfl | rfl
 ·
  refine ⟨_, rfl, rfl, ?_⟩
  refine op_yld (yl_lookup1 (kv := kvR) (l := m) (a := t) rfl rfl rfl rfl underlying213 keyR zeroValue3 (Blk.at 3 rfl)) rfl rfl ?_
  refine axn 1 ?_
  refine JA.ev 10 (i64 (n : Int)) rfl hn ?_
  refine axn 1 ?_
  refine JA.ev 11 (i64 ((n - 1 : Nat) : Int)) rfl (congrArg i64 (by omega)) ?_
  refine q0 6 rfl (op_mapEntry (kv := kvR) (l := m) (c := k) (a := t) 3 rfl rfl rfl rfl rfl rfl underlying213 keyR zeroValue3 rfl (LSet.s (LSet.s (LSet.s LSet.z))) ?_)
  refine axn 2 ?_
  refine q0 8 rfl (op_entryStore (kv := kvR) (l := m) (a := t) (c := k) 3 rfl rfl rfl rfl rfl rfl hms rfl (LSet.s (LSet.s (LSet.s LSet.z))) ?_)
  refine axn 5 ?_
  refine Cj.drawSel [0, 1, 2, 3] [] 6 (by kernel_rfl) ?_
  refine axn 2 ?_
  refine JA.zt 2 rfl (yl_lookup1 (kv := kvP) (l := l) (a := p) rfl rfl rfl rfl underlying112 keyP zeroValue213 (Blk.atC 2 rfl)) ?_
  refine JA.ev 16 (.map (some ib)) rfl (by rw [hm]; rfl) ?_
  refine axn 1 ?_
  refine JA.zt 4 rfl (yl_lookup1 (kv := kvR) (l := (mset m t (i64 ((n - 1 : Nat) : Int)) k)) (a := t) rfl rfl rfl rfl underlying213 keyR zeroValue3 (Blk.atC 3 rfl)) ?_
  refine JA.ev 18 (i64 ((n - 1 : Nat) : Int)) rfl getD_set ?_
  refine axc (fun hc7 hc7p => ?_) (fun hc7 hc7p => ?_)
  ·
   refine Cj.drawSel [0, 1, 2] [] 5 (by kernel_rfl) ?_
   refine axn 2 ?_
   refine JA.zt 2 rfl (yl_lookup1 (kv := kvP) (l := l) (a := p) rfl rfl rfl rfl underlying112 keyP zeroValue213 (Blk.atC 2 rfl)) ?_
   refine JA.ev 22 (.map (some ib)) rfl (by rw [hm]; rfl) ?_
   refine axn 1 ?_
   refine q0 4 rfl (op_delete0 (kv := kvR) (a := t) 3 rfl rfl rfl rfl rfl underlying213 keyR rfl (LSet.s (LSet.s (LSet.s LSet.z))) ?_)
   refine axn 7 ?_
   refine J.z (yl_lookup1 (kv := kvP) (l := l) (a := p) rfl rfl rfl rfl underlying112 keyP zeroValue213 (Blk.at 2 rfl)) ?_
   refine J.ev 26 (.map (some ib)) rfl (by rw [hm]; rfl) ?_
   refine J.z (yl_lenMap (kv := kvR) (l := (mdel (mset m t (i64 ((n - 1 : Nat) : Int)) k) t)) rfl rfl underlying213 (Blk.at 3 rfl)) ?_
   refine axc (fun hc9 hc9p => ?_) (fun hc9 hc9p => ?_)
   ·
    have hem : (mdel (mset m t (i64 ((n - 1 : Nat) : Int)) k) t) = [] := List.length_eq_zero_iff.1 (by have h := eq_of_beq hc9; omega)
    refine axn 3 ?_
    refine J.op rfl (op_delete0 (kv := kvP) (a := p) 2 rfl rfl rfl rfl rfl underlying112 keyP rfl (LSet.s (LSet.s LSet.z)) ?_)
    refine axn 1 ?_
    refine Ej.keep (Keeps.d (Keeps.d (Keeps.k (Keeps.k Keeps.n)))) ?_
    refine Ej.end0 rfl rfl ?_
    exact .inr (.inr ⟨by omega, hem, rfl, rfl⟩)
   have hne : (mdel (mset m t (i64 ((n - 1 : Nat) : Int)) k) t) ≠ [] := fun e => by have h := ne_of_beq_false hc9; rw [e] at h; exact h rfl
   refine axn 1 ?_
   refine Ej.keep (Keeps.d (Keeps.d (Keeps.k (Keeps.k Keeps.n)))) ?_
   refine Ej.end0 rfl rfl ?_
   exact .inr (.inl ⟨by omega, hne, rfl, rfl⟩)
  refine axn 6 ?_
  refine J.z (yl_lookup1 (kv := kvP) (l := l) (a := p) rfl rfl rfl rfl underlying112 keyP zeroValue213 (Blk.at 2 rfl)) ?_
  refine J.ev 26 (.map (some ib)) rfl (by rw [hm]; rfl) ?_
  refine J.z (yl_lenMap (kv := kvR) (l := (mset m t (i64 ((n - 1 : Nat) : Int)) k)) rfl rfl underlying213 (Blk.at 3 rfl)) ?_
  refine axc (fun hc10 hc10p => ?_) (fun hc10 hc10p => ?_)
  ·
   exact absurd (show (mset m t (i64 ((n - 1 : Nat) : Int)) k) = [] from List.length_eq_zero_iff.1 (by have h := eq_of_beq hc10; omega)) (mset_ne _ _ _ _)
  refine axn 1 ?_
  refine Ej.keep (Keeps.d (Keeps.d (Keeps.k (Keeps.k Keeps.n)))) ?_
  refine Ej.end0 rfl rfl ?_
  exact .inl ⟨by omega, rfl, rfl⟩
 refine ⟨_, rfl, rfl, ?_⟩
 refine op_mapEntry (kv := kvR) (l := m) (c := k) (a := t) 3 rfl rfl rfl rfl rfl rfl underlying213 keyR zeroValue3 rfl (LSet.s (LSet.s (LSet.s LSet.z))) ?_
 refine axn 2 ?_
 refine q0 4 rfl (op_yld (yl_lookup1 (kv := kvR) (l := (mset m t ((mget m t).getD (.int .i64 0)) k)) (a := t) rfl rfl rfl rfl underlying213 keyR zeroValue3 (Blk.at 3 rfl)) rfl rfl ?_)
 refine axn 1 ?_
 refine JA.ev 10 (i64 (n : Int)) rfl (getD_set.trans hn) ?_
 refine axn 1 ?_
 refine JA.ev 11 (i64 ((n - 1 : Nat) : Int)) rfl (congrArg i64 (by omega)) ?_
 refine q0 8 rfl (op_entryStore (kv := kvR) (l := m) (a := t) (c := k) 3 rfl rfl rfl rfl rfl rfl hms rfl (LSet.s (LSet.s (LSet.s LSet.z))) ?_)
 refine axn 5 ?_
 refine Cj.drawSel [0, 1, 2, 3] [] 6 (by kernel_rfl) ?_
 refine axn 2 ?_
 refine JA.zt 2 rfl (yl_lookup1 (kv := kvP) (l := l) (a := p) rfl rfl rfl rfl underlying112 keyP zeroValue213 (Blk.atC 2 rfl)) ?_
 refine JA.ev 16 (.map (some ib)) rfl (by rw [hm]; rfl) ?_
 refine axn 1 ?_
 refine JA.zt 4 rfl (yl_lookup1 (kv := kvR) (l := (mset m t (i64 ((n - 1 : Nat) : Int)) k)) (a := t) rfl rfl rfl rfl underlying213 keyR zeroValue3 (Blk.atC 3 rfl)) ?_
 refine JA.ev 18 (i64 ((n - 1 : Nat) : Int)) rfl getD_set ?_
 refine axc (fun hc14 hc14p => ?_) (fun hc14 hc14p => ?_)
 ·
  refine Cj.drawSel [0, 1, 2] [] 5 (by kernel_rfl) ?_
  refine axn 2 ?_
  refine JA.zt 2 rfl (yl_lookup1 (kv := kvP) (l := l) (a := p) rfl rfl rfl rfl underlying112 keyP zeroValue213 (Blk.atC 2 rfl)) ?_
  refine JA.ev 22 (.map (some ib)) rfl (by rw [hm]; rfl) ?_
  refine axn 1 ?_
  refine q0 4 rfl (op_delete0 (kv := kvR) (a := t) 3 rfl rfl rfl rfl rfl underlying213 keyR rfl (LSet.s (LSet.s (LSet.s LSet.z))) ?_)
  refine axn 7 ?_
  refine J.z (yl_lookup1 (kv := kvP) (l := l) (a := p) rfl rfl rfl rfl underlying112 keyP zeroValue213 (Blk.at 2 rfl)) ?_
  refine J.ev 26 (.map (some ib)) rfl (by rw [hm]; rfl) ?_
  refine J.z (yl_lenMap (kv := kvR) (l := (mdel (mset m t (i64 ((n - 1 : Nat) : Int)) k) t)) rfl rfl underlying213 (Blk.at 3 rfl)) ?_
  refine axc (fun hc16 hc16p => ?_) (fun hc16 hc16p => ?_)
  ·
   have hem : (mdel (mset m t (i64 ((n - 1 : Nat) : Int)) k) t) = [] := List.length_eq_zero_iff.1 (by have h := eq_of_beq hc16; omega)
   refine axn 3 ?_
   refine J.op rfl (op_delete0 (kv := kvP) (a := p) 2 rfl rfl rfl rfl rfl underlying112 keyP rfl (LSet.s (LSet.s LSet.z)) ?_)
   refine axn 1 ?_
   refine Ej.keep (Keeps.d (Keeps.d (Keeps.k (Keeps.k Keeps.n)))) ?_
   refine Ej.end0 rfl rfl ?_
   exact .inr (.inr ⟨by omega, hem, rfl, rfl⟩)
  have hne : (mdel (mset m t (i64 ((n - 1 : Nat) : Int)) k) t) ≠ [] := fun e => by have h := ne_of_beq_false hc16; rw [e] at h; exact h rfl
  refine axn 1 ?_
  refine Ej.keep (Keeps.d (Keeps.d (Keeps.k (Keeps.k Keeps.n)))) ?_
  refine Ej.end0 rfl rfl ?_
  exact .inr (.inl ⟨by omega, hne, rfl, rfl⟩)
 refine axn 6 ?_
 refine J.z (yl_lookup1 (kv := kvP) (l := l) (a := p) rfl rfl rfl rfl underlying112 keyP zeroValue213 (Blk.at 2 rfl)) ?_
 refine J.ev 26 (.map (some ib)) rfl (by rw [hm]; rfl) ?_
 refine J.z (yl_lenMap (kv := kvR) (l := (mset m t (i64 ((n - 1 : Nat) : Int)) k)) rfl rfl underlying213 (Blk.at 3 rfl)) ?_
 refine axc (fun hc17 hc17p => ?_) (fun hc17 hc17p => ?_)
 ·
  exact absurd (show (mset m t (i64 ((n - 1 : Nat) : Int)) k) = [] from List.length_eq_zero_iff.1 (by have h := eq_of_beq hc17; omega)) (mset_ne _ _ _ _)
 refine axn 1 ?_
 refine Ej.keep (Keeps.d (Keeps.d (Keeps.k (Keeps.k Keeps.n)))) ?_
 refine Ej.end0 rfl rfl ?_
 exact .inl ⟨by omega, rfl, rfl⟩
theorem cv_none {n : Nat} (h : cv n = none) : n = 0 := by
  unfold cv at h
  split at h
  · assumption
  cases h
theorem mdel_set {m : ML Ix.Rec} {k : Nat} (h : MS m k) (t : Ix.Rec) (v : Value) (s : Ix.Rec) : mget (mdel (mset m t v k) t) s = if s == t then none else mget m s := by
  rw [mget_mdel (h.set t v).1, mget_mset]
  by_cases hs : (s == t) = true
  · rw [if_pos hs, if_pos hs]
  rw [if_neg hs, if_neg hs, if_neg hs]
theorem remove_ok (b : Nat) (l : ML Ix.Pl) (c : Nat) (N : Nest Ix.Pl Ix.Rec) (f : Ix.Pl → Ix.Rec → Nat) (p : Ix.Pl) (t : Ix.Rec) (h : NestS l c N f) (hf1 : 1 ≤ f p t) (hf : f p t ≤ 1000000000000000) (I : Heap) :
    Ctr Tryz.prog 90 [.map (some b), kvP p, kvR t] I (setH b l c N) (fun e _ H' => ∃ l' c' N', e = .returned (.tuple #[]) ∧ NestS l' c' N' (bump f p t (· - 1)) ∧ H' = setH b l' c' N') := by
  rcases h.find p with ⟨hno, hmg, hz⟩ | ⟨A, ib, m, k, B, rfl, hmg, hms, hne, hmv, hA, hB⟩
  · rw [hz t] at hf1; omega
  have hn := cv_get hmv t
  have h1 := (Ctr.perm (setH_out b l c A B p ib m k) ((remove_at b l c p t ib m k (f p t) hmg hms hn hf1 hf I).frame (nestH kvR (A ++ B))))
  refine h1.leave fun e I' H' _ ⟨H1, hH, hq⟩ => ?_
  rcases hq with ⟨h9, he, hH1⟩ | ⟨h9, hne2, he, hH1⟩ | ⟨h9, hem, he, hH1⟩
  · refine ⟨_, [], ?_, l, c, A ++ (p, ib, mset m t (i64 ((f p t - 1 : Nat) : Int)) k, mclk m t k) :: B, he, h.set (d := (· - 1)) (hms.set t _) (mset_ne _ _ _ _) (fun s => ?_), rfl⟩
    · rw [List.append_nil, hH, hH1]
      exact (setH_out b l c A B p ib _ _).symm
    exact cv_set hmv t (f p t - 1) (by omega) k s
  · refine ⟨_, [], ?_, l, c, A ++ (p, ib, mdel (mset m t (i64 ((f p t - 1 : Nat) : Int)) k) t, mclk m t k) :: B, he, h.set (d := (· - 1)) ((hms.set t _).del t) hne2 (fun s => ?_), rfl⟩
    · rw [List.append_nil, hH, hH1]
      exact (setH_out b l c A B p ib _ _).symm
    rw [mdel_set hms]
    show _ = if (s == t) = true then cv (f p t - 1) else _
    rw [h9]; rfl
  refine ⟨_, [(ib, mobj kvR (mdel (mset m t (i64 ((f p t - 1 : Nat) : Int)) k) t) (mclk m t k))], ?_, mdel l p, c, A ++ B, he, h.drop (d := (· - 1)) (fun s hs => ?_) (by show f p t - 1 = 0; omega), rfl⟩
  · rw [hH, hH1]
    unfold setH
    exact List.Perm.cons _ List.perm_append_comm
  have h2 := mdel_set hms t (i64 ((f p t - 1 : Nat) : Int)) s
  rw [hem, if_neg (by simpa using hs), hmv] at h2
  exact cv_none h2.symm
end Go.Proofs.YtekmeaoblpfnpaaGreatDoor
end
section
namespace Go.Proofs.YtekmeaoblpfnpaaGreatDoor
open _root_.Go.Proofs.Tryz
open Go Go.Sx
abbrev ixC (vb wb kb : Nat) : List Value := [.map (some vb), .map (some wb), .map (some kb)]
structure Ent where
  t : Ix.Rec
  k : UInt8
  l : UInt8
  v : Value
  fs : List Ke.Fld
def entC (e : Ent) : List Value := [i64 e.t.1, i64 e.t.2, u8 e.k, u8 e.l, e.v]
theorem entC_len (e : Ent) : (entC e).length = 5 := rfl
theorem put1_ok (xb eb ib vb wb kb : Nat) (ek el : UInt8) (ev : Value) (l : ML Ix.Pl) (c : Nat) (N : Nest Ix.Pl Ix.Rec) (f : Ix.Pl → Ix.Rec → Nat) (p : Ix.Pl) (t : Ix.Rec) (h : NestS l c N f) (hf : f p t ≤ 1000000000000000) (I : Heap) (hxb : I xb = some (cel 26 [ptr ib 0])) (heb : I eb = some (cel 59 [i64 t.1, i64 t.2, u8 ek, u8 el, ev])) :
    Ctr Tryz.prog 96 [kvP p, ptr xb 0, ptr eb 0] I ([(ib, cel 114 (ixC vb wb kb))] ++ setH wb l c N) (fun e _ H' => ∃ l' c' N', e = .returned (.tuple #[]) ∧ NestS l' c' N' (bump f p t (· + 1)) ∧ H' = [(ib, cel 114 (ixC vb wb kb))] ++ setH wb l' c' N') := by
 refine Ctr.ob func96 ?_
 intro w0 hw0
 refine Cj.sr (J.op rfl (op_box rfl rfl rfl rfl rfl ?_))
 intro b1 hb1
 refine J.ns (Cj.drawSel [0, 1] [] 8 (by kernel_rfl) ?_)
 have hxb_1 := hxb
 have heb_1 := heb
 refine JA.fix ⟨(HSub.c 0 rfl (HSub.c 1 rfl HSub.n)), CSub.n, (Le.refl _)⟩ (fun fx2 => ?_)
 refine JA.tk 0 rfl fx2 (yl_load rfl rfl isAgg26 (Blk.immC hxb_1) rfl) ?_
 refine JA.tk 1 rfl fx2 (yl_nilCheck rfl rfl) ?_
 refine JA.tk 2 rfl fx2 (q1 (off' := 1) underlying114 sizeOf112) ?_
 refine JA.tk 3 rfl fx2 (yl_load rfl rfl isAgg112 (Blk.atC 1 rfl) rfl) ?_
 refine JA.tk 4 rfl fx2 (yl_loadAgg rfl rfl isAgg152 sizeOf152 (Blk.atC 0 rfl) rfl rfl) ?_
 refine JA.tk 5 rfl fx2 (q1 (off' := 0) underlying59 sizeOf54) ?_
 refine JA.tk 6 rfl fx2 (yl_loadAgg rfl rfl isAgg54 sizeOf54 (Blk.immC heb_1) rfl rfl) ?_
 refine q0 7 rfl (op_callR (H1 := setH _ _ _ _) [_, _] rfl rfl rfl rfl rfl rfl (add_ok wb l c N f p t h hf _) ?_ (fun _ _ _ _ ⟨_, _, _, h, _⟩ => by cases h) (fun _ _ ⟨_, _, _, h, _⟩ => by cases h))
 intro v3 I4 H5 hle6 hp7
 obtain ⟨l1, c1, N1, h, hN, rfl⟩ := hp7; cases h
 refine ⟨⟨(Le.trans (Le.refl _) hle6), (HSub.c 0 rfl (HSub.c 1 rfl HSub.n)), CSub.n⟩, ?_⟩
 refine JA.done (by kernel_rfl) ?_
 refine Ej.keep (Keeps.d (Keeps.k Keeps.r)) ?_
 refine Ej.end0 rfl rfl ?_
 exact ⟨l1, c1, N1, rfl, hN, rfl⟩
theorem put2_ok (xb eb ib vb wb kb : Nat) (ek el : UInt8) (ev : Value) (l : ML Ix.Pl) (c : Nat) (N : Nest Ix.Pl Ix.Rec) (f : Ix.Pl → Ix.Rec → Nat) (p : Ix.Pl) (t : Ix.Rec) (h : NestS l c N f) (hf : f p t ≤ 1000000000000000) (I : Heap) (hxb : I xb = some (cel 26 [ptr ib 0])) (heb : I eb = some (cel 59 [i64 t.1, i64 t.2, u8 ek, u8 el, ev])) :
    Ctr Tryz.prog 98 [kvP p, ptr xb 0, ptr eb 0] I ([(ib, cel 114 (ixC vb wb kb))] ++ setH kb l c N) (fun e _ H' => ∃ l' c' N', e = .returned (.tuple #[]) ∧ NestS l' c' N' (bump f p t (· + 1)) ∧ H' = [(ib, cel 114 (ixC vb wb kb))] ++ setH kb l' c' N') := by
 refine Ctr.ob func98 ?_
 intro w0 hw0
 refine Cj.sr (J.op rfl (op_box rfl rfl rfl rfl rfl ?_))
 intro b1 hb1
 refine J.ns (Cj.drawSel [0, 1] [] 8 (by kernel_rfl) ?_)
 have hxb_1 := hxb
 have heb_1 := heb
 refine JA.fix ⟨(HSub.c 0 rfl (HSub.c 1 rfl HSub.n)), CSub.n, (Le.refl _)⟩ (fun fx2 => ?_)
 refine JA.tk 0 rfl fx2 (yl_load rfl rfl isAgg26 (Blk.immC hxb_1) rfl) ?_
 refine JA.tk 1 rfl fx2 (yl_nilCheck rfl rfl) ?_
 refine JA.tk 2 rfl fx2 (q1 (off' := 2) underlying114 sizeOf112) ?_
 refine JA.tk 3 rfl fx2 (yl_load rfl rfl isAgg112 (Blk.atC 1 rfl) rfl) ?_
 refine JA.tk 4 rfl fx2 (yl_loadAgg rfl rfl isAgg152 sizeOf152 (Blk.atC 0 rfl) rfl rfl) ?_
 refine JA.tk 5 rfl fx2 (q1 (off' := 0) underlying59 sizeOf54) ?_
 refine JA.tk 6 rfl fx2 (yl_loadAgg rfl rfl isAgg54 sizeOf54 (Blk.immC heb_1) rfl rfl) ?_
 refine q0 7 rfl (op_callR (H1 := setH _ _ _ _) [_, _] rfl rfl rfl rfl rfl rfl (add_ok kb l c N f p t h hf _) ?_ (fun _ _ _ _ ⟨_, _, _, h, _⟩ => by cases h) (fun _ _ ⟨_, _, _, h, _⟩ => by cases h))
 intro v3 I4 H5 hle6 hp7
 obtain ⟨l1, c1, N1, h, hN, rfl⟩ := hp7; cases h
 refine ⟨⟨(Le.trans (Le.refl _) hle6), (HSub.c 0 rfl (HSub.c 1 rfl HSub.n)), CSub.n⟩, ?_⟩
 refine JA.done (by kernel_rfl) ?_
 refine Ej.keep (Keeps.d (Keeps.k Keeps.r)) ?_
 refine Ej.end0 rfl rfl ?_
 exact ⟨l1, c1, N1, rfl, hN, rfl⟩
theorem drop1_ok (xb eb ib vb wb kb : Nat) (l : ML Ix.Pl) (c : Nat) (N : Nest Ix.Pl Ix.Rec) (f : Ix.Pl → Ix.Rec → Nat) (p : Ix.Pl) (t : Ix.Rec) (h : NestS l c N f) (hf1 : 1 ≤ f p t) (hf : f p t ≤ 1000000000000000) (I : Heap) (hxb : I xb = some (cel 26 [ptr ib 0])) (heb : I eb = some (cel 54 [i64 t.1, i64 t.2])) :
    Ctr Tryz.prog 89 [kvP p, ptr xb 0, ptr eb 0] I ([(ib, cel 114 (ixC vb wb kb))] ++ setH wb l c N) (fun e _ H' => ∃ l' c' N', e = .returned (.tuple #[]) ∧ NestS l' c' N' (bump f p t (· - 1)) ∧ H' = [(ib, cel 114 (ixC vb wb kb))] ++ setH wb l' c' N') := by
 refine Ctr.ob func89 ?_
 intro w0 hw0
 refine Cj.sr (J.op rfl (op_box rfl rfl rfl rfl rfl ?_))
 intro b1 hb1
 refine J.ns (Cj.drawSel [0, 1] [] 7 (by kernel_rfl) ?_)
 have hxb_1 := hxb
 have heb_1 := heb
 refine JA.fix ⟨(HSub.c 0 rfl (HSub.c 1 rfl HSub.n)), CSub.n, (Le.refl _)⟩ (fun fx2 => ?_)
 refine JA.tk 0 rfl fx2 (yl_load rfl rfl isAgg26 (Blk.immC hxb_1) rfl) ?_
 refine JA.tk 1 rfl fx2 (yl_nilCheck rfl rfl) ?_
 refine JA.tk 2 rfl fx2 (q1 (off' := 1) underlying114 sizeOf112) ?_
 refine JA.tk 3 rfl fx2 (yl_load rfl rfl isAgg112 (Blk.atC 1 rfl) rfl) ?_
 refine JA.tk 4 rfl fx2 (yl_loadAgg rfl rfl isAgg152 sizeOf152 (Blk.atC 0 rfl) rfl rfl) ?_
 refine JA.tk 5 rfl fx2 (yl_loadAgg rfl rfl isAgg54 sizeOf54 (Blk.immC heb_1) rfl rfl) ?_
 refine q0 6 rfl (op_callR (H1 := setH _ _ _ _) [_, _] rfl rfl rfl rfl rfl rfl (remove_ok wb l c N f p t h hf1 hf _) ?_ (fun _ _ _ _ ⟨_, _, _, h, _⟩ => by cases h) (fun _ _ ⟨_, _, _, h, _⟩ => by cases h))
 intro v3 I4 H5 hle6 hp7
 obtain ⟨l1, c1, N1, h, hN, rfl⟩ := hp7; cases h
 refine ⟨⟨(Le.trans (Le.refl _) hle6), (HSub.c 0 rfl (HSub.c 1 rfl HSub.n)), CSub.n⟩, ?_⟩
 refine JA.done (by kernel_rfl) ?_
 refine Ej.keep (Keeps.d (Keeps.k Keeps.r)) ?_
 refine Ej.end0 rfl rfl ?_
 exact ⟨l1, c1, N1, rfl, hN, rfl⟩
theorem drop2_ok (xb eb ib vb wb kb : Nat) (l : ML Ix.Pl) (c : Nat) (N : Nest Ix.Pl Ix.Rec) (f : Ix.Pl → Ix.Rec → Nat) (p : Ix.Pl) (t : Ix.Rec) (h : NestS l c N f) (hf1 : 1 ≤ f p t) (hf : f p t ≤ 1000000000000000) (I : Heap) (hxb : I xb = some (cel 26 [ptr ib 0])) (heb : I eb = some (cel 54 [i64 t.1, i64 t.2])) :
    Ctr Tryz.prog 91 [kvP p, ptr xb 0, ptr eb 0] I ([(ib, cel 114 (ixC vb wb kb))] ++ setH kb l c N) (fun e _ H' => ∃ l' c' N', e = .returned (.tuple #[]) ∧ NestS l' c' N' (bump f p t (· - 1)) ∧ H' = [(ib, cel 114 (ixC vb wb kb))] ++ setH kb l' c' N') := by
 refine Ctr.ob func91 ?_
 intro w0 hw0
 refine Cj.sr (J.op rfl (op_box rfl rfl rfl rfl rfl ?_))
 intro b1 hb1
 refine J.ns (Cj.drawSel [0, 1] [] 7 (by kernel_rfl) ?_)
 have hxb_1 := hxb
 have heb_1 := heb
 refine JA.fix ⟨(HSub.c 0 rfl (HSub.c 1 rfl HSub.n)), CSub.n, (Le.refl _)⟩ (fun fx2 => ?_)
 refine JA.tk 0 rfl fx2 (yl_load rfl rfl isAgg26 (Blk.immC hxb_1) rfl) ?_
 refine JA.tk 1 rfl fx2 (yl_nilCheck rfl rfl) ?_
 refine JA.tk 2 rfl fx2 (q1 (off' := 2) underlying114 sizeOf112) ?_
 refine JA.tk 3 rfl fx2 (yl_load rfl rfl isAgg112 (Blk.atC 1 rfl) rfl) ?_
 refine JA.tk 4 rfl fx2 (yl_loadAgg rfl rfl isAgg152 sizeOf152 (Blk.atC 0 rfl) rfl rfl) ?_
 refine JA.tk 5 rfl fx2 (yl_loadAgg rfl rfl isAgg54 sizeOf54 (Blk.immC heb_1) rfl rfl) ?_
 refine q0 6 rfl (op_callR (H1 := setH _ _ _ _) [_, _] rfl rfl rfl rfl rfl rfl (remove_ok kb l c N f p t h hf1 hf _) ?_ (fun _ _ _ _ ⟨_, _, _, h, _⟩ => by cases h) (fun _ _ ⟨_, _, _, h, _⟩ => by cases h))
 intro v3 I4 H5 hle6 hp7
 obtain ⟨l1, c1, N1, h, hN, rfl⟩ := hp7; cases h
 refine ⟨⟨(Le.trans (Le.refl _) hle6), (HSub.c 0 rfl (HSub.c 1 rfl HSub.n)), CSub.n⟩, ?_⟩
 refine JA.done (by kernel_rfl) ?_
 refine Ej.keep (Keeps.d (Keeps.k Keeps.r)) ?_
 refine Ej.end0 rfl rfl ?_
 exact ⟨l1, c1, N1, rfl, hN, rfl⟩
structure EA where
  i : Nat
  J : Heap
  Y : HL
theorem each_ok (v : Ix.V) (wv : Value) (gw gk : Nat) (cap : List Value) (YW : Nat → HL → Prop) (Z : HL → Prop) (hwl : v.ws.length ≤ 1000000000000) (I : Heap) (hws0 : StrS 9 I v.ws wv) (H0 : HL) (hY0 : YW 0 H0)
    (hw : ∀ k w H J, v.ws[k]? = some w → Le I J → YW k H → Ctr Tryz.prog gw (kvP (v.name, w) :: cap) J H (fun e _ H' => e = .returned (.tuple #[]) ∧ YW (k + 1) H'))
    (hk : ∀ H J, v.key ≠ [] → Le I J → YW v.ws.length H → Ctr Tryz.prog gk (kvP (v.name, v.key) :: cap) J H (fun e _ H' => e = .returned (.tuple #[]) ∧ Z H')) (hz : v.key = [] → ∀ H, YW v.ws.length H → Z H) :
    Ctr Tryz.prog 88 [.agg (vwC (v, wv)).toArray, .func (.func gw) #[] cap.toArray, .func (.func gk) #[] cap.toArray] I H0 (fun e _ H' => e = .returned (.tuple #[]) ∧ Z H') := by
 obtain ⟨wp, wc, rfl⟩ := StrS_sl hws0
 refine Ctr.ob func88 ?_
 intro w0 hw0
 refine Cj.sr (J.op rfl (op_box rfl rfl rfl rfl rfl ?_))
 intro b1 hb1
 refine J.nsss (Cj.region (J.z (q1 (off' := 2) underlying142 sizeOf69) ?_))
 refine J.z (yl_load rfl rfl isAgg69 (Blk.at 0 rfl) rfl) ?_
 refine J.z (yl_lenSlice rfl rfl underlying69) ?_
 refine J.z q2 ?_
 refine J.ns (Cj.block (Cj.loop (ι := EA) (fun y => y.i ≤ v.ws.length ∧ Le I y.J ∧ YW y.i y.Y) (fun y => v.ws.length - y.i) (fun y => [(1, .func (.func gw) #[] cap.toArray), (2, .func (.func gk) #[] cap.toArray), (3, ptr b1 0), (9, .slice wp v.ws.length wc), (10, i64 (v.ws.length : Int)), (11, i64 (y.i : Int))]) (fun y => y.J) (fun y => (b1, cel 142 [str v.name, str v.key, .slice wp v.ws.length wc]) :: y.Y) ⟨0, _, H0⟩ ⟨Nat.zero_le _, Le.refl _, hY0⟩ ⟨rfl, rfl, rfl, rfl, rfl, rfl, trivial⟩ rfl rfl ?_))
 rintro ⟨i, Jh, HY⟩ ⟨hi, hIJ, hY⟩
 dsimp only at hi hIJ hY ⊢
 have hws := hws0.mono hIJ
 refine Cj.sr (J.z (yl_lss rfl rfl rfl) ?_)
 refine J.nss (Cj.cond rfl (fun hc2 => ?_) (fun hc2 => ?_))
 ·
  have hc2p := of_decide_eq_true hc2
  have hlt : i < v.ws.length := by omega
  obtain ⟨x, hget⟩ : ∃ x, v.ws[i]? = some x := ⟨_, List.getElem?_eq_getElem hlt⟩
  obtain ⟨wb, wc1, wsp, hwe, hwb⟩ := hws.some (ne_nil_of hlt)
  cases hwe
  refine Cj.skip (Ej.seq (Cj.seq (Cj.block (Cj.sr (J.z (yl_indexAddr (off' := i) rfl rfl rfl underlying69 sizeOf9 (by omega) (by omega) (by simp)) ?_)))))
  refine J.z (yl_load rfl rfl isAgg9 (Blk.imm hwb) (str_get hget)) ?_
  refine J.as ?_
  refine J.nsr (J.z q2 ?_)
  refine J.z (q1 (off' := 0) underlying142 sizeOf9) ?_
  refine J.z (yl_load rfl rfl isAgg9 (Blk.at 0 rfl) rfl) ?_
  refine J.z q2 ?_
  refine J.z (yl_buildS (pl := #[(0, 1), (1, 1)]) rfl rfl zeroValue152 rfl underlying152 (fun w => by simp [sizeOf9]) (LBld.part rfl rfl rfl (LSpl.c LSpl.z) (LBld.part rfl rfl rfl (LSpl.s (LSpl.c LSpl.z)) LBld.none))) ?_
  refine J.op rfl (op_callR (H1 := HY) [_] rfl rfl rfl rfl rfl rfl (hw i x _ _ hget hIJ hY) ?_ (fun _ _ _ _ h => by cases h.1) (fun _ _ h => by cases h.1))
  intro v3 I4 H5 hle6 hp7
  have hIJ := hIJ.mono hle6
  have hws := hws.mono hle6
  have hwb := hle6 _ _ hwb
  obtain ⟨h, hY1⟩ := hp7; cases h
  refine J.nil (Ej.blkNormal (Ej.seq (Cj.region (J.z (yl_add rfl rfl rfl (w64 (by omega))) ?_))))
  refine J.z q2 ?_
  refine J.nil (Ej.round ⟨i + 1, _, H5⟩ ⟨by dsimp only; omega, hIJ, hY1⟩ (by dsimp only; omega) ⟨rfl, rfl, rfl, rfl, rfl, rfl, trivial⟩ rfl rfl)
 have hc2p := of_decide_eq_false hc2
 have hil : i = v.ws.length := by omega
 subst hil
 refine Cj.exit (Ej.seqExit (Ej.loopExit (Ej.blkExit (Ej.seq (Cj.sr (J.z (q1 (off' := 1) underlying142 sizeOf9) ?_))))))
 refine J.z (yl_load rfl rfl isAgg9 (Blk.at 0 rfl) rfl) ?_
 refine J.z (yl_neqStr rfl rfl rfl) ?_
 refine J.cd (fun hc8 => ?_) (fun hc8 => ?_)
 ·
  have hc8p := bne_iff_ne.1 hc8
  have hkey : v.key ≠ [] := bne_iff_ne.1 hc8
  refine Cj.region (J.z q2 ?_)
  refine J.z (q1 (off' := 0) underlying142 sizeOf9) ?_
  refine J.z (yl_load rfl rfl isAgg9 (Blk.at 0 rfl) rfl) ?_
  refine J.z (q1 (off' := 1) underlying142 sizeOf9) ?_
  refine J.z (yl_load rfl rfl isAgg9 (Blk.at 0 rfl) rfl) ?_
  refine J.z (yl_buildS (pl := #[(0, 1), (1, 1)]) rfl rfl zeroValue152 rfl underlying152 (fun w => by simp [sizeOf9]) (LBld.part rfl rfl rfl (LSpl.c LSpl.z) (LBld.part rfl rfl rfl (LSpl.s (LSpl.c LSpl.z)) LBld.none))) ?_
  refine J.op rfl (op_callR (H1 := HY) [_] rfl rfl rfl rfl rfl rfl (hk _ _ hkey hIJ hY) ?_ (fun _ _ _ _ h => by cases h.1) (fun _ _ h => by cases h.1))
  intro v9 I10 H11 hle12 hp13
  have hIJ := hIJ.mono hle12
  have hws := hws.mono hle12
  obtain ⟨h, hZ⟩ := hp13; cases h
  refine J.nil (Ej.keep (Keeps.d Keeps.r) ?_)
  refine Ej.end0 rfl rfl ?_
  exact ⟨rfl, hZ⟩
 have hc8p := bne_f hc8
 have hkey : v.key = [] := bne_f hc8
 refine Cj.skip (Ej.keep (Keeps.d Keeps.r) ?_)
 refine Ej.end0 rfl rfl ?_
 exact ⟨rfl, hz hkey _ hY⟩
end Go.Proofs.YtekmeaoblpfnpaaGreatDoor
end
section
namespace Go.Proofs.YtekmeaoblpfnpaaGreatDoor
open Go Go.Sx
theorem bump_add (f : Ix.Pl → Ix.Rec → Nat) (t : Ix.Rec) (xs : List Ix.Pl) (q : Ix.Pl) : bump (Ix.way f t fun p => xs.count p) q t (· + 1) = Ix.way f t fun p => (xs ++ [q]).count p := by
  funext p u
  unfold bump Ix.way
  by_cases hu : u = t
  · subst hu
    by_cases hp : p = q
    · subst hp; simp
    have h1 : (p == q) = false := by simpa using hp
    have h2 : List.count p [q] = 0 := List.count_eq_zero.2 (by simpa using hp)
    simp [h1, List.count_append, h2]
  have h1 : (u == t) = false := by simpa using hu
  simp [h1, hu]
theorem bump_del (f : Ix.Pl → Ix.Rec → Nat) (t : Ix.Rec) (ys : List Ix.Pl) (q : Ix.Pl) : bump (Ix.way f t fun p => (q :: ys).count p) q t (· - 1) = Ix.way f t fun p => ys.count p := by
  funext p u
  unfold bump Ix.way
  by_cases hu : u = t
  · subst hu
    by_cases hp : p = q
    · subst hp; simp
    have h1 : (p == q) = false := by simpa using hp
    have h2 : (q == p) = false := by simpa using Ne.symm hp
    simp [h1, List.count_cons, h2]
  have h1 : (u == t) = false := by simpa using hu
  simp [h1, hu]
theorem way_at (f : Ix.Pl → Ix.Rec → Nat) (t : Ix.Rec) (n : Ix.Pl → Nat) (p : Ix.Pl) : Ix.way f t n p t = n p := if_pos rfl
def VOK (vs : List Ix.V) : Prop := vs.length ≤ 10000000 ∧ ∀ v ∈ vs, v.ws.length ≤ 10000000
theorem plW_len : ∀ (vs : List Ix.V), (∀ v ∈ vs, v.ws.length ≤ 10000000) → (Ix.plW vs).length ≤ vs.length * 10000000
  | [], _ => by simp [Ix.plW]
  | v :: r, h => by
    have h1 := plW_len r fun x hx => h x (.tail _ hx)
    have h2 := h v (.head _)
    unfold Ix.plW at h1 ⊢
    rw [List.flatMap_cons, List.length_append, List.length_map, List.length_cons, Nat.add_mul]; omega
theorem plK_len : ∀ (vs : List Ix.V), (Ix.plK vs).length ≤ vs.length
  | [] => by simp [Ix.plK]
  | v :: r => by
    have h1 := plK_len r
    unfold Ix.plK at h1 ⊢
    rw [List.flatMap_cons, List.length_append, List.length_cons]
    by_cases hk : v.key = []
    · rw [if_pos hk, List.length_nil]; omega
    rw [if_neg hk, List.length_singleton]; omega
theorem VOK.w {vs : List Ix.V} (h : VOK vs) : (Ix.plW vs).length ≤ 100000000000000 := Nat.le_trans (plW_len vs h.2) (Nat.mul_le_mul_right _ h.1)
theorem VOK.k {vs : List Ix.V} (h : VOK vs) : (Ix.plK vs).length ≤ 10000000 := Nat.le_trans (plK_len vs) h.1
theorem vok_of {fs : List Ke.Fld} (h : EOK fs) : VOK (Ix.vals fs) := by
  have h1 := vals_take fs h fs.length
  rw [List.take_length] at h1
  refine ⟨Nat.le_trans h1 (Nat.le_trans (Nat.mul_le_mul_right _ h.1) (by decide)), fun v hv => ?_⟩
  unfold Ix.vals at hv
  obtain ⟨f, hf, hv⟩ := List.mem_flatMap.1 hv
  obtain ⟨k1, k2, k3⟩ := h.2 f hf
  have hw : v.ws.length ≤ v.text.length + 1 := (Ke.words_len v.text).1
  unfold Ix.vals1 at hv
  rcases List.mem_append.1 hv with g | g
  · obtain ⟨s, hs, rfl⟩ := List.mem_map.1 g
    have := named_text hs
    dsimp only at hw; omega
  split at g
  · rw [List.mem_singleton] at g
    subst g
    have := textX_len f []
    rw [textX_all] at this
    dsimp only at hw; omega
  cases g
structure Ist where
  vb : Nat
  wb : Nat
  kb : Nat
  lv : ML Ix.Rec
  cv : Nat
  lw : ML Ix.Pl
  cw : Nat
  Nw : Nest Ix.Pl Ix.Rec
  lk : ML Ix.Pl
  ck : Nat
  Nk : Nest Ix.Pl Ix.Rec
def istH (ib : Nat) (s : Ist) : HL := (s.vb, mobj kvR s.lv s.cv) :: (ib, cel 114 (ixC s.vb s.wb s.kb)) :: (setH s.wb s.lw s.cw s.Nw ++ setH s.kb s.lk s.ck s.Nk)
def ValMap (I : Heap) (lv : ML Ix.Rec) (L : Ix.Ix) : Prop := ∀ t, (Ix.rget L t = none → mget lv t = none) ∧ ∀ vs, Ix.rget L t = some vs → ∃ w, mget lv t = some w ∧ ValsS I vs w
theorem ValMap.mono {I I' : Heap} {lv : ML Ix.Rec} {L : Ix.Ix} (h : ValMap I lv L) (hle : Le I I') : ValMap I' lv L := fun t => ⟨(h t).1, fun vs hv => let ⟨w, h1, h2⟩ := (h t).2 vs hv; ⟨w, h1, h2.mono hle⟩⟩
theorem ValsS.nil (I : Heap) : ValsS I [] (.slice none 0 0) := ⟨[], RowT.nil, rfl, fun _ h => by cases h⟩
theorem ValMap.at {I : Heap} {lv : ML Ix.Rec} {L : Ix.Ix} (h : ValMap I lv L) (t : Ix.Rec) : ∃ w, (mget lv t).getD (.slice none 0 0) = w ∧ ValsS I ((Ix.rget L t).getD []) w := by
  cases hg : Ix.rget L t with
  | none => rw [(h t).1 hg]; exact ⟨_, rfl, ValsS.nil I⟩
  | some vs =>
    obtain ⟨w, h1, h2⟩ := (h t).2 vs hg
    rw [h1]; exact ⟨w, rfl, h2⟩
structure IstOk (I : Heap) (s : Ist) (L : Ix.Ix) : Prop where
  srt : Ix.Srt L
  big : L.length ≤ 100000
  vok : ∀ e ∈ L, VOK e.2
  vms : MS s.lv s.cv
  vals : ValMap I s.lv L
  nw : NestS s.lw s.cw s.Nw (Ix.cnt Ix.plW L)
  nk : NestS s.lk s.ck s.Nk (Ix.cnt Ix.plK L)
theorem IstOk.mono {I I' : Heap} {s : Ist} {L : Ix.Ix} (h : IstOk I s L) (hle : Le I I') : IstOk I' s L := ⟨h.srt, h.big, h.vok, h.vms, h.vals.mono hle, h.nw, h.nk⟩
theorem cnt_way (pl : List Ix.V → List Ix.Pl) (h0 : pl [] = []) (L : Ix.Ix) (t : Ix.Rec) : Ix.cnt pl L = Ix.way (Ix.cnt pl L) t fun p => (pl ((Ix.rget L t).getD [])).count p := by
  cases hg : Ix.rget L t with
  | none =>
    rw [Option.getD_none, h0]
    exact Ix.cnt_none hg
  | some vs => exact Ix.cnt_some hg
theorem rget_vok {L : Ix.Ix} (hs : Ix.Srt L) (h : ∀ e ∈ L, VOK e.2) (t : Ix.Rec) : VOK ((Ix.rget L t).getD []) := by
  cases hg : Ix.rget L t with
  | none => exact ⟨Nat.zero_le _, fun _ h => by cases h⟩
  | some vs => exact h _ ((Ix.rget_iff hs).1 hg)
def YS (ib vb wb kb : Nat) (fw fk : Ix.Pl → Ix.Rec → Nat) (Y : HL) : Prop := ∃ lw cw Nw lk ck Nk, NestS lw cw Nw fw ∧ NestS lk ck Nk fk ∧ Y = (ib, cel 114 (ixC vb wb kb)) :: (setH wb lw cw Nw ++ setH kb lk ck Nk)
theorem YS.word {ib vb wb kb : Nat} {fw fk fw' : Ix.Pl → Ix.Rec → Nat} {g : Nat} {args : List Value} {J : Heap} {H : HL} (hY : YS ib vb wb kb fw fk H)
    (h : ∀ l c N, NestS l c N fw → Ctr Tryz.prog g args J ([(ib, cel 114 (ixC vb wb kb))] ++ setH wb l c N) (fun e _ H' => ∃ l' c' N', e = .returned (.tuple #[]) ∧ NestS l' c' N' fw' ∧ H' = [(ib, cel 114 (ixC vb wb kb))] ++ setH wb l' c' N')) :
    Ctr Tryz.prog g args J H (fun e _ H' => e = .returned (.tuple #[]) ∧ YS ib vb wb kb fw' fk H') := by
  obtain ⟨lw, cw, Nw, lk, ck, Nk, h1, h2, rfl⟩ := hY
  refine ((h lw cw Nw h1).frame (setH kb lk ck Nk)).mono fun e I' H' _ ⟨H1, hH, l', c', N', he, hN, hH1⟩ => ⟨he, l', c', N', lk, ck, Nk, hN, h2, ?_⟩
  rw [hH, hH1]; rfl
theorem YS.key {ib vb wb kb : Nat} {fw fk fk' : Ix.Pl → Ix.Rec → Nat} {g : Nat} {args : List Value} {J : Heap} {H : HL} (hY : YS ib vb wb kb fw fk H)
    (h : ∀ l c N, NestS l c N fk → Ctr Tryz.prog g args J ([(ib, cel 114 (ixC vb wb kb))] ++ setH kb l c N) (fun e _ H' => ∃ l' c' N', e = .returned (.tuple #[]) ∧ NestS l' c' N' fk' ∧ H' = [(ib, cel 114 (ixC vb wb kb))] ++ setH kb l' c' N')) :
    Ctr Tryz.prog g args J H (fun e _ H' => e = .returned (.tuple #[]) ∧ YS ib vb wb kb fw fk' H') := by
  obtain ⟨lw, cw, Nw, lk, ck, Nk, h1, h2, rfl⟩ := hY
  have hp : ∀ X, (((ib, cel 114 (ixC vb wb kb)) :: (X ++ setH wb lw cw Nw) : HL)).Perm ((ib, cel 114 (ixC vb wb kb)) :: (setH wb lw cw Nw ++ X)) := fun X => List.Perm.cons _ List.perm_append_comm
  refine (Ctr.perm (hp (setH kb lk ck Nk)) ((h lk ck Nk h2).frame (setH wb lw cw Nw))).leave fun e I' H' _ ⟨H1, hH, l', c', N', he, hN, hH1⟩ => ⟨_, [], ?_, he, lw, cw, Nw, l', c', N', h1, hN, rfl⟩
  rw [List.append_nil, hH, hH1]
  exact (hp _).symm
theorem drop_next {α : Type} {l : List α} {k : Nat} {x : α} (h : l[k]? = some x) : l.drop k = x :: l.drop (k + 1) := by
  obtain ⟨hlt, hg⟩ := List.getElem?_eq_some_iff.1 h
  rw [← hg, List.getElem_cons_drop]
theorem plW_cons (v : Ix.V) (r : List Ix.V) : Ix.plW (v :: r) = v.ws.map (fun w => (v.name, w)) ++ Ix.plW r := by unfold Ix.plW; rw [List.flatMap_cons]
theorem plK_cons (v : Ix.V) (r : List Ix.V) : Ix.plK (v :: r) = (if v.key = [] then [] else [(v.name, v.key)]) ++ Ix.plK r := by unfold Ix.plK; rw [List.flatMap_cons]
theorem plW_one (xs : List Ix.V) (v : Ix.V) : Ix.plW (xs ++ [v]) = Ix.plW xs ++ v.ws.map fun w => (v.name, w) := by unfold Ix.plW; rw [List.flatMap_append]; simp
theorem plK_one (xs : List Ix.V) (v : Ix.V) : Ix.plK (xs ++ [v]) = Ix.plK xs ++ if v.key = [] then [] else [(v.name, v.key)] := by unfold Ix.plK; rw [List.flatMap_append]; simp
theorem plW_drop_len {vs : List Ix.V} (h : VOK vs) (i : Nat) : (Ix.plW (vs.drop i)).length ≤ 100000000000000 :=
  VOK.w ⟨by rw [List.length_drop]; have := h.1; omega, fun v hv => h.2 v (List.mem_of_mem_drop hv)⟩
theorem plK_drop_len {vs : List Ix.V} (h : VOK vs) (i : Nat) : (Ix.plK (vs.drop i)).length ≤ 10000000 :=
  VOK.k ⟨by rw [List.length_drop]; have := h.1; omega, fun v hv => h.2 v (List.mem_of_mem_drop hv)⟩
theorem plW_take_len {vs : List Ix.V} (h : VOK vs) (i : Nat) : (Ix.plW (vs.take i)).length ≤ 100000000000000 :=
  VOK.w ⟨by rw [List.length_take]; have := h.1; omega, fun v hv => h.2 v (List.mem_of_mem_take hv)⟩
theorem plK_take_len {vs : List Ix.V} (h : VOK vs) (i : Nat) : (Ix.plK (vs.take i)).length ≤ 10000000 :=
  VOK.k ⟨by rw [List.length_take]; have := h.1; omega, fun v hv => h.2 v (List.mem_of_mem_take hv)⟩
def YD (ib vb wb kb : Nat) (L : Ix.Ix) (t : Ix.Rec) (vs : List Ix.V) (i : Nat) : HL → Prop := YS ib vb wb kb (Ix.way (Ix.cnt Ix.plW L) t fun p => (Ix.plW (vs.drop i)).count p) (Ix.way (Ix.cnt Ix.plK L) t fun p => (Ix.plK (vs.drop i)).count p)
theorem each_drop (xb eb ib vb wb kb : Nat) (L : Ix.Ix) (t : Ix.Rec) (vs : List Ix.V) (hv : VOK vs) (i : Nat) (v : Ix.V) (wv : Value) (hget : vs[i]? = some v) (I : Heap) (hws : StrS 9 I v.ws wv) (hxb : I xb = some (cel 26 [ptr ib 0])) (heb : I eb = some (cel 54 [i64 t.1, i64 t.2])) (Y : HL) (hY : YD ib vb wb kb L t vs i Y) :
    Ctr Tryz.prog 88 [.agg (vwC (v, wv)).toArray, .func (.func 89) #[] [ptr xb 0, ptr eb 0].toArray, .func (.func 91) #[] [ptr xb 0, ptr eb 0].toArray] I Y (fun e _ H' => e = .returned (.tuple #[]) ∧ YD ib vb wb kb L t vs (i + 1) H') := by
  have hd := drop_next hget
  have hwl := hv.2 v (List.mem_of_getElem? hget)
  have hlW := plW_drop_len hv i
  have hlK := plK_drop_len hv i
  refine each_ok v wv _ _ [ptr xb 0, ptr eb 0] (fun k => YS ib vb wb kb (Ix.way (Ix.cnt Ix.plW L) t fun p => ((v.ws.drop k).map (fun w => (v.name, w)) ++ Ix.plW (vs.drop (i + 1))).count p) (Ix.way (Ix.cnt Ix.plK L) t fun p => (Ix.plK (vs.drop i)).count p)) (YD ib vb wb kb L t vs (i + 1)) (by omega) I hws Y ?_ ?_ ?_ ?_
  · unfold YD at hY
    rw [hd, plW_cons] at hY
    rw [hd]
    exact hY
  · intro k w H J hk hle hYk
    refine hYk.word fun l c N hN => ?_
    have hdk : (v.ws.drop k).map (fun w => (v.name, w)) ++ Ix.plW (vs.drop (i + 1)) = (v.name, w) :: ((v.ws.drop (k + 1)).map (fun w => (v.name, w)) ++ Ix.plW (vs.drop (i + 1))) := by rw [drop_next hk]; rfl
    rw [hdk] at hN
    have hb := bump_del (Ix.cnt Ix.plW L) t ((v.ws.drop (k + 1)).map (fun w => (v.name, w)) ++ Ix.plW (vs.drop (i + 1))) (v.name, w)
    rw [← hb]
    refine drop1_ok xb eb ib vb wb kb l c N _ (v.name, w) t hN ?_ ?_ J (hle _ _ hxb) (hle _ _ heb)
    · rw [way_at]; exact List.one_le_count_iff.2 (.head _)
    rw [way_at]
    refine Nat.le_trans List.count_le_length ?_
    have h9 : ((v.name, w) :: ((v.ws.drop (k + 1)).map (fun w => (v.name, w)) ++ Ix.plW (vs.drop (i + 1)))).length ≤ (Ix.plW (vs.drop i)).length := by
      rw [hd, plW_cons, ← hdk, List.length_append, List.length_append, List.length_map, List.length_map, List.length_drop]; omega
    omega
  · intro H J hne hle hYk
    have hY2 : YS ib vb wb kb (Ix.way (Ix.cnt Ix.plW L) t fun p => (Ix.plW (vs.drop (i + 1))).count p) (Ix.way (Ix.cnt Ix.plK L) t fun p => ((v.name, v.key) :: Ix.plK (vs.drop (i + 1))).count p) H := by
      rw [List.drop_length, List.map_nil, List.nil_append, hd, plK_cons, if_neg hne] at hYk
      exact hYk
    unfold YD
    refine hY2.key fun l c N hN => ?_
    rw [← bump_del (Ix.cnt Ix.plK L) t (Ix.plK (vs.drop (i + 1))) (v.name, v.key)]
    refine drop2_ok xb eb ib vb wb kb l c N _ (v.name, v.key) t hN ?_ ?_ J (hle _ _ hxb) (hle _ _ heb)
    · rw [way_at]; exact List.one_le_count_iff.2 (.head _)
    rw [way_at]
    refine Nat.le_trans List.count_le_length ?_
    rw [hd, plK_cons, if_neg hne] at hlK
    have : ((v.name, v.key) :: Ix.plK (vs.drop (i + 1))).length ≤ 10000000 := hlK
    omega
  intro he H hYk
  rw [List.drop_length, List.map_nil, List.nil_append, hd, plK_cons, if_pos he, List.nil_append] at hYk
  exact hYk
def YP (ib vb wb kb : Nat) (L : Ix.Ix) (t : Ix.Rec) (vs : List Ix.V) (i : Nat) : HL → Prop := YS ib vb wb kb (Ix.way (Ix.cnt Ix.plW L) t fun p => (Ix.plW (vs.take i)).count p) (Ix.way (Ix.cnt Ix.plK L) t fun p => (Ix.plK (vs.take i)).count p)
theorem take_one {α : Type} {l : List α} {k : Nat} {x : α} (h : l[k]? = some x) : l.take (k + 1) = l.take k ++ [x] := by
  obtain ⟨hlt, hg⟩ := List.getElem?_eq_some_iff.1 h
  rw [List.take_succ_eq_append_getElem hlt, hg]
theorem each_put (xb eb ib vb wb kb : Nat) (ek el : UInt8) (ev : Value) (L : Ix.Ix) (t : Ix.Rec) (vs : List Ix.V) (hv : VOK vs) (i : Nat) (v : Ix.V) (wv : Value) (hget : vs[i]? = some v) (I : Heap) (hws : StrS 9 I v.ws wv) (hxb : I xb = some (cel 26 [ptr ib 0])) (heb : I eb = some (cel 59 [i64 t.1, i64 t.2, u8 ek, u8 el, ev])) (Y : HL) (hY : YP ib vb wb kb L t vs i Y) :
    Ctr Tryz.prog 88 [.agg (vwC (v, wv)).toArray, .func (.func 96) #[] [ptr xb 0, ptr eb 0].toArray, .func (.func 98) #[] [ptr xb 0, ptr eb 0].toArray] I Y (fun e _ H' => e = .returned (.tuple #[]) ∧ YP ib vb wb kb L t vs (i + 1) H') := by
  have hd := take_one hget
  have hwl := hv.2 v (List.mem_of_getElem? hget)
  have hlW := plW_take_len hv (i + 1)
  have hlK := plK_take_len hv (i + 1)
  refine each_ok v wv _ _ [ptr xb 0, ptr eb 0] (fun k => YS ib vb wb kb (Ix.way (Ix.cnt Ix.plW L) t fun p => (Ix.plW (vs.take i) ++ (v.ws.take k).map (fun w => (v.name, w))).count p) (Ix.way (Ix.cnt Ix.plK L) t fun p => (Ix.plK (vs.take i)).count p)) (YP ib vb wb kb L t vs (i + 1)) (by omega) I hws Y ?_ ?_ ?_ ?_
  · unfold YP at hY
    rw [List.take_zero, List.map_nil, List.append_nil]
    exact hY
  · intro k w H J hk hle hYk
    refine hYk.word fun l c N hN => ?_
    have hdk : Ix.plW (vs.take i) ++ (v.ws.take (k + 1)).map (fun w => (v.name, w)) = (Ix.plW (vs.take i) ++ (v.ws.take k).map (fun w => (v.name, w))) ++ [(v.name, w)] := by rw [take_one hk, List.map_append, List.append_assoc]; rfl
    rw [hdk, ← bump_add (Ix.cnt Ix.plW L) t (Ix.plW (vs.take i) ++ (v.ws.take k).map (fun w => (v.name, w))) (v.name, w)]
    refine put1_ok xb eb ib vb wb kb ek el ev l c N _ (v.name, w) t hN ?_ J (hle _ _ hxb) (hle _ _ heb)
    rw [way_at]
    refine Nat.le_trans List.count_le_length ?_
    have h9 : (Ix.plW (vs.take i) ++ (v.ws.take k).map (fun w => (v.name, w))).length ≤ (Ix.plW (vs.take (i + 1))).length := by
      rw [hd, plW_one, List.length_append, List.length_append, List.length_map, List.length_map, List.length_take]; omega
    omega
  · intro H J hne hle hYk
    have hY2 : YS ib vb wb kb (Ix.way (Ix.cnt Ix.plW L) t fun p => (Ix.plW (vs.take (i + 1))).count p) (Ix.way (Ix.cnt Ix.plK L) t fun p => (Ix.plK (vs.take i)).count p) H := by
      rw [List.take_length, ← plW_one, ← hd] at hYk
      exact hYk
    unfold YP
    refine hY2.key fun l c N hN => ?_
    have e1 : Ix.plK (vs.take (i + 1)) = Ix.plK (vs.take i) ++ [(v.name, v.key)] := by rw [hd, plK_one, if_neg hne]
    rw [e1, ← bump_add (Ix.cnt Ix.plK L) t (Ix.plK (vs.take i)) (v.name, v.key)]
    refine put2_ok xb eb ib vb wb kb ek el ev l c N _ (v.name, v.key) t hN ?_ J (hle _ _ hxb) (hle _ _ heb)
    rw [way_at]
    refine Nat.le_trans List.count_le_length ?_
    rw [e1, List.length_append] at hlK
    omega
  intro he H hYk
  unfold YP
  rw [List.take_length, ← plW_one, ← hd] at hYk
  have e1 : Ix.plK (vs.take (i + 1)) = Ix.plK (vs.take i) := by rw [hd, plK_one, if_pos he, List.append_nil]
  rw [e1]
  exact hYk
structure DA where
  i : Nat
  J : Heap
  Y : HL
theorem rput_len (t : Ix.Rec) (v : List Ix.V) : ∀ L : Ix.Ix, (Ix.rput t v L).length ≤ L.length + 1
  | [] => by simp [Ix.rput]
  | (u, x) :: r => by
    unfold Ix.rput
    split
    · have := rput_len t v r; rw [List.length_cons, List.length_cons]; omega
    split
    · simp
    simp
theorem IstOk.drop {I I' : Heap} {vb wb kb : Nat} {lv : ML Ix.Rec} {cv : Nat} {lw : ML Ix.Pl} {cw : Nat} {Nw : Nest Ix.Pl Ix.Rec} {lk : ML Ix.Pl} {ck : Nat} {Nk : Nest Ix.Pl Ix.Rec} {L : Ix.Ix} (h : IstOk I ⟨vb, wb, kb, lv, cv, lw, cw, Nw, lk, ck, Nk⟩ L) (hle : Le I I') (t : Ix.Rec) {lw2 : ML Ix.Pl} {cw2 : Nat} {Nw2 : Nest Ix.Pl Ix.Rec} {lk2 : ML Ix.Pl} {ck2 : Nat} {Nk2 : Nest Ix.Pl Ix.Rec}
    (hw : NestS lw2 cw2 Nw2 (Ix.way (Ix.cnt Ix.plW L) t fun p => (Ix.plW []).count p)) (hk : NestS lk2 ck2 Nk2 (Ix.way (Ix.cnt Ix.plK L) t fun p => (Ix.plK []).count p)) : IstOk I' ⟨vb, wb, kb, mdel lv t, cv, lw2, cw2, Nw2, lk2, ck2, Nk2⟩ (Ix.rdrop t L) := by
  refine ⟨Ix.rdrop_srt t h.srt, Nat.le_trans (List.length_filter_le _ _) h.big, fun e he => h.vok e ((Ix.rdrop_mem t L e).1 he).1, h.vms.del t, fun u => ⟨fun hu => ?_, fun vs hu => ?_⟩, ?_, ?_⟩
  · show mget (mdel lv t) u = none
    rw [mget_mdel h.vms.1]
    split
    · rfl
    rename_i hne
    rw [Ix.rget_rdrop h.srt, if_neg (by simpa using hne)] at hu
    exact (h.vals u).1 hu
  · rw [Ix.rget_rdrop h.srt] at hu
    split at hu
    · cases hu
    rename_i hne
    obtain ⟨w, h1, h2⟩ := (h.vals u).2 vs hu
    refine ⟨w, ?_, h2.mono hle⟩
    show mget (mdel lv t) u = some w
    rw [mget_mdel h.vms.1, if_neg (by simpa using hne)]; exact h1
  · rw [Ix.cnt_rdrop h.srt]; exact hw
  rw [Ix.cnt_rdrop h.srt]; exact hk
theorem IstOk.put {I : Heap} {vb wb kb : Nat} {lv : ML Ix.Rec} {cv : Nat} {lw : ML Ix.Pl} {cw : Nat} {Nw : Nest Ix.Pl Ix.Rec} {lk : ML Ix.Pl} {ck : Nat} {Nk : Nest Ix.Pl Ix.Rec} {L : Ix.Ix} (h : IstOk I ⟨vb, wb, kb, lv, cv, lw, cw, Nw, lk, ck, Nk⟩ L) {t : Ix.Rec} (hL : L.length < 100000) {vs : List Ix.V} (hv : VOK vs) {w : Value} (hw0 : ValsS I vs w) {lw2 : ML Ix.Pl} {cw2 : Nat} {Nw2 : Nest Ix.Pl Ix.Rec} {lk2 : ML Ix.Pl} {ck2 : Nat} {Nk2 : Nest Ix.Pl Ix.Rec}
    (hw : NestS lw2 cw2 Nw2 (Ix.way (Ix.cnt Ix.plW L) t fun p => (Ix.plW vs).count p)) (hk : NestS lk2 ck2 Nk2 (Ix.way (Ix.cnt Ix.plK L) t fun p => (Ix.plK vs).count p)) : IstOk I ⟨vb, wb, kb, mset lv t w cv, mclk lv t cv, lw2, cw2, Nw2, lk2, ck2, Nk2⟩ (Ix.rput t vs L) := by
  refine ⟨Ix.rput_srt t vs h.srt, ?_, fun e he => ?_, h.vms.set t w, fun u => ⟨fun hu => ?_, fun us hu => ?_⟩, ?_, ?_⟩
  · have := rput_len t vs L; omega
  · rcases (Ix.rput_mem t vs h.srt e).1 he with g | g
    · rw [g]; exact hv
    exact h.vok e g.1
  · show mget (mset lv t w cv) u = none
    rw [Ix.rget_rput h.srt] at hu
    rw [mget_mset]
    split at hu
    · cases hu
    rename_i hne
    rw [if_neg (by simpa using hne)]; exact (h.vals u).1 hu
  · show ∃ w', mget (mset lv t w cv) u = some w' ∧ _
    rw [Ix.rget_rput h.srt] at hu
    rw [mget_mset]
    split at hu
    · rename_i he
      cases hu
      exact ⟨w, by rw [if_pos (by simpa using he)], hw0⟩
    rename_i hne
    rw [if_neg (by simpa using hne)]; exact (h.vals u).2 us hu
  · rw [Ix.cnt_rput h.srt]; exact hw
  rw [Ix.cnt_rput h.srt]; exact hk
theorem ist_new (I : Heap) (vb wb kb : Nat) : IstOk I ⟨vb, wb, kb, [], 0, [], 0, [], [], 0, []⟩ [] :=
  ⟨List.Pairwise.nil, Nat.zero_le _, fun _ h => (by cases h), MS.nil, fun _ => ⟨fun _ => rfl, fun _ h => by cases h⟩, NestS.nil, NestS.nil⟩
end Go.Proofs.YtekmeaoblpfnpaaGreatDoor
end
section
set_option maxHeartbeats 40000000
namespace Go.Proofs.YtekmeaoblpfnpaaGreatDoor
open _root_.Go.Proofs.Tryz
open Go Go.Sx
theorem Drop_some (ib : Nat) (s0 : Ist) (L : Ix.Ix) (t : Ix.Rec) (I : Heap) (hok0 : IstOk I s0 L) : Ctr Tryz.prog 43 [ptr ib 0, kvR t] I (istH ib s0)
    (fun e I' H' => ∃ s', e = .returned (.tuple #[]) ∧ IstOk I' s' (Ix.rdrop t L) ∧ H' = istH ib s') := by
 obtain ⟨vb, wb, kb, lv, cv, lw, cw, Nw, lk, ck, Nk⟩ := s0
 unfold istH
 dsimp only
 have hok := hok0
 refine xob func43 fun w0 hw0 => ?_
 refine axn 3 ?_
 intro b1 hb1
 refine axn 1 ?_
 intro b2 hb2
 refine axn 4 ?_
 refine Cj.pull (Pull.s Pull.z) ?_
 refine Cj.persist hb1 (fun I4 hle3 hb1i => ?_)
 have hok := hok.mono hle3
 refine Cj.persist hb2 (fun I6 hle5 hb2i => ?_)
 have hok := hok.mono hle5
 have hb1i := hle5 _ _ hb1i
 refine axn 10 ?_
 have hv0 := hok.vals
 obtain ⟨vv, hvv, hvs⟩ := hv0.at t
 obtain ⟨xs, hrow, hX⟩ := hvs
 obtain ⟨vp, vc, rfl, hvc, -⟩ := id hrow
 have hvok := rget_vok hok.srt hok.vok t
 have hxl := hX.len
 have hvl := hvok.1
 have hY0 : YD ib vb wb kb L t ((Ix.rget L t).getD []) 0 ((ib, cel 114 (ixC vb wb kb)) :: (setH wb lw cw Nw ++ setH kb lk ck Nk)) := ⟨lw, cw, Nw, lk, ck, Nk, (by have h := hok.nw; rw [cnt_way Ix.plW rfl L t] at h; exact h), (by have h := hok.nk; rw [cnt_way Ix.plK rfl L t] at h; exact h), rfl⟩
 refine Cj.drawSel [0, 1] [] 8 (by kernel_rfl) ?_
 refine axn 5 ?_
 refine JA.zt 5 rfl (yl_lookup1 (kv := kvR) (l := lv) (a := t) rfl rfl rfl rfl underlying110 keyR zeroValue140 (Blk.atC 0 rfl)) ?_
 refine JA.ev 13 (.slice vp xs.length vc) rfl hvv ?_
 refine axn 5 ?_
 refine Cj.loop (ι := DA) (fun y => y.i ≤ xs.length ∧ Le I6 y.J ∧ YD ib vb wb kb L t ((Ix.rget L t).getD []) y.i y.Y) (fun y => xs.length - y.i) (fun y => [(2, ptr b1 0), (3, ptr b2 0), (13, .slice vp xs.length vc), (14, i64 (xs.length : Int)), (15, i64 (y.i : Int))]) (fun y => y.J) (fun y => (vb, mobj kvR lv cv) :: y.Y) ⟨0, _, (ib, cel 114 (ixC vb wb kb)) :: (setH _ _ _ _ ++ setH _ _ _ _)⟩ ⟨Nat.zero_le _, Le.refl _, hY0⟩ ⟨rfl, rfl, rfl, rfl, rfl, trivial⟩ rfl rfl ?_
 rintro ⟨i, Jh, Y9⟩ ⟨hi, hIJ, hY⟩
 dsimp only at hi hIJ hY ⊢
 have hrow := hrow.mono hIJ
 have hX := hX.mono hIJ
 have hb1i := hIJ _ _ hb1i
 have hb2i := hIJ _ _ hb2i
 refine axc (fun hc9 hc9p => ?_) (fun hc9 hc9p => ?_)
 ·
  have hlt : i < xs.length := by omega
  obtain ⟨x, hget⟩ : ∃ x, xs[i]? = some x := ⟨_, List.getElem?_eq_getElem hlt⟩
  obtain ⟨vp1, vc1, hve, -, hvb⟩ := id hrow
  cases hve
  obtain ⟨rb, rsp, rfl, hrb⟩ := hvb (ne_nil_of hlt)
  have hws := hX.2 x (List.mem_of_getElem? hget)
  have hgv := (congrArg (fun l => l[i]?) hX.1).symm.trans ((List.getElem?_map).trans (congrArg (Option.map (·.1)) hget))
  dsimp only [Option.map_some] at hgv
  refine xix (0 + i * 3) ?_
  refine J.z (yl_loadAgg rfl rfl isAgg142 sizeOf142 (Blk.imm hrb) (row_from vwC_len (o := 0) rfl hget) rfl) ?_
  refine axn 1 ?_
  intro b10 hb10
  refine J.op rfl (op_store 0 rfl rfl rfl rfl rfl (vw_one hws rfl rfl) sizeOf142 rfl rfl (LSpl.c (LSpl.c (LSpl.c LSpl.z))) LSet.z ?_)
  refine xcr [_, _] (each_drop b1 b2 ib vb wb kb L t ((Ix.rget L t).getD []) hvok i x.1 x.2 hgv _ hws hb1i hb2i _ hY) ?_
  intro v11 I12 H13 hle14 hp15
  have hb1i := hle14 _ _ hb1i
  have hb2i := hle14 _ _ hb2i
  have hIJ := hIJ.mono hle14
  have hrow := hrow.mono hle14
  have hX := hX.mono hle14
  have hrb := hle14 _ _ hrb
  have hws := hws.mono hle14
  obtain ⟨h, hY1⟩ := hp15; cases h
  refine axn 7 ?_
  refine Ej.keep (Keeps.d (Keeps.k Keeps.r)) ?_
  refine Ej.round ⟨i + 1, _, H13⟩ ⟨by dsimp only; omega, hIJ, hY1⟩ (by dsimp only; omega) ⟨rfl, rfl, rfl, rfl, rfl, trivial⟩ rfl rfl
 have hil : i = ((Ix.rget L t).getD []).length := by omega
 obtain ⟨lw2, cw2, Nw2, lk2, ck2, Nk2, hw2, hk2, rfl⟩ := hY
 rw [hil, List.drop_length] at hw2 hk2
 refine axn 5 ?_
 refine Cj.drawSel [1] [] 6 (by kernel_rfl) ?_
 refine axn 5 ?_
 refine q0 5 rfl (op_delete0 (kv := kvR) (a := t) 0 rfl rfl rfl rfl rfl underlying110 keyR rfl LSet.z ?_)
 refine axn 2 ?_
 refine Ej.end0 rfl rfl ?_
 exact ⟨⟨vb, wb, kb, mdel lv t, cv, lw2, cw2, Nw2, lk2, ck2, Nk2⟩, rfl, hok.drop hIJ t hw2 hk2, rfl⟩
theorem Drop_none (ib : Nat) (t : Ix.Rec) (I : Heap) : Ctr Tryz.prog 43 [ptr ib 0, kvR t] I [(ib, cel 114 [.map none, .map none, .map none])]
    (fun e _ H' => e = .returned (.tuple #[]) ∧ H' = [(ib, cel 114 [.map none, .map none, .map none])]) := by
 refine xob func43 fun w0 hw0 => ?_
 refine axn 3 ?_
 intro b1 hb1
 refine axn 1 ?_
 intro b2 hb2
 refine axn 14 ?_
 refine Cj.drawSel [0, 1, 2] [] 8 (by kernel_rfl) ?_
 refine JA.fix fxA (fun fx4 => ?_)
 refine JA.tk 0 rfl fx4 (yl_load rfl rfl isAgg26 (Blk.atC 1 rfl) rfl) ?_
 refine JA.tk 1 rfl fx4 (yl_nilCheck rfl rfl) ?_
 refine JA.tk 2 rfl fx4 (q1 (off' := 0) underlying114 sizeOf110) ?_
 refine JA.tk 3 rfl fx4 (yl_load rfl rfl isAgg110 (Blk.atC 2 rfl) rfl) ?_
 refine JA.tk 4 rfl fx4 (yl_loadAgg rfl rfl isAgg54 sizeOf54 (Blk.atC 0 rfl) rfl rfl) ?_
 refine JA.tk 5 rfl fx4 (yl_lookupNil1 (kv := kvR) (a := t) rfl rfl rfl rfl underlying110 keyR zeroValue140) ?_
 refine axn 5 ?_
 refine Cj.rounds 1 ?_
 refine Rj.succ ?_
 refine axn 6 ?_
 refine Cj.cond rfl (fun hc5 => ?_) (fun hc5 => ?_)
 ·
  have hc5p := of_decide_eq_true hc5
  exact absurd (of_decide_eq_true hc5) (by decide)
 have hc5p := of_decide_eq_false hc5
 refine Cj.exit (Ej.seqExit (Ej.seqExit (Ej.blkExit (Ej.seq ?_))))
 refine Cj.drawSel [0, 1, 2] [] 6 (by kernel_rfl) ?_
 refine JA.fix fxA (fun fx6 => ?_)
 refine JA.tk 0 rfl fx6 (yl_load rfl rfl isAgg26 (Blk.atC 1 rfl) rfl) ?_
 refine JA.tk 1 rfl fx6 (yl_nilCheck rfl rfl) ?_
 refine JA.tk 2 rfl fx6 (q1 (off' := 0) underlying114 sizeOf110) ?_
 refine JA.tk 3 rfl fx6 (yl_load rfl rfl isAgg110 (Blk.atC 2 rfl) rfl) ?_
 refine JA.tk 4 rfl fx6 (yl_loadAgg rfl rfl isAgg54 sizeOf54 (Blk.atC 0 rfl) rfl rfl) ?_
 refine q0 5 rfl (op_deleteNil (kv := kvR) (a := t) rfl rfl rfl rfl rfl underlying110 keyR ?_)
 refine axn 2 ?_
 refine Ej.keep (Keeps.d (Keeps.d (Keeps.k Keeps.n))) ?_
 refine Ej.end0 rfl rfl ?_
 exact ⟨rfl, rfl⟩
theorem iput_end {I I' : Heap} {vb wb kb : Nat} {lv : ML Ix.Rec} {cv : Nat} {lw : ML Ix.Pl} {cw : Nat} {Nw : Nest Ix.Pl Ix.Rec} {lk : ML Ix.Pl} {ck : Nat} {Nk : Nest Ix.Pl Ix.Rec} {L : Ix.Ix} {t : Ix.Rec} (h : IstOk I ⟨vb, wb, kb, lv, cv, lw, cw, Nw, lk, ck, Nk⟩ (Ix.rdrop t L)) (hs : Ix.Srt L) (hL : L.length < 100000) {vs : List Ix.V} (hv : VOK vs) {w : Value} (hw0 : ValsS I' vs w) (hle : Le I I') {lw2 : ML Ix.Pl} {cw2 : Nat} {Nw2 : Nest Ix.Pl Ix.Rec} {lk2 : ML Ix.Pl} {ck2 : Nat} {Nk2 : Nest Ix.Pl Ix.Rec}
    (hw : NestS lw2 cw2 Nw2 (Ix.way (Ix.cnt Ix.plW L) t fun p => (Ix.plW vs).count p)) (hk : NestS lk2 ck2 Nk2 (Ix.way (Ix.cnt Ix.plK L) t fun p => (Ix.plK vs).count p)) : IstOk I' ⟨vb, wb, kb, mset lv t w cv, mclk lv t cv, lw2, cw2, Nw2, lk2, ck2, Nk2⟩ (Ix.rput t vs L) := by
  have hb : (Ix.rdrop t L).length < 100000 := Nat.lt_of_le_of_lt (List.length_filter_le _ _) hL
  have hww : ∀ (pl : List Ix.V → List Ix.Pl), (Ix.way (Ix.cnt pl L) t fun p => (pl vs).count p) = Ix.way (Ix.cnt pl (Ix.rdrop t L)) t fun p => (pl vs).count p := fun pl => by
    rw [Ix.cnt_rdrop hs]
    funext p u
    unfold Ix.way
    split <;> rfl
  rw [hww] at hw hk
  have h2 := (h.mono hle).put hb hv hw0 hw hk
  rw [Ix.rput_rdrop hs] at h2
  exact h2
theorem Put_some (ib : Nat) (s0 : Ist) (L : Ix.Ix) (e0 : Ent) (I : Heap) (hok : IstOk I s0 L) (hbig : L.length < 100000) (hek : EOK e0.fs) (hrec : RecS I e0.fs e0.v) : Ctr Tryz.prog 50 [ptr ib 0, .agg (entC e0).toArray] I (istH ib s0)
    (fun e I' H' => ∃ s', e = .returned (.tuple #[]) ∧ IstOk I' s' (Ix.rput e0.t (Ix.vals e0.fs) L) ∧ H' = istH ib s') := by
 have hsrt := hok.srt
 obtain ⟨vp0, vc0, hev, -, -⟩ := id hrec.1
 refine xob func50 fun w0 hw0 => ?_
 refine axn 3 ?_
 intro b1 hb1
 refine axn 1 ?_
 intro b2 hb2
 refine axn 4 ?_
 refine Cj.pull (Pull.s Pull.z) ?_
 refine Cj.persist hb1 (fun I4 hle3 hb1i => ?_)
 have hok := hok.mono hle3
 have hrec := hrec.mono hle3
 refine Cj.persist hb2 (fun I6 hle5 hb2i => ?_)
 have hok := hok.mono hle5
 have hrec := hrec.mono hle5
 have hb1i := hle5 _ _ hb1i
 refine xcr [] (Drop_some ib s0 L e0.t _ hok) ?_
 intro v8 I9 H10 hle11 hp12
 have hok := hok.mono hle11
 have hrec := hrec.mono hle11
 have hb1i := hle11 _ _ hb1i
 have hb2i := hle11 _ _ hb2i
 obtain ⟨s1, h, hok, rfl⟩ := hp12; cases h
 obtain ⟨vb, wb, kb, lv, cv, lw, cw, Nw, lk, ck, Nk⟩ := s1
 unfold istH
 dsimp only
 refine axn 16 ?_
 refine Cj.drawSel [1] [] 10 (by kernel_rfl) ?_
 have hb1i_5 := hb1i
 have hb2i_5 := hb2i
 refine xca (valuesOf_ok e0.fs e0.v e0.k e0.l hek _ hrec) ?_
 intro v15 I16 H17 hle18 hp19
 have hrec := hrec.mono hle18
 have hb1i := hle18 _ _ hb1i
 have hb2i := hle18 _ _ hb2i
 have hok := hok.mono hle18
 obtain ⟨vv, h, hvs, rfl⟩ := hp19; cases h
 obtain ⟨xs, hrow, hX⟩ := hvs
 obtain ⟨vp, vc, rfl, hvc, -⟩ := id hrow
 have hvok := vok_of hek
 have hxl := hX.len
 have hvl := hvok.1
 refine axn 1 ?_
 refine q0 9 rfl (op_insert (kv := kvR) (a := e0.t) 0 (.inr rfl) rfl rfl rfl rfl rfl underlying110 keyR rfl LSet.z ?_)
 refine axn 4 ?_
 have hY0 : YP ib vb wb kb L e0.t (Ix.vals e0.fs) 0 ((ib, cel 114 (ixC vb wb kb)) :: (setH wb lw cw Nw ++ setH kb lk ck Nk)) := ⟨lw, cw, Nw, lk, ck, Nk, (by have h := hok.nw; rw [Ix.cnt_rdrop hsrt] at h; exact h), (by have h := hok.nk; rw [Ix.cnt_rdrop hsrt] at h; exact h), rfl⟩
 refine Cj.drawSel [0, 1] [] 9 (by kernel_rfl) ?_
 refine axn 6 ?_
 refine JA.zt 6 rfl (yl_lookup1 (kv := kvR) (l := (mset lv e0.t (.slice vp xs.length vc) cv)) (a := e0.t) rfl rfl rfl rfl underlying110 keyR zeroValue140 (Blk.atC 0 rfl)) ?_
 refine JA.ev 44 (.slice vp xs.length vc) rfl getD_set ?_
 refine axn 5 ?_
 refine Cj.loop (ι := DA) (fun y => y.i ≤ xs.length ∧ Le I16 y.J ∧ YP ib vb wb kb L e0.t (Ix.vals e0.fs) y.i y.Y) (fun y => xs.length - y.i) (fun y => [(2, ptr b1 0), (3, ptr b2 0), (44, .slice vp xs.length vc), (45, i64 (xs.length : Int)), (46, i64 (y.i : Int))]) (fun y => y.J) (fun y => (vb, mobj kvR (mset lv e0.t (.slice vp xs.length vc) cv) (mclk lv e0.t cv)) :: y.Y) ⟨0, _, (ib, cel 114 (ixC vb wb kb)) :: (setH _ _ _ _ ++ setH _ _ _ _)⟩ ⟨Nat.zero_le _, Le.refl _, hY0⟩ ⟨rfl, rfl, rfl, rfl, rfl, trivial⟩ rfl rfl ?_
 rintro ⟨i, Jh, Y9⟩ ⟨hi, hIJ, hY⟩
 dsimp only at hi hIJ hY ⊢
 have hrow := hrow.mono hIJ
 have hX := hX.mono hIJ
 have hb1i := hIJ _ _ hb1i
 have hb2i := hIJ _ _ hb2i
 refine axc (fun hc21 hc21p => ?_) (fun hc21 hc21p => ?_)
 ·
  have hlt : i < xs.length := by omega
  obtain ⟨x, hget⟩ : ∃ x, xs[i]? = some x := ⟨_, List.getElem?_eq_getElem hlt⟩
  obtain ⟨vp1, vc1, hve, -, hvb⟩ := id hrow
  cases hve
  obtain ⟨rb, rsp, rfl, hrb⟩ := hvb (ne_nil_of hlt)
  have hws := hX.2 x (List.mem_of_getElem? hget)
  have hgv := (congrArg (fun l => l[i]?) hX.1).symm.trans ((List.getElem?_map).trans (congrArg (Option.map (·.1)) hget))
  dsimp only [Option.map_some] at hgv
  refine xix (0 + i * 3) ?_
  refine J.z (yl_loadAgg rfl rfl isAgg142 sizeOf142 (Blk.imm hrb) (row_from vwC_len (o := 0) rfl hget) rfl) ?_
  refine axn 1 ?_
  intro b22 hb22
  refine J.op rfl (op_store 0 rfl rfl rfl rfl rfl (vw_one hws rfl rfl) sizeOf142 rfl rfl (LSpl.c (LSpl.c (LSpl.c LSpl.z))) LSet.z ?_)
  refine xcr [_, _] (each_put b1 b2 ib vb wb kb e0.k e0.l e0.v L e0.t (Ix.vals e0.fs) hvok i x.1 x.2 hgv _ hws hb1i hb2i _ hY) ?_
  intro v23 I24 H25 hle26 hp27
  have hb1i := hle26 _ _ hb1i
  have hb2i := hle26 _ _ hb2i
  have hrow := hrow.mono hle26
  have hX := hX.mono hle26
  have hIJ := hIJ.mono hle26
  have hrb := hle26 _ _ hrb
  have hws := hws.mono hle26
  obtain ⟨h, hY1⟩ := hp27; cases h
  refine axn 7 ?_
  refine Ej.keep (Keeps.d (Keeps.k Keeps.r)) ?_
  refine Ej.round ⟨i + 1, _, H25⟩ ⟨by dsimp only; omega, hIJ, hY1⟩ (by dsimp only; omega) ⟨rfl, rfl, rfl, rfl, rfl, trivial⟩ rfl rfl
 have hil : i = (Ix.vals e0.fs).length := by omega
 obtain ⟨lw2, cw2, Nw2, lk2, ck2, Nk2, hw2, hk2, rfl⟩ := hY
 rw [hil, List.take_length] at hw2 hk2
 refine axn 4 ?_
 refine Ej.end0 rfl rfl ?_
 exact ⟨⟨vb, wb, kb, (mset lv e0.t (.slice vp xs.length vc) cv), (mclk lv e0.t cv), lw2, cw2, Nw2, lk2, ck2, Nk2⟩, rfl, iput_end hok hsrt hbig hvok ⟨xs, hrow, hX⟩ hIJ hw2 hk2, rfl⟩
theorem Put_none (ib : Nat) (e0 : Ent) (I : Heap) (hek : EOK e0.fs) (hrec : RecS I e0.fs e0.v) : Ctr Tryz.prog 50 [ptr ib 0, .agg (entC e0).toArray] I [(ib, cel 114 [.map none, .map none, .map none])]
    (fun e I' H' => ∃ s', e = .returned (.tuple #[]) ∧ IstOk I' s' (Ix.rput e0.t (Ix.vals e0.fs) []) ∧ H' = istH ib s') := by
 obtain ⟨vp0, vc0, hev, -, -⟩ := id hrec.1
 refine xob func50 fun w0 hw0 => ?_
 refine axn 3 ?_
 intro b1 hb1
 refine axn 1 ?_
 intro b2 hb2
 refine axn 4 ?_
 refine Cj.pull (Pull.s Pull.z) ?_
 refine Cj.persist hb1 (fun I4 hle3 hb1i => ?_)
 have hrec := hrec.mono hle3
 refine Cj.persist hb2 (fun I6 hle5 hb2i => ?_)
 have hrec := hrec.mono hle5
 have hb1i := hle5 _ _ hb1i
 refine axn 13 ?_
 refine J.pull Pull.z ?_
 refine xca (Drop_none ib e0.t _) ?_
 intro v8 I9 H10 hle11 hp12
 have hrec := hrec.mono hle11
 have hb1i := hle11 _ _ hb1i
 have hb2i := hle11 _ _ hb2i
 obtain ⟨h, rfl⟩ := hp12; cases h
 refine axn 2 ?_
 refine Cj.join (ι := Nat × Nat × Nat) (fun y => True) (fun y => [(2, ptr b1 0), (3, ptr b2 0)]) (fun y => I9) (fun y => (y.1, mobj kvR [] 0) :: (ib, cel 114 (ixC y.1 y.2.1 y.2.2)) :: (setH y.2.1 [] 0 [] ++ setH y.2.2 [] 0 [])) ?_ (fun hcut => ?_)
 ·
  rintro ⟨vb, wb, kb⟩ -
  dsimp only
  refine axn 1 ?_
  refine Cj.drawSel [1] [] 10 (by kernel_rfl) ?_
  have hb1i_5 := hb1i
  have hb2i_5 := hb2i
  refine xca (valuesOf_ok e0.fs e0.v e0.k e0.l hek _ hrec) ?_
  intro v14 I15 H16 hle17 hp18
  have hrec := hrec.mono hle17
  have hb1i := hle17 _ _ hb1i
  have hb2i := hle17 _ _ hb2i
  obtain ⟨vv, h, hvs, rfl⟩ := hp18; cases h
  obtain ⟨xs, hrow, hX⟩ := hvs
  obtain ⟨vp, vc, rfl, hvc, -⟩ := id hrow
  have hvok := vok_of hek
  have hxl := hX.len
  have hvl := hvok.1
  refine axn 1 ?_
  refine q0 9 rfl (op_insert (kv := kvR) (a := e0.t) 0 (.inr rfl) rfl rfl rfl rfl rfl underlying110 keyR rfl LSet.z ?_)
  refine axn 4 ?_
  have hY0 : YP ib vb wb kb [] e0.t (Ix.vals e0.fs) 0 ((ib, cel 114 (ixC vb wb kb)) :: (setH wb [] 0 [] ++ setH kb [] 0 [])) := ⟨[], 0, [], [], 0, [], (by rw [List.take_zero]; have h := (NestS.nil : NestS ([] : ML Ix.Pl) 0 ([] : Nest Ix.Pl Ix.Rec) (fun _ _ => 0)); exact (show (Ix.way (Ix.cnt Ix.plW []) e0.t fun p => (Ix.plW []).count p) = (fun _ _ => 0) by funext p u; unfold Ix.way; split <;> rfl) ▸ h), (by rw [List.take_zero]; have h := (NestS.nil : NestS ([] : ML Ix.Pl) 0 ([] : Nest Ix.Pl Ix.Rec) (fun _ _ => 0)); exact (show (Ix.way (Ix.cnt Ix.plK []) e0.t fun p => (Ix.plK []).count p) = (fun _ _ => 0) by funext p u; unfold Ix.way; split <;> rfl) ▸ h), rfl⟩
  refine Cj.drawSel [0, 1] [] 9 (by kernel_rfl) ?_
  refine axn 6 ?_
  refine JA.zt 6 rfl (yl_lookup1 (kv := kvR) (l := (mset ([] : ML Ix.Rec) e0.t (.slice vp xs.length vc) 0)) (a := e0.t) rfl rfl rfl rfl underlying110 keyR zeroValue140 (Blk.atC 0 rfl)) ?_
  refine JA.ev 44 (.slice vp xs.length vc) rfl getD_set ?_
  refine axn 5 ?_
  refine Cj.loop (ι := DA) (fun y => y.i ≤ xs.length ∧ Le I15 y.J ∧ YP ib vb wb kb [] e0.t (Ix.vals e0.fs) y.i y.Y) (fun y => xs.length - y.i) (fun y => [(2, ptr b1 0), (3, ptr b2 0), (44, .slice vp xs.length vc), (45, i64 (xs.length : Int)), (46, i64 (y.i : Int))]) (fun y => y.J) (fun y => (vb, mobj kvR (mset ([] : ML Ix.Rec) e0.t (.slice vp xs.length vc) 0) (mclk ([] : ML Ix.Rec) e0.t 0)) :: y.Y) ⟨0, _, (ib, cel 114 (ixC vb wb kb)) :: (setH _ _ _ _ ++ setH _ _ _ _)⟩ ⟨Nat.zero_le _, Le.refl _, hY0⟩ ⟨rfl, rfl, rfl, rfl, rfl, trivial⟩ rfl rfl ?_
  rintro ⟨i, Jh, Y9⟩ ⟨hi, hIJ, hY⟩
  dsimp only at hi hIJ hY ⊢
  have hrow := hrow.mono hIJ
  have hX := hX.mono hIJ
  have hb1i := hIJ _ _ hb1i
  have hb2i := hIJ _ _ hb2i
  refine axc (fun hc20 hc20p => ?_) (fun hc20 hc20p => ?_)
  ·
   have hlt : i < xs.length := by omega
   obtain ⟨x, hget⟩ : ∃ x, xs[i]? = some x := ⟨_, List.getElem?_eq_getElem hlt⟩
   obtain ⟨vp1, vc1, hve, -, hvb⟩ := id hrow
   cases hve
   obtain ⟨rb, rsp, rfl, hrb⟩ := hvb (ne_nil_of hlt)
   have hws := hX.2 x (List.mem_of_getElem? hget)
   have hgv := (congrArg (fun l => l[i]?) hX.1).symm.trans ((List.getElem?_map).trans (congrArg (Option.map (·.1)) hget))
   dsimp only [Option.map_some] at hgv
   refine xix (0 + i * 3) ?_
   refine J.z (yl_loadAgg rfl rfl isAgg142 sizeOf142 (Blk.imm hrb) (row_from vwC_len (o := 0) rfl hget) rfl) ?_
   refine axn 1 ?_
   intro b21 hb21
   refine J.op rfl (op_store 0 rfl rfl rfl rfl rfl (vw_one hws rfl rfl) sizeOf142 rfl rfl (LSpl.c (LSpl.c (LSpl.c LSpl.z))) LSet.z ?_)
   refine xcr [_, _] (each_put b1 b2 ib vb wb kb e0.k e0.l e0.v [] e0.t (Ix.vals e0.fs) hvok i x.1 x.2 hgv _ hws hb1i hb2i _ hY) ?_
   intro v22 I23 H24 hle25 hp26
   have hb1i := hle25 _ _ hb1i
   have hb2i := hle25 _ _ hb2i
   have hrow := hrow.mono hle25
   have hX := hX.mono hle25
   have hIJ := hIJ.mono hle25
   have hrb := hle25 _ _ hrb
   have hws := hws.mono hle25
   obtain ⟨h, hY1⟩ := hp26; cases h
   refine axn 7 ?_
   refine Ej.keep (Keeps.d (Keeps.k Keeps.r)) ?_
   refine Ej.round ⟨i + 1, _, H24⟩ ⟨by dsimp only; omega, hIJ, hY1⟩ (by dsimp only; omega) ⟨rfl, rfl, rfl, rfl, rfl, trivial⟩ rfl rfl
  have hil : i = (Ix.vals e0.fs).length := by omega
  obtain ⟨lw2, cw2, Nw2, lk2, ck2, Nk2, hw2, hk2, rfl⟩ := hY
  rw [hil, List.take_length] at hw2 hk2
  refine axn 4 ?_
  refine Ej.end0 rfl rfl ?_
  exact ⟨⟨vb, wb, kb, (mset ([] : ML Ix.Rec) e0.t (.slice vp xs.length vc) 0), (mclk ([] : ML Ix.Rec) e0.t 0), lw2, cw2, Nw2, lk2, ck2, Nk2⟩, rfl, iput_end (L := []) (ist_new _ vb wb kb) List.Pairwise.nil (by decide) hvok ⟨xs, hrow, hX⟩ hIJ hw2 hk2, rfl⟩
 refine axn 10 ?_
 refine Cj.drawSel [] [] 15 (by kernel_rfl) ?_
 refine axn 3 ?_
 refine JA.all [3, 4, 5] (by kernel_rfl) (by simp) ?_
 intro i hi
 simp only [List.mem_cons, List.not_mem_nil, or_false] at hi
 rcases hi with rfl | rfl | rfl
 ·
  refine ⟨_, rfl, rfl, ?_⟩
  refine op_makeMap rfl rfl rfl ?_
  intro b29 hb29
  refine axn 3 ?_
  refine JA.all [4, 5, 8] (by kernel_rfl) (by simp) ?_
  intro i hi
  simp only [List.mem_cons, List.not_mem_nil, or_false] at hi
  rcases hi with rfl | rfl | rfl
  ·
   refine ⟨_, rfl, rfl, ?_⟩
   refine op_makeMap rfl rfl rfl ?_
   intro b31 hb31
   refine axn 1 ?_
   refine JA.all [5, 8] (by kernel_rfl) (by simp) ?_
   intro i hi
   simp only [List.mem_cons, List.not_mem_nil, or_false] at hi
   rcases hi with rfl | rfl
   ·
    refine ⟨_, rfl, rfl, ?_⟩
    refine op_makeMap rfl rfl rfl ?_
    intro b32 hb32
    refine axn 12 ?_
    refine Ej.keep (Keeps.k (Keeps.k (Keeps.k (Keeps.k Keeps.n)))) ?_
    refine Ej.pull Pull.z ?_
    refine Ej.pull (Pull.s Pull.z) ?_
    refine Ej.pull (Pull.s (Pull.s (Pull.s Pull.z))) ?_
    refine Ej.pull (Pull.s (Pull.s (Pull.s Pull.z))) ?_
    exact hcut (b29, b31, b32) _ _ _ trivial ⟨rfl, rfl, trivial⟩ rfl rfl
   refine ⟨_, rfl, rfl, ?_⟩
   refine op_store 2 rfl rfl rfl rfl rfl rfl sizeOf110 rfl rfl (LSpl.c LSpl.z) (LSet.s (LSet.s LSet.z)) ?_
   refine axn 3 ?_
   refine JA.all [5, 11] (by kernel_rfl) (by simp) ?_
   intro i hi
   simp only [List.mem_cons, List.not_mem_nil, or_false] at hi
   rcases hi with rfl | rfl
   ·
    refine ⟨_, rfl, rfl, ?_⟩
    refine op_makeMap rfl rfl rfl ?_
    intro b36 hb36
    refine axn 8 ?_
    refine Ej.keep (Keeps.k (Keeps.k (Keeps.k (Keeps.k Keeps.n)))) ?_
    refine Ej.pull Pull.z ?_
    refine Ej.pull (Pull.s Pull.z) ?_
    refine Ej.pull (Pull.s (Pull.s (Pull.s Pull.z))) ?_
    refine Ej.pull (Pull.s (Pull.s (Pull.s Pull.z))) ?_
    exact hcut (b29, b31, b36) _ _ _ trivial ⟨rfl, rfl, trivial⟩ rfl rfl
   refine ⟨_, rfl, rfl, ?_⟩
   refine op_store 2 rfl rfl rfl rfl rfl rfl sizeOf112 rfl rfl (LSpl.s (LSpl.c LSpl.z)) (LSet.s (LSet.s LSet.z)) ?_
   refine axn 1 ?_
   refine q0 5 rfl (op_makeMap rfl rfl rfl ?_)
   intro b38 hb38
   refine axn 6 ?_
   refine Ej.keep (Keeps.k (Keeps.k (Keeps.k (Keeps.k Keeps.n)))) ?_
   refine Ej.pull Pull.z ?_
   refine Ej.pull (Pull.s Pull.z) ?_
   refine Ej.pull (Pull.s (Pull.s (Pull.s Pull.z))) ?_
   refine Ej.pull (Pull.s (Pull.s (Pull.s Pull.z))) ?_
   exact hcut (b29, b31, b38) _ _ _ trivial ⟨rfl, rfl, trivial⟩ rfl rfl
  ·
   refine ⟨_, rfl, rfl, ?_⟩
   refine op_makeMap rfl rfl rfl ?_
   intro b40 hb40
   refine axn 1 ?_
   refine JA.all [4, 8] (by kernel_rfl) (by simp) ?_
   intro i hi
   simp only [List.mem_cons, List.not_mem_nil, or_false] at hi
   rcases hi with rfl | rfl
   ·
    refine ⟨_, rfl, rfl, ?_⟩
    refine op_makeMap rfl rfl rfl ?_
    intro b41 hb41
    refine axn 12 ?_
    refine Ej.keep (Keeps.k (Keeps.k (Keeps.k (Keeps.k Keeps.n)))) ?_
    refine Ej.pull (Pull.s Pull.z) ?_
    refine Ej.pull (Pull.s Pull.z) ?_
    refine Ej.pull (Pull.s (Pull.s (Pull.s Pull.z))) ?_
    refine Ej.pull (Pull.s (Pull.s (Pull.s Pull.z))) ?_
    exact hcut (b29, b41, b40) _ _ _ trivial ⟨rfl, rfl, trivial⟩ rfl rfl
   refine ⟨_, rfl, rfl, ?_⟩
   refine op_store 2 rfl rfl rfl rfl rfl rfl sizeOf110 rfl rfl (LSpl.c LSpl.z) (LSet.s (LSet.s LSet.z)) ?_
   refine axn 1 ?_
   refine q0 4 rfl (op_makeMap rfl rfl rfl ?_)
   intro b44 hb44
   refine axn 10 ?_
   refine Ej.keep (Keeps.k (Keeps.k (Keeps.k (Keeps.k Keeps.n)))) ?_
   refine Ej.pull (Pull.s Pull.z) ?_
   refine Ej.pull (Pull.s Pull.z) ?_
   refine Ej.pull (Pull.s (Pull.s (Pull.s Pull.z))) ?_
   refine Ej.pull (Pull.s (Pull.s (Pull.s Pull.z))) ?_
   exact hcut (b29, b44, b40) _ _ _ trivial ⟨rfl, rfl, trivial⟩ rfl rfl
  refine ⟨_, rfl, rfl, ?_⟩
  refine op_store 1 rfl rfl rfl rfl rfl rfl sizeOf110 rfl rfl (LSpl.c LSpl.z) (LSet.s LSet.z) ?_
  refine axn 1 ?_
  refine JA.all [4, 5] (by kernel_rfl) (by simp) ?_
  intro i hi
  simp only [List.mem_cons, List.not_mem_nil, or_false] at hi
  rcases hi with rfl | rfl
  ·
   refine ⟨_, rfl, rfl, ?_⟩
   refine op_makeMap rfl rfl rfl ?_
   intro b47 hb47
   refine axn 3 ?_
   refine JA.all [5, 11] (by kernel_rfl) (by simp) ?_
   intro i hi
   simp only [List.mem_cons, List.not_mem_nil, or_false] at hi
   rcases hi with rfl | rfl
   ·
    refine ⟨_, rfl, rfl, ?_⟩
    refine op_makeMap rfl rfl rfl ?_
    intro b49 hb49
    refine axn 8 ?_
    refine Ej.keep (Keeps.k (Keeps.k (Keeps.k (Keeps.k Keeps.n)))) ?_
    refine Ej.pull Pull.z ?_
    refine Ej.pull (Pull.s Pull.z) ?_
    refine Ej.pull (Pull.s (Pull.s (Pull.s Pull.z))) ?_
    refine Ej.pull (Pull.s (Pull.s (Pull.s Pull.z))) ?_
    exact hcut (b29, b47, b49) _ _ _ trivial ⟨rfl, rfl, trivial⟩ rfl rfl
   refine ⟨_, rfl, rfl, ?_⟩
   refine op_store 2 rfl rfl rfl rfl rfl rfl sizeOf112 rfl rfl (LSpl.s (LSpl.c LSpl.z)) (LSet.s (LSet.s LSet.z)) ?_
   refine axn 1 ?_
   refine q0 5 rfl (op_makeMap rfl rfl rfl ?_)
   intro b51 hb51
   refine axn 6 ?_
   refine Ej.keep (Keeps.k (Keeps.k (Keeps.k (Keeps.k Keeps.n)))) ?_
   refine Ej.pull Pull.z ?_
   refine Ej.pull (Pull.s Pull.z) ?_
   refine Ej.pull (Pull.s (Pull.s (Pull.s Pull.z))) ?_
   refine Ej.pull (Pull.s (Pull.s (Pull.s Pull.z))) ?_
   exact hcut (b29, b47, b51) _ _ _ trivial ⟨rfl, rfl, trivial⟩ rfl rfl
  refine ⟨_, rfl, rfl, ?_⟩
  refine op_makeMap rfl rfl rfl ?_
  intro b53 hb53
  refine axn 1 ?_
  refine q0 4 rfl (op_makeMap rfl rfl rfl ?_)
  intro b54 hb54
  refine axn 10 ?_
  refine Ej.keep (Keeps.k (Keeps.k (Keeps.k (Keeps.k Keeps.n)))) ?_
  refine Ej.pull (Pull.s Pull.z) ?_
  refine Ej.pull (Pull.s Pull.z) ?_
  refine Ej.pull (Pull.s (Pull.s (Pull.s Pull.z))) ?_
  refine Ej.pull (Pull.s (Pull.s (Pull.s Pull.z))) ?_
  exact hcut (b29, b54, b53) _ _ _ trivial ⟨rfl, rfl, trivial⟩ rfl rfl
 ·
  refine ⟨_, rfl, rfl, ?_⟩
  refine op_makeMap rfl rfl rfl ?_
  intro b57 hb57
  refine axn 1 ?_
  refine JA.all [3, 5] (by kernel_rfl) (by simp) ?_
  intro i hi
  simp only [List.mem_cons, List.not_mem_nil, or_false] at hi
  rcases hi with rfl | rfl
  ·
   refine ⟨_, rfl, rfl, ?_⟩
   refine op_makeMap rfl rfl rfl ?_
   intro b58 hb58
   refine axn 3 ?_
   refine JA.all [5, 8] (by kernel_rfl) (by simp) ?_
   intro i hi
   simp only [List.mem_cons, List.not_mem_nil, or_false] at hi
   rcases hi with rfl | rfl
   ·
    refine ⟨_, rfl, rfl, ?_⟩
    refine op_makeMap rfl rfl rfl ?_
    intro b60 hb60
    refine axn 12 ?_
    refine Ej.keep (Keeps.k (Keeps.k (Keeps.k (Keeps.k Keeps.n)))) ?_
    refine Ej.pull Pull.z ?_
    refine Ej.pull (Pull.s (Pull.s Pull.z)) ?_
    refine Ej.pull (Pull.s (Pull.s (Pull.s Pull.z))) ?_
    refine Ej.pull (Pull.s (Pull.s (Pull.s Pull.z))) ?_
    exact hcut (b58, b57, b60) _ _ _ trivial ⟨rfl, rfl, trivial⟩ rfl rfl
   refine ⟨_, rfl, rfl, ?_⟩
   refine op_store 2 rfl rfl rfl rfl rfl rfl sizeOf110 rfl rfl (LSpl.c LSpl.z) (LSet.s (LSet.s LSet.z)) ?_
   refine axn 3 ?_
   refine JA.all [5, 11] (by kernel_rfl) (by simp) ?_
   intro i hi
   simp only [List.mem_cons, List.not_mem_nil, or_false] at hi
   rcases hi with rfl | rfl
   ·
    refine ⟨_, rfl, rfl, ?_⟩
    refine op_makeMap rfl rfl rfl ?_
    intro b64 hb64
    refine axn 8 ?_
    refine Ej.keep (Keeps.k (Keeps.k (Keeps.k (Keeps.k Keeps.n)))) ?_
    refine Ej.pull Pull.z ?_
    refine Ej.pull (Pull.s (Pull.s Pull.z)) ?_
    refine Ej.pull (Pull.s (Pull.s (Pull.s Pull.z))) ?_
    refine Ej.pull (Pull.s (Pull.s (Pull.s Pull.z))) ?_
    exact hcut (b58, b57, b64) _ _ _ trivial ⟨rfl, rfl, trivial⟩ rfl rfl
   refine ⟨_, rfl, rfl, ?_⟩
   refine op_store 2 rfl rfl rfl rfl rfl rfl sizeOf112 rfl rfl (LSpl.s (LSpl.c LSpl.z)) (LSet.s (LSet.s LSet.z)) ?_
   refine axn 1 ?_
   refine q0 5 rfl (op_makeMap rfl rfl rfl ?_)
   intro b66 hb66
   refine axn 6 ?_
   refine Ej.keep (Keeps.k (Keeps.k (Keeps.k (Keeps.k Keeps.n)))) ?_
   refine Ej.pull Pull.z ?_
   refine Ej.pull (Pull.s (Pull.s Pull.z)) ?_
   refine Ej.pull (Pull.s (Pull.s (Pull.s Pull.z))) ?_
   refine Ej.pull (Pull.s (Pull.s (Pull.s Pull.z))) ?_
   exact hcut (b58, b57, b66) _ _ _ trivial ⟨rfl, rfl, trivial⟩ rfl rfl
  refine ⟨_, rfl, rfl, ?_⟩
  refine op_makeMap rfl rfl rfl ?_
  intro b68 hb68
  refine axn 1 ?_
  refine q0 3 rfl (op_makeMap rfl rfl rfl ?_)
  intro b69 hb69
  refine axn 14 ?_
  refine Ej.keep (Keeps.k (Keeps.k (Keeps.k (Keeps.k Keeps.n)))) ?_
  refine Ej.pull (Pull.s Pull.z) ?_
  refine Ej.pull (Pull.s (Pull.s Pull.z)) ?_
  refine Ej.pull (Pull.s (Pull.s (Pull.s Pull.z))) ?_
  refine Ej.pull (Pull.s (Pull.s (Pull.s Pull.z))) ?_
  exact hcut (b69, b57, b68) _ _ _ trivial ⟨rfl, rfl, trivial⟩ rfl rfl
 refine ⟨_, rfl, rfl, ?_⟩
 refine op_makeMap rfl rfl rfl ?_
 intro b73 hb73
 refine axn 1 ?_
 refine JA.all [3, 4] (by kernel_rfl) (by simp) ?_
 intro i hi
 simp only [List.mem_cons, List.not_mem_nil, or_false] at hi
 rcases hi with rfl | rfl
 ·
  refine ⟨_, rfl, rfl, ?_⟩
  refine op_makeMap rfl rfl rfl ?_
  intro b74 hb74
  refine axn 3 ?_
  refine JA.all [4, 8] (by kernel_rfl) (by simp) ?_
  intro i hi
  simp only [List.mem_cons, List.not_mem_nil, or_false] at hi
  rcases hi with rfl | rfl
  ·
   refine ⟨_, rfl, rfl, ?_⟩
   refine op_makeMap rfl rfl rfl ?_
   intro b76 hb76
   refine axn 12 ?_
   refine Ej.keep (Keeps.k (Keeps.k (Keeps.k (Keeps.k Keeps.n)))) ?_
   refine Ej.pull (Pull.s (Pull.s Pull.z)) ?_
   refine Ej.pull (Pull.s Pull.z) ?_
   refine Ej.pull (Pull.s (Pull.s (Pull.s Pull.z))) ?_
   refine Ej.pull (Pull.s (Pull.s (Pull.s Pull.z))) ?_
   exact hcut (b74, b76, b73) _ _ _ trivial ⟨rfl, rfl, trivial⟩ rfl rfl
  refine ⟨_, rfl, rfl, ?_⟩
  refine op_store 2 rfl rfl rfl rfl rfl rfl sizeOf110 rfl rfl (LSpl.c LSpl.z) (LSet.s (LSet.s LSet.z)) ?_
  refine axn 1 ?_
  refine q0 4 rfl (op_makeMap rfl rfl rfl ?_)
  intro b79 hb79
  refine axn 10 ?_
  refine Ej.keep (Keeps.k (Keeps.k (Keeps.k (Keeps.k Keeps.n)))) ?_
  refine Ej.pull (Pull.s (Pull.s Pull.z)) ?_
  refine Ej.pull (Pull.s Pull.z) ?_
  refine Ej.pull (Pull.s (Pull.s (Pull.s Pull.z))) ?_
  refine Ej.pull (Pull.s (Pull.s (Pull.s Pull.z))) ?_
  exact hcut (b74, b79, b73) _ _ _ trivial ⟨rfl, rfl, trivial⟩ rfl rfl
 refine ⟨_, rfl, rfl, ?_⟩
 refine op_makeMap rfl rfl rfl ?_
 intro b82 hb82
 refine axn 1 ?_
 refine q0 3 rfl (op_makeMap rfl rfl rfl ?_)
 intro b83 hb83
 refine axn 14 ?_
 refine Ej.keep (Keeps.k (Keeps.k (Keeps.k (Keeps.k Keeps.n)))) ?_
 refine Ej.pull (Pull.s (Pull.s Pull.z)) ?_
 refine Ej.pull (Pull.s (Pull.s Pull.z)) ?_
 refine Ej.pull (Pull.s (Pull.s (Pull.s Pull.z))) ?_
 refine Ej.pull (Pull.s (Pull.s (Pull.s Pull.z))) ?_
 exact hcut (b83, b82, b73) _ _ _ trivial ⟨rfl, rfl, trivial⟩ rfl rfl
end Go.Proofs.YtekmeaoblpfnpaaGreatDoor
end
section
namespace Go.Sx
open Go
@[reducible] def yesDR : DR := ⟨true⟩
attribute [local instance] yesDR
theorem Ctr.same {P : Program} {f : FuncId} {args : List Value} {I : Heap} {H : HL} {v : Value} (he : Enters P f) (h : ∀ w, Ready I H w → Calls P f args.toArray w fun e w' => e = .returned v ∧ w' = w) : Ctr P f args I H (fun e I' H' => e = .returned v ∧ I' = I ∧ H' = H) :=
  ⟨he, fun w hw => (h w hw).mono fun _e w' ⟨h1, h2⟩ => ⟨I, H, by subst h2; exact St.start w' I H hw.1 hw.2.1 hw.2.2.1 hw.2.2.2, h1, rfl, rfl⟩⟩
theorem Ctr.grows {P : Program} {f : FuncId} {args : List Value} {v : Value} {post : Ending → Heap → HL → Prop} (h : Ctr P f args (fun _ => none) [] post) (hp : ∀ e I' H', post e I' H' → e = .returned v) (w : World) : Calls P f args.toArray w fun e w' => e = .returned v ∧ ∃ q os', w' = Sort.grow (w.drewN q) os' :=
  have hr : Ready (fun _ => none) [] w := by
    unfold Ready
    exact ⟨(fun b o hb => by cases hb), (fun p hp => by cases hp), List.Pairwise.nil, (fun p hp => by cases hp)⟩
  (h.2 w hr).mono fun e w' ⟨I', H', hs, hq⟩ => ⟨hp e I' H' hq, w'.drawn - w.drawn, w'.heap.extract w.heap.size w'.heap.size, by
    have hh : w'.heap = w.heap ++ w'.heap.extract w.heap.size w'.heap.size := by
      apply Array.ext_getElem?
      intro i
      rw [Array.getElem?_append]
      split
      · rename_i hi; exact hs.frm i hi (by simp)
      rename_i hi
      rw [Array.getElem?_extract]
      split
      · congr 1; omega
      rw [Array.getElem?_eq_none (by omega)]
    have h1 := hs.os
    have h2 := hs.tape
    have h3 := hs.output
    have h4 := hs.drw rfl
    have h5 : w.drawn + (w'.drawn - w.drawn) = w'.drawn := by omega
    unfold Sort.grow World.drewN
    rw [h5]
    cases w'
    cases w
    simp only at h1 h2 h3 hh ⊢
    subst h1 h2 h3
    rw [← hh]⟩
end Go.Sx
end
